/- The functions that the law PlaceSays reaches, each by its contract. Part 4. -/
import Derived.Test.YtdjihbjikpbhgaaPlaceSaysW3
namespace Go.Proofs.Ytdjihbjikpbhgaa
open Go.KL

set_option maxHeartbeats 4000000 in
set_option maxRecDepth 100000 in
theorem rdSign_fn (r av bv sv : Value) (n : Int) (all : List (List Int)) (blk : List (List Int)) (mir : Bool) (dot : Bool) (ql : List Int) (first : Bool) (c : Int) (σ : GW) (hlow : Low [40, 41, 42, 43] σ) (v0 v1 v2 : Value) (hv0 : Ty.has (Ty.val r) σ v0) (hv1 : Ty.has (Ty.val (Value.int .i32 c)) σ v1) (hv2 : Ty.has (Ty.bool first) σ v2) (ho_r : OwnP σ 40 r [(Ty.int n), (Ty.val av), (Ty.val bv), (Ty.bool mir), (Ty.val sv), (Ty.bool (!(List.isEmpty ql))), (Ty.bool dot)]) (ho_av : Own σ 41 29 1 av (List.length all) (List.map Ty.ints all)) (ho_bv : Own σ 42 29 1 bv (List.length blk) (List.map Ty.ints blk)) (ho_sv : Own σ 43 3 1 sv (List.length ql) (List.map Ty.int ql)) (hbe : ∀ x ∈ blk, x.length ≤ 20000) (ha : all.length ≤ 1000) (hb : blk.length ≤ 200) (hn : 1 ≤ n ∧ n ≤ 12) (G : ql.length ≤ 10000) (hsv : ∀ k, k < ql.length → 1 ≤ ql.getD k 0 ∧ ql.getD k 0 ≤ 12) (hc : -2147483648 ≤ c ∧ c ≤ 2147483647) :
    FnP Try.prog 30 #[v0, v1, v2] σ [40, 41, 42, 43] (fun v τ => ∃ (az : Value), ∃ (bz : Value), ∃ (sz : Value), (Ty.has (Ty.bool (decide (c = 44))) τ v) ∧ (OwnP τ 40 r [(Ty.int n), (Ty.val az), (Ty.val bz), (Ty.bool (sgS n (PSt.mk all blk mir ql dot) first c).mir), (Ty.val sz), (Ty.bool (!(List.isEmpty (sgS n (PSt.mk all blk mir ql dot) first c).sm))), (Ty.bool (sgS n (PSt.mk all blk mir ql dot) first c).dot)]) ∧ (Own τ 41 29 1 az (List.length (sgS n (PSt.mk all blk mir ql dot) first c).all) (List.map Ty.ints (sgS n (PSt.mk all blk mir ql dot) first c).all)) ∧ (Own τ 42 29 1 bz (List.length (sgS n (PSt.mk all blk mir ql dot) first c).blk) (List.map Ty.ints (sgS n (PSt.mk all blk mir ql dot) first c).blk)) ∧ (Own τ 43 3 1 sz (List.length (sgS n (PSt.mk all blk mir ql dot) first c).sm) (List.map Ty.int (sgS n (PSt.mk all blk mir ql dot) first c).sm)) ∧ ((sgE n (PSt.mk all blk mir ql dot) first c) = 0)) (fun c_ => c_ = fltC 60 (sgE n (PSt.mk all blk mir ql dot) first c) ∧ (sgE n (PSt.mk all blk mir ql dot) first c) ≠ 0) := by
 have hib := signIdx_bd c
 have hclb := clB_len (n := n) (blk := blk) (ql := ql)
 refine fn_introP hlow Try.func30 rfl Try.ntmps30 (Nat.le_of_ble_eq_true rfl) (fun a0 F0 ok0 hargs => ?_)
 have p0 := pB (hargs 0 _ rfl) hv0
 have p1 := pB (hargs 1 _ rfl) hv1
 have p2 := pB (hargs 2 _ rfl) hv2
 clear hargs; refine wp_seq ?_
 refine gI a0 σ ok0 (gC (Ty.bool false) (gE ok0 fun a1 s1 ok1 D1 => ?_)); have q2 := D1.kt p1 rfl; have o1 := OwnP.k0 ho_r D1.stp; have o2 := Own.k0 ho_av D1.stp; have o3 := Own.k0 ho_bv D1.stp; have o4 := Own.k0 ho_sv D1.stp; refine tn (wp_seq (wp_block (wp_seq ?_)))
 refine gI a1 s1 ok1 (gM (D1.kt p2 rfl) (gS rfl (fun A B G H I d0 => rP (y_move (ed d0 rfl rfl rfl))) (gS rfl (fun A B G H I d0 => gu H (ed d0 rfl rfl rfl) fun hg => y_move (kp (I 1 rfl) G q2)) (gS rfl (fun A B G H I d0 d1 => gu H (ed d1 rfl rfl rfl) fun hg => y_eql ((ed d0 rfl rfl rfl).1 hg) rfl) (gS rfl (fun A B G H I d0 d1 d2 => gu H (ed d1 rfl rfl rfl) fun hg => y_mv ((ed d0 rfl rfl rfl).1 hg)) (gS rfl (fun A B G H I d0 => gu2 H (ed d0 rfl rfl rfl) fun hg => y_move (kp (I 1 rfl) G q2)) (gS rfl (fun A B G H I d0 d1 => gu2 H (ed d1 rfl rfl rfl) fun hg => y_eql ((ed d0 rfl rfl rfl).1 hg) rfl) (gS rfl (fun A B G H I d0 d1 d2 => gu H (ed d2 rfl rfl rfl) fun hg => y_pick_or ((ed d0 rfl rfl rfl).1 hg) rfl (grd_part hg (ed d1 rfl rfl rfl))) (gS rfl (fun A B G H I d0 d1 => rP (y_pick_and (ed d0 rfl rfl rfl) (ed d1 rfl rfl rfl) rfl)) (gB 0 (gE ok1 fun a2 s2 ok2 D2 => ?_))))))))))); have F2 := (F0.step0 D1.stp).step0 D2.stp; have q4 := D2.kt (D1.kt p0 rfl) rfl; have q5 := D2.kt q2 rfl; have o5 := OwnP.k0 o1 D2.stp; have o6 := Own.k0 o2 D2.stp; have o7 := Own.k0 o3 D2.stp; have o8 := Own.k0 o4 D2.stp; refine tn ?_
 refine cond_t (D2.dn 9 rfl rfl) (fun c1 => ?_) (fun c1 => ?_)
 ·
  obtain ⟨d1, d2⟩ := Bool.and_eq_true_iff.mp c1
  have hA : isA first c = true := c1; have hS := sgS_A (n := n) (s := (PSt.mk all blk mir ql dot)) hA; have hE := sgE_A (n := n) (s := (PSt.mk all blk mir ql dot)) hA; have h44 := isA_44 hA
  refine wp_seq ?_
  refine gI a2 s2 ok2 (gM q4 (gM q5 (gS rfl (fun A B G H I d0 => rP (y_eql (ed d0 rfl rfl rfl) rfl)) (gT (Ty.val r) rfl (fun A B G H I d0 d1 d2 d3 => rP (y_nilp (OwnP.k0 o5 G) (ed d0 rfl rfl rfl))) (gT (Ty.val (ptrAt r 3)) rfl (fun A B G H I d0 d1 d2 d3 => rP (ownp_field Try.fld64_3 Try.inf4 (by decide) (OwnP.k0 o5 G) (ed d0 rfl rfl rfl))) (gE2 ok2 fun a3 s3 ok3 D3 => ?_)))))); have o9 := OwnP.k0 o5 D3.stp; have o10 := Own.k0 o6 D3.stp; have o11 := Own.k0 o7 D3.stp; have o12 := Own.k0 o8 D3.stp
  refine tailL0 (L := [40]) (R := (fun _ τ => OwnP τ 40 r ([(Ty.int n), (Ty.val av), (Ty.val bv), (Ty.bool mir), (Ty.val sv), (Ty.bool (!(List.isEmpty ql))), (Ty.bool dot)].set 3 (Ty.bool (decide (c = (38 : Int))))))) rfl rfl (YldM.toL (m_storep Try.inf4 (by decide) o9 (D3.dn 4 (by decide) rfl rfl) (Nat.le_of_ble_eq_true rfl) (D3.dn 2 (by decide) rfl rfl) (one_val rfl))) (fun v1 s4 hs1 r1 => ?_)
  have F4 := (F2.step0 D3.stp).stepL hs1 (by decide); have o14 := Own.keepL o10 hs1 (by decide) (by decide); have o15 := Own.keepL o11 hs1 (by decide) (by decide); have o16 := Own.keepL o12 hs1 (by decide) (by decide)
  have o13 : OwnP s4 40 r [(Ty.int n), (Ty.val av), (Ty.val bv), (Ty.bool (decide (c = (38 : Int)))), (Ty.val sv), (Ty.bool (!(List.isEmpty ql))), (Ty.bool dot)] := r1
  clear r1; refine wpList_nil (tn (wp_seq ?_))
  refine gI a3 s4 ok3 (gC (Ty.bool false) (gE ok3 fun a4 s5 ok4 D4 => ?_)); have o17 := Own.k0 o14 D4.stp; have o18 := Own.k0 o15 D4.stp; have o19 := Own.k0 o16 D4.stp; have o20 := OwnP.k0 o13 D4.stp; refine tn (wp_ret (br (tr ?_)))
  refine toP ?_
  exact retL1 rfl ok4 (F4.step0 D4.stp) ⟨av, bv, sv, (cvb (by (exact (decide_eq_false h44).symm)) (D4.dn 0 rfl rfl)), (ownp_cell 6 (Ty.bool (sgS n (PSt.mk all blk mir ql dot) first c).dot) (ownp_cell 5 (Ty.bool (!(List.isEmpty (sgS n (PSt.mk all blk mir ql dot) first c).sm))) (ownp_cell 3 (Ty.bool (sgS n (PSt.mk all blk mir ql dot) first c).mir) o20 rfl (fun _ _ h => (cvb (by (rw [hS])) h))) rfl (fun _ _ h => (cvb (by (rw [hS])) h))) rfl (fun _ _ h => (cvb (by (rw [hS])) h))), (cvo (by (rw [hS])) (by (rw [hS])) o17), (cvo (by (rw [hS])) (by (rw [hS])) o18), (cvo (by (rw [hS])) (by (rw [hS])) o19), (by exact hE)⟩
 ·
  have hA : isA first c = false := c1
  refine wp_seq ?_
  refine gI a2 s2 ok2 (gM q5 (gS rfl (fun A B G H I d0 => rP (y_eql (ed d0 rfl rfl rfl) rfl)) (gS rfl (fun A B G H I d0 => rP (y_move (ed d0 rfl rfl rfl))) (gS rfl (fun A B G H I d0 => gu H (ed d0 rfl rfl rfl) fun hg => y_move (kp (I 1 rfl) G q5)) (gS rfl (fun A B G H I d0 d1 => gu H (ed d1 rfl rfl rfl) fun hg => y_eql ((ed d0 rfl rfl rfl).1 hg) rfl) (gS rfl (fun A B G H I d0 d1 => rP (y_pick_or (ed d0 rfl rfl rfl) rfl (ed d1 rfl rfl rfl))) (gS rfl (fun A B G H I d0 d1 => rP (y_move (ed d0 rfl rfl rfl))) (gT (Ty.grd (((decide (c = (120 : Int))) || (decide (c = (88 : Int)))) = false) (Ty.val (Value.int .i32 c))) rfl (by intro A B G H I d0; refine run_guard H rfl rfl (by decide) (ed d0 rfl rfl rfl) (fun hg => ?_); obtain ⟨d3, d4⟩ := Bool.or_eq_false_iff.mp hg; have d3 := of_decide_eq_false d3; have d4 := of_decide_eq_false d4; exact y_move (kp (I 1 rfl) G q5)) (gT (Ty.grd (((decide (c = (120 : Int))) || (decide (c = (88 : Int)))) = false) (Ty.bool (decide (c = (45 : Int))))) rfl (by intro A B G H I d0 d1; refine run_guard H rfl rfl (by decide) (ed d1 rfl rfl rfl) (fun hg => ?_); obtain ⟨d5, d6⟩ := Bool.or_eq_false_iff.mp hg; have d5 := of_decide_eq_false d5; have d6 := of_decide_eq_false d6; exact y_eql ((ed d0 rfl rfl rfl).1 hg) rfl) (gS rfl (fun A B G H I d0 d1 => rP (y_pick_or (ed d0 rfl rfl rfl) rfl (ed d1 rfl rfl rfl))) (gS rfl (fun A B G H I d0 d1 => rP (y_move (ed d0 rfl rfl rfl))) ?_)))))))))))
  refine gT (Ty.grd ((((decide (c = (120 : Int))) || (decide (c = (88 : Int)))) || (decide (c = (45 : Int)))) = false) (Ty.val (Value.int .i32 c))) rfl (by intro A B G H I d0; refine run_guard H rfl rfl (by decide) (ed d0 rfl rfl rfl) (fun hg => ?_); obtain ⟨d7, d8⟩ := Bool.or_eq_false_iff.mp hg; obtain ⟨d9, d10⟩ := Bool.or_eq_false_iff.mp d7; have d9 := of_decide_eq_false d9; have d10 := of_decide_eq_false d10; have d8 := of_decide_eq_false d8; exact y_move (kp (I 1 rfl) G q5)) (gT (Ty.grd ((((decide (c = (120 : Int))) || (decide (c = (88 : Int)))) || (decide (c = (45 : Int)))) = false) (Ty.bool (decide (c = (215 : Int))))) rfl (by intro A B G H I d0 d1; refine run_guard H rfl rfl (by decide) (ed d1 rfl rfl rfl) (fun hg => ?_); obtain ⟨d11, d12⟩ := Bool.or_eq_false_iff.mp hg; obtain ⟨d13, d14⟩ := Bool.or_eq_false_iff.mp d11; have d13 := of_decide_eq_false d13; have d14 := of_decide_eq_false d14; have d12 := of_decide_eq_false d12; exact y_eql ((ed d0 rfl rfl rfl).1 hg) rfl) (gS rfl (fun A B G H I d0 d1 => rP (y_pick_or (ed d0 rfl rfl rfl) rfl (ed d1 rfl rfl rfl))) (gB 0 (gE ok2 fun a5 s6 ok5 D5 => ?_)))); have F6 := F2.step0 D5.stp; have q11 := D5.kt q4 rfl; have q12 := D5.kt q5 rfl; have o21 := OwnP.k0 o5 D5.stp; have o22 := Own.k0 o6 D5.stp; have o23 := Own.k0 o7 D5.stp; have o24 := Own.k0 o8 D5.stp; refine tn ?_
  refine cond_t (D5.dn 14 rfl rfl) (fun c2 => ?_) (fun c2 => ?_)
  ·
   have hX : isX c = true := c2; have hS := sgS_X (n := n) (s := (PSt.mk all blk mir ql dot)) hA hX; have hE := sgE_X (n := n) (s := (PSt.mk all blk mir ql dot)) hA hX; have h44 := isX_44 hX
   refine wp_seq ?_
   refine gI a5 s6 ok5 (gM q11 (gE2 ok5 fun a6 s7 ok6 D6 => ?_)); have F7 := F6.step0 D6.stp; have o25 := OwnP.k0 o21 D6.stp; have o26 := Own.k0 o22 D6.stp; have o27 := Own.k0 o23 D6.stp; have o28 := Own.k0 o24 D6.stp
   refine tailP (L := [40, 42, 43]) (R := (fun v τ' => ∃ τ, (fun v τ => ∃ (bz : Value), ∃ (sz : Value), True ∧ (OwnP τ 40 r [(Ty.int n), (Ty.val av), (Ty.val bz), (Ty.bool mir), (Ty.val sz), (Ty.bool false), (Ty.bool (clD ql dot))]) ∧ (Own τ 42 29 1 bz (List.length (clB n blk ql)) (List.map Ty.ints (clB n blk ql))) ∧ (Own τ 43 3 1 sz (List.length ([] : List Int)) (List.map Ty.int ([] : List Int))) ∧ ((clE n blk ql) = 0)) v τ ∧ Back [(40, 40), (42, 42), (43, 43)] τ τ')) (E := (fun c_ => c_ = fltC 60 (clE n blk ql) ∧ (clE n blk ql) ≠ 0)) rfl rfl (by decide) ok6 (y_callP (L := [40, 42, 43]) [(40, 40), (42, 42), (43, 43)] [(40, 40), (42, 42), (43, 43)] #[a6.eval (.tmp 59)] rfl (by decide) Try.func51 rfl rfl (by simp only [List.map_toArray, List.map_cons, List.map_nil]) (close_fn (r) (av) (bv) (sv) (n) (blk) (mir) (dot) (ql) _ (GW.low_lend _ (by decide)) _ (Ty.up _ (GW.le_lend _ _) (D6.dn 0 (by decide) rfl rfl)) (OwnP.ren o25 (GW.ren_lend _ _ (by decide) rfl)) (Own.ren o27 (GW.ren_lend _ _ (by decide) rfl)) (Own.ren o28 (GW.ren_lend _ _ (by decide) rfl)) (by omega) (by omega) (by omega) (by omega))) (fun c_ t_ hs_ he_ => panB ok6 (F7.stepL hs_ (by decide)) (fltTo (fun h_ => by rw [hE]; exact ite_l h_) he_)) (fun a7 s8 hs2 ok7 r2 sm1 => ?_)
   have F8 := F7.stepL hs2 (by decide); have q16 := kpL hs2 (by decide) (sm1 0 (by decide)) (D6.kt q11 rfl); have o35 := Own.keepL o26 hs2 (by decide) (by decide)
   obtain ⟨t1, ⟨x1, x2, hT1, o29, o30, o31, hp1⟩, B1⟩ := r2
   have o32 : OwnP s8 40 r [(Ty.int n), (Ty.val av), (Ty.val x1), (Ty.bool mir), (Ty.val x2), (Ty.bool false), (Ty.bool (clD ql dot))] := OwnP.ren o29 (B1.ren (by decide) rfl)
   have o33 : Own s8 42 29 1 x1 (List.length (clB n blk ql)) (List.map Ty.ints (clB n blk ql)) := Own.ren o30 (B1.ren (by decide) rfl)
   have o34 : Own s8 43 3 1 x2 (List.length ([] : List Int)) (List.map Ty.int ([] : List Int)) := Own.ren o31 (B1.ren (by decide) rfl)
   refine wpList_nil (tn ?_)
   refine gI a7 s8 ok7 (gM q16 (gE2 ok7 fun a8 s9 ok8 D7 => ?_)); have F9 := F8.step0 D7.stp; have o36 := Own.k0 o35 D7.stp; have o37 := OwnP.k0 o32 D7.stp; have o38 := Own.k0 o33 D7.stp; have o39 := Own.k0 o34 D7.stp
   refine tailP (L := [40, 42]) (R := (fun v τ' => ∃ τ, (fun v τ => ∃ (bz : Value), True ∧ (OwnP τ 40 r [(Ty.int n), (Ty.val av), (Ty.val bz), (Ty.bool mir), (Ty.val x2), (Ty.bool (false)), (Ty.bool true)]) ∧ (Own τ 42 29 1 bz (List.length (((clB n blk ql)) ++ [(([] : List Int))])) (List.map Ty.ints (((clB n blk ql)) ++ [(([] : List Int))]))) ∧ ((plPutE n ((clB n blk ql)).length (([] : List Int))) = 0)) v τ ∧ Back [(40, 40), (42, 42)] τ τ')) (E := (fun c_ => c_ = fltC 60 (plPutE n ((clB n blk ql)).length (([] : List Int))) ∧ (plPutE n ((clB n blk ql)).length (([] : List Int))) ≠ 0)) rfl rfl (by decide) ok8 (y_callP (L := [40, 42]) [(40, 40), (42, 42)] [(40, 40), (42, 42)] #[a8.eval (.tmp 61), a8.eval ((Operand.const (Value.slice none 0 0)))] rfl (by decide) Try.func52 rfl rfl (by simp only [List.map_toArray, List.map_cons, List.map_nil]) (put_fn (r) (av) (x1) (x2) (n) ((clB n blk ql)) (mir) (false) ((clD ql dot)) (([] : List Int)) _ (GW.low_lend _ (by decide)) _ _ (Ty.up _ (GW.le_lend _ _) (D7.dn 0 (by decide) rfl rfl)) (Ty.up _ (GW.le_lend _ _) (nil_lst rfl rfl)) (OwnP.ren (ownp_cell 6 (Ty.bool ((clD ql dot))) (ownp_cell 5 (Ty.bool (false)) o37 rfl (fun _ _ h => (cvb (by (first | rfl | omega | (simp_all; done) | (simp_all; omega))) h))) rfl (fun _ _ h => (cvb (by (first | rfl | omega | (simp_all; done) | (simp_all; omega))) h))) (GW.ren_lend _ _ (by decide) rfl)) (Own.ren (cvo (by (simp)) (by (simp)) o38) (GW.ren_lend _ _ (by decide) rfl)) (by omega) (by omega))) (fun c_ t_ hs_ he_ => panB ok8 (F9.stepL hs_ (by decide)) (fltTo (fun h_ => by rw [hE]; exact ite_r hp1) he_)) (fun a9 s10 hs3 ok9 r3 sm2 => ?_)
   have F10 := F9.stepL hs3 (by decide); have o44 := Own.keepL o36 hs3 (by decide) (by decide); have o45 := Own.keepL o39 hs3 (by decide) (by decide)
   obtain ⟨t2, ⟨x3, hT2, o40, o41, hp2⟩, B2⟩ := r3
   have o42 : OwnP s10 40 r [(Ty.int n), (Ty.val av), (Ty.val x3), (Ty.bool mir), (Ty.val x2), (Ty.bool (false)), (Ty.bool true)] := OwnP.ren o40 (B2.ren (by decide) rfl)
   have o43 : Own s10 42 29 1 x3 (List.length (((clB n blk ql)) ++ [(([] : List Int))])) (List.map Ty.ints (((clB n blk ql)) ++ [(([] : List Int))])) := Own.ren o41 (B2.ren (by decide) rfl)
   refine wpList_nil (bn (tn (wp_seq ?_)))
   refine gI a9 s10 ok9 (gC (Ty.bool false) (gE ok9 fun a10 s11 ok10 D8 => ?_)); have o46 := Own.k0 o44 D8.stp; have o47 := Own.k0 o45 D8.stp; have o48 := OwnP.k0 o42 D8.stp; have o49 := Own.k0 o43 D8.stp; refine tn (wp_ret ?_)
   refine toP ?_
   exact retL1 rfl ok10 (F10.step0 D8.stp) ⟨av, x3, x2, (cvb (by (exact (decide_eq_false h44).symm)) (D8.dn 0 rfl rfl)), (ownp_cell 6 (Ty.bool (sgS n (PSt.mk all blk mir ql dot) first c).dot) (ownp_cell 5 (Ty.bool (!(List.isEmpty (sgS n (PSt.mk all blk mir ql dot) first c).sm))) (ownp_cell 3 (Ty.bool (sgS n (PSt.mk all blk mir ql dot) first c).mir) o48 rfl (fun _ _ h => (cvb (by (rw [hS])) h))) rfl (fun _ _ h => (cvb (by (rw [hS]; rfl)) h))) rfl (fun _ _ h => (cvb (by (rw [hS])) h))), (cvo (by (rw [hS])) (by (rw [hS])) o46), (cvo (by (rw [hS])) (by (rw [hS])) o49), (cvo (by (rw [hS])) (by (rw [hS])) o47), (by rw [hE]; exact (ite_r (by assumption)).trans (by assumption))⟩
  ·
   obtain ⟨d15, d16⟩ := Bool.or_eq_false_iff.mp c2
   obtain ⟨d17, d18⟩ := Bool.or_eq_false_iff.mp d15
   obtain ⟨d19, d20⟩ := Bool.or_eq_false_iff.mp d17
   replace d19 := of_decide_eq_false d19
   replace d20 := of_decide_eq_false d20
   replace d18 := of_decide_eq_false d18
   replace d16 := of_decide_eq_false d16
   have hX : isX c = false := c2
   refine wp_seq ?_
   refine gI a5 s6 ok5 (gM q12 (gS rfl (fun A B G H I d0 => rP (y_eql (ed d0 rfl rfl rfl) rfl)) (gB 0 (gE ok5 fun a11 s12 ok11 D9 => ?_)))); have F12 := F6.step0 D9.stp; have q21 := D9.kt q11 rfl; have q22 := D9.kt q12 rfl; have o50 := OwnP.k0 o21 D9.stp; have o51 := Own.k0 o22 D9.stp; have o52 := Own.k0 o23 D9.stp; have o53 := Own.k0 o24 D9.stp; refine tn ?_
   refine cond_p (p := (c = (46 : Int))) (D9.dn 2 rfl rfl) (fun c3 => ?_) (fun c3 => ?_)
   ·
    have hS := sgS_D (n := n) (s := (PSt.mk all blk mir ql dot)) hA hX c3; have hE := sgE_D (n := n) (s := (PSt.mk all blk mir ql dot)) hA hX c3; have h44 : c ≠ 44 := (by omega)
    refine wp_seq (wp_seq ?_)
    refine gI a11 s12 ok11 (gM q21 (gT (Ty.val r) rfl (fun A B G H I d0 => rP (y_nilp (OwnP.k0 o50 G) (ed d0 rfl rfl rfl))) (gT (Ty.val (ptrAt r 5)) rfl (fun A B G H I d0 => rP (ownp_field Try.fld64_5 Try.inf4 (by decide) (OwnP.k0 o50 G) (ed d0 rfl rfl rfl))) (gS rfl (fun A B G H I d0 => rP (ownp_load Try.underlying4 rfl (OwnP.k0 o50 G) (ed d0 rfl rfl rfl) rfl)) (gS rfl (fun A B G H I d0 => rP (y_not (ed d0 rfl rfl rfl))) (gS rfl (fun A B G H I d0 => rP (y_move (ed d0 rfl rfl rfl))) (gS rfl (fun A B G H I d0 => gu H (ed d0 rfl rfl rfl) fun hg => y_move (kp (I 0 rfl) G q21)) (gT (Ty.grd ((!(!(List.isEmpty ql))) = true) (Ty.val r)) rfl (fun A B G H I d0 d1 => gu H (ed d1 rfl rfl rfl) fun hg => y_nilp (OwnP.k0 o50 G) ((ed d0 rfl rfl rfl).1 hg)) (gT (Ty.grd ((!(!(List.isEmpty ql))) = true) (Ty.val (ptrAt r 6))) rfl (fun A B G H I d0 d1 => gu H (ed d1 rfl rfl rfl) fun hg => ownp_field Try.fld64_6 Try.inf4 (by decide) (OwnP.k0 o50 G) ((ed d0 rfl rfl rfl).1 hg)) (gS rfl (fun A B G H I d0 d1 => gu H (ed d1 rfl rfl rfl) fun hg => ownp_load Try.underlying4 rfl (OwnP.k0 o50 G) ((ed d0 rfl rfl rfl).1 hg) rfl) (gS rfl (fun A B G H I d0 d1 => gu H (ed d1 rfl rfl rfl) fun hg => y_not ((ed d0 rfl rfl rfl).1 hg)) (gS rfl (fun A B G H I d0 d1 => rP (y_pick_and (ed d0 rfl rfl rfl) (ed d1 rfl rfl rfl) rfl)) (gE ok11 fun a12 s13 ok12 D10 => ?_))))))))))))); have F13 := F12.step0 D10.stp; have q24 := D10.kt q21 rfl; have o54 := OwnP.k0 o50 D10.stp; have o55 := Own.k0 o51 D10.stp; have o56 := Own.k0 o52 D10.stp; have o57 := Own.k0 o53 D10.stp; refine tn ?_
    refine cond_t (D10.dn 11 rfl rfl) (fun c4 => ?_) (fun c4 => ?_)
    ·
     obtain ⟨d21, d22⟩ := Bool.and_eq_true_iff.mp c4
     simp only [Bool.and_eq_true, Bool.not_eq_true', Bool.not_eq_false', Bool.not_not, List.isEmpty_iff] at c4; have hqd : ql = [] ∧ dot = false := c4
     refine gI a12 s13 ok12 (gE2 ok12 fun a13 s14 ok13 D11 => ?_); have F14 := F13.step0 D11.stp; have o58 := OwnP.k0 o54 D11.stp; have o59 := Own.k0 o55 D11.stp; have o60 := Own.k0 o56 D11.stp; have o61 := Own.k0 o57 D11.stp
     refine tailP (L := []) (R := (fun v τ' => ∃ τ, (fun v τ => True ∧ (((4 : Int)) = 0)) v τ ∧ Back [] τ τ')) (E := (fun c_ => c_ = fltC 60 ((4 : Int)) ∧ ((4 : Int)) ≠ 0)) rfl rfl (by decide) ok13 (y_callP (L := []) [] [] #[a13.eval ((Operand.const (Value.int IntKind.i64 4)))] rfl (by decide) Try.func53 rfl rfl (by simp only [List.map_toArray, List.map_cons, List.map_nil]) (fail_fn ((4 : Int)) _ (GW.low_lend _ (by decide)) _ (Ty.up _ (GW.le_lend _ _) (cvi (σ := s14) (by omega) rfl))  (by omega))) (fun c_ t_ hs_ he_ => panB ok13 (F14.stepL hs_ (by decide)) (fltTo (fun h_ => by rw [hE]; exact if_pos hqd) he_)) (fun a14 s15 hs4 ok14 r4 sm3 => ?_)
     have F15 := F14.stepL hs4 (by decide); have q27 := kpL hs4 (by decide) (sm3 0 (by decide)) (D11.kt q24 rfl); have o62 := OwnP.keepL o58 hs4 (by decide) (by decide); have o63 := Own.keepL o59 hs4 (by decide) (by decide); have o64 := Own.keepL o60 hs4 (by decide) (by decide); have o65 := Own.keepL o61 hs4 (by decide) (by decide)
     obtain ⟨t3, ⟨hT3, hp3⟩, B3⟩ := r4
     exact absurd hp3 (by first | decide | assumption | omega)
    ·
     have hqd : ¬ (ql = [] ∧ dot = false) := (by rintro ⟨h1_, h2_⟩; rw [h1_, h2_] at c4; simp at c4)
     refine wp_skip (tn (wp_seq ?_))
     refine gI a12 s13 ok12 (gM q24 (gE2 ok12 fun a15 s16 ok15 D12 => ?_)); have F16 := F13.step0 D12.stp; have o66 := OwnP.k0 o54 D12.stp; have o67 := Own.k0 o55 D12.stp; have o68 := Own.k0 o56 D12.stp; have o69 := Own.k0 o57 D12.stp
     refine tailP (L := [40, 42, 43]) (R := (fun v τ' => ∃ τ, (fun v τ => ∃ (bz : Value), ∃ (sz : Value), True ∧ (OwnP τ 40 r [(Ty.int n), (Ty.val av), (Ty.val bz), (Ty.bool mir), (Ty.val sz), (Ty.bool false), (Ty.bool (clD ql dot))]) ∧ (Own τ 42 29 1 bz (List.length (clB n blk ql)) (List.map Ty.ints (clB n blk ql))) ∧ (Own τ 43 3 1 sz (List.length ([] : List Int)) (List.map Ty.int ([] : List Int))) ∧ ((clE n blk ql) = 0)) v τ ∧ Back [(40, 40), (42, 42), (43, 43)] τ τ')) (E := (fun c_ => c_ = fltC 60 (clE n blk ql) ∧ (clE n blk ql) ≠ 0)) rfl rfl (by decide) ok15 (y_callP (L := [40, 42, 43]) [(40, 40), (42, 42), (43, 43)] [(40, 40), (42, 42), (43, 43)] #[a15.eval (.tmp 79)] rfl (by decide) Try.func51 rfl rfl (by simp only [List.map_toArray, List.map_cons, List.map_nil]) (close_fn (r) (av) (bv) (sv) (n) (blk) (mir) (dot) (ql) _ (GW.low_lend _ (by decide)) _ (Ty.up _ (GW.le_lend _ _) (D12.dn 0 (by decide) rfl rfl)) (OwnP.ren o66 (GW.ren_lend _ _ (by decide) rfl)) (Own.ren o68 (GW.ren_lend _ _ (by decide) rfl)) (Own.ren o69 (GW.ren_lend _ _ (by decide) rfl)) (by omega) (by omega) (by omega) (by omega))) (fun c_ t_ hs_ he_ => panB ok15 (F16.stepL hs_ (by decide)) (fltTo (fun h_ => by rw [hE]; exact if_neg hqd) he_)) (fun a16 s17 hs5 ok16 r5 sm4 => ?_)
     have F17 := F16.stepL hs5 (by decide); have q31 := kpL hs5 (by decide) (sm4 0 (by decide)) (D12.kt q24 rfl); have o76 := Own.keepL o67 hs5 (by decide) (by decide)
     obtain ⟨t4, ⟨x4, x5, hT4, o70, o71, o72, hp4⟩, B4⟩ := r5
     have o73 : OwnP s17 40 r [(Ty.int n), (Ty.val av), (Ty.val x4), (Ty.bool mir), (Ty.val x5), (Ty.bool false), (Ty.bool (clD ql dot))] := OwnP.ren o70 (B4.ren (by decide) rfl)
     have o74 : Own s17 42 29 1 x4 (List.length (clB n blk ql)) (List.map Ty.ints (clB n blk ql)) := Own.ren o71 (B4.ren (by decide) rfl)
     have o75 : Own s17 43 3 1 x5 (List.length ([] : List Int)) (List.map Ty.int ([] : List Int)) := Own.ren o72 (B4.ren (by decide) rfl)
     refine wpList_nil (tn (wp_seq ?_))
     refine gI a16 s17 ok16 (gM q31 (gT (Ty.val r) rfl (fun A B G H I d0 d1 => rP (y_nilp (OwnP.k0 o73 G) (ed d0 rfl rfl rfl))) (gT (Ty.val (ptrAt r 6)) rfl (fun A B G H I d0 d1 => rP (ownp_field Try.fld64_6 Try.inf4 (by decide) (OwnP.k0 o73 G) (ed d0 rfl rfl rfl))) (gE2 ok16 fun a17 s18 ok17 D13 => ?_)))); have o77 := Own.k0 o76 D13.stp; have o78 := OwnP.k0 o73 D13.stp; have o79 := Own.k0 o74 D13.stp; have o80 := Own.k0 o75 D13.stp
     refine tailL0 (L := [40]) (R := (fun _ τ => OwnP τ 40 r ([(Ty.int n), (Ty.val av), (Ty.val x4), (Ty.bool mir), (Ty.val x5), (Ty.bool false), (Ty.bool (clD ql dot))].set 6 (Ty.bool false)))) rfl rfl (YldM.toL (m_storep Try.inf4 (by decide) o78 (D13.dn 2 (by decide) rfl rfl) (Nat.le_of_ble_eq_true rfl) rfl (one_val rfl))) (fun v2 s19 hs6 r6 => ?_)
     have F19 := (F17.step0 D13.stp).stepL hs6 (by decide); have o82 := Own.keepL o77 hs6 (by decide) (by decide); have o83 := Own.keepL o79 hs6 (by decide) (by decide); have o84 := Own.keepL o80 hs6 (by decide) (by decide)
     have o81 : OwnP s19 40 r [(Ty.int n), (Ty.val av), (Ty.val x4), (Ty.bool mir), (Ty.val x5), (Ty.bool false), (Ty.bool false)] := r6
     clear r6; refine wpList_nil (tn (wp_seq ?_))
     refine gI a17 s19 ok17 (gC (Ty.bool false) (gE ok17 fun a18 s20 ok18 D14 => ?_)); have o85 := Own.k0 o82 D14.stp; have o86 := Own.k0 o83 D14.stp; have o87 := Own.k0 o84 D14.stp; have o88 := OwnP.k0 o81 D14.stp; refine tn (wp_ret (br (tr ?_)))
     refine toP ?_
     exact retL1 rfl ok18 (F19.step0 D14.stp) ⟨av, x4, x5, (cvb (by (exact (decide_eq_false h44).symm)) (D14.dn 0 rfl rfl)), (ownp_cell 6 (Ty.bool (sgS n (PSt.mk all blk mir ql dot) first c).dot) (ownp_cell 5 (Ty.bool (!(List.isEmpty (sgS n (PSt.mk all blk mir ql dot) first c).sm))) (ownp_cell 3 (Ty.bool (sgS n (PSt.mk all blk mir ql dot) first c).mir) o88 rfl (fun _ _ h => (cvb (by (rw [hS])) h))) rfl (fun _ _ h => (cvb (by (rw [hS]; rfl)) h))) rfl (fun _ _ h => (cvb (by (rw [hS])) h))), (cvo (by (rw [hS])) (by (rw [hS])) o85), (cvo (by (rw [hS])) (by (rw [hS])) o86), (cvo (by (rw [hS])) (by (rw [hS])) o87), (by rw [hE]; exact (if_neg hqd).trans (by assumption))⟩
   ·
    have h46 : c ≠ 46 := c3
    refine wp_seq ?_
    refine gI a11 s12 ok11 (gM q22 (gS rfl (fun A B G H I d0 => rP (y_eql (ed d0 rfl rfl rfl) rfl)) (gB 0 (gE ok11 fun a19 s21 ok19 D15 => ?_)))); have F21 := F12.step0 D15.stp; have q36 := D15.kt q21 rfl; have o89 := OwnP.k0 o50 D15.stp; have o90 := Own.k0 o51 D15.stp; have o91 := Own.k0 o52 D15.stp; have o92 := Own.k0 o53 D15.stp; refine tn ?_
    refine cond_p (p := (c = (44 : Int))) (D15.dn 2 rfl rfl) (fun c5 => ?_) (fun c5 => ?_)
    ·
     have hS := sgS_C (n := n) (s := (PSt.mk all blk mir ql dot)) hA hX h46 c5; have hE := sgE_C (n := n) (s := (PSt.mk all blk mir ql dot)) hA hX h46 c5
     refine wp_seq (wp_seq ?_)
     refine gI a19 s21 ok19 (gM q36 (gT (Ty.val r) rfl (fun A B G H I d0 => rP (y_nilp (OwnP.k0 o89 G) (ed d0 rfl rfl rfl))) (gT (Ty.val (ptrAt r 5)) rfl (fun A B G H I d0 => rP (ownp_field Try.fld64_5 Try.inf4 (by decide) (OwnP.k0 o89 G) (ed d0 rfl rfl rfl))) (gS rfl (fun A B G H I d0 => rP (ownp_load Try.underlying4 rfl (OwnP.k0 o89 G) (ed d0 rfl rfl rfl) rfl)) (gS rfl (fun A B G H I d0 => rP (y_not (ed d0 rfl rfl rfl))) (gS rfl (fun A B G H I d0 => rP (y_move (ed d0 rfl rfl rfl))) (gS rfl (fun A B G H I d0 => gu H (ed d0 rfl rfl rfl) fun hg => y_move (kp (I 0 rfl) G q36)) (gT (Ty.grd ((!(!(List.isEmpty ql))) = true) (Ty.val r)) rfl (fun A B G H I d0 d1 => gu H (ed d1 rfl rfl rfl) fun hg => y_nilp (OwnP.k0 o89 G) ((ed d0 rfl rfl rfl).1 hg)) (gT (Ty.grd ((!(!(List.isEmpty ql))) = true) (Ty.val (ptrAt r 6))) rfl (fun A B G H I d0 d1 => gu H (ed d1 rfl rfl rfl) fun hg => ownp_field Try.fld64_6 Try.inf4 (by decide) (OwnP.k0 o89 G) ((ed d0 rfl rfl rfl).1 hg)) (gS rfl (fun A B G H I d0 d1 => gu H (ed d1 rfl rfl rfl) fun hg => ownp_load Try.underlying4 rfl (OwnP.k0 o89 G) ((ed d0 rfl rfl rfl).1 hg) rfl) (gS rfl (fun A B G H I d0 d1 => gu H (ed d1 rfl rfl rfl) fun hg => y_not ((ed d0 rfl rfl rfl).1 hg)) (gS rfl (fun A B G H I d0 d1 => rP (y_pick_and (ed d0 rfl rfl rfl) (ed d1 rfl rfl rfl) rfl)) (gE ok19 fun a20 s22 ok20 D16 => ?_))))))))))))); have F22 := F21.step0 D16.stp; have q39 := D16.kt q36 rfl; have o93 := OwnP.k0 o89 D16.stp; have o94 := Own.k0 o90 D16.stp; have o95 := Own.k0 o91 D16.stp; have o96 := Own.k0 o92 D16.stp; refine tn ?_
     refine cond_t (D16.dn 11 rfl rfl) (fun c6 => ?_) (fun c6 => ?_)
     ·
      obtain ⟨d23, d24⟩ := Bool.and_eq_true_iff.mp c6
      simp only [Bool.and_eq_true, Bool.not_eq_true', Bool.not_eq_false', Bool.not_not, List.isEmpty_iff] at c6; have hqd : ql = [] ∧ dot = false := c6
      refine gI a20 s22 ok20 (gE2 ok20 fun a21 s23 ok21 D17 => ?_); have F23 := F22.step0 D17.stp; have o97 := OwnP.k0 o93 D17.stp; have o98 := Own.k0 o94 D17.stp; have o99 := Own.k0 o95 D17.stp; have o100 := Own.k0 o96 D17.stp
      refine tailP (L := []) (R := (fun v τ' => ∃ τ, (fun v τ => True ∧ (((4 : Int)) = 0)) v τ ∧ Back [] τ τ')) (E := (fun c_ => c_ = fltC 60 ((4 : Int)) ∧ ((4 : Int)) ≠ 0)) rfl rfl (by decide) ok21 (y_callP (L := []) [] [] #[a21.eval ((Operand.const (Value.int IntKind.i64 4)))] rfl (by decide) Try.func53 rfl rfl (by simp only [List.map_toArray, List.map_cons, List.map_nil]) (fail_fn ((4 : Int)) _ (GW.low_lend _ (by decide)) _ (Ty.up _ (GW.le_lend _ _) (cvi (σ := s23) (by omega) rfl))  (by omega))) (fun c_ t_ hs_ he_ => panB ok21 (F23.stepL hs_ (by decide)) (fltTo (fun h_ => by rw [hE]; exact if_pos hqd) he_)) (fun a22 s24 hs7 ok22 r7 sm5 => ?_)
      have F24 := F23.stepL hs7 (by decide); have q42 := kpL hs7 (by decide) (sm5 0 (by decide)) (D17.kt q39 rfl); have o101 := OwnP.keepL o97 hs7 (by decide) (by decide); have o102 := Own.keepL o98 hs7 (by decide) (by decide); have o103 := Own.keepL o99 hs7 (by decide) (by decide); have o104 := Own.keepL o100 hs7 (by decide) (by decide)
      obtain ⟨t5, ⟨hT5, hp5⟩, B5⟩ := r7
      exact absurd hp5 (by first | decide | assumption | omega)
     ·
      have hqd : ¬ (ql = [] ∧ dot = false) := (by rintro ⟨h1_, h2_⟩; rw [h1_, h2_] at c6; simp at c6)
      refine wp_skip (tn (wp_seq ?_))
      refine gI a20 s22 ok20 (gM q39 (gE2 ok20 fun a23 s25 ok23 D18 => ?_)); have F25 := F22.step0 D18.stp; have o105 := OwnP.k0 o93 D18.stp; have o106 := Own.k0 o94 D18.stp; have o107 := Own.k0 o95 D18.stp; have o108 := Own.k0 o96 D18.stp
      refine tailP (L := [40, 41, 42, 43]) (R := (fun v τ' => ∃ τ, (fun v τ => ∃ (az : Value), ∃ (bz : Value), ∃ (sz : Value), True ∧ (OwnP τ 40 r [(Ty.int n), (Ty.val az), (Ty.val bz), (Ty.bool false), (Ty.val sz), (Ty.bool false), (Ty.bool false)]) ∧ (Own τ 41 29 1 az (List.length (enA n (PSt.mk all blk mir ql dot))) (List.map Ty.ints (enA n (PSt.mk all blk mir ql dot)))) ∧ (Own τ 42 29 1 bz (List.length ([] : List (List Int))) (List.map Ty.ints ([] : List (List Int)))) ∧ (Own τ 43 3 1 sz (List.length ([] : List Int)) (List.map Ty.int ([] : List Int))) ∧ ((enE n (PSt.mk all blk mir ql dot)) = 0)) v τ ∧ Back [(40, 40), (41, 41), (42, 42), (43, 43)] τ τ')) (E := (fun c_ => c_ = fltC 60 (enE n (PSt.mk all blk mir ql dot)) ∧ (enE n (PSt.mk all blk mir ql dot)) ≠ 0)) rfl rfl (by decide) ok23 (y_callP (L := [40, 41, 42, 43]) [(40, 40), (41, 41), (42, 42), (43, 43)] [(40, 40), (41, 41), (42, 42), (43, 43)] #[a23.eval (.tmp 100)] rfl (by decide) Try.func31 rfl rfl (by simp only [List.map_toArray, List.map_cons, List.map_nil]) (end_fn (r) (av) (bv) (sv) (n) (all) (blk) (mir) (dot) (ql) _ (GW.low_lend _ (by decide)) _ (Ty.up _ (GW.le_lend _ _) (D18.dn 0 (by decide) rfl rfl)) (OwnP.ren o105 (GW.ren_lend _ _ (by decide) rfl)) (Own.ren o106 (GW.ren_lend _ _ (by decide) rfl)) (Own.ren o107 (GW.ren_lend _ _ (by decide) rfl)) (Own.ren o108 (GW.ren_lend _ _ (by decide) rfl)) (by first | omega | assumption | exact hce) (by first | omega | assumption | exact hce) (by first | omega | assumption | exact hce) (by first | omega | assumption | exact hce) (by first | omega | assumption | exact hce) (by first | omega | assumption | exact hce))) (fun c_ t_ hs_ he_ => panB ok23 (F25.stepL hs_ (by decide)) (fltTo (fun h_ => by rw [hE]; exact if_neg hqd) he_)) (fun a24 s26 hs8 ok24 r8 sm6 => ?_)
      have F26 := F25.stepL hs8 (by decide)
      obtain ⟨t6, ⟨x6, x7, x8, hT6, o109, o110, o111, o112, hp6⟩, B6⟩ := r8
      have o113 : OwnP s26 40 r [(Ty.int n), (Ty.val x6), (Ty.val x7), (Ty.bool false), (Ty.val x8), (Ty.bool false), (Ty.bool false)] := OwnP.ren o109 (B6.ren (by decide) rfl)
      have o114 : Own s26 41 29 1 x6 (List.length (enA n (PSt.mk all blk mir ql dot))) (List.map Ty.ints (enA n (PSt.mk all blk mir ql dot))) := Own.ren o110 (B6.ren (by decide) rfl)
      have o115 : Own s26 42 29 1 x7 (List.length ([] : List (List Int))) (List.map Ty.ints ([] : List (List Int))) := Own.ren o111 (B6.ren (by decide) rfl)
      have o116 : Own s26 43 3 1 x8 (List.length ([] : List Int)) (List.map Ty.int ([] : List Int)) := Own.ren o112 (B6.ren (by decide) rfl)
      refine wpList_nil (tn (wp_seq ?_))
      refine gI a24 s26 ok24 (gC (Ty.bool true) (gE ok24 fun a25 s27 ok25 D19 => ?_)); have o117 := OwnP.k0 o113 D19.stp; have o118 := Own.k0 o114 D19.stp; have o119 := Own.k0 o115 D19.stp; have o120 := Own.k0 o116 D19.stp; refine tn (wp_ret (br (tr ?_)))
      refine toP ?_
      exact retL1 rfl ok25 (F26.step0 D19.stp) ⟨x6, x7, x8, (cvb (by (exact (decide_eq_true c5).symm)) (D19.dn 0 rfl rfl)), (ownp_cell 6 (Ty.bool (sgS n (PSt.mk all blk mir ql dot) first c).dot) (ownp_cell 5 (Ty.bool (!(List.isEmpty (sgS n (PSt.mk all blk mir ql dot) first c).sm))) (ownp_cell 3 (Ty.bool (sgS n (PSt.mk all blk mir ql dot) first c).mir) o117 rfl (fun _ _ h => (cvb (by (rw [hS])) h))) rfl (fun _ _ h => (cvb (by (rw [hS]; rfl)) h))) rfl (fun _ _ h => (cvb (by (rw [hS])) h))), (cvo (by (rw [hS])) (by (rw [hS])) o118), (cvo (by (rw [hS])) (by (rw [hS])) o119), (cvo (by (rw [hS])) (by (rw [hS])) o120), (by rw [hE]; exact (if_neg hqd).trans (by assumption))⟩
    ·
     have h44 : c ≠ 44 := c5
     refine wp_seq ?_
     refine gI a19 s21 ok19 (gM (D15.kt q22 rfl) (gS rfl (fun A B G H I d0 => rP (y_call _ Try.func54 rfl rfl my1 (sign_fn (c) _ _ (cvi (σ := B) (by omega) (ed d0 rfl rfl rfl)) (by omega)))) (gB 0 (gE ok19 fun a26 s28 ok26 D20 => ?_)))); have o121 := OwnP.k0 o89 D20.stp; have o122 := Own.k0 o90 D20.stp; have o123 := Own.k0 o91 D20.stp; have o124 := Own.k0 o92 D20.stp; have q48 := D20.dn 2 rfl rfl; refine tn (wp_seq (wp_seq ?_))
     refine gI a26 s28 ok26 (gM q48 (gS rfl (fun A B G H I d0 => rP (y_lss (ed d0 rfl rfl rfl) rfl)) (gE ok26 fun a27 s29 ok27 D21 => ?_))); have F29 := (F21.step0 D20.stp).step0 D21.stp; have q49 := D21.kt (D20.kt q36 rfl) rfl; have q50 := D21.kt q48 rfl; have o125 := OwnP.k0 o121 D21.stp; have o126 := Own.k0 o122 D21.stp; have o127 := Own.k0 o123 D21.stp; have o128 := Own.k0 o124 D21.stp; refine tn ?_
     refine cond_p (p := ((signIdx (c)) < (0 : Int))) (D21.dn 1 rfl rfl) (fun c7 => ?_) (fun c7 => ?_)
     ·
      have hE := sgE_N (n := n) (s := (PSt.mk all blk mir ql dot)) hA hX h46 h44 c7
      refine wp_seq ?_
      refine gI a27 s29 ok27 (gM q49 (gE2 ok27 fun a28 s30 ok28 D22 => ?_)); have F30 := F29.step0 D22.stp; have o129 := OwnP.k0 o125 D22.stp; have o130 := Own.k0 o126 D22.stp; have o131 := Own.k0 o127 D22.stp; have o132 := Own.k0 o128 D22.stp
      refine tailP (L := [40, 42, 43]) (R := (fun v τ' => ∃ τ, (fun v τ => ∃ (bz : Value), ∃ (sz : Value), True ∧ (OwnP τ 40 r [(Ty.int n), (Ty.val av), (Ty.val bz), (Ty.bool mir), (Ty.val sz), (Ty.bool false), (Ty.bool (clD ql dot))]) ∧ (Own τ 42 29 1 bz (List.length (clB n blk ql)) (List.map Ty.ints (clB n blk ql))) ∧ (Own τ 43 3 1 sz (List.length ([] : List Int)) (List.map Ty.int ([] : List Int))) ∧ ((clE n blk ql) = 0)) v τ ∧ Back [(40, 40), (42, 42), (43, 43)] τ τ')) (E := (fun c_ => c_ = fltC 60 (clE n blk ql) ∧ (clE n blk ql) ≠ 0)) rfl rfl (by decide) ok28 (y_callP (L := [40, 42, 43]) [(40, 40), (42, 42), (43, 43)] [(40, 40), (42, 42), (43, 43)] #[a28.eval (.tmp 12)] rfl (by decide) Try.func51 rfl rfl (by simp only [List.map_toArray, List.map_cons, List.map_nil]) (close_fn (r) (av) (bv) (sv) (n) (blk) (mir) (dot) (ql) _ (GW.low_lend _ (by decide)) _ (Ty.up _ (GW.le_lend _ _) (D22.dn 0 (by decide) rfl rfl)) (OwnP.ren o129 (GW.ren_lend _ _ (by decide) rfl)) (Own.ren o131 (GW.ren_lend _ _ (by decide) rfl)) (Own.ren o132 (GW.ren_lend _ _ (by decide) rfl)) (by omega) (by omega) (by omega) (by omega))) (fun c_ t_ hs_ he_ => panB ok28 (F30.stepL hs_ (by decide)) (fltTo (fun h_ => by rw [hE]; exact ite_l h_) he_)) (fun a29 s31 hs9 ok29 r9 sm7 => ?_)
      have F31 := F30.stepL hs9 (by decide); have q55 := kpL hs9 (by decide) (sm7 0 (by decide)) (D22.kt q49 rfl); have q56 := kpL hs9 (by decide) (sm7 7 (by decide)) (D22.kt q50 rfl); have o139 := Own.keepL o130 hs9 (by decide) (by decide)
      obtain ⟨t7, ⟨x9, x10, hT7, o133, o134, o135, hp7⟩, B7⟩ := r9
      have o136 : OwnP s31 40 r [(Ty.int n), (Ty.val av), (Ty.val x9), (Ty.bool mir), (Ty.val x10), (Ty.bool false), (Ty.bool (clD ql dot))] := OwnP.ren o133 (B7.ren (by decide) rfl)
      have o137 : Own s31 42 29 1 x9 (List.length (clB n blk ql)) (List.map Ty.ints (clB n blk ql)) := Own.ren o134 (B7.ren (by decide) rfl)
      have o138 : Own s31 43 3 1 x10 (List.length ([] : List Int)) (List.map Ty.int ([] : List Int)) := Own.ren o135 (B7.ren (by decide) rfl)
      refine wpList_nil (tn ?_)
      refine gI a29 s31 ok29 (gE2 ok29 fun a30 s32 ok30 D23 => ?_); have F32 := F31.step0 D23.stp; have o140 := Own.k0 o139 D23.stp; have o141 := OwnP.k0 o136 D23.stp; have o142 := Own.k0 o137 D23.stp; have o143 := Own.k0 o138 D23.stp
      refine tailP (L := []) (R := (fun v τ' => ∃ τ, (fun v τ => True ∧ (((4 : Int)) = 0)) v τ ∧ Back [] τ τ')) (E := (fun c_ => c_ = fltC 60 ((4 : Int)) ∧ ((4 : Int)) ≠ 0)) rfl rfl (by decide) ok30 (y_callP (L := []) [] [] #[a30.eval ((Operand.const (Value.int IntKind.i64 4)))] rfl (by decide) Try.func53 rfl rfl (by simp only [List.map_toArray, List.map_cons, List.map_nil]) (fail_fn ((4 : Int)) _ (GW.low_lend _ (by decide)) _ (Ty.up _ (GW.le_lend _ _) (cvi (σ := s32) (by omega) rfl))  (by omega))) (fun c_ t_ hs_ he_ => panB ok30 (F32.stepL hs_ (by decide)) (fltTo (fun h_ => by rw [hE]; exact ite_r (by assumption)) he_)) (fun a31 s33 hs10 ok31 r10 sm8 => ?_)
      have F33 := F32.stepL hs10 (by decide); have q60 := kpL hs10 (by decide) (sm8 0 (by decide)) (D23.kt q55 rfl); have q61 := kpL hs10 (by decide) (sm8 7 (by decide)) (D23.kt q56 rfl); have o144 := Own.keepL o140 hs10 (by decide) (by decide); have o145 := OwnP.keepL o141 hs10 (by decide) (by decide); have o146 := Own.keepL o142 hs10 (by decide) (by decide); have o147 := Own.keepL o143 hs10 (by decide) (by decide)
      obtain ⟨t8, ⟨hT8, hp8⟩, B8⟩ := r10
      exact absurd hp8 (by first | decide | assumption | omega)
     ·
      have hE := sgE_S (n := n) (s := (PSt.mk all blk mir ql dot)) hA hX h46 h44 c7; have hS := sgS_S (n := n) (s := (PSt.mk all blk mir ql dot)) hA hX h46 h44
      refine wp_skip (tn ?_)
      refine gI a27 s29 ok27 (gM q49 (gM q49 (gM q49 (gT (Ty.val r) rfl (fun A B G H I d0 => rP (y_nilp (OwnP.k0 o125 G) (ed d0 rfl rfl rfl))) (gT (Ty.val (ptrAt r 4)) rfl (fun A B G H I d0 => rP (ownp_field Try.fld64_4 Try.inf29 (by decide) (OwnP.k0 o125 G) (ed d0 rfl rfl rfl))) (gS rfl (fun A B G H I d0 => rP (ownp_load Try.underlying29 rfl (OwnP.k0 o125 G) (ed d0 rfl rfl rfl) rfl)) (gM q50 (gT (Ty.int ((signIdx (c)) + (1 : Int))) rfl (fun A B G H I d0 => rP (y_add (ed d0 rfl rfl rfl) rfl (w64 (by omega) (by omega)))) (gT (Ty.sl 1 1 [(Ty.int ((signIdx (c)) + (1 : Int)))]) rfl (fun A B G H I d0 => rP (y_build1o Try.underlying29 Try.inf3 rfl (one_val rfl) (ed d0 rfl rfl rfl))) (gE2 ok27 fun a32 s34 ok32 D24 => ?_)))))))))); have o148 := OwnP.k0 o125 D24.stp; have o149 := Own.k0 o126 D24.stp; have o150 := Own.k0 o127 D24.stp; have o151 := Own.k0 o128 D24.stp; have q66 := D24.dn 8 (by decide) rfl rfl
      have b1 := sl_le q66
      refine tL ok32 (YldM.toL (m_append Try.underlying29 Try.inf3 (by decide) rfl (by decide) (al (R := (Pr.own 43 3 1 (List.length ql) (List.map Ty.int ql))) (D24.dn 5 (by decide) rfl rfl) o151) q66 (by intro U hU; simp at hU; subst hU; exact one_val rfl) (by omega) (by omega))) fun a33 s35 hs11 ok33 r11 sm9 => ?_
      have F35 := (F29.step0 D24.stp).stepL hs11 (by decide); have q67 := kpL hs11 (by decide) (sm9 15 (by decide)) (D24.dn 0 (by decide) rfl rfl); have q68 := kpL hs11 (by decide) (sm9 16 (by decide)) (D24.dn 1 (by decide) rfl rfl); have o153 := OwnP.keepL o148 hs11 (by decide) (by decide); have o154 := Own.keepL o149 hs11 (by decide) (by decide); have o155 := Own.keepL o150 hs11 (by decide) (by decide)
      obtain ⟨x11, hx1⟩ : ∃ x, a33.eval (.tmp 24) = x := ⟨_, rfl⟩
      have q69 : At (Ty.val x11) s35 a33 (.tmp 24) := hx1
      have o152 := al2 (R := (Pr.own 43 3 1 (List.length (ql ++ [((signIdx (c)) + (1 : Int))])) (List.map Ty.int (ql ++ [((signIdx (c)) + (1 : Int))])))) hx1 (cvo (by simp) (by first | (rw [List.map_append]; rfl) | simp) r11)
      clear r11
      refine tL (R := (fun v τ => Pr.has (Ty.pr (Ty.val r)) τ v)) ok33 (Yld.toL (y_nilp o153 q67)) fun a34 s36 hs12 ok34 r12 sm10 => ?_
      have F36 := F35.stepL hs12 (by decide); have q70 := kpL hs12 (by decide) (sm10 16 (by decide)) q68; have q71 := kpL hs12 (by decide) (sm10 24 (by decide)) q69; have o156 := OwnP.keepL o153 hs12 (by decide) (by decide); have o157 := Own.keepL o154 hs12 (by decide) (by decide); have o158 := Own.keepL o155 hs12 (by decide) (by decide); have o159 := Own.keepL o152 hs12 (by decide) (by decide)
      have q72 : At (Ty.val r) s36 a34 (.tmp 25) := r12
      clear r12
      refine tL (R := (fun v τ => Pr.has (Ty.pr (Ty.val (ptrAt r 4))) τ v)) ok34 (Yld.toL (ownp_field Try.fld64_4 Try.inf29 (by decide) o156 q72)) fun a35 s37 hs13 ok35 r13 sm11 => ?_
      have F37 := F36.stepL hs13 (by decide); have q73 := kpL hs13 (by decide) (sm11 16 (by decide)) q70; have q74 := kpL hs13 (by decide) (sm11 24 (by decide)) q71; have o160 := OwnP.keepL o156 hs13 (by decide) (by decide); have o161 := Own.keepL o157 hs13 (by decide) (by decide); have o162 := Own.keepL o158 hs13 (by decide) (by decide); have o163 := Own.keepL o159 hs13 (by decide) (by decide)
      have q75 : At (Ty.val (ptrAt r 4)) s37 a35 (.tmp 26) := r13
      clear r13
      refine tailL0 (L := [40]) (R := (fun _ τ => OwnP τ 40 r ([(Ty.int n), (Ty.val av), (Ty.val bv), (Ty.bool mir), (Ty.val sv), (Ty.bool (!(List.isEmpty ql))), (Ty.bool dot)].set 4 (Ty.val x11)))) rfl rfl (YldM.toL (m_storep Try.inf29 (by decide) o160 q75 (Nat.le_of_ble_eq_true rfl) q74 (one_val (Own.one o163)))) (fun v3 s38 hs14 r14 => ?_)
      have F38 := F37.stepL hs14 (by decide); have q76 := kpL hs14 (by decide) rfl q73; have o165 := Own.keepL o161 hs14 (by decide) (by decide); have o166 := Own.keepL o162 hs14 (by decide) (by decide); have o167 := Own.keepL o163 hs14 (by decide) (by decide)
      have o164 : OwnP s38 40 r [(Ty.int n), (Ty.val av), (Ty.val bv), (Ty.bool mir), (Ty.val x11), (Ty.bool (!(List.isEmpty ql))), (Ty.bool dot)] := r14
      clear r14
      refine tL (R := (fun v τ => Pr.has (Ty.pr (Ty.val r)) τ v)) ok35 (Yld.toL (y_nilp o164 q76)) fun a36 s39 hs15 ok36 r15 sm12 => ?_
      have F39 := F38.stepL hs15 (by decide); have o168 := Own.keepL o165 hs15 (by decide) (by decide); have o169 := Own.keepL o166 hs15 (by decide) (by decide); have o170 := Own.keepL o167 hs15 (by decide) (by decide); have o171 := OwnP.keepL o164 hs15 (by decide) (by decide)
      have q78 : At (Ty.val r) s39 a36 (.tmp 27) := r15
      clear r15
      refine tL (R := (fun v τ => Pr.has (Ty.pr (Ty.val (ptrAt r 5))) τ v)) ok36 (Yld.toL (ownp_field Try.fld64_5 Try.inf4 (by decide) o171 q78)) fun a37 s40 hs16 ok37 r16 sm13 => ?_
      have F40 := F39.stepL hs16 (by decide); have o172 := Own.keepL o168 hs16 (by decide) (by decide); have o173 := Own.keepL o169 hs16 (by decide) (by decide); have o174 := Own.keepL o170 hs16 (by decide) (by decide); have o175 := OwnP.keepL o171 hs16 (by decide) (by decide)
      have q79 : At (Ty.val (ptrAt r 5)) s40 a37 (.tmp 28) := r16
      clear r16
      refine tailL0 (L := [40]) (R := (fun _ τ => OwnP τ 40 r ([(Ty.int n), (Ty.val av), (Ty.val bv), (Ty.bool mir), (Ty.val x11), (Ty.bool (!(List.isEmpty ql))), (Ty.bool dot)].set 5 (Ty.bool true)))) rfl rfl (YldM.toL (m_storep Try.inf4 (by decide) o175 q79 (Nat.le_of_ble_eq_true rfl) rfl (one_val rfl))) (fun v4 s41 hs17 r17 => ?_)
      have F41 := F40.stepL hs17 (by decide); have o177 := Own.keepL o172 hs17 (by decide) (by decide); have o178 := Own.keepL o173 hs17 (by decide) (by decide); have o179 := Own.keepL o174 hs17 (by decide) (by decide)
      have o176 : OwnP s41 40 r [(Ty.int n), (Ty.val av), (Ty.val bv), (Ty.bool mir), (Ty.val x11), (Ty.bool true), (Ty.bool dot)] := r17
      clear r17; refine wpList_nil (bn (tn (wp_seq ?_)))
      refine gI a37 s41 ok37 (gC (Ty.bool false) (gE ok37 fun a38 s42 ok38 D25 => ?_)); have o180 := Own.k0 o177 D25.stp; have o181 := Own.k0 o178 D25.stp; have o182 := Own.k0 o179 D25.stp; have o183 := OwnP.k0 o176 D25.stp; refine tn (wp_ret ?_)
      refine toP ?_
      exact retL1 rfl ok38 (F41.step0 D25.stp) ⟨av, bv, x11, (cvb (by (exact (decide_eq_false h44).symm)) (D25.dn 0 rfl rfl)), (ownp_cell 6 (Ty.bool (sgS n (PSt.mk all blk mir ql dot) first c).dot) (ownp_cell 5 (Ty.bool (!(List.isEmpty (sgS n (PSt.mk all blk mir ql dot) first c).sm))) (ownp_cell 3 (Ty.bool (sgS n (PSt.mk all blk mir ql dot) first c).mir) o183 rfl (fun _ _ h => (cvb (by (rw [hS])) h))) rfl (fun _ _ h => (cvb (by (rw [hS]; simp)) h))) rfl (fun _ _ h => (cvb (by (rw [hS])) h))), (cvo (by (rw [hS])) (by (rw [hS])) o180), (cvo (by (rw [hS])) (by (rw [hS])) o181), (cvo (by (rw [hS])) (by (rw [hS])) o182), (by exact hE)⟩

theorem Try.inf64 : Info Try.prog 64 (.agg #[.int .i64 0, .slice none 0 0, .slice none 0 0, .bool false, .slice none 0 0, .bool false, .bool false]) 7 96 := by unfold Info; kernel_rfl
set_option maxHeartbeats 4000000 in
set_option maxRecDepth 100000 in
theorem plParse_fn (n : Int) (s : ByteArray) (σ : GW)  (v0 v1 : Value) (hv0 : Ty.has (Ty.int n) σ v0) (hv1 : Ty.has (Ty.val (Value.string s)) σ v1)   :
    FnC Try.prog 7 #[v0, v1] σ (Ty.tup2 (Ty.lst Ty.ints (plM n s).2) (Ty.int (plM n s).1)) := by
 have hres : Res2 Try.prog Try.f7 4 5 22 23 := ⟨rfl, ⟨_, Try.underlying22, rfl⟩, ⟨_, Try.underlying23, rfl⟩⟩
 refine fn_introD Try.func7 rfl Try.ntmps7 (Nat.le_of_ble_eq_true rfl) (fun s0 a0 hle F0 ok0 hargs => ?_)
 have p0 := pA hle (hargs 0 _ rfl) hv0
 have p1 := pA hle (hargs 1 _ rfl) hv1
 clear hargs; refine wp_seq ?_
 refine gI a0 s0 ok0 (gR (Pr.ownp 61 [(Ty.val (Value.slice none 0 0))]) rfl (by intro A B G H I; exact rP (y_alloc Try.inf22 rfl (alloc_vals (vs := [.slice none 0 0]) rfl))) (gR (Pr.ownp 62 [(Ty.int (0 : Int))]) rfl (by intro A B G H I; exact rP (y_alloc Try.inf23 rfl (alloc_vals (vs := [.int .i64 0]) rfl))) (gE ok0 fun a1 s1 ok1 D1 => ?_))); have q1 := D1.kt p0 rfl
 obtain ⟨x1, hx1⟩ : ∃ x, a1.eval (.tmp 4) = x := ⟨_, rfl⟩
 have q3 : At (Ty.val x1) s1 a1 (.tmp 4) := hx1
 have o1 := al2 (R := (Pr.ownp 61 [(Ty.val (Value.slice none 0 0))])) hx1 (D1.done 0)
 obtain ⟨x2, hx2⟩ : ∃ x, a1.eval (.tmp 5) = x := ⟨_, rfl⟩
 have q4 : At (Ty.val x2) s1 a1 (.tmp 5) := hx2
 have o2 := al2 (R := (Pr.ownp 62 [(Ty.int (0 : Int))])) hx2 (D1.done 1)
 refine tn (wp_seq (wp_block (wp_seq ?_)))
 refine gI a1 s1 ok1 (gM q1 (gS rfl (fun A B G H I d0 => rP (y_lss (ed d0 rfl rfl rfl) rfl)) (gS rfl (fun A B G H I d0 => rP (y_move (ed d0 rfl rfl rfl))) (gS rfl (fun A B G H I d0 => gu H (ed d0 rfl rfl rfl) fun hg => y_move (kp (I 0 rfl) G q1)) (gS rfl (fun A B G H I d0 d1 => gu H (ed d1 rfl rfl rfl) fun hg => y_gtr ((ed d0 rfl rfl rfl).1 hg) rfl) (gS rfl (fun A B G H I d0 d1 => rP (y_pick_or (ed d0 rfl rfl rfl) rfl (ed d1 rfl rfl rfl))) (gB 0 (gE ok1 fun a2 s2 ok2 D2 => ?_)))))))); have F2 := (F0.step0 D1.stp).step0 D2.stp; have q6 := D2.kt (D1.kt p1 rfl) rfl; have q7 := D2.kt q3 rfl; have q8 := D2.kt q4 rfl; have o3 := OwnP.k0 o1 D2.stp; have o4 := OwnP.k0 o2 D2.stp; refine tn ?_
 refine cond_t (D2.dn 6 rfl rfl) (fun c1 => ?_) (fun c1 => ?_)
 ·
  have hn1 : n < 1 ∨ 12 < n := (by simpa using c1)
  refine wp_seq ?_
  refine gI a2 s2 ok2 (gE2 ok2 fun a3 s3 ok3 D3 => ?_); have q10 := D3.kt q7 rfl; have o5 := OwnP.k0 o3 D3.stp; have o6 := OwnP.k0 o4 D3.stp
  refine tailL0 (L := [61]) (R := (fun _ τ => OwnP τ 61 x1 ([(Ty.val (Value.slice none 0 0))].set 0 (Ty.val (Value.slice none 0 0))))) rfl rfl (YldM.toL (m_storep Try.inf22 (by decide) o5 (ptr0 o5 q10) (Nat.le_of_ble_eq_true rfl) rfl (one_val rfl))) (fun v1 s4 hs1 r1 => ?_)
  have F4 := (F2.step0 D3.stp).stepL hs1 (by decide); have q12 := kpL hs1 (by decide) rfl q10; have q13 := kpL hs1 (by decide) rfl (D3.kt q8 rfl); have o8 := OwnP.keepL o6 hs1 (by decide) (by decide)
  have o7 : OwnP s4 61 x1 [(Ty.val (Value.slice none 0 0))] := r1
  clear r1
  refine tailL0 (L := [62]) (R := (fun _ τ => OwnP τ 62 x2 ([(Ty.int (0 : Int))].set 0 (Ty.int (1 : Int))))) rfl rfl (YldM.toL (m_storep Try.inf23 (by decide) o8 (ptr0 o8 q13) (Nat.le_of_ble_eq_true rfl) rfl (one_val rfl))) (fun v2 s5 hs2 r2 => ?_)
  have F5 := F4.stepL hs2 (by decide); have q15 := kpL hs2 (by decide) rfl q12; have q16 := kpL hs2 (by decide) rfl q13; have o10 := OwnP.keepL o7 hs2 (by decide) (by decide)
  have o9 : OwnP s5 62 x2 [(Ty.int (1 : Int))] := r2
  clear r2; refine wpList_nil (tn (wp_ret (br (tr ?_))))
  exact retD0 hres ok3 F5 o10 o9 q15 q16 (fun _ _ hv0_ hv1_ => hasT2 (by have e_ := hv0_; rw [show _ = _ from e_]; exact nil_has (by rw [plM_1 hn1])) (cvi (by (rw [plM_1 hn1])) hv1_))
 ·
  obtain ⟨d1, d2⟩ := Bool.or_eq_false_iff.mp c1
  replace d1 := of_decide_eq_false d1
  replace d2 := of_decide_eq_false d2
  have hn0 : ¬ (n < 1 ∨ 12 < n) := (by simp at c1; omega)
  refine wp_seq ?_
  refine gI a2 s2 ok2 (gM q6 (gT (Ty.nat (ByteArray.size s)) rfl (fun A B G H I d0 => rP (y_len_str Try.underlying9 (ed d0 rfl rfl rfl))) (gS rfl (fun A B G H I d0 => rP (y_gtr (ed d0 rfl rfl rfl) rfl)) (gB 0 (gE ok2 fun a4 s6 ok4 D4 => ?_))))); have F6 := F2.step0 D4.stp; have q20 := D4.kt q7 rfl; have q21 := D4.kt q8 rfl; have o11 := OwnP.k0 o3 D4.stp; have o12 := OwnP.k0 o4 D4.stp; refine tn ?_
  refine cond_p (p := ((4000 : Int) < (((ByteArray.size s) : Nat) : Int))) (D4.dn 3 rfl rfl) (fun c2 => ?_) (fun c2 => ?_)
  ·
   have hz3 : 4000 < s.size := (by omega)
   refine wp_seq ?_
   refine gI a4 s6 ok4 (gE2 ok4 fun a5 s7 ok5 D5 => ?_); have q23 := D5.kt q20 rfl; have o13 := OwnP.k0 o11 D5.stp; have o14 := OwnP.k0 o12 D5.stp
   refine tailL0 (L := [61]) (R := (fun _ τ => OwnP τ 61 x1 ([(Ty.val (Value.slice none 0 0))].set 0 (Ty.val (Value.slice none 0 0))))) rfl rfl (YldM.toL (m_storep Try.inf22 (by decide) o13 (ptr0 o13 q23) (Nat.le_of_ble_eq_true rfl) rfl (one_val rfl))) (fun v3 s8 hs3 r3 => ?_)
   have F8 := (F6.step0 D5.stp).stepL hs3 (by decide); have q25 := kpL hs3 (by decide) rfl q23; have q26 := kpL hs3 (by decide) rfl (D5.kt q21 rfl); have o16 := OwnP.keepL o14 hs3 (by decide) (by decide)
   have o15 : OwnP s8 61 x1 [(Ty.val (Value.slice none 0 0))] := r3
   clear r3
   refine tailL0 (L := [62]) (R := (fun _ τ => OwnP τ 62 x2 ([(Ty.int (0 : Int))].set 0 (Ty.int (3 : Int))))) rfl rfl (YldM.toL (m_storep Try.inf23 (by decide) o16 (ptr0 o16 q26) (Nat.le_of_ble_eq_true rfl) rfl (one_val rfl))) (fun v4 s9 hs4 r4 => ?_)
   have F9 := F8.stepL hs4 (by decide); have q28 := kpL hs4 (by decide) rfl q25; have q29 := kpL hs4 (by decide) rfl q26; have o18 := OwnP.keepL o15 hs4 (by decide) (by decide)
   have o17 : OwnP s9 62 x2 [(Ty.int (3 : Int))] := r4
   clear r4; refine wpList_nil (tn (wp_ret (br (tr ?_))))
   exact retD0 hres ok5 F9 o18 o17 q28 q29 (fun _ _ hv0_ hv1_ => hasT2 (by have e_ := hv0_; rw [show _ = _ from e_]; exact nil_has (by rw [plM_3 hn0 hz3])) (cvi (by (rw [plM_3 hn0 hz3])) hv1_))
  ·
   have hz0 : ¬ 4000 < s.size := (by omega)
   refine wp_skip (bn (tn (wp_seq ?_)))
   refine gI a4 s6 ok4 (gT (Ty.val (Value.func (Fn.func 29) #[] #[x1, x2])) rfl (fun A B G H I => rP (y_clo2 (kp (I 4 rfl) G q20) (kp (I 5 rfl) G q21))) (gE2 ok4 fun a6 s10 ok6 D6 => ?_)); have o19 := OwnP.k0 o11 D6.stp; have o20 := OwnP.k0 o12 D6.stp
   refine tailDefer ok6 (D6.dn 0 (by decide) rfl rfl) (fun a7 ok7 sm1 => ?_)
   have q36 : At (Ty.int n) s10 a7 (.tmp 0) := kp (sm1 0) (Stp.refl 0 _) (D6.kt (D4.kt (D2.kt q1 rfl) rfl) rfl)
   have q37 : At (Ty.val (Value.string s)) s10 a7 (.tmp 1) := kp (sm1 1) (Stp.refl 0 _) (D6.kt (D4.kt q6 rfl) rfl)
   have q38 : At (Ty.val x1) s10 a7 (.tmp 4) := kp (sm1 4) (Stp.refl 0 _) (D6.kt q20 rfl)
   have q39 : At (Ty.val x2) s10 a7 (.tmp 5) := kp (sm1 5) (Stp.refl 0 _) (D6.kt q21 rfl)
   refine wpList_nil (tn (wp_seq ?_))
   refine gI a7 s10 ok7 (gM q36 (gT (Ty.agg [(Ty.int n), (Ty.val (Value.slice none 0 0)), (Ty.val (Value.slice none 0 0)), (Ty.bool false), (Ty.val (Value.slice none 0 0)), (Ty.bool false), (Ty.bool false)]) rfl (fun A B G H I d0 => rP (y_bld [(0, (.tmp 22), (Ty.int n))] [(Ty.int (0 : Int)), (Ty.val (Value.slice none 0 0)), (Ty.val (Value.slice none 0 0)), (Ty.bool false), (Ty.val (Value.slice none 0 0)), (Ty.bool false), (Ty.bool false)] (l := [(0, 1), (1, 1), (2, 1), (3, 1), (4, 1), (5, 1), (6, 1)]) rfl Try.inf64 rfl (alloc_vals (vs := [.int .i64 0, .slice none 0 0, .slice none 0 0, .bool false, .slice none 0 0, .bool false, .bool false]) rfl) rfl (by intro p hp; simp only [List.mem_cons, List.not_mem_nil, or_false] at hp; rcases hp with rfl; exact ⟨one_val rfl, (ed d0 rfl rfl rfl)⟩))) (gR (Pr.ownp 40 [(Ty.int n), (Ty.val (Value.slice none 0 0)), (Ty.val (Value.slice none 0 0)), (Ty.bool false), (Ty.val (Value.slice none 0 0)), (Ty.bool false), (Ty.bool false)]) rfl (by intro A B G H I d0; exact rP (y_boxo 40 (ed d0 rfl rfl rfl))) (gE2 ok7 fun a8 s11 ok8 D7 => ?_)))); have o21 := OwnP.k0 o19 D7.stp; have o22 := OwnP.k0 o20 D7.stp
   obtain ⟨x3, hx3⟩ : ∃ x, a8.eval (.tmp 24) = x := ⟨_, rfl⟩
   have q43 : At (Ty.val x3) s11 a8 (.tmp 24) := hx3
   have o23 := al2 (R := (Pr.ownp 40 [(Ty.int n), (Ty.val (Value.slice none 0 0)), (Ty.val (Value.slice none 0 0)), (Ty.bool false), (Ty.val (Value.slice none 0 0)), (Ty.bool false), (Ty.bool false)])) hx3 (D7.done 2 (by decide))
   refine tL ok8 (Yld.toL (y_as q43)) fun a9 s12 hs5 ok9 r5 sm2 => ?_
   have F12 := ((F6.step0 D6.stp).step0 D7.stp).stepL hs5 (by decide); have q44 := kpL hs5 (by decide) (sm2 1 (by decide)) (D7.kt q37 rfl); have q45 := kpL hs5 (by decide) (sm2 4 (by decide)) (D7.kt q38 rfl); have q46 := kpL hs5 (by decide) (sm2 5 (by decide)) (D7.kt q39 rfl); have o24 := OwnP.keepL o21 hs5 (by decide) (by decide); have o25 := OwnP.keepL o22 hs5 (by decide) (by decide); have o26 := OwnP.keepL o23 hs5 (by decide) (by decide)
   have q47 : At (Ty.val x3) s12 a9 (.tmp 6) := r5
   clear r5; refine wpList_nil (tn (wp_seq ?_))
   refine gI a9 s12 ok9 (gC (Ty.bool true) (gE ok9 fun a10 s13 ok10 D8 => ?_)); have o27 := OwnP.k0 o24 D8.stp; have o28 := OwnP.k0 o25 D8.stp; have o29 := OwnP.k0 o26 D8.stp; refine tn (wp_seq (wp_seq ?_))
   refine gI a10 s13 ok10 (gM (D8.kt q44 rfl) (gR (Pr.iter 63 s 0) rfl (by intro A B G H I d0; exact rP (y_range 63 Try.underlying9 (ed d0 rfl rfl rfl))) (gE ok10 fun a11 s14 ok11 D9 => ?_))); have o30 := OwnP.k0 o27 D9.stp; have o31 := OwnP.k0 o28 D9.stp; have o32 := OwnP.k0 o29 D9.stp
   obtain ⟨x4, hx4⟩ : ∃ x, a11.eval (.tmp 26) = x := ⟨_, rfl⟩
   have q57 : At (Ty.val x4) s14 a11 (.tmp 26) := hx4
   have o33 := al2 (R := (Pr.iter 63 s 0)) hx4 (D9.done 1)
   refine tn (wp_block ?_)
   have o34 : Own s14 41 29 1 (Value.slice none 0 0) 0 (List.map Ty.ints ([] : List (List Int))) := Own.nil _ _ _ _
   have o35 : Own s14 42 29 1 (Value.slice none 0 0) 0 (List.map Ty.ints ([] : List (List Int))) := Own.nil _ _ _ _
   have o36 : Own s14 43 3 1 (Value.slice none 0 0) 0 (List.map Ty.int ([] : List Int)) := Own.nil _ _ _ _
   refine loop (fun n1 a12 w1 => ∃ (t1 : GW) (p : Nat) (f : Nat) (all : List (List Int)) (blk : List (List Int)) (mir : Bool) (dot : Bool) (ql : List Int) (first : Bool) (xa xb xs : Value), t1.w = w1 ∧ FromL [] s0 t1 ∧ Ok 40 [dfr 29 x1 x2] a12 ∧ At (Ty.bool first) t1 a12 (.tmp 7) ∧ At (Ty.val x1) t1 a12 (.tmp 4) ∧ At (Ty.val x2) t1 a12 (.tmp 5) ∧ At (Ty.val x3) t1 a12 (.tmp 6) ∧ At (Ty.val x4) t1 a12 (.tmp 26) ∧ OwnP t1 40 x3 [(Ty.int n), (Ty.val xa), (Ty.val xb), (Ty.bool mir), (Ty.val xs), (Ty.bool (!(List.isEmpty ql))), (Ty.bool dot)] ∧ Own t1 41 29 1 xa (List.length all) (List.map Ty.ints all) ∧ Own t1 42 29 1 xb (List.length blk) (List.map Ty.ints blk) ∧ Own t1 43 3 1 xs (List.length ql) (List.map Ty.int ql) ∧ Iter t1 63 x4 s p ∧ OwnP t1 61 x1 [(Ty.val (Value.slice none 0 0))] ∧ OwnP t1 62 x2 [(Ty.int (0 : Int))] ∧ (plF n (runsF s f p) (PSt.mk all blk mir ql dot) first = plM n s) ∧ (s.size ≤ f + p) ∧ (p ≤ s.size) ∧ (PB (PSt.mk all blk mir ql dot) p) ∧ n1 = s.size + 1 - p) (s.size + 1 - (0)) ?_ ?_
   ·
    exact ⟨s14, 0, s.size, ([] : List (List Int)), ([] : List (List Int)), false, false, ([] : List Int), true, (Value.slice none 0 0), (Value.slice none 0 0), (Value.slice none 0 0), rfl, ((F12.step0 D8.stp).step0 D9.stp), ok11, (cvb (by (first | rfl | omega | (simp_all; done) | (simp_all; omega))) (D9.kt (D8.dn 0 rfl rfl) rfl)), (D9.kt (D8.kt q45 rfl) rfl), (D9.kt (D8.kt q46 rfl) rfl), (D9.kt (D8.kt q47 rfl) rfl), q57, (ownp_cell 6 (Ty.bool (false)) (ownp_cell 5 (Ty.bool (!(List.isEmpty (([] : List Int))))) (ownp_cell 3 (Ty.bool (false)) o32 rfl (fun _ _ h => (cvb (by (first | rfl | omega | (simp_all; done) | (simp_all; omega))) h))) rfl (fun _ _ h => (cvb (by (first | rfl | omega | (simp_all; done) | (simp_all; omega))) h))) rfl (fun _ _ h => (cvb (by (first | rfl | omega | (simp_all; done) | (simp_all; omega))) h))), (cvo (by (simp)) (by (simp)) o34), (cvo (by (simp)) (by (simp)) o35), (cvo (by (simp)) (by (simp)) o36), (cvit (by omega) o33), o30, o31, plM_in hn0 hz0, by omega, by omega, pb0, rfl⟩
   ·
    rintro n2 a13 w2 ⟨t2, p, f, all, blk, mir, dot, ql, first, xa, xb, xs, rfl, F15, ok12, q58, q59, q60, q61, q62, o37, o38, o39, o40, o41, o42, o43, hX, hf, hp, hB, rfl⟩
    have hw := wid_pos s p
    have hrb := run1_bd s p
    have hBa : all.length ≤ 200 := hB.all
    have hBb : blk.length ≤ 200 := hB.blk
    have hBe : ∀ x ∈ blk, x.length ≤ 20000 := hB.el
    have hBs : ql.length ≤ p := hB.sm
    have hBv : ∀ k, k < ql.length → 1 ≤ ql.getD k 0 ∧ ql.getD k 0 ≤ 12 := hB.v
    refine wp_seq ?_
    refine gI a13 t2 ok12 (gE2 ok12 fun a14 s15 ok13 D10 => ?_); have q67 := D10.kt q62 rfl; have o44 := OwnP.k0 o37 D10.stp; have o45 := Own.k0 o38 D10.stp; have o46 := Own.k0 o39 D10.stp; have o47 := Own.k0 o40 D10.stp; have o48 := Iter.k0 o41 D10.stp; have o49 := OwnP.k0 o42 D10.stp; have o50 := OwnP.k0 o43 D10.stp
    refine tL (R := (fun v τ => (Ty.nxt (decide (p < s.size)) p (run1 s p)).has τ v ∧ Iter τ 63 x4 s (stepTo s p))) ok13 (YldM.toL (m_next (by decide) o48 q67)) fun a15 s16 hs6 ok14 r6 sm3 => ?_
    have F17 := (F15.step0 D10.stp).stepL hs6 (by decide); have q68 := kpL hs6 (by decide) (sm3 7 (by decide)) (D10.kt q58 rfl); have q69 := kpL hs6 (by decide) (sm3 4 (by decide)) (D10.kt q59 rfl); have q70 := kpL hs6 (by decide) (sm3 5 (by decide)) (D10.kt q60 rfl); have q71 := kpL hs6 (by decide) (sm3 6 (by decide)) (D10.kt q61 rfl); have q72 := kpL hs6 (by decide) (sm3 26 (by decide)) q67; have o52 := OwnP.keepL o44 hs6 (by decide) (by decide); have o53 := Own.keepL o45 hs6 (by decide) (by decide); have o54 := Own.keepL o46 hs6 (by decide) (by decide); have o55 := Own.keepL o47 hs6 (by decide) (by decide); have o56 := OwnP.keepL o49 hs6 (by decide) (by decide); have o57 := OwnP.keepL o50 hs6 (by decide) (by decide)
    have q73 : At (Ty.nxt (decide (p < s.size)) p (run1 s p)) s16 a15 (.tmp 27) := (r6).1
    have o51 : Iter s16 63 x4 s (stepTo s p) := (r6).2
    clear r6
    refine tL (R := (fun v τ => Pr.has (Ty.pr (Ty.bool (decide (p < s.size)))) τ v)) ok14 (Yld.toL (y_ext_n0 q73)) fun a16 s17 hs7 ok15 r7 sm4 => ?_
    have F18 := F17.stepL hs7 (by decide); have q74 := kpL hs7 (by decide) (sm4 7 (by decide)) q68; have q75 := kpL hs7 (by decide) (sm4 4 (by decide)) q69; have q76 := kpL hs7 (by decide) (sm4 5 (by decide)) q70; have q77 := kpL hs7 (by decide) (sm4 6 (by decide)) q71; have q78 := kpL hs7 (by decide) (sm4 26 (by decide)) q72; have q79 := kpL hs7 (by decide) (sm4 27 (by decide)) q73; have o58 := OwnP.keepL o52 hs7 (by decide) (by decide); have o59 := Own.keepL o53 hs7 (by decide) (by decide); have o60 := Own.keepL o54 hs7 (by decide) (by decide); have o61 := Own.keepL o55 hs7 (by decide) (by decide); have o62 := OwnP.keepL o56 hs7 (by decide) (by decide); have o63 := OwnP.keepL o57 hs7 (by decide) (by decide); have o64 := Iter.keepL o51 hs7 (by decide) (by decide)
    have q80 : At (Ty.bool (decide (p < s.size))) s17 a16 (.tmp 28) := r7
    clear r7; refine wpList_nil (tn (wp_seq ?_))
    refine cond_p (p := (p < s.size)) q80 (fun c3 => ?_) (fun c3 => ?_)
    ·
     refine wp_skip (tn (wp_block (wp_seq ?_)))
     refine gI a16 s17 ok15 (gT (Ty.val (Value.int .i32 ((run1 s p : Nat) : Int))) rfl (fun A B G H I => rP (y_ext_n2 (kp (I 27 rfl) G q79) (decide_eq_true (by omega)))) (gB 0 (gE ok15 fun a17 s18 ok16 D11 => ?_))); have q81 := D11.kt q74 rfl; have q84 := D11.kt q77 rfl; have o65 := OwnP.k0 o58 D11.stp; have o66 := Own.k0 o59 D11.stp; have o67 := Own.k0 o60 D11.stp; have o68 := Own.k0 o61 D11.stp; have o69 := OwnP.k0 o62 D11.stp; have o70 := OwnP.k0 o63 D11.stp; have o71 := Iter.k0 o64 D11.stp; refine tn ?_
     refine gI a17 s18 ok16 (gM q84 (gM (D11.dn 1 rfl rfl) (gM q81 (gE2 ok16 fun a18 s19 ok17 D12 => ?_)))); have F20 := (F18.step0 D11.stp).step0 D12.stp; have q88 := D12.kt (D11.kt q75 rfl) rfl; have q89 := D12.kt (D11.kt q76 rfl) rfl; have o72 := OwnP.k0 o65 D12.stp; have o73 := Own.k0 o66 D12.stp; have o74 := Own.k0 o67 D12.stp; have o75 := Own.k0 o68 D12.stp; have o76 := OwnP.k0 o69 D12.stp; have o77 := OwnP.k0 o70 D12.stp; have o78 := Iter.k0 o71 D12.stp
     have q92 : At (Ty.val x3) s19 a18 (.tmp 30) := D12.done 0 (by decide)
     refine tailP (L := [40, 41, 42, 43]) (R := (fun v τ' => ∃ τ, (fun v τ => ∃ (az : Value), ∃ (bz : Value), ∃ (sz : Value), (Ty.has (Ty.bool (decide ((((run1 s p : Nat) : Int)) = 44))) τ v) ∧ (OwnP τ 40 x3 [(Ty.int n), (Ty.val az), (Ty.val bz), (Ty.bool (sgS n (PSt.mk all blk mir ql dot) first (((run1 s p : Nat) : Int))).mir), (Ty.val sz), (Ty.bool (!(List.isEmpty (sgS n (PSt.mk all blk mir ql dot) first (((run1 s p : Nat) : Int))).sm))), (Ty.bool (sgS n (PSt.mk all blk mir ql dot) first (((run1 s p : Nat) : Int))).dot)]) ∧ (Own τ 41 29 1 az (List.length (sgS n (PSt.mk all blk mir ql dot) first (((run1 s p : Nat) : Int))).all) (List.map Ty.ints (sgS n (PSt.mk all blk mir ql dot) first (((run1 s p : Nat) : Int))).all)) ∧ (Own τ 42 29 1 bz (List.length (sgS n (PSt.mk all blk mir ql dot) first (((run1 s p : Nat) : Int))).blk) (List.map Ty.ints (sgS n (PSt.mk all blk mir ql dot) first (((run1 s p : Nat) : Int))).blk)) ∧ (Own τ 43 3 1 sz (List.length (sgS n (PSt.mk all blk mir ql dot) first (((run1 s p : Nat) : Int))).sm) (List.map Ty.int (sgS n (PSt.mk all blk mir ql dot) first (((run1 s p : Nat) : Int))).sm)) ∧ ((sgE n (PSt.mk all blk mir ql dot) first (((run1 s p : Nat) : Int))) = 0)) v τ ∧ Back [(40, 40), (41, 41), (42, 42), (43, 43)] τ τ')) (E := (fun c_ => c_ = fltC 60 (sgE n (PSt.mk all blk mir ql dot) first (((run1 s p : Nat) : Int))) ∧ (sgE n (PSt.mk all blk mir ql dot) first (((run1 s p : Nat) : Int))) ≠ 0)) rfl rfl (by decide) ok17 (y_callP (L := [40, 41, 42, 43]) [(40, 40), (41, 41), (42, 42), (43, 43)] [(40, 40), (41, 41), (42, 42), (43, 43)] #[a18.eval (.tmp 30), a18.eval (.tmp 31), a18.eval (.tmp 32)] rfl (by decide) Try.func30 rfl rfl (by simp only [List.map_toArray, List.map_cons, List.map_nil]) (rdSign_fn (x3) (xa) (xb) (xs) (n) (all) (blk) (mir) (dot) (ql) (first) (((run1 s p : Nat) : Int)) _ (GW.low_lend _ (by decide)) _ _ _ (Ty.up _ (GW.le_lend _ _) q92) (Ty.up _ (GW.le_lend _ _) (cvi (σ := s19) (by first | omega | assumption) (D12.dn 1 (by decide) rfl rfl))) (Ty.up _ (GW.le_lend _ _) (D12.dn 2 (by decide) rfl rfl)) (OwnP.ren o72 (GW.ren_lend _ _ (by decide) rfl)) (Own.ren o73 (GW.ren_lend _ _ (by decide) rfl)) (Own.ren o74 (GW.ren_lend _ _ (by decide) rfl)) (Own.ren o75 (GW.ren_lend _ _ (by decide) rfl)) (by first | omega | assumption) (by first | omega | assumption) (by first | omega | assumption) (by first | omega | assumption) (by first | omega | assumption) (by first | omega | assumption) (by first | omega | assumption))) (fun c_ t_ hs_ he_ => panD hres catch_fn (by decide) (by decide) (by decide) ok17 (F20.stepL hs_ (by decide)) (OwnP.keepL o76 hs_ (by decide) (by decide)) (OwnP.keepL o77 hs_ (by decide) (by decide)) q88 q89 he_ (fun hne_ _ => by exact bad_has (pl_bad hX (by assumption) hf hne_))) (fun a19 s20 hs8 ok18 r8 sm5 => ?_)
     have F21 := F20.stepL hs8 (by decide); have q95 := kpL hs8 (by decide) (sm5 7 (by decide)) (D12.kt q81 rfl); have q96 := kpL hs8 (by decide) (sm5 4 (by decide)) q88; have q97 := kpL hs8 (by decide) (sm5 5 (by decide)) q89; have q98 := kpL hs8 (by decide) (sm5 6 (by decide)) (D12.kt q84 rfl); have q99 := kpL hs8 (by decide) (sm5 26 (by decide)) (D12.kt (D11.kt q78 rfl) rfl); have o87 := OwnP.keepL o76 hs8 (by decide) (by decide); have o88 := OwnP.keepL o77 hs8 (by decide) (by decide); have o89 := Iter.keepL o78 hs8 (by decide) (by decide)
     obtain ⟨t3, ⟨x5, x6, x7, hT1, o79, o80, o81, o82, hp1⟩, B1⟩ := r8
     have q100 : At (Ty.bool (decide ((((run1 s p : Nat) : Int)) = 44))) s20 a19 (.tmp 33) := Ty.up _ B1.le hT1
     have o83 : OwnP s20 40 x3 [(Ty.int n), (Ty.val x5), (Ty.val x6), (Ty.bool (sgS n (PSt.mk all blk mir ql dot) first (((run1 s p : Nat) : Int))).mir), (Ty.val x7), (Ty.bool (!(List.isEmpty (sgS n (PSt.mk all blk mir ql dot) first (((run1 s p : Nat) : Int))).sm))), (Ty.bool (sgS n (PSt.mk all blk mir ql dot) first (((run1 s p : Nat) : Int))).dot)] := OwnP.ren o79 (B1.ren (by decide) rfl)
     have o84 : Own s20 41 29 1 x5 (List.length (sgS n (PSt.mk all blk mir ql dot) first (((run1 s p : Nat) : Int))).all) (List.map Ty.ints (sgS n (PSt.mk all blk mir ql dot) first (((run1 s p : Nat) : Int))).all) := Own.ren o80 (B1.ren (by decide) rfl)
     have o85 : Own s20 42 29 1 x6 (List.length (sgS n (PSt.mk all blk mir ql dot) first (((run1 s p : Nat) : Int))).blk) (List.map Ty.ints (sgS n (PSt.mk all blk mir ql dot) first (((run1 s p : Nat) : Int))).blk) := Own.ren o81 (B1.ren (by decide) rfl)
     have o86 : Own s20 43 3 1 x7 (List.length (sgS n (PSt.mk all blk mir ql dot) first (((run1 s p : Nat) : Int))).sm) (List.map Ty.int (sgS n (PSt.mk all blk mir ql dot) first (((run1 s p : Nat) : Int))).sm) := Own.ren o82 (B1.ren (by decide) rfl)
     refine tL ok18 (Yld.toL (y_as q100)) fun a20 s21 hs9 ok19 r9 sm6 => ?_
     have F22 := F21.stepL hs9 (by decide); have q101 := kpL hs9 (by decide) (sm6 4 (by decide)) q96; have q102 := kpL hs9 (by decide) (sm6 5 (by decide)) q97; have q103 := kpL hs9 (by decide) (sm6 6 (by decide)) q98; have q104 := kpL hs9 (by decide) (sm6 26 (by decide)) q99; have o90 := OwnP.keepL o87 hs9 (by decide) (by decide); have o91 := OwnP.keepL o88 hs9 (by decide) (by decide); have o92 := Iter.keepL o89 hs9 (by decide) (by decide); have o93 := OwnP.keepL o83 hs9 (by decide) (by decide); have o94 := Own.keepL o84 hs9 (by decide) (by decide); have o95 := Own.keepL o85 hs9 (by decide) (by decide); have o96 := Own.keepL o86 hs9 (by decide) (by decide)
     have q105 : At (Ty.bool (decide ((((run1 s p : Nat) : Int)) = 44))) s21 a20 (.tmp 7) := r9
     clear r9; refine wpList_nil (bn ?_)
     exact tn ⟨s.size + 1 - ((p + wid s p)), by omega, s21, (p + wid s p), (f - 1), (sgS n (PSt.mk all blk mir ql dot) first (run1 s p : Nat)).all, (sgS n (PSt.mk all blk mir ql dot) first (run1 s p : Nat)).blk, (sgS n (PSt.mk all blk mir ql dot) first (run1 s p : Nat)).mir, (sgS n (PSt.mk all blk mir ql dot) first (run1 s p : Nat)).dot, (sgS n (PSt.mk all blk mir ql dot) first (run1 s p : Nat)).sm, (decide (((run1 s p : Nat) : Int) = 44)), x5, x6, x7, rfl, F22, ok19, (cvb (by (first | rfl | omega | (simp_all; done) | (simp_all; omega))) q105), q101, q102, q103, q104, (ownp_cell 6 (Ty.bool ((sgS n (PSt.mk all blk mir ql dot) first (run1 s p : Nat)).dot)) (ownp_cell 5 (Ty.bool (!(List.isEmpty ((sgS n (PSt.mk all blk mir ql dot) first (run1 s p : Nat)).sm)))) (ownp_cell 3 (Ty.bool ((sgS n (PSt.mk all blk mir ql dot) first (run1 s p : Nat)).mir)) o93 rfl (fun _ _ h => (cvb (by (first | rfl | omega | (simp_all; done) | (simp_all; omega))) h))) rfl (fun _ _ h => (cvb (by (first | rfl | omega | (simp_all; done) | (simp_all; omega))) h))) rfl (fun _ _ h => (cvb (by (first | rfl | omega | (simp_all; done) | (simp_all; omega))) h))), (cvo (by (simp)) (by (simp)) o94), (cvo (by (simp)) (by (simp)) o95), (cvo (by (simp)) (by (simp)) o96), (cvit (by rw [stepTo, if_pos (by assumption)]) o92), o90, o91, pl_go hX (by assumption) hf (by assumption), by omega, wid_in (by assumption), pb_wid (pb_step hB (by omega) (by assumption)) hw, rfl⟩
    ·
     refine wp_exit (tx (tx (bx (tn (wp_seq ?_)))))
     refine gI a16 s17 ok15 (gM q77 (gE2 ok15 fun a21 s22 ok20 D13 => ?_)); have F23 := F18.step0 D13.stp; have q106 := D13.kt q75 rfl; have q107 := D13.kt q76 rfl; have o97 := OwnP.k0 o58 D13.stp; have o98 := Own.k0 o59 D13.stp; have o99 := Own.k0 o60 D13.stp; have o100 := Own.k0 o61 D13.stp; have o101 := OwnP.k0 o62 D13.stp; have o102 := OwnP.k0 o63 D13.stp; have o103 := Iter.k0 o64 D13.stp
     have q109 : At (Ty.val x3) s22 a21 (.tmp 34) := D13.done 0 (by decide)
     refine tailP (L := [40, 41, 42, 43]) (R := (fun v τ' => ∃ τ, (fun v τ => ∃ (az : Value), ∃ (bz : Value), ∃ (sz : Value), True ∧ (OwnP τ 40 x3 [(Ty.int n), (Ty.val az), (Ty.val bz), (Ty.bool false), (Ty.val sz), (Ty.bool false), (Ty.bool false)]) ∧ (Own τ 41 29 1 az (List.length (enA n (PSt.mk all blk mir ql dot))) (List.map Ty.ints (enA n (PSt.mk all blk mir ql dot)))) ∧ (Own τ 42 29 1 bz (List.length ([] : List (List Int))) (List.map Ty.ints ([] : List (List Int)))) ∧ (Own τ 43 3 1 sz (List.length ([] : List Int)) (List.map Ty.int ([] : List Int))) ∧ ((enE n (PSt.mk all blk mir ql dot)) = 0)) v τ ∧ Back [(40, 40), (41, 41), (42, 42), (43, 43)] τ τ')) (E := (fun c_ => c_ = fltC 60 (enE n (PSt.mk all blk mir ql dot)) ∧ (enE n (PSt.mk all blk mir ql dot)) ≠ 0)) rfl rfl (by decide) ok20 (y_callP (L := [40, 41, 42, 43]) [(40, 40), (41, 41), (42, 42), (43, 43)] [(40, 40), (41, 41), (42, 42), (43, 43)] #[a21.eval (.tmp 34)] rfl (by decide) Try.func31 rfl rfl (by simp only [List.map_toArray, List.map_cons, List.map_nil]) (end_fn (x3) (xa) (xb) (xs) (n) (all) (blk) (mir) (dot) (ql) _ (GW.low_lend _ (by decide)) _ (Ty.up _ (GW.le_lend _ _) q109) (OwnP.ren o97 (GW.ren_lend _ _ (by decide) rfl)) (Own.ren o98 (GW.ren_lend _ _ (by decide) rfl)) (Own.ren o99 (GW.ren_lend _ _ (by decide) rfl)) (Own.ren o100 (GW.ren_lend _ _ (by decide) rfl)) (by first | omega | assumption | exact hce) (by first | omega | assumption | exact hce) (by first | omega | assumption | exact hce) (by first | omega | assumption | exact hce) (by first | omega | assumption | exact hce) (by first | omega | assumption | exact hce))) (fun c_ t_ hs_ he_ => panD hres catch_fn (by decide) (by decide) (by decide) ok20 (F23.stepL hs_ (by decide)) (OwnP.keepL o101 hs_ (by decide) (by decide)) (OwnP.keepL o102 hs_ (by decide) (by decide)) q106 q107 he_ (fun hne_ _ => by exact bad_has (pl_bad2 hX (by assumption) hne_))) (fun a22 s23 hs10 ok21 r10 sm7 => ?_)
     have F24 := F23.stepL hs10 (by decide); have q110 := kpL hs10 (by decide) (sm7 4 (by decide)) q106; have q111 := kpL hs10 (by decide) (sm7 5 (by decide)) q107; have q112 := kpL hs10 (by decide) (sm7 6 (by decide)) (D13.kt q77 rfl); have o112 := OwnP.keepL o101 hs10 (by decide) (by decide); have o113 := OwnP.keepL o102 hs10 (by decide) (by decide); have o114 := Iter.keepL o103 hs10 (by decide) (by decide)
     obtain ⟨t4, ⟨x8, x9, x10, hT2, o104, o105, o106, o107, hp2⟩, B2⟩ := r10
     have o108 : OwnP s23 40 x3 [(Ty.int n), (Ty.val x8), (Ty.val x9), (Ty.bool false), (Ty.val x10), (Ty.bool false), (Ty.bool false)] := OwnP.ren o104 (B2.ren (by decide) rfl)
     have o109 : Own s23 41 29 1 x8 (List.length (enA n (PSt.mk all blk mir ql dot))) (List.map Ty.ints (enA n (PSt.mk all blk mir ql dot))) := Own.ren o105 (B2.ren (by decide) rfl)
     have o110 : Own s23 42 29 1 x9 (List.length ([] : List (List Int))) (List.map Ty.ints ([] : List (List Int))) := Own.ren o106 (B2.ren (by decide) rfl)
     have o111 : Own s23 43 3 1 x10 (List.length ([] : List Int)) (List.map Ty.int ([] : List Int)) := Own.ren o107 (B2.ren (by decide) rfl)
     refine wpList_nil (tn (wp_seq ?_))
     refine gI a22 s23 ok21 (gM q112 (gT (Ty.val x3) rfl (fun A B G H I d0 => rP (y_nilp (OwnP.k0 o108 G) (ed d0 rfl rfl rfl))) (gT (Ty.val (ptrAt x3 1)) rfl (fun A B G H I d0 => rP (ownp_field Try.fld64_1 Try.inf22 (by decide) (OwnP.k0 o108 G) (ed d0 rfl rfl rfl))) (gS rfl (fun A B G H I d0 => rP (ownp_load Try.underlying22 rfl (OwnP.k0 o108 G) (ed d0 rfl rfl rfl) rfl)) (gE2 ok21 fun a23 s24 ok22 D14 => ?_))))); have q114 := D14.kt q110 rfl; have o115 := OwnP.k0 o112 D14.stp; have o116 := OwnP.k0 o113 D14.stp; have o117 := OwnP.k0 o108 D14.stp; have o118 := Own.k0 o109 D14.stp; have o119 := Own.k0 o110 D14.stp; have o120 := Own.k0 o111 D14.stp
     have q116 : At (Ty.val x8) s24 a23 (.tmp 39) := D14.done 3 (by decide)
     refine tailL0 (L := [61]) (R := (fun _ τ => OwnP τ 61 x1 ([(Ty.val (Value.slice none 0 0))].set 0 (Ty.val x8)))) rfl rfl (YldM.toL (m_storep Try.inf22 (by decide) o115 (ptr0 o115 q114) (Nat.le_of_ble_eq_true rfl) q116 (one_val (Own.one o118)))) (fun v5 s25 hs11 r11 => ?_)
     have F26 := (F24.step0 D14.stp).stepL hs11 (by decide); have q117 := kpL hs11 (by decide) rfl q114; have q118 := kpL hs11 (by decide) rfl (D14.kt q111 rfl); have o122 := OwnP.keepL o116 hs11 (by decide) (by decide); have o123 := OwnP.keepL o117 hs11 (by decide) (by decide); have o124 := Own.keepL o118 hs11 (by decide) (by decide); have o125 := Own.keepL o119 hs11 (by decide) (by decide); have o126 := Own.keepL o120 hs11 (by decide) (by decide)
     have o121 : OwnP s25 61 x1 [(Ty.val x8)] := r11
     clear r11
     refine tailL0 (L := [62]) (R := (fun _ τ => OwnP τ 62 x2 ([(Ty.int (0 : Int))].set 0 (Ty.int (0 : Int))))) rfl rfl (YldM.toL (m_storep Try.inf23 (by decide) o122 (ptr0 o122 q118) (Nat.le_of_ble_eq_true rfl) rfl (one_val rfl))) (fun v6 s26 hs12 r12 => ?_)
     have F27 := F26.stepL hs12 (by decide); have q120 := kpL hs12 (by decide) rfl q117; have q121 := kpL hs12 (by decide) rfl q118; have o128 := OwnP.keepL o123 hs12 (by decide) (by decide); have o129 := Own.keepL o124 hs12 (by decide) (by decide); have o130 := Own.keepL o125 hs12 (by decide) (by decide); have o131 := Own.keepL o126 hs12 (by decide) (by decide); have o132 := OwnP.keepL o121 hs12 (by decide) (by decide)
     have o127 : OwnP s26 62 x2 [(Ty.int (0 : Int))] := r12
     clear r12; refine wpList_nil (tn (wp_ret ?_))
     obtain ⟨t5, e1, h1, q123⟩ := Own.seal o129 (by decide)
     rw [← e1]
     have F28 := F27.step h1 (by decide); have o133 := OwnP.keepL o132 (h1.toL (L := [41]) (by simp)) (by decide) (by decide); have o134 := OwnP.keepL o127 (h1.toL (L := [41]) (by simp)) (by decide) (by decide); have q124 := Ty.up (Ty.val x1) (h1.le (by decide)) q120; have q125 := Ty.up (Ty.val x2) (h1.le (by decide)) q121; have o135 := ownp_cellq 0 (Ty.lst Ty.ints (enA n (PSt.mk all blk mir ql dot))) o133 rfl q123
     exact retD hres catch_fn ok22 F28 o135 o134 q124 q125 (fun _ _ hv0_ hv1_ => hasT2 (cvt (by (rw [pl_end2 hX (by assumption) (by assumption)])) hv0_) (cvi (by (rw [pl_end2 hX (by assumption) (by assumption)])) hv1_))


set_option maxHeartbeats 4000000 in
set_option maxRecDepth 100000 in
theorem rSignOf_fn (b : Int) (σ : GW)  (v0 : Value) (hv0 : Ty.has (Ty.int b) σ v0)  (hb : 0 ≤ b ∧ b < 12) :
    FnC Try.prog 38 #[v0] σ (Ty.val (Value.string (ByteArray.extract SIGNS (b).toNat (b + 1).toNat))) := by
 have hsz := signs_size
 refine fn_intro0 Try.func38 rfl Try.ntmps38 (Nat.le_of_ble_eq_true rfl) (fun s0 a0 hle F0 ok0 hargs => ?_)
 have p0 := pA hle (hargs 0 _ rfl) hv0
 clear hargs; refine wp_seq ?_
 refine gI a0 s0 ok0 (gC (Ty.val (Value.string (ByteArray.mk #[]))) (gE ok0 fun a1 s1 ok1 D1 => ?_)); have q1 := D1.kt p0 rfl; refine tn (wp_seq ?_)
 refine gI a1 s1 ok1 (gM q1 (gM q1 (gT (Ty.int (b + (1 : Int))) rfl (fun A B G H I d0 => rP (y_add (ed d0 rfl rfl rfl) rfl (w64 (by omega) (by omega)))) (gT (Ty.val (Value.string (ByteArray.extract SIGNS (b).toNat ((b + (1 : Int))).toNat))) rfl (fun A B G H I d0 d1 => rP (y_sft (l := (b).toNat) (h := ((b + (1 : Int))).toNat) Try.underlying9 rfl (toN (σ := B) (ed d0 rfl rfl rfl) (by omega)) (toN (σ := B) (ed d1 rfl rfl rfl) (by omega)) (by omega) (by omega))) (gB 0 (gE ok1 fun a2 s2 ok2 D2 => ?_)))))); refine tn (wp_ret ?_)
 exact retL1 rfl ok2 ((F0.step0 D1.stp).step0 D2.stp) (cvt (by (first | rfl | omega | (simp_all; done) | (simp_all; omega))) (D2.dn 4 rfl rfl))


set_option maxHeartbeats 4000000 in
set_option maxRecDepth 100000 in
theorem rPlacesText_fn (l : List (List Int)) (σ : GW)  (v0 : Value) (hv0 : Ty.has (Ty.lst Ty.ints l) σ v0)  (hl : l.length ≤ 200) (hp : ∀ x ∈ l, x.length ≤ 12 ∧ ∀ p ∈ x, 1 ≤ p ∧ p ≤ 12) :
    FnC Try.prog 16 #[v0] σ (Ty.val (Value.string (bsL (txB false l)))) := by
 obtain ⟨T, hT⟩ : ∃ T, T = txB false l := ⟨_, rfl⟩
 have hTl : T.length ≤ 2600 := by rw [hT]; have h_ := tx_len (fun x hx => (hp x hx).1) false; omega
 refine fn_intro0 Try.func16 rfl Try.ntmps16 (Nat.le_of_ble_eq_true rfl) (fun s0 a0 hle F0 ok0 hargs => ?_)
 have p0 := pA hle (hargs 0 _ rfl) hv0
 have b1 := sl_le p0
 clear hargs; refine wp_seq ?_
 refine gI a0 s0 ok0 (gC (Ty.val (Value.string (ByteArray.mk #[]))) (gE ok0 fun a1 s1 ok1 D1 => ?_)); refine tn (wp_seq ?_)
 refine gI a1 s1 ok1 (gC (Ty.val (Value.string (ByteArray.mk #[]))) (gE ok1 fun a2 s2 ok2 D2 => ?_)); refine tn (wp_seq (wp_seq ?_))
 refine gI a2 s2 ok2 (gC (Ty.int (0 : Int)) (gE ok2 fun a3 s3 ok3 D3 => ?_)); refine tn (wp_block ?_)
 refine loop (fun n1 a4 w1 => ∃ (t1 : GW) (i : Nat) (out : List UInt8), t1.w = w1 ∧ FromL [] s0 t1 ∧ Ok 54 [] a4 ∧ At (Ty.nat i) t1 a4 (.tmp 4) ∧ At (Ty.val (Value.string (bsL out))) t1 a4 (.tmp 3) ∧ At (Ty.lst Ty.ints l) t1 a4 (.tmp 0) ∧ (out ++ txB (prv l i) (l.drop i) = T) ∧ (i ≤ l.length) ∧ n1 = l.length - i) (l.length - (0)) ?_ ?_
 ·
  exact ⟨s3, 0, ([] : List UInt8), rfl, (((F0.step0 D1.stp).step0 D2.stp).step0 D3.stp), ok3, (cvi (by (rfl)) (D3.dn 0 rfl rfl)), (cvt (by (rfl)) (D3.kt (D2.dn 0 rfl rfl) rfl)), (D3.kt (D2.kt (D1.kt p0 rfl) rfl) rfl), by rw [hT]; exact tx_0, by omega, rfl⟩
 ·
  rintro n2 a5 w2 ⟨t2, i, out, rfl, F4, ok4, q7, q8, q9, G, hi, rfl⟩
  have hpi : i < l.length → (l.getD i []).length ≤ 12 ∧ ∀ p ∈ (l.getD i []), 1 ≤ p ∧ p ≤ 12 := fun h_ => hp _ (mem_getDD [] h_)
  have hol : out.length ≤ 2600 := by have h_ := congrArg List.length G; rw [List.length_append] at h_; omega
  refine wp_seq (wp_seq ?_)
  refine gI a5 t2 ok4 (gM q7 (gM q9 (gS rfl (fun A B G H I d0 => rP (y_len Try.underlying22 (ed d0 rfl rfl rfl))) (gS rfl (fun A B G H I d0 d1 => rP (y_lss (ed d0 rfl rfl rfl) (ed d1 rfl rfl rfl))) (gE ok4 fun a6 s4 ok5 D4 => ?_))))); have F5 := F4.step0 D4.stp; have q10 := D4.kt q7 rfl; have q11 := D4.kt q8 rfl; have q12 := D4.kt q9 rfl; refine tn ?_
  refine cond_p (p := (((i : Nat) : Int) < (((List.length l) : Nat) : Int))) (D4.dn 3 rfl rfl) (fun c1 => ?_) (fun c1 => ?_)
  ·
   have hpi2 := hpi (by omega); have hos := bsL_size out; have hm1 : (ByteArray.mk #[120]).size = 1 := rfl; have hm2 : (ByteArray.mk #[46]).size = 1 := rfl
   refine wp_skip (tn (wp_seq (wp_block (wp_seq (wp_seq ?_)))))
   refine gI a6 s4 ok5 (gM q12 (gM q10 (gT (Ty.ref [(Ty.lst Ty.int (l.getD i []))]) rfl (fun A B G H I d0 d1 => rP (y_index1 Try.underlying22 Try.inf29 (ed d0 rfl rfl rfl) (ed d1 rfl rfl rfl) (by omega) (lst_get Ty.ints l [] i (by omega)))) (gS rfl (fun A B G H I d0 => rP (y_load Try.underlying29 rfl (ed d0 rfl rfl rfl) rfl)) (gS rfl (fun A B G H I d0 => rP (y_len Try.underlying29 (ed d0 rfl rfl rfl))) (gS rfl (fun A B G H I d0 => rP (y_eql (ed d0 rfl rfl rfl) rfl)) (gE ok5 fun a7 s5 ok6 D5 => ?_))))))); have F6 := F5.step0 D5.stp; have q14 := D5.kt q10 rfl; have q15 := D5.kt q11 rfl; have q16 := D5.kt q12 rfl; refine tn ?_
   refine cond_p (p := ((((List.length (l.getD i [])) : Nat) : Int) = (0 : Int))) (D5.dn 5 rfl rfl) (fun c2 => ?_) (fun c2 => ?_)
   ·
    have hxe : (l.getD i []) = [] := List.eq_nil_of_length_eq_zero (by omega)
    refine wp_seq ?_
    refine gI a7 s5 ok6 (gM q15 (gT (Ty.val (Value.string ((bsL out) ++ (ByteArray.mk #[120])))) rfl (fun A B G H I d0 => rP (y_scat (ed d0 rfl rfl rfl) rfl (by omega))) (gB 0 (gE ok6 fun a8 s6 ok7 D6 => ?_)))); refine tn (wp_exit (tx (bx (tn ?_))))
    refine gI a8 s6 ok7 (gM (D6.kt q14 rfl) (gT (Ty.nat (i + 1)) rfl (fun A B G H I d0 => rP ((y_add (ed d0 rfl rfl rfl) rfl (w64 (by omega) (by omega))).mono (fun τ _ h => cvi (σ := τ) (by first | omega | exact (Int.natCast_mul _ _).symm) h))) (gB 0 (gE ok7 fun a9 s7 ok8 D7 => ?_))))
    exact tn ⟨l.length - ((i + 1)), by omega, s7, (i + 1), (out ++ [120]), rfl, ((F6.step0 D6.stp).step0 D7.stp), ok8, (cvi (by (first | rfl | omega | (simp_all; done) | (simp_all; omega))) (D7.dn 2 rfl rfl)), (cvt (by (rw [bsL_app]; rfl)) (D7.kt (D6.dn 2 rfl rfl) rfl)), (D7.kt (D6.kt q16 rfl) rfl), tx_e G (by omega) hxe, by omega, rfl⟩
   ·
    have hxn : (l.getD i []) ≠ [] := fun e_ => c2 (by rw [e_]; rfl)
    refine wp_skip (tn (wp_seq (wp_seq ?_)))
    refine gI a7 s5 ok6 (gM q14 (gS rfl (fun A B G H I d0 => rP (y_gtr (ed d0 rfl rfl rfl) rfl)) (gS rfl (fun A B G H I d0 => rP (y_move (ed d0 rfl rfl rfl))) (gS rfl (fun A B G H I d0 => gu H (ed d0 rfl rfl rfl) fun hg => y_move (kp (I 0 rfl) G q16)) (gS rfl (fun A B G H I d0 => gu H (ed d0 rfl rfl rfl) fun hg => y_move (kp (I 4 rfl) G q14)) (gT (Ty.grd ((decide ((0 : Int) < ((i : Nat) : Int))) = true) (Ty.int (((i : Nat) : Int) - (1 : Int)))) rfl (fun A B G H I d0 d1 => gut H (ed d1 rfl rfl rfl) fun hg hp => y_sub ((ed d0 rfl rfl rfl).1 hg) rfl (w64 (by omega) (by omega))) (gT (Ty.grd ((decide ((0 : Int) < ((i : Nat) : Int))) = true) (Ty.ref [(Ty.lst Ty.int (l.getD ((((i : Nat) : Int) - (1 : Int))).toNat []))])) rfl (fun A B G H I d0 d1 d2 => gut H (ed d2 rfl rfl rfl) fun hg hp => y_index1 Try.underlying22 Try.inf29 ((ed d0 rfl rfl rfl).1 hg) ((ed d1 rfl rfl rfl).1 hg) (by omega) (lst_get Ty.ints l [] ((((i : Nat) : Int) - (1 : Int))).toNat (by omega))) (gS rfl (fun A B G H I d0 d1 => gu H (ed d1 rfl rfl rfl) fun hg => y_load Try.underlying29 rfl ((ed d0 rfl rfl rfl).1 hg) rfl) (gS rfl (fun A B G H I d0 d1 => gu H (ed d1 rfl rfl rfl) fun hg => y_len Try.underlying29 ((ed d0 rfl rfl rfl).1 hg)) (gS rfl (fun A B G H I d0 d1 => gu H (ed d1 rfl rfl rfl) fun hg => y_gtr ((ed d0 rfl rfl rfl).1 hg) rfl) (gS rfl (fun A B G H I d0 d1 => rP (y_pick_and (ed d0 rfl rfl rfl) (ed d1 rfl rfl rfl) rfl)) (gE ok6 fun a10 s8 ok9 D8 => ?_)))))))))))); have F9 := F6.step0 D8.stp; have q24 := D8.kt q14 rfl; have q25 := D8.kt q15 rfl; have q26 := D8.kt q16 rfl; refine tn ?_
    refine Go.KL.join_then (Q' := fun a11 w3 => ∃ (t3 : GW) (ou : List UInt8), t3.w = w3 ∧ FromL [] s0 t3 ∧ Ok 54 [] a11 ∧ At (Ty.val (Value.string (bsL ou))) t3 a11 (.tmp 3) ∧ At (Ty.nat i) t3 a11 (.tmp 4) ∧ At (Ty.lst Ty.ints l) t3 a11 (.tmp 0) ∧ (ou ++ wdB ((l.getD i []).drop 0) ++ txB true (l.drop (i + 1)) = T) ∧ True) ?_ ?_
    ·
     refine cond_t (D8.dn 10 rfl rfl) (fun c3 => ?_) (fun c3 => ?_)
     ·
      obtain ⟨d1, d2⟩ := Bool.and_eq_true_iff.mp c3
      replace d1 := of_decide_eq_true d1
      replace d2 := of_decide_eq_true d2
      have hb : prv l i = true := prv_c.symm.trans c3
      refine gI a10 s8 ok9 (gM q25 (gT (Ty.val (Value.string ((bsL out) ++ (ByteArray.mk #[46])))) rfl (fun A B G H I d0 => rP (y_scat (ed d0 rfl rfl rfl) rfl (by omega))) (gB 0 (gE ok9 fun a12 s9 ok10 D9 => ?_))))
      exact tn ⟨s9, (out ++ [46]), rfl, (F9.step0 D9.stp), ok10, (cvt (by (rw [bsL_app]; rfl)) (D9.dn 2 rfl rfl)), (D9.kt q24 rfl), (D9.kt q26 rfl), tx_d G (by omega) hxn hb, trivial⟩
     ·
      have hb : prv l i = false := prv_c.symm.trans c3
      refine wp_skip ?_
      exact tn ⟨s8, out, rfl, F9, ok9, (cvt (by (first | rfl | omega | (simp_all; done) | (simp_all; omega))) q25), q24, q26, tx_n G (by omega) hxn hb, trivial⟩
    ·
     rintro a13 w4 ⟨t4, ou, rfl, F11, ok11, q31, q32, q33, hz, -⟩
     refine wp_seq ?_
     refine gI a13 t4 ok11 (gC (Ty.int (0 : Int)) (gE ok11 fun a14 s10 ok12 D10 => ?_)); refine tn (wp_block ?_)
     refine loop (fun n3 a15 w5 => ∃ (t5 : GW) (j : Nat) (ov : List UInt8), t5.w = w5 ∧ FromL [] s0 t5 ∧ Ok 54 [] a15 ∧ At (Ty.nat j) t5 a15 (.tmp 5) ∧ At (Ty.val (Value.string (bsL ov))) t5 a15 (.tmp 3) ∧ At (Ty.nat i) t5 a15 (.tmp 4) ∧ At (Ty.lst Ty.ints l) t5 a15 (.tmp 0) ∧ (ov ++ wdB ((l.getD i []).drop j) ++ txB true (l.drop (i + 1)) = T) ∧ (j ≤ (l.getD i []).length) ∧ n3 = (l.getD i []).length - j) ((l.getD i []).length - (0)) ?_ ?_
     ·
      exact ⟨s10, 0, ou, rfl, (F11.step0 D10.stp), ok12, (cvi (by (rfl)) (D10.dn 0 rfl rfl)), (cvt (by (first | rfl | omega | (simp_all; done) | (simp_all; omega))) (D10.kt q31 rfl)), (D10.kt q32 rfl), (D10.kt q33 rfl), hz, by omega, rfl⟩
     ·
      rintro n4 a16 w6 ⟨t6, j, ov, rfl, F13, ok13, q38, q39, q40, q41, hq, hj, rfl⟩
      have hvl : ov.length ≤ 2600 := by have h_ := congrArg List.length hq; rw [List.length_append, List.length_append] at h_; omega
      have hvs := bsL_size ov
      have hpj : j < (l.getD i []).length → 1 ≤ (l.getD i []).getD j 0 ∧ (l.getD i []).getD j 0 ≤ 12 := fun h_ => hpi2.2 _ (mem_getDD 0 h_)
      have hxs : (ByteArray.extract SIGNS ((l.getD i []).getD j 0 - 1).toNat ((l.getD i []).getD j 0 - 1 + 1).toNat).size ≤ 12 := by rw [ByteArray.size_extract]; have h_ := signs_size; omega
      refine wp_seq (wp_seq ?_)
      refine gI a16 t6 ok13 (gM q38 (gM q41 (gM q40 (gT (Ty.ref [(Ty.lst Ty.int (l.getD i []))]) rfl (fun A B G H I d0 d1 => rP (y_index1 Try.underlying22 Try.inf29 (ed d0 rfl rfl rfl) (ed d1 rfl rfl rfl) (by omega) (lst_get Ty.ints l [] i (by omega)))) (gS rfl (fun A B G H I d0 => rP (y_load Try.underlying29 rfl (ed d0 rfl rfl rfl) rfl)) (gS rfl (fun A B G H I d0 => rP (y_len Try.underlying29 (ed d0 rfl rfl rfl))) (gS rfl (fun A B G H I d0 d1 => rP (y_lss (ed d0 rfl rfl rfl) (ed d1 rfl rfl rfl))) (gE ok13 fun a17 s11 ok14 D11 => ?_)))))))); have F14 := F13.step0 D11.stp; have q42 := D11.kt q38 rfl; have q43 := D11.kt q39 rfl; have q44 := D11.kt q40 rfl; have q45 := D11.kt q41 rfl; refine tn ?_
      refine cond_p (p := (((j : Nat) : Int) < (((List.length (l.getD i [])) : Nat) : Int))) (D11.dn 6 rfl rfl) (fun c4 => ?_) (fun c4 => ?_)
      ·
       have hpj2 := hpj (by omega)
       refine wp_skip (tn (wp_seq (wp_block ?_)))
       refine gI a17 s11 ok14 (gM q43 (gM q45 (gM q44 (gT (Ty.ref [(Ty.lst Ty.int (l.getD i []))]) rfl (fun A B G H I d0 d1 => rP (y_index1 Try.underlying22 Try.inf29 (ed d0 rfl rfl rfl) (ed d1 rfl rfl rfl) (by omega) (lst_get Ty.ints l [] i (by omega)))) (gS rfl (fun A B G H I d0 => rP (y_load Try.underlying29 rfl (ed d0 rfl rfl rfl) rfl)) (gM q42 (gT (Ty.ref [(Ty.int ((l.getD i []).getD j 0))]) rfl (fun A B G H I d0 d1 => rP (y_index1 Try.underlying29 Try.inf3 (ed d0 rfl rfl rfl) (ed d1 rfl rfl rfl) (by omega) (lst_get Ty.int (l.getD i []) 0 j (by omega)))) (gS rfl (fun A B G H I d0 => rP (y_load Try.underlying3 rfl (ed d0 rfl rfl rfl) rfl)) (gT (Ty.int (((l.getD i []).getD j 0) - (1 : Int))) rfl (fun A B G H I d0 => rP (y_sub (ed d0 rfl rfl rfl) rfl (w64 (by omega) (by omega)))) (gS rfl (fun A B G H I d0 => rP (y_call _ Try.func38 rfl rfl my1 (rSignOf_fn ((((l.getD i []).getD j 0) - (1 : Int))) _ _ (cvi (σ := B) (by omega) (ed d0 rfl rfl rfl)) (by omega)))) (gT (Ty.val (Value.string ((bsL ov) ++ (ByteArray.extract SIGNS (((((l.getD i []).getD j 0) - (1 : Int)))).toNat (((((l.getD i []).getD j 0) - (1 : Int))) + 1).toNat)))) rfl (fun A B G H I d0 d1 => rP (y_scat (ed d0 rfl rfl rfl) (ed d1 rfl rfl rfl) (by omega))) (gB 0 (gE ok14 fun a18 s12 ok15 D12 => ?_))))))))))))); refine bn (tn ?_)
       refine gI a18 s12 ok15 (gM (D12.kt q42 rfl) (gT (Ty.nat (j + 1)) rfl (fun A B G H I d0 => rP ((y_add (ed d0 rfl rfl rfl) rfl (w64 (by omega) (by omega))).mono (fun τ _ h => cvi (σ := τ) (by first | omega | exact (Int.natCast_mul _ _).symm) h))) (gB 0 (gE ok15 fun a19 s13 ok16 D13 => ?_))))
       exact tn ⟨(l.getD i []).length - ((j + 1)), by omega, s13, (j + 1), (ov ++ [SIGNS.get! ((l.getD i []).getD j 0 - 1).toNat]), rfl, ((F14.step0 D12.stp).step0 D13.stp), ok16, (cvi (by (first | rfl | omega | (simp_all; done) | (simp_all; omega))) (D13.dn 2 rfl rfl)), (cvt (by (rw [bsL_app, sg_ext (by omega)])) (D13.kt (D12.dn 11 rfl rfl) rfl)), (D13.kt (D12.kt q44 rfl) rfl), (D13.kt (D12.kt q45 rfl) rfl), tx_s hq (by omega), by omega, rfl⟩
      ·
       refine wp_exit (tx (tx (bx (bn (tn ?_)))))
       refine gI a17 s11 ok14 (gM q44 (gT (Ty.nat (i + 1)) rfl (fun A B G H I d0 => rP ((y_add (ed d0 rfl rfl rfl) rfl (w64 (by omega) (by omega))).mono (fun τ _ h => cvi (σ := τ) (by first | omega | exact (Int.natCast_mul _ _).symm) h))) (gB 0 (gE ok14 fun a20 s14 ok17 D14 => ?_))))
       exact tn ⟨l.length - ((i + 1)), by omega, s14, (i + 1), ov, rfl, (F14.step0 D14.stp), ok17, (cvi (by (first | rfl | omega | (simp_all; done) | (simp_all; omega))) (D14.dn 2 rfl rfl)), (cvt (by (first | rfl | omega | (simp_all; done) | (simp_all; omega))) (D14.kt q43 rfl)), (D14.kt q45 rfl), tx_o hq (by omega) (by omega) hxn, by omega, rfl⟩
  ·
   have hfin := tx_end G (by omega)
   refine wp_exit (tx (tx (bx (tn (wp_seq ?_)))))
   refine gI a6 s4 ok5 (gM q11 (gB 0 (gE ok5 fun a21 s15 ok18 D15 => ?_))); refine tn (wp_ret ?_)
   exact retL1 rfl ok18 (F5.step0 D15.stp) (cvt (by (rw [← hT, ← hfin])) (D15.dn 1 rfl rfl))


set_option maxHeartbeats 4000000 in
set_option maxRecDepth 100000 in
theorem rSameAll_fn (a : List (List Int)) (b : List (List Int)) (σ : GW)  (v0 v1 : Value) (hv0 : Ty.has (Ty.lst Ty.ints a) σ v0) (hv1 : Ty.has (Ty.lst Ty.ints b) σ v1)   :
    FnC Try.prog 9 #[v0, v1] σ (Ty.bool (decide (a = b))) := by
 refine fn_intro0 Try.func9 rfl Try.ntmps9 (Nat.le_of_ble_eq_true rfl) (fun s0 a0 hle F0 ok0 hargs => ?_)
 have p0 := pA hle (hargs 0 _ rfl) hv0
 have b1 := sl_le p0
 have p1 := pA hle (hargs 1 _ rfl) hv1
 have b2 := sl_le p1
 clear hargs; refine wp_seq ?_
 refine gI a0 s0 ok0 (gC (Ty.bool false) (gE ok0 fun a1 s1 ok1 D1 => ?_)); have q1 := D1.kt p0 rfl; have q2 := D1.kt p1 rfl; refine tn (wp_seq (wp_seq ?_))
 refine gI a1 s1 ok1 (gM q1 (gS rfl (fun A B G H I d0 => rP (y_len Try.underlying22 (ed d0 rfl rfl rfl))) (gM q2 (gS rfl (fun A B G H I d0 => rP (y_len Try.underlying22 (ed d0 rfl rfl rfl))) (gS rfl (fun A B G H I d0 d1 => rP (y_neq (ed d0 rfl rfl rfl) (ed d1 rfl rfl rfl))) (gE ok1 fun a2 s2 ok2 D2 => ?_)))))); have F2 := (F0.step0 D1.stp).step0 D2.stp; refine tn ?_
 refine cond_p (p := ((((List.length a) : Nat) : Int) ≠ (((List.length b) : Nat) : Int))) (D2.dn 4 rfl rfl) (fun c1 => ?_) (fun c1 => ?_)
 ·
  refine wp_seq ?_
  refine gI a2 s2 ok2 (gC (Ty.bool false) (gE ok2 fun a3 s3 ok3 D3 => ?_)); refine tn (wp_ret (tr ?_))
  exact retL1 rfl ok3 (F2.step0 D3.stp) (cvb (by (rw [decide_eq_false]; intro e; subst e; omega)) (D3.dn 0 rfl rfl))
 ·
  refine wp_skip (tn (wp_seq (wp_seq ?_)))
  refine gI a2 s2 ok2 (gC (Ty.int (0 : Int)) (gE ok2 fun a4 s4 ok4 D4 => ?_)); refine tn (wp_block ?_)
  refine loop (fun n1 a5 w1 => ∃ (t1 : GW) (k : Nat), t1.w = w1 ∧ FromL [] s0 t1 ∧ Ok 29 [] a5 ∧ At (Ty.nat k) t1 a5 (.tmp 5) ∧ At (Ty.lst Ty.ints a) t1 a5 (.tmp 0) ∧ At (Ty.lst Ty.ints b) t1 a5 (.tmp 1) ∧ (k ≤ a.length) ∧ (a.length = b.length) ∧ (∀ j, j < k → a.getD j [] = b.getD j []) ∧ n1 = a.length - k) (a.length - (0)) ?_ ?_
  ·
   exact ⟨s4, 0, rfl, (F2.step0 D4.stp), ok4, (cvi (by (first | rfl | omega | (simp_all; done) | (simp_all; omega))) (D4.dn 0 rfl rfl)), (D4.kt (D2.kt q1 rfl) rfl), (D4.kt (D2.kt q2 rfl) rfl), by omega, by omega, fun j hj => absurd hj (Nat.not_lt_zero j), rfl⟩
  ·
   rintro n2 a6 w2 ⟨t2, k, rfl, F5, ok5, q10, q11, q12, hk, hl, heq, rfl⟩
   refine wp_seq (wp_seq ?_)
   refine gI a6 t2 ok5 (gM q10 (gM q11 (gS rfl (fun A B G H I d0 => rP (y_len Try.underlying22 (ed d0 rfl rfl rfl))) (gS rfl (fun A B G H I d0 d1 => rP (y_lss (ed d0 rfl rfl rfl) (ed d1 rfl rfl rfl))) (gE ok5 fun a7 s5 ok6 D5 => ?_))))); have F6 := F5.step0 D5.stp; have q13 := D5.kt q10 rfl; have q14 := D5.kt q11 rfl; have q15 := D5.kt q12 rfl; refine tn ?_
   refine cond_p (p := (((k : Nat) : Int) < (((List.length a) : Nat) : Int))) (D5.dn 3 rfl rfl) (fun c2 => ?_) (fun c2 => ?_)
   ·
    refine wp_skip (tn (wp_seq (wp_block (wp_seq ?_))))
    refine gI a7 s5 ok6 (gM q14 (gM q13 (gT (Ty.ref [(Ty.lst Ty.int (a.getD k []))]) rfl (fun A B G H I d0 d1 => rP (y_index1 Try.underlying22 Try.inf29 (ed d0 rfl rfl rfl) (ed d1 rfl rfl rfl) (by omega) (lst_get Ty.ints a [] k (by omega)))) (gS rfl (fun A B G H I d0 => rP (y_load Try.underlying29 rfl (ed d0 rfl rfl rfl) rfl)) (gM q15 (gM q13 (gT (Ty.ref [(Ty.lst Ty.int (b.getD k []))]) rfl (fun A B G H I d0 d1 => rP (y_index1 Try.underlying22 Try.inf29 (ed d0 rfl rfl rfl) (ed d1 rfl rfl rfl) (by omega) (lst_get Ty.ints b [] k (by omega)))) (gS rfl (fun A B G H I d0 => rP (y_load Try.underlying29 rfl (ed d0 rfl rfl rfl) rfl)) (gS rfl (fun A B G H I d0 d1 => rP (y_call _ Try.func13 rfl rfl my2 (rsame_fn ((a.getD k [])) ((b.getD k [])) _ _ _ (ed d0 rfl rfl rfl) (ed d1 rfl rfl rfl) ))) (gB 0 (gE ok6 fun a8 s6 ok7 D6 => ?_))))))))))); refine tn (wp_seq ?_)
    refine gI a8 s6 ok7 (gM (D6.dn 9 rfl rfl) (gS rfl (fun A B G H I d0 => rP (y_not (ed d0 rfl rfl rfl))) (gE ok7 fun a9 s7 ok8 D7 => ?_))); have F8 := (F6.step0 D6.stp).step0 D7.stp; refine tn ?_
    refine cond_t (D7.dn 1 rfl rfl) (fun c3 => ?_) (fun c3 => ?_)
    ·
     refine wp_seq ?_
     refine gI a9 s7 ok8 (gC (Ty.bool false) (gE ok8 fun a10 s8 ok9 D8 => ?_)); refine tn (wp_ret (br (tr (tr (br (tr ?_))))))
     exact retL1 rfl ok9 (F8.step0 D8.stp) (cvb (by (exact (decide_eq_false (fun e => by subst e; simp at c3)).symm)) (D8.dn 0 rfl rfl))
    ·
     refine wp_skip (bn (tn ?_))
     refine gI a9 s7 ok8 (gM (D7.kt (D6.kt q13 rfl) rfl) (gT (Ty.int (((k : Nat) : Int) + (1 : Int))) rfl (fun A B G H I d0 => rP (y_add (ed d0 rfl rfl rfl) rfl (w64 (by omega) (by omega)))) (gB 0 (gE ok8 fun a11 s9 ok10 D9 => ?_))))
     exact tn ⟨a.length - ((k+1)), by omega, s9, (k+1), rfl, (F8.step0 D9.stp), ok10, (cvi (by (first | rfl | omega | (simp_all; done) | (simp_all; omega))) (D9.dn 2 rfl rfl)), (D9.kt (D7.kt (D6.kt q14 rfl) rfl) rfl), (D9.kt (D7.kt (D6.kt q15 rfl) rfl) rfl), by omega, by omega, all_snocs heq (by simpa using c3), rfl⟩
   ·
    refine wp_exit (tx (tx (bx (tn (wp_seq ?_)))))
    refine gI a7 s5 ok6 (gC (Ty.bool true) (gE ok6 fun a12 s10 ok11 D10 => ?_)); refine tn (wp_ret ?_)
    exact retL1 rfl ok11 (F6.step0 D10.stp) (cvb (by (exact (decide_eq_true (lists_ext (by omega) (fun j hj => heq j (by omega)))).symm)) (D10.dn 0 rfl rfl))


end Go.Proofs.Ytdjihbjikpbhgaa
