/- The functions that the law MethodSays reaches, each by its contract. Part 8. -/
import Derived.Test.YtdjihbjikpbhgaaGreatDoorMethodSaysW7
namespace Go.Proofs.YtdjihbjikpbhgaaGreatDoor
open Go.KL

theorem Tryz.fld107_1 : fieldOf Tryz.prog 107 1 = some (22, 1) := by kernel_rfl
theorem Tryz.fld107_3 : fieldOf Tryz.prog 107 3 = some (4, 3) := by kernel_rfl
set_option maxHeartbeats 4000000 in
set_option maxRecDepth 100000 in
theorem end_fn (r av bv sv : Value) (n : Int) (all : List (List Int)) (blk : List (List Int)) (mir : Bool) (dot : Bool) (ql : List Int) (σ : GW) (hlow : Low [40, 41, 42, 43] σ) (v0 : Value) (hv0 : Ty.has (Ty.val r) σ v0) (ho_r : OwnP σ 40 r [(Ty.int n), (Ty.val av), (Ty.val bv), (Ty.bool mir), (Ty.val sv), (Ty.bool (!(List.isEmpty ql))), (Ty.bool dot)]) (ho_av : Own σ 41 30 1 av (List.length all) (List.map Ty.ints all)) (ho_bv : Own σ 42 30 1 bv (List.length blk) (List.map Ty.ints blk)) (ho_sv : Own σ 43 3 1 sv (List.length ql) (List.map Ty.int ql)) (hbe : ∀ x ∈ blk, x.length ≤ 20000) (ha : all.length ≤ 1000) (hb : blk.length ≤ 200) (hn : 1 ≤ n ∧ n ≤ 12) (H : ql.length ≤ 10000) (hsv : ∀ k, k < ql.length → 1 ≤ ql.getD k 0 ∧ ql.getD k 0 ≤ 12) :
    FnP Tryz.prog 82 #[v0] σ [40, 41, 42, 43] (fun v τ => ∃ (az : Value), ∃ (bz : Value), ∃ (sz : Value), True ∧ (OwnP τ 40 r [(Ty.int n), (Ty.val az), (Ty.val bz), (Ty.bool false), (Ty.val sz), (Ty.bool false), (Ty.bool false)]) ∧ (Own τ 41 30 1 az (List.length (enA n (PSt.mk all blk mir ql dot))) (List.map Ty.ints (enA n (PSt.mk all blk mir ql dot)))) ∧ (Own τ 42 30 1 bz (List.length ([] : List (List Int))) (List.map Ty.ints ([] : List (List Int)))) ∧ (Own τ 43 3 1 sz (List.length ([] : List Int)) (List.map Ty.int ([] : List Int))) ∧ ((enE n (PSt.mk all blk mir ql dot)) = 0)) (fun c_ => c_ = fltC 103 (enE n (PSt.mk all blk mir ql dot)) ∧ (enE n (PSt.mk all blk mir ql dot)) ≠ 0) := by
 obtain ⟨B, hB⟩ : ∃ B, B = clB n blk ql := ⟨_, rfl⟩
 have hBl : B.length ≤ blk.length + 1 := by rw [hB]; exact clB_len
 have hBe : ∀ x ∈ B, x.length ≤ 20000 := by rw [hB]; exact clB_el hbe (by omega)
 refine fn_introP hlow Tryz.func82 rfl Tryz.ntmps82 (Nat.le_of_ble_eq_true rfl) (fun a0 F0 ok0 hargs => ?_)
 have p0 := pB (hargs 0 _ rfl) hv0
 clear hargs; refine wp_seq ?_
 refine gI a0 σ ok0 (gM p0 (gE2 ok0 fun a1 s1 ok1 D1 => ?_)); have F1 := F0.step0 D1.stp; have o1 := OwnP.k0 ho_r D1.stp; have o2 := Own.k0 ho_av D1.stp; have o3 := Own.k0 ho_bv D1.stp; have o4 := Own.k0 ho_sv D1.stp
 refine tailP (L := [40, 42, 43]) (R := (fun v τ' => ∃ τ, (fun v τ => ∃ (bz : Value), ∃ (sz : Value), True ∧ (OwnP τ 40 r [(Ty.int n), (Ty.val av), (Ty.val bz), (Ty.bool mir), (Ty.val sz), (Ty.bool false), (Ty.bool (clD ql dot))]) ∧ (Own τ 42 30 1 bz (List.length (clB n blk ql)) (List.map Ty.ints (clB n blk ql))) ∧ (Own τ 43 3 1 sz (List.length ([] : List Int)) (List.map Ty.int ([] : List Int))) ∧ ((clE n blk ql) = 0)) v τ ∧ Back [(40, 40), (42, 42), (43, 43)] τ τ')) (E := (fun c_ => c_ = fltC 103 (clE n blk ql) ∧ (clE n blk ql) ≠ 0)) rfl rfl (by decide) ok1 (y_callP (L := [40, 42, 43]) [(40, 40), (42, 42), (43, 43)] [(40, 40), (42, 42), (43, 43)] #[a1.eval (.tmp 4)] rfl (by decide) Tryz.func100 rfl rfl (by simp only [List.map_toArray, List.map_cons, List.map_nil]) (close_fn (r) (av) (bv) (sv) (n) (blk) (mir) (dot) (ql) _ (GW.low_lend _ (by decide)) _ (Ty.up _ (GW.le_lend _ _) (D1.dn 0 (by decide) rfl rfl)) (OwnP.ren o1 (GW.ren_lend _ _ (by decide) rfl)) (Own.ren o3 (GW.ren_lend _ _ (by decide) rfl)) (Own.ren o4 (GW.ren_lend _ _ (by decide) rfl)) (by omega) (by omega) (by omega) (by omega))) (fun c_ t_ hs_ he_ => panB ok1 (F1.stepL hs_ (by decide)) (fltTo (fun h_ => by exact enE_1 h_) he_)) (fun a2 s2 hs1 ok2 r1 sm1 => ?_)
 have F2 := F1.stepL hs1 (by decide); have q3 := kpL hs1 (by decide) (sm1 0 (by decide)) (D1.kt p0 rfl); have o11 := Own.keepL o2 hs1 (by decide) (by decide)
 obtain ⟨t1, ⟨x1, x2, hT1, o5, o6, o7, hp1⟩, B1⟩ := r1
 have o8 : OwnP s2 40 r [(Ty.int n), (Ty.val av), (Ty.val x1), (Ty.bool mir), (Ty.val x2), (Ty.bool false), (Ty.bool (clD ql dot))] := OwnP.ren o5 (B1.ren (by decide) rfl)
 have o9 : Own s2 42 30 1 x1 (List.length (clB n blk ql)) (List.map Ty.ints (clB n blk ql)) := Own.ren o6 (B1.ren (by decide) rfl)
 have o10 : Own s2 43 3 1 x2 (List.length ([] : List Int)) (List.map Ty.int ([] : List Int)) := Own.ren o7 (B1.ren (by decide) rfl)
 refine wpList_nil ?_
 have o12 : Own s2 42 30 1 x1 (List.length B) (List.map Ty.ints B) := (cvo (by (rw [hB])) (by (rw [hB])) o9)
 refine tn (wp_seq (wp_seq ?_))
 refine gI a2 s2 ok2 (gM q3 (gT (Ty.val r) rfl (fun A G H I J d0 => rP (y_nilp (OwnP.k0 o8 H) (ed d0 rfl rfl rfl))) (gT (Ty.val (ptrAt r 6)) rfl (fun A G H I J d0 => rP (ownp_field Tryz.fld107_6 Tryz.inf4 (by decide) (OwnP.k0 o8 H) (ed d0 rfl rfl rfl))) (gS rfl (fun A G H I J d0 => rP (ownp_load Tryz.underlying4 rfl (OwnP.k0 o8 H) (ed d0 rfl rfl rfl) rfl)) (gS rfl (fun A G H I J d0 => rP (y_not (ed d0 rfl rfl rfl))) (gE ok2 fun a3 s3 ok3 D2 => ?_)))))); have F3 := F2.step0 D2.stp; have q5 := D2.kt q3 rfl; have o13 := Own.k0 o11 D2.stp; have o14 := OwnP.k0 o8 D2.stp; have o15 := Own.k0 o12 D2.stp; have o16 := Own.k0 o10 D2.stp; refine tn ?_
 refine cond_t (D2.dn 4 rfl rfl) (fun c1 => ?_) (fun c1 => ?_)
 ·
  have hdd : clD ql dot = false := (by simpa using c1)
  refine gI a3 s3 ok3 (gE2 ok3 fun a4 s4 ok4 D3 => ?_); have F4 := F3.step0 D3.stp; have o17 := Own.k0 o13 D3.stp; have o18 := OwnP.k0 o14 D3.stp; have o19 := Own.k0 o15 D3.stp; have o20 := Own.k0 o16 D3.stp
  refine tailP (L := []) (R := (fun v τ' => ∃ τ, (fun v τ => True ∧ (((5 : Int)) = 0)) v τ ∧ Back [] τ τ')) (E := (fun c_ => c_ = fltC 103 ((5 : Int)) ∧ ((5 : Int)) ≠ 0)) rfl rfl (by decide) ok4 (y_callP (L := []) [] [] #[a4.eval ((Operand.const (Value.int IntKind.i64 5)))] rfl (by decide) Tryz.func102 rfl rfl (by simp only [List.map_toArray, List.map_cons, List.map_nil]) (fail_fn ((5 : Int)) _ (GW.low_lend _ (by decide)) _ (Ty.up _ (GW.le_lend _ _) (cvi (σ := s4) (by omega) rfl))  (by omega))) (fun c_ t_ hs_ he_ => panB ok4 (F4.stepL hs_ (by decide)) (fltTo (fun h_ => by exact enE_2 hp1 hdd) he_)) (fun a5 s5 hs2 ok5 r2 sm2 => ?_)
  have F5 := F4.stepL hs2 (by decide); have q8 := kpL hs2 (by decide) (sm2 0 (by decide)) (D3.kt q5 rfl); have o21 := Own.keepL o17 hs2 (by decide) (by decide); have o22 := OwnP.keepL o18 hs2 (by decide) (by decide); have o23 := Own.keepL o19 hs2 (by decide) (by decide); have o24 := Own.keepL o20 hs2 (by decide) (by decide)
  obtain ⟨t2, ⟨hT2, hp2⟩, B2⟩ := r2
  exact absurd hp2 (by first | decide | assumption | omega)
 ·
  have hdd : clD ql dot = true := (by simpa using c1)
  refine wp_skip (tn (wp_seq ?_))
  refine gI a3 s3 ok3 (gM q5 (gT (Ty.val r) rfl (fun A G H I J d0 => rP (y_nilp (OwnP.k0 o14 H) (ed d0 rfl rfl rfl))) (gT (Ty.val (ptrAt r 2)) rfl (fun A G H I J d0 => rP (ownp_field Tryz.fld107_2 Tryz.inf22 (by decide) (OwnP.k0 o14 H) (ed d0 rfl rfl rfl))) (gS rfl (fun A G H I J d0 => rP (ownp_load Tryz.underlying22 rfl (OwnP.k0 o14 H) (ed d0 rfl rfl rfl) rfl)) (gB 0 (gE ok3 fun a6 s6 ok6 D4 => ?_)))))); have q10 := D4.kt q5 rfl; have o25 := Own.k0 o13 D4.stp; have o26 := OwnP.k0 o14 D4.stp; have o27 := Own.k0 o15 D4.stp; have o28 := Own.k0 o16 D4.stp
  have q11 : At (Ty.val x1) s6 a6 (.tmp 2) := D4.done 4
  refine tn (wp_seq (wp_seq ?_))
  refine gI a6 s6 ok6 (gM q10 (gT (Ty.val r) rfl (fun A G H I J d0 => rP (y_nilp (OwnP.k0 o26 H) (ed d0 rfl rfl rfl))) (gT (Ty.val (ptrAt r 3)) rfl (fun A G H I J d0 => rP (ownp_field Tryz.fld107_3 Tryz.inf4 (by decide) (OwnP.k0 o26 H) (ed d0 rfl rfl rfl))) (gS rfl (fun A G H I J d0 => rP (ownp_load Tryz.underlying4 rfl (OwnP.k0 o26 H) (ed d0 rfl rfl rfl) rfl)) (gE ok6 fun a7 s7 ok7 D5 => ?_))))); have F7 := (F3.step0 D4.stp).step0 D5.stp; have q12 := D5.kt q10 rfl; have q13 := D5.kt q11 rfl; have o29 := Own.k0 o25 D5.stp; have o30 := OwnP.k0 o26 D5.stp; have o31 := Own.k0 o27 D5.stp; have o32 := Own.k0 o28 D5.stp; have q14 := D5.dn 3 rfl rfl; refine tn ?_
  refine cond_t q14 (fun c2 => ?_) (fun c2 => ?_)
  ·
   have hmi : mir = true := c2
   refine wp_seq ?_
   refine gI a7 s7 ok7 (gM q13 (gT (Ty.nat (List.length B)) rfl (fun A G H I J d0 => rP (own_len Tryz.underlying22 (al (R := (Pr.own 42 30 1 (List.length B) (List.map Ty.ints B))) (ed d0 rfl rfl rfl) (Own.k0 o31 H)))) (gT (Ty.int ((((List.length B) : Nat) : Int) - (2 : Int))) rfl (fun A G H I J d0 => rP (y_sub (ed d0 rfl rfl rfl) rfl (w64 (by omega) (by omega)))) (gB 0 (gE ok7 fun a8 s8 ok8 D6 => ?_))))); have o33 := Own.k0 o29 D6.stp; have o34 := OwnP.k0 o30 D6.stp; have o35 := Own.k0 o31 D6.stp; have o36 := Own.k0 o32 D6.stp; refine tn (wp_block ?_)
   refine loop (fun n1 a9 w1 => ∃ (t3 : GW) (k : Nat) (x2_0 : Value), t3.w = w1 ∧ FromL [40, 41, 42, 43] σ t3 ∧ Ok 60 [] a9 ∧ At (Ty.int (((B.length : Nat) : Int) - 2 - ((k : Nat) : Int))) t3 a9 (.tmp 3) ∧ At (Ty.val x2_0) t3 a9 (.tmp 2) ∧ At (Ty.val r) t3 a9 (.tmp 0) ∧ Own t3 42 30 1 x2_0 (List.length (B ++ mirP B k)) (List.map Ty.ints (B ++ mirP B k)) ∧ Own t3 41 30 1 av (List.length all) (List.map Ty.ints all) ∧ OwnP t3 40 r [(Ty.int n), (Ty.val av), (Ty.val x1), (Ty.bool mir), (Ty.val x2), (Ty.bool false), (Ty.bool (clD ql dot))] ∧ Own t3 43 3 1 x2 (List.length ([] : List Int)) (List.map Ty.int ([] : List Int)) ∧ (k ≤ B.length) ∧ n1 = B.length - k) (B.length - (0)) ?_ ?_
   ·
    exact ⟨s8, 0, x1, rfl, (F7.step0 D6.stp), ok8, (cvi (by (omega)) (D6.dn 3 rfl rfl)), (D6.kt q13 rfl), (D6.kt q12 rfl), (cvo (by (first | rfl | (rw [mirP_0, List.append_nil]))) (by (first | rfl | (rw [mirP_0, List.append_nil]))) o35), o33, o34, o36, by omega, rfl⟩
   ·
    rintro n2 a10 w2 ⟨t4, k, x2_0, rfl, F9, ok9, q18, q19, q20, o37, o38, o39, o40, hk, rfl⟩
    refine wp_seq (wp_seq ?_)
    refine gI a10 t4 ok9 (gM q18 (gS rfl (fun A G H I J d0 => rP (y_geq (ed d0 rfl rfl rfl) rfl)) (gE ok9 fun a11 s9 ok10 D7 => ?_))); have F10 := F9.step0 D7.stp; have q21 := D7.kt q18 rfl; have q22 := D7.kt q19 rfl; have q23 := D7.kt q20 rfl; have o41 := Own.k0 o37 D7.stp; have o42 := Own.k0 o38 D7.stp; have o43 := OwnP.k0 o39 D7.stp; have o44 := Own.k0 o40 D7.stp; have q24 := D7.dn 1 rfl rfl; refine tn ?_
    refine cond_p (p := ((0 : Int) ≤ (((B.length : Nat) : Int) - 2 - ((k : Nat) : Int)))) q24 (fun c3 => ?_) (fun c3 => ?_)
    ·
     have hk2 : k + 2 ≤ B.length := (by omega); have hce : ((B ++ mirP B k).getD ((((B.length : Nat) : Int) - 2 - ((k : Nat) : Int))).toNat []).length ≤ 1000000 := (by rw [mir_el hk2 rfl]; have h_ := el_len (j := B.length - 2 - k) hBe; omega); have hBk : (B ++ mirP B k).length = B.length + k := (by rw [List.length_append, mirP_len (by omega)])
     refine wp_skip (tn (wp_seq (wp_block ?_)))
     refine gI a11 s9 ok10 (gM q22 (gM q22 (gM q21 (gT (Ty.val (cellPtr x2_0 ((((B.length : Nat) : Int) - 2 - ((k : Nat) : Int))).toNat)) rfl (fun A G H I J d0 d1 => rP (own_index1 (i := (((B.length : Nat) : Int) - 2 - ((k : Nat) : Int))) Tryz.underlying22 Tryz.inf30 (Own.k0 o41 H) (ed d0 rfl rfl rfl) (ed d1 rfl rfl rfl) (by omega) (by omega))) (gS rfl (fun A G H I J d0 => rP (own_load Tryz.underlying30 rfl (Own.k0 o41 H) (ed d0 rfl rfl rfl) (lst_get Ty.ints (B ++ mirP B k) [] ((((B.length : Nat) : Int) - 2 - ((k : Nat) : Int))).toNat (by omega)))) (gS rfl (fun A G H I J d0 => rP (y_call _ Tryz.func104 rfl rfl my1 (cloneS_fn (((B ++ mirP B k).getD ((((B.length : Nat) : Int) - 2 - ((k : Nat) : Int))).toNat [])) _ _ (ed d0 rfl rfl rfl) (by omega)))) (gT (Ty.sl 1 1 [(Ty.lst Ty.int (((B ++ mirP B k).getD ((((B.length : Nat) : Int) - 2 - ((k : Nat) : Int))).toNat [])))]) rfl (fun A G H I J d0 => rP (y_build1o Tryz.underlying22 Tryz.inf30 rfl (one_sl) (ed d0 rfl rfl rfl))) (gE2 ok10 fun a12 s10 ok11 D8 => ?_)))))))); have o45 := Own.k0 o41 D8.stp; have o46 := Own.k0 o42 D8.stp; have o47 := OwnP.k0 o43 D8.stp; have o48 := Own.k0 o44 D8.stp
     have q28 : At (Ty.val x2_0) s10 a12 (.tmp 27) := D8.done 0 (by decide)
     have q29 := D8.dn 6 (by decide) rfl rfl
     have b1 := sl_le q29
     refine tL ok11 (YldM.toL (m_append Tryz.underlying22 Tryz.inf30 (by decide) rfl (by decide) (al (R := (Pr.own 42 30 1 (List.length (B ++ mirP B k)) (List.map Ty.ints (B ++ mirP B k)))) q28 o45) q29 (by intro U hU; simp at hU; subst hU; exact one_sl) (by omega) (by omega))) fun a13 s11 hs3 ok12 r3 sm3 => ?_
     have F12 := (F10.step0 D8.stp).stepL hs3 (by decide); have q30 := kpL hs3 (by decide) (sm3 3 (by decide)) (D8.kt q21 rfl); have q31 := kpL hs3 (by decide) (sm3 2 (by decide)) (D8.kt q22 rfl); have q32 := kpL hs3 (by decide) (sm3 0 (by decide)) (D8.kt q23 rfl); have o50 := Own.keepL o46 hs3 (by decide) (by decide); have o51 := OwnP.keepL o47 hs3 (by decide) (by decide); have o52 := Own.keepL o48 hs3 (by decide) (by decide)
     obtain ⟨x3, hx1⟩ : ∃ x, a13.eval (.tmp 34) = x := ⟨_, rfl⟩
     have q33 : At (Ty.val x3) s11 a13 (.tmp 34) := hx1
     have o49 := al2 (R := (Pr.own 42 30 1 (List.length ((B ++ mirP B k) ++ [(((B ++ mirP B k).getD ((((B.length : Nat) : Int) - 2 - ((k : Nat) : Int))).toNat []))])) (List.map Ty.ints ((B ++ mirP B k) ++ [(((B ++ mirP B k).getD ((((B.length : Nat) : Int) - 2 - ((k : Nat) : Int))).toNat []))])))) hx1 (cvo (by first | (simp; done) | (simp; omega)) (by first | (rw [List.map_append]; rfl) | simp) r3)
     clear r3
     refine tL ok12 (Yld.toL (y_as q33)) fun a14 s12 hs4 ok13 r4 sm4 => ?_
     have F13 := F12.stepL hs4 (by decide); have q34 := kpL hs4 (by decide) (sm4 3 (by decide)) q30; have q35 := kpL hs4 (by decide) (sm4 0 (by decide)) q32; have o53 := Own.keepL o50 hs4 (by decide) (by decide); have o54 := OwnP.keepL o51 hs4 (by decide) (by decide); have o55 := Own.keepL o52 hs4 (by decide) (by decide); have o56 := Own.keepL o49 hs4 (by decide) (by decide)
     have q36 : At (Ty.val x3) s12 a14 (.tmp 2) := r4
     clear r4; refine wpList_nil (bn (tn ?_))
     refine gI a14 s12 ok13 (gM q34 (gT (Ty.int ((((B.length : Nat) : Int) - 2 - ((k : Nat) : Int)) - (1 : Int))) rfl (fun A G H I J d0 => rP (y_sub (ed d0 rfl rfl rfl) rfl (w64 (by omega) (by omega)))) (gB 0 (gE ok13 fun a15 s13 ok14 D9 => ?_)))); have o57 := Own.k0 o53 D9.stp; have o58 := OwnP.k0 o54 D9.stp; have o59 := Own.k0 o55 D9.stp; have o60 := Own.k0 o56 D9.stp
     exact tn ⟨B.length - ((k + 1)), by omega, s13, (k + 1), x3, rfl, (F13.step0 D9.stp), ok14, (cvi (by (omega)) (D9.dn 2 rfl rfl)), (D9.kt q36 rfl), (D9.kt q35 rfl), (cvo (by (first | (rw [mirP_succ hk2, ← List.append_assoc, mir_el hk2 rfl]; done) | (rw [mirP_succ hk2, ← List.append_assoc, mir_el hk2 rfl]))) (by (first | (rw [mirP_succ hk2, ← List.append_assoc, mir_el hk2 rfl]; done) | (rw [mirP_succ hk2, ← List.append_assoc, mir_el hk2 rfl]))) o60), o57, o58, o59, by omega, rfl⟩
    ·
     have hML : B ++ mirP B k = mirL mir B := (by rw [hmi]; exact mirL_all (by omega)); have hBk : (B ++ mirP B k).length ≤ 2 * B.length := (by rw [hML]; exact mirL_len)
     refine wp_exit (tx (tx (bx (tn (wp_seq ?_)))))
     obtain ⟨t5, e1, h1, q40⟩ := Own.seal o41 (by decide)
     rw [← e1]
     have F15 := F10.step h1 (by decide); have o61 := Own.keepL o42 (h1.toL (L := [42]) (by simp)) (by decide) (by decide); have o62 := OwnP.keepL o43 (h1.toL (L := [42]) (by simp)) (by decide) (by decide); have o63 := Own.keepL o44 (h1.toL (L := [42]) (by simp)) (by decide) (by decide); have q41 := Ty.up (Ty.int (((B.length : Nat) : Int) - 2 - ((k : Nat) : Int))) (h1.le (by decide)) q21
     have q42 : At (Ty.lst Ty.ints (B ++ mirP B k)) t5 a11 (.tmp 2) := by have e : a11.eval (.tmp 2) = x2_0 := q22; show Ty.has _ _ _; rw [e]; exact q40
     have q43 := Ty.up (Ty.val r) (h1.le (by decide)) q23; have q44 := Ty.up (Ty.bool (decide ((0 : Int) ≤ (((B.length : Nat) : Int) - 2 - ((k : Nat) : Int))))) (h1.le (by decide)) q24
     refine gI a11 t5 ok10 (gM q43 (gM q43 (gT (Ty.val r) rfl (fun A G H I J d0 => rP (y_nilp (OwnP.k0 o62 H) (ed d0 rfl rfl rfl))) (gT (Ty.val (ptrAt r 1)) rfl (fun A G H I J d0 => rP (ownp_field Tryz.fld107_1 Tryz.inf22 (by decide) (OwnP.k0 o62 H) (ed d0 rfl rfl rfl))) (gS rfl (fun A G H I J d0 => rP (ownp_load Tryz.underlying22 rfl (OwnP.k0 o62 H) (ed d0 rfl rfl rfl) rfl)) (gM q42 (gE2 ok10 fun a16 s14 ok15 D10 => ?_))))))); have o64 := Own.k0 o61 D10.stp; have o65 := OwnP.k0 o62 D10.stp; have o66 := Own.k0 o63 D10.stp
     refine tL ok15 (YldM.toL (m_append Tryz.underlying22 Tryz.inf30 (by decide) rfl (by decide) (al (R := (Pr.own 41 30 1 (List.length all) (List.map Ty.ints all))) (D10.dn 4 (by decide) rfl rfl) o64) (D10.dn 5 (by decide) rfl rfl) (one_map (fun _ => one_sl)) (by omega) (by omega))) fun a17 s15 hs5 ok16 r5 sm5 => ?_
     have F17 := (F15.step0 D10.stp).stepL hs5 (by decide); have q49 := kpL hs5 (by decide) (sm5 0 (by decide)) (D10.kt q43 rfl); have q50 := kpL hs5 (by decide) (sm5 35 (by decide)) (D10.dn 0 (by decide) rfl rfl); have o68 := OwnP.keepL o65 hs5 (by decide) (by decide); have o69 := Own.keepL o66 hs5 (by decide) (by decide)
     obtain ⟨x4, hx2⟩ : ∃ x, a17.eval (.tmp 41) = x := ⟨_, rfl⟩
     have q51 : At (Ty.val x4) s15 a17 (.tmp 41) := hx2
     have o67 := al2 (R := (Pr.own 41 30 1 (List.length (all ++ (B ++ mirP B k))) (List.map Ty.ints (all ++ (B ++ mirP B k))))) hx2 (cvo (by simp) (by first | (rw [List.map_append]; rfl) | simp) r5)
     clear r5
     refine tL (R := (fun v τ => Pr.has (Ty.pr (Ty.val r)) τ v)) ok16 (Yld.toL (y_nilp o68 q50)) fun a18 s16 hs6 ok17 r6 sm6 => ?_
     have F18 := F17.stepL hs6 (by decide); have q52 := kpL hs6 (by decide) (sm6 0 (by decide)) q49; have q53 := kpL hs6 (by decide) (sm6 41 (by decide)) q51; have o70 := OwnP.keepL o68 hs6 (by decide) (by decide); have o71 := Own.keepL o69 hs6 (by decide) (by decide); have o72 := Own.keepL o67 hs6 (by decide) (by decide)
     have q54 : At (Ty.val r) s16 a18 (.tmp 42) := r6
     clear r6
     refine tL (R := (fun v τ => Pr.has (Ty.pr (Ty.val (ptrAt r 1))) τ v)) ok17 (Yld.toL (ownp_field Tryz.fld107_1 Tryz.inf22 (by decide) o70 q54)) fun a19 s17 hs7 ok18 r7 sm7 => ?_
     have F19 := F18.stepL hs7 (by decide); have q55 := kpL hs7 (by decide) (sm7 0 (by decide)) q52; have q56 := kpL hs7 (by decide) (sm7 41 (by decide)) q53; have o73 := OwnP.keepL o70 hs7 (by decide) (by decide); have o74 := Own.keepL o71 hs7 (by decide) (by decide); have o75 := Own.keepL o72 hs7 (by decide) (by decide)
     have q57 : At (Ty.val (ptrAt r 1)) s17 a19 (.tmp 43) := r7
     clear r7
     refine tailL0 (L := [40]) (R := (fun _ τ => OwnP τ 40 r ([(Ty.int n), (Ty.val av), (Ty.val x1), (Ty.bool mir), (Ty.val x2), (Ty.bool false), (Ty.bool (clD ql dot))].set 1 (Ty.val x4)))) rfl rfl (YldM.toL (m_storep Tryz.inf22 (by decide) o73 q57 (Nat.le_of_ble_eq_true rfl) q56 (one_val (Own.one o75)))) (fun v1 s18 hs8 r8 => ?_)
     have F20 := F19.stepL hs8 (by decide); have q58 := kpL hs8 (by decide) rfl q55; have o77 := Own.keepL o74 hs8 (by decide) (by decide); have o78 := Own.keepL o75 hs8 (by decide) (by decide)
     have o76 : OwnP s18 40 r [(Ty.int n), (Ty.val x4), (Ty.val x1), (Ty.bool mir), (Ty.val x2), (Ty.bool false), (Ty.bool (clD ql dot))] := r8
     clear r8; refine wpList_nil (tn (wp_seq ?_))
     refine gI a19 s18 ok18 (gM q58 (gM q58 (gM q58 (gT (Ty.val r) rfl (fun A G H I J d0 d1 d2 d3 => rP (y_nilp (OwnP.k0 o76 H) (ed d0 rfl rfl rfl))) (gT (Ty.val (ptrAt r 2)) rfl (fun A G H I J d0 d1 d2 d3 => rP (ownp_field Tryz.fld107_2 Tryz.inf22 (by decide) (OwnP.k0 o76 H) (ed d0 rfl rfl rfl))) (gE2 ok18 fun a20 s19 ok19 D11 => ?_)))))); have o79 := Own.k0 o77 D11.stp; have o80 := Own.k0 o78 D11.stp; have o81 := OwnP.k0 o76 D11.stp
     refine tailL0 (L := [40]) (R := (fun _ τ => OwnP τ 40 r ([(Ty.int n), (Ty.val x4), (Ty.val x1), (Ty.bool mir), (Ty.val x2), (Ty.bool false), (Ty.bool (clD ql dot))].set 2 (Ty.val (Value.slice none 0 0))))) rfl rfl (YldM.toL (m_storep Tryz.inf22 (by decide) o81 (D11.dn 4 (by decide) rfl rfl) (Nat.le_of_ble_eq_true rfl) rfl (one_val rfl))) (fun v2 s20 hs9 r9 => ?_)
     have F22 := (F20.step0 D11.stp).stepL hs9 (by decide); have q64 := kpL hs9 (by decide) rfl (D11.kt q58 rfl); have q65 := kpL hs9 (by decide) rfl (D11.dn 1 (by decide) rfl rfl); have q66 := kpL hs9 (by decide) rfl (D11.dn 2 (by decide) rfl rfl); have o83 := Own.keepL o79 hs9 (by decide) (by decide); have o84 := Own.keepL o80 hs9 (by decide) (by decide)
     have o82 : OwnP s20 40 r [(Ty.int n), (Ty.val x4), (Ty.val (Value.slice none 0 0)), (Ty.bool mir), (Ty.val x2), (Ty.bool false), (Ty.bool (clD ql dot))] := r9
     clear r9
     refine tL (R := (fun v τ => Pr.has (Ty.pr (Ty.val r)) τ v)) ok19 (Yld.toL (y_nilp o82 q65)) fun a21 s21 hs10 ok20 r10 sm8 => ?_
     have F23 := F22.stepL hs10 (by decide); have q68 := kpL hs10 (by decide) (sm8 0 (by decide)) q64; have q69 := kpL hs10 (by decide) (sm8 46 (by decide)) q66; have o85 := Own.keepL o83 hs10 (by decide) (by decide); have o86 := Own.keepL o84 hs10 (by decide) (by decide); have o87 := OwnP.keepL o82 hs10 (by decide) (by decide)
     have q70 : At (Ty.val r) s21 a21 (.tmp 49) := r10
     clear r10
     refine tL (R := (fun v τ => Pr.has (Ty.pr (Ty.val (ptrAt r 3))) τ v)) ok20 (Yld.toL (ownp_field Tryz.fld107_3 Tryz.inf4 (by decide) o87 q70)) fun a22 s22 hs11 ok21 r11 sm9 => ?_
     have F24 := F23.stepL hs11 (by decide); have q71 := kpL hs11 (by decide) (sm9 0 (by decide)) q68; have q72 := kpL hs11 (by decide) (sm9 46 (by decide)) q69; have o88 := Own.keepL o85 hs11 (by decide) (by decide); have o89 := Own.keepL o86 hs11 (by decide) (by decide); have o90 := OwnP.keepL o87 hs11 (by decide) (by decide)
     have q73 : At (Ty.val (ptrAt r 3)) s22 a22 (.tmp 50) := r11
     clear r11
     refine tailL0 (L := [40]) (R := (fun _ τ => OwnP τ 40 r ([(Ty.int n), (Ty.val x4), (Ty.val (Value.slice none 0 0)), (Ty.bool mir), (Ty.val x2), (Ty.bool false), (Ty.bool (clD ql dot))].set 3 (Ty.bool false)))) rfl rfl (YldM.toL (m_storep Tryz.inf4 (by decide) o90 q73 (Nat.le_of_ble_eq_true rfl) rfl (one_val rfl))) (fun v3 s23 hs12 r12 => ?_)
     have F25 := F24.stepL hs12 (by decide); have q74 := kpL hs12 (by decide) rfl q71; have q75 := kpL hs12 (by decide) rfl q72; have o92 := Own.keepL o88 hs12 (by decide) (by decide); have o93 := Own.keepL o89 hs12 (by decide) (by decide)
     have o91 : OwnP s23 40 r [(Ty.int n), (Ty.val x4), (Ty.val (Value.slice none 0 0)), (Ty.bool false), (Ty.val x2), (Ty.bool false), (Ty.bool (clD ql dot))] := r12
     clear r12
     refine tL (R := (fun v τ => Pr.has (Ty.pr (Ty.val r)) τ v)) ok21 (Yld.toL (y_nilp o91 q75)) fun a23 s24 hs13 ok22 r13 sm10 => ?_
     have F26 := F25.stepL hs13 (by decide); have q77 := kpL hs13 (by decide) (sm10 0 (by decide)) q74; have o94 := Own.keepL o92 hs13 (by decide) (by decide); have o95 := Own.keepL o93 hs13 (by decide) (by decide); have o96 := OwnP.keepL o91 hs13 (by decide) (by decide)
     have q78 : At (Ty.val r) s24 a23 (.tmp 51) := r13
     clear r13
     refine tL (R := (fun v τ => Pr.has (Ty.pr (Ty.val (ptrAt r 6))) τ v)) ok22 (Yld.toL (ownp_field Tryz.fld107_6 Tryz.inf4 (by decide) o96 q78)) fun a24 s25 hs14 ok23 r14 sm11 => ?_
     have F27 := F26.stepL hs14 (by decide); have q79 := kpL hs14 (by decide) (sm11 0 (by decide)) q77; have o97 := Own.keepL o94 hs14 (by decide) (by decide); have o98 := Own.keepL o95 hs14 (by decide) (by decide); have o99 := OwnP.keepL o96 hs14 (by decide) (by decide)
     have q80 : At (Ty.val (ptrAt r 6)) s25 a24 (.tmp 52) := r14
     clear r14
     refine tailL0 (L := [40]) (R := (fun _ τ => OwnP τ 40 r ([(Ty.int n), (Ty.val x4), (Ty.val (Value.slice none 0 0)), (Ty.bool false), (Ty.val x2), (Ty.bool false), (Ty.bool (clD ql dot))].set 6 (Ty.bool false)))) rfl rfl (YldM.toL (m_storep Tryz.inf4 (by decide) o99 q80 (Nat.le_of_ble_eq_true rfl) rfl (one_val rfl))) (fun v4 s26 hs15 r15 => ?_)
     have F28 := F27.stepL hs15 (by decide); have q81 := kpL hs15 (by decide) rfl q79; have o101 := Own.keepL o97 hs15 (by decide) (by decide); have o102 := Own.keepL o98 hs15 (by decide) (by decide)
     have o100 : OwnP s26 40 r [(Ty.int n), (Ty.val x4), (Ty.val (Value.slice none 0 0)), (Ty.bool false), (Ty.val x2), (Ty.bool false), (Ty.bool false)] := r15
     clear r15; refine wpList_nil (tn (wp_seq ?_))
     refine gI a24 s26 ok23 (gM q81 (gT (Ty.val r) rfl (fun A G H I J d0 => rP (y_nilp (OwnP.k0 o100 H) (ed d0 rfl rfl rfl))) (gT (Ty.val (ptrAt r 1)) rfl (fun A G H I J d0 => rP (ownp_field Tryz.fld107_1 Tryz.inf22 (by decide) (OwnP.k0 o100 H) (ed d0 rfl rfl rfl))) (gS rfl (fun A G H I J d0 => rP (ownp_load Tryz.underlying22 rfl (OwnP.k0 o100 H) (ed d0 rfl rfl rfl) rfl)) (gT (Ty.nat (List.length (all ++ (B ++ mirP B k)))) rfl (fun A G H I J d0 => rP (own_len Tryz.underlying22 (al (R := (Pr.own 41 30 1 (List.length (all ++ (B ++ mirP B k))) (List.map Ty.ints (all ++ (B ++ mirP B k))))) (ed d0 rfl rfl rfl) (Own.k0 o102 H)))) (gS rfl (fun A G H I J d0 => rP (y_gtr (ed d0 rfl rfl rfl) rfl)) (gE ok23 fun a25 s27 ok24 D12 => ?_))))))); have F29 := F28.step0 D12.stp; have o103 := Own.k0 o101 D12.stp; have o104 := Own.k0 o102 D12.stp; have o105 := OwnP.k0 o100 D12.stp; refine tn ?_
     refine cond_p (p := ((200 : Int) < (((List.length (all ++ (B ++ mirP B k))) : Nat) : Int))) (D12.dn 5 rfl rfl) (fun c4 => ?_) (fun c4 => ?_)
     ·
      refine gI a25 s27 ok24 (gE2 ok24 fun a26 s28 ok25 D13 => ?_); have F30 := F29.step0 D13.stp; have o106 := Own.k0 o103 D13.stp; have o107 := Own.k0 o104 D13.stp; have o108 := OwnP.k0 o105 D13.stp
      refine tailP (L := []) (R := (fun v τ' => ∃ τ, (fun v τ => True ∧ (((3 : Int)) = 0)) v τ ∧ Back [] τ τ')) (E := (fun c_ => c_ = fltC 103 ((3 : Int)) ∧ ((3 : Int)) ≠ 0)) rfl rfl (by decide) ok25 (y_callP (L := []) [] [] #[a26.eval ((Operand.const (Value.int IntKind.i64 3)))] rfl (by decide) Tryz.func102 rfl rfl (by simp only [List.map_toArray, List.map_cons, List.map_nil]) (fail_fn ((3 : Int)) _ (GW.low_lend _ (by decide)) _ (Ty.up _ (GW.le_lend _ _) (cvi (σ := s28) (by omega) rfl))  (by omega))) (fun c_ t_ hs_ he_ => panB ok25 (F30.stepL hs_ (by decide)) (fltTo (fun h_ => by exact enE_3 hp1 hdd (by rw [← hB, ← hML]; omega)) he_)) (fun a27 s29 hs16 ok26 r16 sm12 => ?_)
      have F31 := F30.stepL hs16 (by decide); have o109 := Own.keepL o106 hs16 (by decide) (by decide); have o110 := Own.keepL o107 hs16 (by decide) (by decide); have o111 := OwnP.keepL o108 hs16 (by decide) (by decide)
      obtain ⟨t6, ⟨hT3, hp3⟩, B3⟩ := r16
      exact absurd hp3 (by first | decide | assumption | omega)
     ·
      refine wp_skip ?_
      have o112 : Own s27 42 30 1 (Value.slice none 0 0) 0 (List.map Ty.ints ([] : List (List Int))) := Own.nil _ _ _ _
      refine toPn ?_
      exact nL0 rfl ok24 F29 ⟨x4, (Value.slice none 0 0), x2, trivial, o105, (cvo (by (rw [show enA n (PSt.mk all blk mir ql dot) = all ++ mirL mir B from by rw [hB]; rfl, ← hML])) (by (rw [show enA n (PSt.mk all blk mir ql dot) = all ++ mirL mir B from by rw [hB]; rfl, ← hML])) o104), (cvo (by (simp)) (by (simp)) o112), o103, (by exact enE_0 hp1 hdd (by rw [← hB, ← hML]; omega))⟩
  ·
   have hmi : mir = false := c2; have hML : B = mirL mir B := (by rw [hmi]; rfl)
   refine wp_skip (tn (wp_seq ?_))
   obtain ⟨t7, e2, h2, q85⟩ := Own.seal o31 (by decide)
   rw [← e2]
   have F32 := F7.step h2 (by decide); have o113 := Own.keepL o29 (h2.toL (L := [42]) (by simp)) (by decide) (by decide); have o114 := OwnP.keepL o30 (h2.toL (L := [42]) (by simp)) (by decide) (by decide); have o115 := Own.keepL o32 (h2.toL (L := [42]) (by simp)) (by decide) (by decide); have q86 := Ty.up (Ty.val r) (h2.le (by decide)) q12
   have q87 : At (Ty.lst Ty.ints B) t7 a7 (.tmp 2) := by have e : a7.eval (.tmp 2) = x1 := q13; show Ty.has _ _ _; rw [e]; exact q85
   have q88 := Ty.up (Ty.bool mir) (h2.le (by decide)) q14; have o116 := ownp_cellq 2 (Ty.lst Ty.ints B) o114 rfl q85
   refine gI a7 t7 ok7 (gM q86 (gM q86 (gT (Ty.val r) rfl (fun A G H I J d0 => rP (y_nilp (OwnP.k0 o116 H) (ed d0 rfl rfl rfl))) (gT (Ty.val (ptrAt r 1)) rfl (fun A G H I J d0 => rP (ownp_field Tryz.fld107_1 Tryz.inf22 (by decide) (OwnP.k0 o116 H) (ed d0 rfl rfl rfl))) (gS rfl (fun A G H I J d0 => rP (ownp_load Tryz.underlying22 rfl (OwnP.k0 o116 H) (ed d0 rfl rfl rfl) rfl)) (gM q87 (gE2 ok7 fun a28 s30 ok27 D14 => ?_))))))); have o117 := Own.k0 o113 D14.stp; have o118 := OwnP.k0 o116 D14.stp; have o119 := Own.k0 o115 D14.stp
   refine tL ok27 (YldM.toL (m_append Tryz.underlying22 Tryz.inf30 (by decide) rfl (by decide) (al (R := (Pr.own 41 30 1 (List.length all) (List.map Ty.ints all))) (D14.dn 4 (by decide) rfl rfl) o117) (D14.dn 5 (by decide) rfl rfl) (one_map (fun _ => one_sl)) (by omega) (by omega))) fun a29 s31 hs17 ok28 r17 sm13 => ?_
   have F34 := (F32.step0 D14.stp).stepL hs17 (by decide); have q93 := kpL hs17 (by decide) (sm13 0 (by decide)) (D14.kt q86 rfl); have q94 := kpL hs17 (by decide) (sm13 35 (by decide)) (D14.dn 0 (by decide) rfl rfl); have o121 := OwnP.keepL o118 hs17 (by decide) (by decide); have o122 := Own.keepL o119 hs17 (by decide) (by decide)
   obtain ⟨x5, hx3⟩ : ∃ x, a29.eval (.tmp 41) = x := ⟨_, rfl⟩
   have q95 : At (Ty.val x5) s31 a29 (.tmp 41) := hx3
   have o120 := al2 (R := (Pr.own 41 30 1 (List.length (all ++ B)) (List.map Ty.ints (all ++ B)))) hx3 (cvo (by simp) (by first | (rw [List.map_append]; rfl) | simp) r17)
   clear r17
   refine tL (R := (fun v τ => Pr.has (Ty.pr (Ty.val r)) τ v)) ok28 (Yld.toL (y_nilp o121 q94)) fun a30 s32 hs18 ok29 r18 sm14 => ?_
   have F35 := F34.stepL hs18 (by decide); have q96 := kpL hs18 (by decide) (sm14 0 (by decide)) q93; have q97 := kpL hs18 (by decide) (sm14 41 (by decide)) q95; have o123 := OwnP.keepL o121 hs18 (by decide) (by decide); have o124 := Own.keepL o122 hs18 (by decide) (by decide); have o125 := Own.keepL o120 hs18 (by decide) (by decide)
   have q98 : At (Ty.val r) s32 a30 (.tmp 42) := r18
   clear r18
   refine tL (R := (fun v τ => Pr.has (Ty.pr (Ty.val (ptrAt r 1))) τ v)) ok29 (Yld.toL (ownp_field Tryz.fld107_1 Tryz.inf22 (by decide) o123 q98)) fun a31 s33 hs19 ok30 r19 sm15 => ?_
   have F36 := F35.stepL hs19 (by decide); have q99 := kpL hs19 (by decide) (sm15 0 (by decide)) q96; have q100 := kpL hs19 (by decide) (sm15 41 (by decide)) q97; have o126 := OwnP.keepL o123 hs19 (by decide) (by decide); have o127 := Own.keepL o124 hs19 (by decide) (by decide); have o128 := Own.keepL o125 hs19 (by decide) (by decide)
   have q101 : At (Ty.val (ptrAt r 1)) s33 a31 (.tmp 43) := r19
   clear r19
   refine tailL0 (L := [40]) (R := (fun _ τ => OwnP τ 40 r ([(Ty.int n), (Ty.val av), (Ty.lst Ty.ints B), (Ty.bool mir), (Ty.val x2), (Ty.bool false), (Ty.bool (clD ql dot))].set 1 (Ty.val x5)))) rfl rfl (YldM.toL (m_storep Tryz.inf22 (by decide) o126 q101 (Nat.le_of_ble_eq_true rfl) q100 (one_val (Own.one o128)))) (fun v5 s34 hs20 r20 => ?_)
   have F37 := F36.stepL hs20 (by decide); have q102 := kpL hs20 (by decide) rfl q99; have o130 := Own.keepL o127 hs20 (by decide) (by decide); have o131 := Own.keepL o128 hs20 (by decide) (by decide)
   have o129 : OwnP s34 40 r [(Ty.int n), (Ty.val x5), (Ty.lst Ty.ints B), (Ty.bool mir), (Ty.val x2), (Ty.bool false), (Ty.bool (clD ql dot))] := r20
   clear r20; refine wpList_nil (tn (wp_seq ?_))
   refine gI a31 s34 ok30 (gM q102 (gM q102 (gM q102 (gT (Ty.val r) rfl (fun A G H I J d0 d1 d2 d3 => rP (y_nilp (OwnP.k0 o129 H) (ed d0 rfl rfl rfl))) (gT (Ty.val (ptrAt r 2)) rfl (fun A G H I J d0 d1 d2 d3 => rP (ownp_field Tryz.fld107_2 Tryz.inf22 (by decide) (OwnP.k0 o129 H) (ed d0 rfl rfl rfl))) (gE2 ok30 fun a32 s35 ok31 D15 => ?_)))))); have o132 := Own.k0 o130 D15.stp; have o133 := Own.k0 o131 D15.stp; have o134 := OwnP.k0 o129 D15.stp
   refine tailL0 (L := [40]) (R := (fun _ τ => OwnP τ 40 r ([(Ty.int n), (Ty.val x5), (Ty.lst Ty.ints B), (Ty.bool mir), (Ty.val x2), (Ty.bool false), (Ty.bool (clD ql dot))].set 2 (Ty.val (Value.slice none 0 0))))) rfl rfl (YldM.toL (m_storep Tryz.inf22 (by decide) o134 (D15.dn 4 (by decide) rfl rfl) (Nat.le_of_ble_eq_true rfl) rfl (one_val rfl))) (fun v6 s36 hs21 r21 => ?_)
   have F39 := (F37.step0 D15.stp).stepL hs21 (by decide); have q108 := kpL hs21 (by decide) rfl (D15.kt q102 rfl); have q109 := kpL hs21 (by decide) rfl (D15.dn 1 (by decide) rfl rfl); have q110 := kpL hs21 (by decide) rfl (D15.dn 2 (by decide) rfl rfl); have o136 := Own.keepL o132 hs21 (by decide) (by decide); have o137 := Own.keepL o133 hs21 (by decide) (by decide)
   have o135 : OwnP s36 40 r [(Ty.int n), (Ty.val x5), (Ty.val (Value.slice none 0 0)), (Ty.bool mir), (Ty.val x2), (Ty.bool false), (Ty.bool (clD ql dot))] := r21
   clear r21
   refine tL (R := (fun v τ => Pr.has (Ty.pr (Ty.val r)) τ v)) ok31 (Yld.toL (y_nilp o135 q109)) fun a33 s37 hs22 ok32 r22 sm16 => ?_
   have F40 := F39.stepL hs22 (by decide); have q112 := kpL hs22 (by decide) (sm16 0 (by decide)) q108; have q113 := kpL hs22 (by decide) (sm16 46 (by decide)) q110; have o138 := Own.keepL o136 hs22 (by decide) (by decide); have o139 := Own.keepL o137 hs22 (by decide) (by decide); have o140 := OwnP.keepL o135 hs22 (by decide) (by decide)
   have q114 : At (Ty.val r) s37 a33 (.tmp 49) := r22
   clear r22
   refine tL (R := (fun v τ => Pr.has (Ty.pr (Ty.val (ptrAt r 3))) τ v)) ok32 (Yld.toL (ownp_field Tryz.fld107_3 Tryz.inf4 (by decide) o140 q114)) fun a34 s38 hs23 ok33 r23 sm17 => ?_
   have F41 := F40.stepL hs23 (by decide); have q115 := kpL hs23 (by decide) (sm17 0 (by decide)) q112; have q116 := kpL hs23 (by decide) (sm17 46 (by decide)) q113; have o141 := Own.keepL o138 hs23 (by decide) (by decide); have o142 := Own.keepL o139 hs23 (by decide) (by decide); have o143 := OwnP.keepL o140 hs23 (by decide) (by decide)
   have q117 : At (Ty.val (ptrAt r 3)) s38 a34 (.tmp 50) := r23
   clear r23
   refine tailL0 (L := [40]) (R := (fun _ τ => OwnP τ 40 r ([(Ty.int n), (Ty.val x5), (Ty.val (Value.slice none 0 0)), (Ty.bool mir), (Ty.val x2), (Ty.bool false), (Ty.bool (clD ql dot))].set 3 (Ty.bool false)))) rfl rfl (YldM.toL (m_storep Tryz.inf4 (by decide) o143 q117 (Nat.le_of_ble_eq_true rfl) rfl (one_val rfl))) (fun v7 s39 hs24 r24 => ?_)
   have F42 := F41.stepL hs24 (by decide); have q118 := kpL hs24 (by decide) rfl q115; have q119 := kpL hs24 (by decide) rfl q116; have o145 := Own.keepL o141 hs24 (by decide) (by decide); have o146 := Own.keepL o142 hs24 (by decide) (by decide)
   have o144 : OwnP s39 40 r [(Ty.int n), (Ty.val x5), (Ty.val (Value.slice none 0 0)), (Ty.bool false), (Ty.val x2), (Ty.bool false), (Ty.bool (clD ql dot))] := r24
   clear r24
   refine tL (R := (fun v τ => Pr.has (Ty.pr (Ty.val r)) τ v)) ok33 (Yld.toL (y_nilp o144 q119)) fun a35 s40 hs25 ok34 r25 sm18 => ?_
   have F43 := F42.stepL hs25 (by decide); have q121 := kpL hs25 (by decide) (sm18 0 (by decide)) q118; have o147 := Own.keepL o145 hs25 (by decide) (by decide); have o148 := Own.keepL o146 hs25 (by decide) (by decide); have o149 := OwnP.keepL o144 hs25 (by decide) (by decide)
   have q122 : At (Ty.val r) s40 a35 (.tmp 51) := r25
   clear r25
   refine tL (R := (fun v τ => Pr.has (Ty.pr (Ty.val (ptrAt r 6))) τ v)) ok34 (Yld.toL (ownp_field Tryz.fld107_6 Tryz.inf4 (by decide) o149 q122)) fun a36 s41 hs26 ok35 r26 sm19 => ?_
   have F44 := F43.stepL hs26 (by decide); have q123 := kpL hs26 (by decide) (sm19 0 (by decide)) q121; have o150 := Own.keepL o147 hs26 (by decide) (by decide); have o151 := Own.keepL o148 hs26 (by decide) (by decide); have o152 := OwnP.keepL o149 hs26 (by decide) (by decide)
   have q124 : At (Ty.val (ptrAt r 6)) s41 a36 (.tmp 52) := r26
   clear r26
   refine tailL0 (L := [40]) (R := (fun _ τ => OwnP τ 40 r ([(Ty.int n), (Ty.val x5), (Ty.val (Value.slice none 0 0)), (Ty.bool false), (Ty.val x2), (Ty.bool false), (Ty.bool (clD ql dot))].set 6 (Ty.bool false)))) rfl rfl (YldM.toL (m_storep Tryz.inf4 (by decide) o152 q124 (Nat.le_of_ble_eq_true rfl) rfl (one_val rfl))) (fun v8 s42 hs27 r27 => ?_)
   have F45 := F44.stepL hs27 (by decide); have q125 := kpL hs27 (by decide) rfl q123; have o154 := Own.keepL o150 hs27 (by decide) (by decide); have o155 := Own.keepL o151 hs27 (by decide) (by decide)
   have o153 : OwnP s42 40 r [(Ty.int n), (Ty.val x5), (Ty.val (Value.slice none 0 0)), (Ty.bool false), (Ty.val x2), (Ty.bool false), (Ty.bool false)] := r27
   clear r27; refine wpList_nil (tn (wp_seq ?_))
   refine gI a36 s42 ok35 (gM q125 (gT (Ty.val r) rfl (fun A G H I J d0 => rP (y_nilp (OwnP.k0 o153 H) (ed d0 rfl rfl rfl))) (gT (Ty.val (ptrAt r 1)) rfl (fun A G H I J d0 => rP (ownp_field Tryz.fld107_1 Tryz.inf22 (by decide) (OwnP.k0 o153 H) (ed d0 rfl rfl rfl))) (gS rfl (fun A G H I J d0 => rP (ownp_load Tryz.underlying22 rfl (OwnP.k0 o153 H) (ed d0 rfl rfl rfl) rfl)) (gT (Ty.nat (List.length (all ++ B))) rfl (fun A G H I J d0 => rP (own_len Tryz.underlying22 (al (R := (Pr.own 41 30 1 (List.length (all ++ B)) (List.map Ty.ints (all ++ B)))) (ed d0 rfl rfl rfl) (Own.k0 o155 H)))) (gS rfl (fun A G H I J d0 => rP (y_gtr (ed d0 rfl rfl rfl) rfl)) (gE ok35 fun a37 s43 ok36 D16 => ?_))))))); have F46 := F45.step0 D16.stp; have o156 := Own.k0 o154 D16.stp; have o157 := Own.k0 o155 D16.stp; have o158 := OwnP.k0 o153 D16.stp; refine tn ?_
   refine cond_p (p := ((200 : Int) < (((List.length (all ++ B)) : Nat) : Int))) (D16.dn 5 rfl rfl) (fun c5 => ?_) (fun c5 => ?_)
   ·
    refine gI a37 s43 ok36 (gE2 ok36 fun a38 s44 ok37 D17 => ?_); have F47 := F46.step0 D17.stp; have o159 := Own.k0 o156 D17.stp; have o160 := Own.k0 o157 D17.stp; have o161 := OwnP.k0 o158 D17.stp
    refine tailP (L := []) (R := (fun v τ' => ∃ τ, (fun v τ => True ∧ (((3 : Int)) = 0)) v τ ∧ Back [] τ τ')) (E := (fun c_ => c_ = fltC 103 ((3 : Int)) ∧ ((3 : Int)) ≠ 0)) rfl rfl (by decide) ok37 (y_callP (L := []) [] [] #[a38.eval ((Operand.const (Value.int IntKind.i64 3)))] rfl (by decide) Tryz.func102 rfl rfl (by simp only [List.map_toArray, List.map_cons, List.map_nil]) (fail_fn ((3 : Int)) _ (GW.low_lend _ (by decide)) _ (Ty.up _ (GW.le_lend _ _) (cvi (σ := s44) (by omega) rfl))  (by omega))) (fun c_ t_ hs_ he_ => panB ok37 (F47.stepL hs_ (by decide)) (fltTo (fun h_ => by exact enE_3 hp1 hdd (by rw [← hB, ← hML]; omega)) he_)) (fun a39 s45 hs28 ok38 r28 sm20 => ?_)
    have F48 := F47.stepL hs28 (by decide); have o162 := Own.keepL o159 hs28 (by decide) (by decide); have o163 := Own.keepL o160 hs28 (by decide) (by decide); have o164 := OwnP.keepL o161 hs28 (by decide) (by decide)
    obtain ⟨t8, ⟨hT4, hp4⟩, B4⟩ := r28
    exact absurd hp4 (by first | decide | assumption | omega)
   ·
    refine wp_skip ?_
    have o165 : Own s43 42 30 1 (Value.slice none 0 0) 0 (List.map Ty.ints ([] : List (List Int))) := Own.nil _ _ _ _
    refine toPn ?_
    exact nL0 rfl ok36 F46 ⟨x5, (Value.slice none 0 0), x2, trivial, o158, (cvo (by (rw [show enA n (PSt.mk all blk mir ql dot) = all ++ mirL mir B from by rw [hB]; rfl, ← hML])) (by (rw [show enA n (PSt.mk all blk mir ql dot) = all ++ mirL mir B from by rw [hB]; rfl, ← hML])) o157), (cvo (by (simp)) (by (simp)) o165), o156, (by exact enE_0 hp1 hdd (by rw [← hB, ← hML]; omega))⟩


set_option maxHeartbeats 4000000 in
set_option maxRecDepth 100000 in
theorem sIndexByte_fn (s : ByteArray) (c : Int) (σ : GW)  (v0 v1 : Value) (hv0 : Ty.has (Ty.val (Value.string s)) σ v0) (hv1 : Ty.has (Ty.val (Value.int .u8 c)) σ v1)   :
    FnC Tryz.prog 128 #[v0, v1] σ (Ty.int (Lib.indexByte (ByteArray.data s).toList (c).toNat.toUInt8)) := by
 refine fn_intro0 Tryz.func128 rfl Tryz.ntmps128 (Nat.le_of_ble_eq_true rfl) (fun s0 a0 hle F0 ok0 hargs => ?_)
 have p0 := pA hle (hargs 0 _ rfl) hv0
 have p1 := pA hle (hargs 1 _ rfl) hv1
 clear hargs; refine wp_seq ?_
 refine gI a0 s0 ok0 (gC (Ty.int (0 : Int)) (gE ok0 fun a1 s1 ok1 D1 => ?_)); refine tn (wp_seq ?_)
 refine gI a1 s1 ok1 (gM (D1.kt p0 rfl) (gM (D1.kt p1 rfl) (gS rfl (fun A G H I J d0 d1 => rP (y_call _ Tryz.func124 rfl rfl my2 (slIndexByte_fn (s) (c) _ _ _ (ed d0 rfl rfl rfl) (ed d1 rfl rfl rfl) ))) (gB 0 (gE ok1 fun a2 s2 ok2 D2 => ?_))))); refine tn (wp_ret ?_)
 exact retL1 rfl ok2 ((F0.step0 D1.stp).step0 D2.stp) (D2.dn 3 rfl rfl)


set_option maxHeartbeats 4000000 in
set_option maxRecDepth 100000 in
theorem validRune_fn (r : Int) (σ : GW)  (v0 : Value) (hv0 : Ty.has (Ty.val (Value.int .i32 r)) σ v0)   :
    FnC Tryz.prog 129 #[v0] σ (Ty.bool (Utf8.valid r)) := by
 refine fn_intro0 Tryz.func129 rfl Tryz.ntmps129 (Nat.le_of_ble_eq_true rfl) (fun s0 a0 hle F0 ok0 hargs => ?_)
 have p0 := pA hle (hargs 0 _ rfl) hv0
 clear hargs; refine wp_seq ?_
 refine gI a0 s0 ok0 (gC (Ty.bool false) (gE ok0 fun a1 s1 ok1 D1 => ?_)); have q1 := D1.kt p0 rfl; refine tn (wp_seq (wp_block (wp_seq ?_)))
 refine gI a1 s1 ok1 (gM q1 (gS rfl (fun A G H I J d0 => rP (y_leq rfl (ed d0 rfl rfl rfl))) (gS rfl (fun A G H I J d0 => rP (y_move (ed d0 rfl rfl rfl))) (gS rfl (fun A G H I J d0 => gu I (ed d0 rfl rfl rfl) fun hg => y_move (kp (J 0 rfl) H q1)) (gS rfl (fun A G H I J d0 d1 => gu I (ed d1 rfl rfl rfl) fun hg => y_lss ((ed d0 rfl rfl rfl).1 hg) rfl) (gS rfl (fun A G H I J d0 d1 => rP (y_pick_and (ed d0 rfl rfl rfl) (ed d1 rfl rfl rfl) rfl)) (gB 0 (gE ok1 fun a2 s2 ok2 D2 => ?_)))))))); have F2 := (F0.step0 D1.stp).step0 D2.stp; have q2 := D2.kt q1 rfl; refine tn ?_
 refine cond_t (D2.dn 6 rfl rfl) (fun c1 => ?_) (fun c1 => ?_)
 ·
  obtain ⟨d1, d2⟩ := Bool.and_eq_true_iff.mp c1
  replace d1 := of_decide_eq_true d1
  replace d2 := of_decide_eq_true d2
  refine wp_seq ?_
  refine gI a2 s2 ok2 (gC (Ty.bool true) (gE ok2 fun a3 s3 ok3 D3 => ?_)); refine tn (wp_ret (br (tr ?_)))
  exact retL1 rfl ok3 (F2.step0 D3.stp) (cvb (by (simp only [Bool.and_eq_true, decide_eq_true_eq] at c1; unfold Utf8.valid; rw [decide_eq_true (show 0 ≤ r by omega), decide_eq_true (show r < 0xD800 by omega)]; rfl)) (D3.dn 0 rfl rfl))
 ·
  refine wp_seq ?_
  refine gI a2 s2 ok2 (gM q2 (gS rfl (fun A G H I J d0 => rP (y_lss rfl (ed d0 rfl rfl rfl))) (gS rfl (fun A G H I J d0 => rP (y_move (ed d0 rfl rfl rfl))) (gS rfl (fun A G H I J d0 => gu I (ed d0 rfl rfl rfl) fun hg => y_move (kp (J 0 rfl) H q2)) (gS rfl (fun A G H I J d0 d1 => gu I (ed d1 rfl rfl rfl) fun hg => y_leq ((ed d0 rfl rfl rfl).1 hg) rfl) (gS rfl (fun A G H I J d0 d1 => rP (y_pick_and (ed d0 rfl rfl rfl) (ed d1 rfl rfl rfl) rfl)) (gB 0 (gE ok2 fun a4 s4 ok4 D4 => ?_)))))))); have F4 := F2.step0 D4.stp; refine tn ?_
  refine cond_t (D4.dn 6 rfl rfl) (fun c2 => ?_) (fun c2 => ?_)
  ·
   obtain ⟨d3, d4⟩ := Bool.and_eq_true_iff.mp c2
   replace d3 := of_decide_eq_true d3
   replace d4 := of_decide_eq_true d4
   refine wp_seq ?_
   refine gI a4 s4 ok4 (gC (Ty.bool true) (gE ok4 fun a5 s5 ok5 D5 => ?_)); refine tn (wp_ret (br (tr ?_)))
   exact retL1 rfl ok5 (F4.step0 D5.stp) (cvb (by (simp only [Bool.and_eq_true, decide_eq_true_eq] at c2; unfold Utf8.valid; rw [decide_eq_true (show 0xE000 ≤ r by omega), decide_eq_true (show r ≤ 0x10FFFF by omega)]; simp)) (D5.dn 0 rfl rfl))
  ·
   refine wp_skip (bn (tn (wp_seq ?_)))
   refine gI a4 s4 ok4 (gC (Ty.bool false) (gE ok4 fun a6 s6 ok6 D6 => ?_)); refine tn (wp_ret ?_)
   exact retL1 rfl ok6 (F4.step0 D6.stp) (cvb (by (simp only [Bool.and_eq_false_iff, decide_eq_false_iff_not] at c1 c2; unfold Utf8.valid; refine Eq.symm (Bool.or_eq_false_iff.2 ⟨?_, ?_⟩) <;> simp only [Bool.and_eq_false_iff, decide_eq_false_iff_not] <;> omega)) (D6.dn 0 rfl rfl))


set_option maxHeartbeats 4000000 in
set_option maxRecDepth 100000 in
theorem idxRune_fn (r : Int) (σ : GW)  (v0 v1 : Value) (hv0 : Ty.has (Ty.val (Value.string SIGNS)) σ v0) (hv1 : Ty.has (Ty.val (Value.int .i32 r)) σ v1)  (hr : -2147483648 ≤ r ∧ r ≤ 2147483647) :
    FnC Tryz.prog 114 #[v0, v1] σ (Ty.int (signIdx r)) := by
 have hsz := signs_size
 refine fn_intro0 Tryz.func114 rfl Tryz.ntmps114 (Nat.le_of_ble_eq_true rfl) (fun s0 a0 hle F0 ok0 hargs => ?_)
 have p0 := pA hle (hargs 0 _ rfl) hv0
 have p1 := pA hle (hargs 1 _ rfl) hv1
 clear hargs; refine wp_seq ?_
 refine gI a0 s0 ok0 (gC (Ty.int (0 : Int)) (gE ok0 fun a1 s1 ok1 D1 => ?_)); have q2 := D1.kt p1 rfl; refine tn (wp_block (wp_seq ?_))
 refine gI a1 s1 ok1 (gM q2 (gS rfl (fun A G H I J d0 => rP (y_leq rfl (ed d0 rfl rfl rfl))) (gS rfl (fun A G H I J d0 => rP (y_move (ed d0 rfl rfl rfl))) (gS rfl (fun A G H I J d0 => gu I (ed d0 rfl rfl rfl) fun hg => y_move (kp (J 1 rfl) H q2)) (gS rfl (fun A G H I J d0 d1 => gu I (ed d1 rfl rfl rfl) fun hg => y_lss ((ed d0 rfl rfl rfl).1 hg) rfl) (gS rfl (fun A G H I J d0 d1 => rP (y_pick_and (ed d0 rfl rfl rfl) (ed d1 rfl rfl rfl) rfl)) (gB 0 (gE ok1 fun a2 s2 ok2 D2 => ?_)))))))); have F2 := (F0.step0 D1.stp).step0 D2.stp; have q3 := D2.kt (D1.kt p0 rfl) rfl; have q4 := D2.kt q2 rfl; refine tn ?_
 refine cond_t (D2.dn 6 rfl rfl) (fun c1 => ?_) (fun c1 => ?_)
 ·
  obtain ⟨d1, d2⟩ := Bool.and_eq_true_iff.mp c1
  replace d1 := of_decide_eq_true d1
  replace d2 := of_decide_eq_true d2
  simp only [Bool.and_eq_true, decide_eq_true_eq] at c1
  refine wp_seq ?_
  refine gI a2 s2 ok2 (gM q3 (gM q4 (gT (Ty.val (Value.int .u8 r)) rfl (fun A G H I J d0 => rP (y_conv Tryz.underlying5 (ed d0 rfl rfl rfl) (by exact wrap_u8 (by omega) (by omega)) (by rw [Tryz.underlying21]; rfl))) (gS rfl (fun A G H I J d0 d1 => rP (y_call _ Tryz.func128 rfl rfl my2 (sIndexByte_fn (SIGNS) (r) _ _ _ (ed d0 rfl rfl rfl) (cvi (σ := G) (by omega) (ed d1 rfl rfl rfl)) ))) (gB 0 (gE ok2 fun a3 s3 ok3 D3 => ?_)))))); refine tn (wp_ret (br ?_))
  exact retL1 rfl ok3 (F2.step0 D3.stp) (cvi (by (exact (signIdx_lo c1.1 c1.2).symm)) (D3.dn 4 rfl rfl))
 ·
  have hc1 : ¬ (0 ≤ r ∧ r < 128) := (by intro h; simp only [Bool.and_eq_false_iff, decide_eq_false_iff_not] at c1; omega)
  refine wp_seq ?_
  refine gI a2 s2 ok2 (gM q4 (gS rfl (fun A G H I J d0 => rP (y_eql (ed d0 rfl rfl rfl) rfl)) (gB 0 (gE ok2 fun a4 s4 ok4 D4 => ?_)))); have F4 := F2.step0 D4.stp; have q7 := D4.kt q3 rfl; have q8 := D4.kt q4 rfl; refine tn ?_
  refine cond_p (p := (r = (65533 : Int))) (D4.dn 2 rfl rfl) (fun c2 => ?_) (fun c2 => ?_)
  ·
   refine wp_seq (wp_seq ?_)
   refine gI a4 s4 ok4 (gM q7 (gR (Pr.iter 5 SIGNS 0) rfl (by intro A G H I J d0; exact rP (y_range 5 Tryz.underlying9 (ed d0 rfl rfl rfl))) (gE ok4 fun a5 s5 ok5 D5 => ?_)))
   obtain ⟨x1, hx1⟩ : ∃ x, a5.eval (.tmp 175) = x := ⟨_, rfl⟩
   have q10 : At (Ty.val x1) s5 a5 (.tmp 175) := hx1
   have o1 := al2 (R := (Pr.iter 5 SIGNS 0)) hx1 (D5.done 1)
   refine tn (wp_block ?_)
   refine loop (fun n1 a6 w1 => ∃ (t1 : GW) (p : Nat), t1.w = w1 ∧ FromL [] s0 t1 ∧ Ok 187 [] a6 ∧ At (Ty.val x1) t1 a6 (.tmp 175) ∧ Iter t1 5 x1 SIGNS p ∧ (p ≤ 12) ∧ n1 = 12 - p) (12 - (0)) ?_ ?_
   ·
    exact ⟨s5, 0, rfl, (F4.step0 D5.stp), ok5, q10, (cvit (by omega) o1), by omega, rfl⟩
   ·
    rintro n2 a7 w2 ⟨t2, p, rfl, F6, ok6, q11, o2, hp, rfl⟩
    refine wp_seq ?_
    refine gI a7 t2 ok6 (gE2 ok6 fun a8 s6 ok7 D6 => ?_); have q12 := D6.kt q11 rfl; have o3 := Iter.k0 o2 D6.stp
    refine tL (R := (fun v τ => (Ty.nxt (decide (p < SIGNS.size)) p (run1 SIGNS p)).has τ v ∧ Iter τ 5 x1 SIGNS (stepTo SIGNS p))) ok7 (YldM.toL (m_next (by decide) o3 q12)) fun a9 s7 hs1 ok8 r1 sm1 => ?_
    have F8 := (F6.step0 D6.stp).stepL hs1 (by decide); have q13 := kpL hs1 (by decide) (sm1 175 (by decide)) q12
    have q14 : At (Ty.nxt (decide (p < SIGNS.size)) p (run1 SIGNS p)) s7 a9 (.tmp 176) := (r1).1
    have o4 : Iter s7 5 x1 SIGNS (stepTo SIGNS p) := (r1).2
    clear r1
    refine tL (R := (fun v τ => Pr.has (Ty.pr (Ty.bool (decide (p < SIGNS.size)))) τ v)) ok8 (Yld.toL (y_ext_n0 q14)) fun a10 s8 hs2 ok9 r2 sm2 => ?_
    have F9 := F8.stepL hs2 (by decide); have q15 := kpL hs2 (by decide) (sm2 175 (by decide)) q13; have q16 := kpL hs2 (by decide) (sm2 176 (by decide)) q14; have o5 := Iter.keepL o4 hs2 (by decide) (by decide)
    have q17 : At (Ty.bool (decide (p < SIGNS.size))) s8 a10 (.tmp 177) := r2
    clear r2; refine wpList_nil (tn (wp_seq ?_))
    refine cond_p (p := (p < SIGNS.size)) q17 (fun c3 => ?_) (fun c3 => ?_)
    ·
     refine wp_skip (tn (wp_block (wp_seq ?_)))
     refine gI a10 s8 ok9 (gT (Ty.nat p) rfl (fun A G H I J => rP (y_ext_n1 (kp (J 176 rfl) H q16) (decide_eq_true (by omega)))) (gT (Ty.val (Value.int .i32 ((run1 SIGNS p : Nat) : Int))) rfl (fun A G H I J d0 => rP (y_ext_n2 (kp (J 176 rfl) H q16) (decide_eq_true (by omega)))) (gB 0 (gB 0 (gE ok9 fun a11 s9 ok10 D7 => ?_))))); have o6 := Iter.k0 o5 D7.stp; refine tn (wp_seq ?_)
     refine gI a11 s9 ok10 (gM (D7.dn 3 rfl rfl) (gS rfl (fun A G H I J d0 => rP (y_eql (ed d0 rfl rfl rfl) rfl)) (gE ok10 fun a12 s10 ok11 D8 => ?_))); have o7 := Iter.k0 o6 D8.stp; refine tn ?_
     refine cond_p (p := (((run1 SIGNS p : Nat) : Int) = (65533 : Int))) (D8.dn 1 rfl rfl) (fun c4 => ?_) (fun c4 => ?_)
     ·
      exfalso
      have := (signs_run (p := p) (by omega)).1; omega
     ·
      refine wp_skip (bn ?_)
      exact tn ⟨12 - ((p + 1)), by omega, s10, (p + 1), rfl, ((F9.step0 D7.stp).step0 D8.stp), ok11, (D8.kt (D7.kt q15 rfl) rfl), (cvit (by exact (signs_run (by omega)).2) o7), by omega, rfl⟩
    ·
     refine wp_exit (tx (tx (bx (tn (wp_seq ?_)))))
     refine gI a10 s8 ok9 (gC (Ty.int (-1 : Int)) (gE ok9 fun a13 s11 ok12 D9 => ?_)); have o8 := Iter.k0 o5 D9.stp; refine tn (wp_ret (br ?_))
     exact retL1 rfl ok12 (F9.step0 D9.stp) (cvi (by (exact (signIdx_hi (by omega)).symm)) (D9.dn 0 rfl rfl))
  ·
   refine wp_seq ?_
   refine gI a4 s4 ok4 (gM q8 (gS rfl (fun A G H I J d0 => rP (y_call _ Tryz.func129 rfl rfl my1 (validRune_fn (r) _ _ (ed d0 rfl rfl rfl) ))) (gS rfl (fun A G H I J d0 => rP (y_not (ed d0 rfl rfl rfl))) (gB 0 (gE ok4 fun a14 s12 ok13 D10 => ?_))))); have F13 := F4.step0 D10.stp; refine tn ?_
   refine cond_t (D10.dn 3 rfl rfl) (fun c5 => ?_) (fun c5 => ?_)
   ·
    refine wp_seq ?_
    refine gI a14 s12 ok13 (gC (Ty.int (-1 : Int)) (gE ok13 fun a15 s13 ok14 D11 => ?_)); refine tn (wp_ret (br ?_))
    exact retL1 rfl ok14 (F13.step0 D11.stp) (cvi (by (exact (signIdx_hi hc1).symm)) (D11.dn 0 rfl rfl))
   ·
    have hv : Utf8.valid r = true := (by simpa using c5); have hr0 : 0 ≤ r := (by unfold Utf8.valid at hv; simp only [Bool.or_eq_true, Bool.and_eq_true, decide_eq_true_eq] at hv; omega); have hef := enc_facts (by omega) hv; obtain ⟨E, hE⟩ : ∃ E, E = Utf8.encode r := ⟨_, rfl⟩; rw [← hE] at hef; have hsl := signs_lt (j := E.size - 1) (by omega)
    refine wp_scope_straight (wp_seq ?_)
    refine gI a14 s12 ok13 (gM (D10.kt q8 rfl) (gT (Ty.val (Value.string (Utf8.encode r))) rfl (fun A G H I J d0 => rP (y_convrs Tryz.underlying9 (ed d0 rfl rfl rfl) (by rw [Tryz.underlying21]; rfl))) (gB 0 (gE ok13 fun a16 s14 ok15 D12 => ?_))))
    have q31 : At (Ty.val (Value.string E)) s14 a16 (.tmp 7) := (cvt (by (rw [hE])) (D12.dn 2 rfl rfl))
    refine tn (wp_seq ?_)
    refine gI a16 s14 ok15 (gM q31 (gT (Ty.nat (ByteArray.size E)) rfl (fun A G H I J d0 => rP (y_len_str Tryz.underlying9 (ed d0 rfl rfl rfl))) (gT (Ty.nat ((ByteArray.size E) - 1)) rfl (fun A G H I J d0 => rP ((y_sub (ed d0 rfl rfl rfl) rfl (w64 (by omega) (by omega))).mono (fun τ _ h => cvi (σ := τ) (by omega) h))) (gB 0 (gE ok15 fun a17 s15 ok16 D13 => ?_))))); have q34 := D13.dn 3 rfl rfl; refine tn (wp_seq ?_)
    refine gI a17 s15 ok16 (gM q34 (gB 0 (gE ok16 fun a18 s16 ok17 D14 => ?_))); refine tn (wp_seq ?_)
    refine gI a18 s16 ok17 (gC (Ty.int (0 : Int)) (gE ok17 fun a19 s17 ok18 D15 => ?_)); refine tn (wp_seq (wp_block ?_))
    refine loop (fun n3 a20 w3 => ∃ (t3 : GW), t3.w = w3 ∧ FromL [] s0 t3 ∧ Ok 187 [] a20 ∧ At (Ty.nat ((ByteArray.size E) - 1)) t3 a20 (.tmp 9) ∧ At (Ty.val (Value.string SIGNS)) t3 a20 (.tmp 0) ∧ At (Ty.val (Value.string E)) t3 a20 (.tmp 7) ∧ At (Ty.nat ((ByteArray.size E) - 1)) t3 a20 (.tmp 8) ∧ n3 = 1) (1) ?_ ?_
    ·
     exact ⟨s17, rfl, ((((F13.step0 D12.stp).step0 D13.stp).step0 D14.stp).step0 D15.stp), ok18, (D15.kt (D14.dn 1 rfl rfl) rfl), (D15.kt (D14.kt (D13.kt (D12.kt (D10.kt q7 rfl) rfl) rfl) rfl) rfl), (D15.kt (D14.kt (D13.kt q31 rfl) rfl) rfl), (D15.kt (D14.kt q34 rfl) rfl), rfl⟩
    ·
     rintro n4 a21 w4 ⟨t4, rfl, F19, ok19, q43, q44, q45, q46, rfl⟩
     refine wp_seq (wp_seq ?_)
     refine gI a21 t4 ok19 (gM q43 (gM q44 (gT (Ty.nat (ByteArray.size SIGNS)) rfl (fun A G H I J d0 => rP (y_len_str Tryz.underlying9 (ed d0 rfl rfl rfl))) (gS rfl (fun A G H I J d0 d1 => rP (y_lss (ed d0 rfl rfl rfl) (ed d1 rfl rfl rfl))) (gE ok19 fun a22 s18 ok20 D16 => ?_))))); have q47 := D16.kt q43 rfl; have q48 := D16.kt q44 rfl; have q49 := D16.kt q45 rfl; have q50 := D16.kt q46 rfl; refine tn ?_
     refine cond_p (p := (((((ByteArray.size E) - 1) : Nat) : Int) < (((ByteArray.size SIGNS) : Nat) : Int))) (D16.dn 3 rfl rfl) (fun c6 => ?_) (fun c6 => ?_)
     ·
      refine wp_skip (tn (wp_block (wp_scope_straight (wp_seq (wp_seq ?_)))))
      refine gI a22 s18 ok20 (gM q48 (gM q47 (gT (Ty.val (Value.int .u8 (((SIGNS.get! ((ByteArray.size E) - 1)).toNat : Nat) : Int))) rfl (fun A G H I J d0 d1 => rP (y_sindex Tryz.underlying9 (ed d0 rfl rfl rfl) (ed d1 rfl rfl rfl) (by omega) (by omega))) (gM q49 (gM q50 (gT (Ty.val (Value.int .u8 (((E.get! ((ByteArray.size E) - 1)).toNat : Nat) : Int))) rfl (fun A G H I J d0 d1 => rP (y_sindex Tryz.underlying9 (ed d0 rfl rfl rfl) (ed d1 rfl rfl rfl) (by omega) (by omega))) (gS rfl (fun A G H I J d0 d1 => rP (y_neq (ed d0 rfl rfl rfl) (ed d1 rfl rfl rfl))) (gE ok20 fun a23 s19 ok21 D17 => ?_)))))))); refine tn ?_
      refine cond_p (p := ((((SIGNS.get! ((ByteArray.size E) - 1)).toNat : Nat) : Int) ≠ (((E.get! ((ByteArray.size E) - 1)).toNat : Nat) : Int))) (D17.dn 6 rfl rfl) (fun c7 => ?_) (fun c7 => ?_)
      ·
       refine wp_seq ?_
       refine gI a23 s19 ok21 (gM (D17.kt q48 rfl) (gM (D17.kt q47 rfl) (gT (Ty.nat (((ByteArray.size E) - 1) + 1)) rfl (fun A G H I J d0 => rP ((y_add (ed d0 rfl rfl rfl) rfl (w64 (by omega) (by omega))).mono (fun τ _ h => cvi (σ := τ) (by first | omega | exact (Int.natCast_mul _ _).symm) h))) (gT (Ty.val (Value.string (ByteArray.extract SIGNS (((ByteArray.size E) - 1) + 1) (ByteArray.size SIGNS)))) rfl (fun A G H I J d0 d1 => rP (y_sfrom (l := (((ByteArray.size E) - 1) + 1)) Tryz.underlying9 (ed d0 rfl rfl rfl) (ed d1 rfl rfl rfl) (by omega))) (gM (D17.kt q49 rfl) (gM (D17.kt q50 rfl) (gT (Ty.val (Value.int .u8 (((E.get! ((ByteArray.size E) - 1)).toNat : Nat) : Int))) rfl (fun A G H I J d0 d1 => rP (y_sindex Tryz.underlying9 (ed d0 rfl rfl rfl) (ed d1 rfl rfl rfl) (by omega) (by omega))) (gS rfl (fun A G H I J d0 d1 => rP (y_call _ Tryz.func128 rfl rfl my2 (sIndexByte_fn ((ByteArray.extract SIGNS (((ByteArray.size E) - 1) + 1) (ByteArray.size SIGNS))) ((((E.get! ((ByteArray.size E) - 1)).toNat : Nat) : Int)) _ _ _ (ed d0 rfl rfl rfl) (cvi (σ := G) (by omega) (ed d1 rfl rfl rfl)) ))) (gB 0 (gE ok21 fun a24 s20 ok22 D18 => ?_)))))))))); refine tn (wp_seq (wp_seq ?_))
       refine gI a24 s20 ok22 (gM (D18.dn 8 rfl rfl) (gS rfl (fun A G H I J d0 => rP (y_lss (ed d0 rfl rfl rfl) rfl)) (gE ok22 fun a25 s21 ok23 D19 => ?_))); refine tn ?_
       refine cond_p (p := ((Lib.indexByte (ByteArray.data ((ByteArray.extract SIGNS (((ByteArray.size E) - 1) + 1) (ByteArray.size SIGNS)))).toList (((((E.get! ((ByteArray.size E) - 1)).toNat : Nat) : Int))).toNat.toUInt8) < (0 : Int))) (D19.dn 1 rfl rfl) (fun c8 => ?_) (fun c8 => ?_)
       ·
        refine wp_seq ?_
        refine gI a25 s21 ok23 (gC (Ty.int (-1 : Int)) (gE ok23 fun a26 s22 ok24 D20 => ?_)); refine tn (wp_ret (tr (tr (scr (br (tr (br (tr (scr (br ?_))))))))))
        exact retL1 rfl ok24 (((((F19.step0 D16.stp).step0 D17.stp).step0 D18.stp).step0 D19.stp).step0 D20.stp) (cvi (by (exact (signIdx_hi hc1).symm)) (D20.dn 0 rfl rfl))
       ·
        exfalso
        have := signs_cut (l := E.size - 1 + 1) (c := (((E.get! (E.size - 1)).toNat : Nat) : Int)) (by omega) (by omega); omega
      ·
       exfalso
       omega
     ·
      exfalso
      omega


set_option maxHeartbeats 4000000 in
set_option maxRecDepth 100000 in
theorem sign_fn (r : Int) (σ : GW)  (v0 : Value) (hv0 : Ty.has (Ty.val (Value.int .i32 r)) σ v0)  (hr : -2147483648 ≤ r ∧ r ≤ 2147483647) :
    FnC Tryz.prog 103 #[v0] σ (Ty.int (signIdx r)) := by
 refine fn_intro0 Tryz.func103 rfl Tryz.ntmps103 (Nat.le_of_ble_eq_true rfl) (fun s0 a0 hle F0 ok0 hargs => ?_)
 have p0 := pA hle (hargs 0 _ rfl) hv0
 clear hargs; refine wp_seq ?_
 refine gI a0 s0 ok0 (gC (Ty.int (0 : Int)) (gE ok0 fun a1 s1 ok1 D1 => ?_)); refine tn (wp_seq ?_)
 refine gI a1 s1 ok1 (gM (D1.kt p0 rfl) (gS rfl (fun A G H I J d0 => rP (y_call _ Tryz.func114 rfl rfl my2 (idxRune_fn (r) _ _ _ rfl (ed d0 rfl rfl rfl) (by omega)))) (gB 0 (gE ok1 fun a2 s2 ok2 D2 => ?_)))); refine tn (wp_ret ?_)
 exact retL1 rfl ok2 ((F0.step0 D1.stp).step0 D2.stp) (D2.dn 2 rfl rfl)


set_option maxHeartbeats 4000000 in
set_option maxRecDepth 100000 in
theorem rdSign_fn (r av bv sv : Value) (n : Int) (all : List (List Int)) (blk : List (List Int)) (mir : Bool) (dot : Bool) (ql : List Int) (first : Bool) (c : Int) (σ : GW) (hlow : Low [40, 41, 42, 43] σ) (v0 v1 v2 : Value) (hv0 : Ty.has (Ty.val r) σ v0) (hv1 : Ty.has (Ty.val (Value.int .i32 c)) σ v1) (hv2 : Ty.has (Ty.bool first) σ v2) (ho_r : OwnP σ 40 r [(Ty.int n), (Ty.val av), (Ty.val bv), (Ty.bool mir), (Ty.val sv), (Ty.bool (!(List.isEmpty ql))), (Ty.bool dot)]) (ho_av : Own σ 41 30 1 av (List.length all) (List.map Ty.ints all)) (ho_bv : Own σ 42 30 1 bv (List.length blk) (List.map Ty.ints blk)) (ho_sv : Own σ 43 3 1 sv (List.length ql) (List.map Ty.int ql)) (hbe : ∀ x ∈ blk, x.length ≤ 20000) (ha : all.length ≤ 1000) (hb : blk.length ≤ 200) (hn : 1 ≤ n ∧ n ≤ 12) (H : ql.length ≤ 10000) (hsv : ∀ k, k < ql.length → 1 ≤ ql.getD k 0 ∧ ql.getD k 0 ≤ 12) (hc : -2147483648 ≤ c ∧ c ≤ 2147483647) :
    FnP Tryz.prog 81 #[v0, v1, v2] σ [40, 41, 42, 43] (fun v τ => ∃ (az : Value), ∃ (bz : Value), ∃ (sz : Value), (Ty.has (Ty.bool (decide (c = 44))) τ v) ∧ (OwnP τ 40 r [(Ty.int n), (Ty.val az), (Ty.val bz), (Ty.bool (sgS n (PSt.mk all blk mir ql dot) first c).mir), (Ty.val sz), (Ty.bool (!(List.isEmpty (sgS n (PSt.mk all blk mir ql dot) first c).sm))), (Ty.bool (sgS n (PSt.mk all blk mir ql dot) first c).dot)]) ∧ (Own τ 41 30 1 az (List.length (sgS n (PSt.mk all blk mir ql dot) first c).all) (List.map Ty.ints (sgS n (PSt.mk all blk mir ql dot) first c).all)) ∧ (Own τ 42 30 1 bz (List.length (sgS n (PSt.mk all blk mir ql dot) first c).blk) (List.map Ty.ints (sgS n (PSt.mk all blk mir ql dot) first c).blk)) ∧ (Own τ 43 3 1 sz (List.length (sgS n (PSt.mk all blk mir ql dot) first c).sm) (List.map Ty.int (sgS n (PSt.mk all blk mir ql dot) first c).sm)) ∧ ((sgE n (PSt.mk all blk mir ql dot) first c) = 0)) (fun c_ => c_ = fltC 103 (sgE n (PSt.mk all blk mir ql dot) first c) ∧ (sgE n (PSt.mk all blk mir ql dot) first c) ≠ 0) := by
 have hib := signIdx_bd c
 have hclb := clB_len (n := n) (blk := blk) (ql := ql)
 refine fn_introP hlow Tryz.func81 rfl Tryz.ntmps81 (Nat.le_of_ble_eq_true rfl) (fun a0 F0 ok0 hargs => ?_)
 have p0 := pB (hargs 0 _ rfl) hv0
 have p1 := pB (hargs 1 _ rfl) hv1
 have p2 := pB (hargs 2 _ rfl) hv2
 clear hargs; refine wp_seq ?_
 refine gI a0 σ ok0 (gC (Ty.bool false) (gE ok0 fun a1 s1 ok1 D1 => ?_)); have q2 := D1.kt p1 rfl; have o1 := OwnP.k0 ho_r D1.stp; have o2 := Own.k0 ho_av D1.stp; have o3 := Own.k0 ho_bv D1.stp; have o4 := Own.k0 ho_sv D1.stp; refine tn (wp_seq (wp_block (wp_seq ?_)))
 refine gI a1 s1 ok1 (gM (D1.kt p2 rfl) (gS rfl (fun A G H I J d0 => rP (y_move (ed d0 rfl rfl rfl))) (gS rfl (fun A G H I J d0 => gu I (ed d0 rfl rfl rfl) fun hg => y_move (kp (J 1 rfl) H q2)) (gS rfl (fun A G H I J d0 d1 => gu I (ed d1 rfl rfl rfl) fun hg => y_eql ((ed d0 rfl rfl rfl).1 hg) rfl) (gS rfl (fun A G H I J d0 d1 d2 => gu I (ed d1 rfl rfl rfl) fun hg => y_mv ((ed d0 rfl rfl rfl).1 hg)) (gS rfl (fun A G H I J d0 => gu2 I (ed d0 rfl rfl rfl) fun hg => y_move (kp (J 1 rfl) H q2)) (gS rfl (fun A G H I J d0 d1 => gu2 I (ed d1 rfl rfl rfl) fun hg => y_eql ((ed d0 rfl rfl rfl).1 hg) rfl) (gS rfl (fun A G H I J d0 d1 d2 => gu I (ed d2 rfl rfl rfl) fun hg => y_pick_or ((ed d0 rfl rfl rfl).1 hg) rfl (grd_part hg (ed d1 rfl rfl rfl))) (gS rfl (fun A G H I J d0 d1 => rP (y_pick_and (ed d0 rfl rfl rfl) (ed d1 rfl rfl rfl) rfl)) (gB 0 (gE ok1 fun a2 s2 ok2 D2 => ?_))))))))))); have F2 := (F0.step0 D1.stp).step0 D2.stp; have q4 := D2.kt (D1.kt p0 rfl) rfl; have q5 := D2.kt q2 rfl; have o5 := OwnP.k0 o1 D2.stp; have o6 := Own.k0 o2 D2.stp; have o7 := Own.k0 o3 D2.stp; have o8 := Own.k0 o4 D2.stp; refine tn ?_
 refine cond_t (D2.dn 9 rfl rfl) (fun c1 => ?_) (fun c1 => ?_)
 ·
  obtain ⟨d1, d2⟩ := Bool.and_eq_true_iff.mp c1
  have hA : isA first c = true := c1; have hS := sgS_A (n := n) (s := (PSt.mk all blk mir ql dot)) hA; have hE := sgE_A (n := n) (s := (PSt.mk all blk mir ql dot)) hA; have h44 := isA_44 hA
  refine wp_seq ?_
  refine gI a2 s2 ok2 (gM q4 (gM q5 (gS rfl (fun A G H I J d0 => rP (y_eql (ed d0 rfl rfl rfl) rfl)) (gT (Ty.val r) rfl (fun A G H I J d0 d1 d2 d3 => rP (y_nilp (OwnP.k0 o5 H) (ed d0 rfl rfl rfl))) (gT (Ty.val (ptrAt r 3)) rfl (fun A G H I J d0 d1 d2 d3 => rP (ownp_field Tryz.fld107_3 Tryz.inf4 (by decide) (OwnP.k0 o5 H) (ed d0 rfl rfl rfl))) (gE2 ok2 fun a3 s3 ok3 D3 => ?_)))))); have o9 := OwnP.k0 o5 D3.stp; have o10 := Own.k0 o6 D3.stp; have o11 := Own.k0 o7 D3.stp; have o12 := Own.k0 o8 D3.stp
  refine tailL0 (L := [40]) (R := (fun _ τ => OwnP τ 40 r ([(Ty.int n), (Ty.val av), (Ty.val bv), (Ty.bool mir), (Ty.val sv), (Ty.bool (!(List.isEmpty ql))), (Ty.bool dot)].set 3 (Ty.bool (decide (c = (38 : Int))))))) rfl rfl (YldM.toL (m_storep Tryz.inf4 (by decide) o9 (D3.dn 4 (by decide) rfl rfl) (Nat.le_of_ble_eq_true rfl) (D3.dn 2 (by decide) rfl rfl) (one_val rfl))) (fun v1 s4 hs1 r1 => ?_)
  have F4 := (F2.step0 D3.stp).stepL hs1 (by decide); have o14 := Own.keepL o10 hs1 (by decide) (by decide); have o15 := Own.keepL o11 hs1 (by decide) (by decide); have o16 := Own.keepL o12 hs1 (by decide) (by decide)
  have o13 : OwnP s4 40 r [(Ty.int n), (Ty.val av), (Ty.val bv), (Ty.bool (decide (c = (38 : Int)))), (Ty.val sv), (Ty.bool (!(List.isEmpty ql))), (Ty.bool dot)] := r1
  clear r1; refine wpList_nil (tn (wp_seq ?_))
  refine gI a3 s4 ok3 (gC (Ty.bool false) (gE ok3 fun a4 s5 ok4 D4 => ?_)); have o17 := Own.k0 o14 D4.stp; have o18 := Own.k0 o15 D4.stp; have o19 := Own.k0 o16 D4.stp; have o20 := OwnP.k0 o13 D4.stp; refine tn (wp_ret (br (tr ?_)))
  refine toP ?_
  exact retL1 rfl ok4 (F4.step0 D4.stp) ⟨av, bv, sv, (cvb (by (exact (decide_eq_false h44).symm)) (D4.dn 0 rfl rfl)), (ownp_cell 6 (Ty.bool (sgS n (PSt.mk all blk mir ql dot) first c).dot) (ownp_cell 5 (Ty.bool (!(List.isEmpty (sgS n (PSt.mk all blk mir ql dot) first c).sm))) (ownp_cell 3 (Ty.bool (sgS n (PSt.mk all blk mir ql dot) first c).mir) o20 rfl (fun _ _ h => (cvb (by (rw [hS])) h))) rfl (fun _ _ h => (cvb (by (rw [hS])) h))) rfl (fun _ _ h => (cvb (by (rw [hS])) h))), (cvo (by (rw [hS])) (by (rw [hS])) o17), (cvo (by (rw [hS])) (by (rw [hS])) o18), (cvo (by (rw [hS])) (by (rw [hS])) o19), (by exact hE)⟩
 ·
  have hA : isA first c = false := c1
  refine wp_seq ?_
  refine gI a2 s2 ok2 (gM q5 (gS rfl (fun A G H I J d0 => rP (y_eql (ed d0 rfl rfl rfl) rfl)) (gS rfl (fun A G H I J d0 => rP (y_move (ed d0 rfl rfl rfl))) (gS rfl (fun A G H I J d0 => gu I (ed d0 rfl rfl rfl) fun hg => y_move (kp (J 1 rfl) H q5)) (gS rfl (fun A G H I J d0 d1 => gu I (ed d1 rfl rfl rfl) fun hg => y_eql ((ed d0 rfl rfl rfl).1 hg) rfl) (gS rfl (fun A G H I J d0 d1 => rP (y_pick_or (ed d0 rfl rfl rfl) rfl (ed d1 rfl rfl rfl))) (gS rfl (fun A G H I J d0 d1 => rP (y_move (ed d0 rfl rfl rfl))) (gT (Ty.grd (((decide (c = (120 : Int))) || (decide (c = (88 : Int)))) = false) (Ty.val (Value.int .i32 c))) rfl (by intro A G H I J d0; refine run_guard I rfl rfl (by decide) (ed d0 rfl rfl rfl) (fun hg => ?_); obtain ⟨d3, d4⟩ := Bool.or_eq_false_iff.mp hg; have d3 := of_decide_eq_false d3; have d4 := of_decide_eq_false d4; exact y_move (kp (J 1 rfl) H q5)) (gT (Ty.grd (((decide (c = (120 : Int))) || (decide (c = (88 : Int)))) = false) (Ty.bool (decide (c = (45 : Int))))) rfl (by intro A G H I J d0 d1; refine run_guard I rfl rfl (by decide) (ed d1 rfl rfl rfl) (fun hg => ?_); obtain ⟨d5, d6⟩ := Bool.or_eq_false_iff.mp hg; have d5 := of_decide_eq_false d5; have d6 := of_decide_eq_false d6; exact y_eql ((ed d0 rfl rfl rfl).1 hg) rfl) (gS rfl (fun A G H I J d0 d1 => rP (y_pick_or (ed d0 rfl rfl rfl) rfl (ed d1 rfl rfl rfl))) (gS rfl (fun A G H I J d0 d1 => rP (y_move (ed d0 rfl rfl rfl))) ?_)))))))))))
  refine gT (Ty.grd ((((decide (c = (120 : Int))) || (decide (c = (88 : Int)))) || (decide (c = (45 : Int)))) = false) (Ty.val (Value.int .i32 c))) rfl (by intro A G H I J d0; refine run_guard I rfl rfl (by decide) (ed d0 rfl rfl rfl) (fun hg => ?_); obtain ⟨d7, d8⟩ := Bool.or_eq_false_iff.mp hg; obtain ⟨d9, d10⟩ := Bool.or_eq_false_iff.mp d7; have d9 := of_decide_eq_false d9; have d10 := of_decide_eq_false d10; have d8 := of_decide_eq_false d8; exact y_move (kp (J 1 rfl) H q5)) (gT (Ty.grd ((((decide (c = (120 : Int))) || (decide (c = (88 : Int)))) || (decide (c = (45 : Int)))) = false) (Ty.bool (decide (c = (215 : Int))))) rfl (by intro A G H I J d0 d1; refine run_guard I rfl rfl (by decide) (ed d1 rfl rfl rfl) (fun hg => ?_); obtain ⟨d11, d12⟩ := Bool.or_eq_false_iff.mp hg; obtain ⟨d13, d14⟩ := Bool.or_eq_false_iff.mp d11; have d13 := of_decide_eq_false d13; have d14 := of_decide_eq_false d14; have d12 := of_decide_eq_false d12; exact y_eql ((ed d0 rfl rfl rfl).1 hg) rfl) (gS rfl (fun A G H I J d0 d1 => rP (y_pick_or (ed d0 rfl rfl rfl) rfl (ed d1 rfl rfl rfl))) (gB 0 (gE ok2 fun a5 s6 ok5 D5 => ?_)))); have F6 := F2.step0 D5.stp; have q11 := D5.kt q4 rfl; have q12 := D5.kt q5 rfl; have o21 := OwnP.k0 o5 D5.stp; have o22 := Own.k0 o6 D5.stp; have o23 := Own.k0 o7 D5.stp; have o24 := Own.k0 o8 D5.stp; refine tn ?_
  refine cond_t (D5.dn 14 rfl rfl) (fun c2 => ?_) (fun c2 => ?_)
  ·
   have hX : isX c = true := c2; have hS := sgS_X (n := n) (s := (PSt.mk all blk mir ql dot)) hA hX; have hE := sgE_X (n := n) (s := (PSt.mk all blk mir ql dot)) hA hX; have h44 := isX_44 hX
   refine wp_seq ?_
   refine gI a5 s6 ok5 (gM q11 (gE2 ok5 fun a6 s7 ok6 D6 => ?_)); have F7 := F6.step0 D6.stp; have o25 := OwnP.k0 o21 D6.stp; have o26 := Own.k0 o22 D6.stp; have o27 := Own.k0 o23 D6.stp; have o28 := Own.k0 o24 D6.stp
   refine tailP (L := [40, 42, 43]) (R := (fun v τ' => ∃ τ, (fun v τ => ∃ (bz : Value), ∃ (sz : Value), True ∧ (OwnP τ 40 r [(Ty.int n), (Ty.val av), (Ty.val bz), (Ty.bool mir), (Ty.val sz), (Ty.bool false), (Ty.bool (clD ql dot))]) ∧ (Own τ 42 30 1 bz (List.length (clB n blk ql)) (List.map Ty.ints (clB n blk ql))) ∧ (Own τ 43 3 1 sz (List.length ([] : List Int)) (List.map Ty.int ([] : List Int))) ∧ ((clE n blk ql) = 0)) v τ ∧ Back [(40, 40), (42, 42), (43, 43)] τ τ')) (E := (fun c_ => c_ = fltC 103 (clE n blk ql) ∧ (clE n blk ql) ≠ 0)) rfl rfl (by decide) ok6 (y_callP (L := [40, 42, 43]) [(40, 40), (42, 42), (43, 43)] [(40, 40), (42, 42), (43, 43)] #[a6.eval (.tmp 59)] rfl (by decide) Tryz.func100 rfl rfl (by simp only [List.map_toArray, List.map_cons, List.map_nil]) (close_fn (r) (av) (bv) (sv) (n) (blk) (mir) (dot) (ql) _ (GW.low_lend _ (by decide)) _ (Ty.up _ (GW.le_lend _ _) (D6.dn 0 (by decide) rfl rfl)) (OwnP.ren o25 (GW.ren_lend _ _ (by decide) rfl)) (Own.ren o27 (GW.ren_lend _ _ (by decide) rfl)) (Own.ren o28 (GW.ren_lend _ _ (by decide) rfl)) (by omega) (by omega) (by omega) (by omega))) (fun c_ t_ hs_ he_ => panB ok6 (F7.stepL hs_ (by decide)) (fltTo (fun h_ => by rw [hE]; exact ite_l h_) he_)) (fun a7 s8 hs2 ok7 r2 sm1 => ?_)
   have F8 := F7.stepL hs2 (by decide); have q16 := kpL hs2 (by decide) (sm1 0 (by decide)) (D6.kt q11 rfl); have o35 := Own.keepL o26 hs2 (by decide) (by decide)
   obtain ⟨t1, ⟨x1, x2, hT1, o29, o30, o31, hp1⟩, B1⟩ := r2
   have o32 : OwnP s8 40 r [(Ty.int n), (Ty.val av), (Ty.val x1), (Ty.bool mir), (Ty.val x2), (Ty.bool false), (Ty.bool (clD ql dot))] := OwnP.ren o29 (B1.ren (by decide) rfl)
   have o33 : Own s8 42 30 1 x1 (List.length (clB n blk ql)) (List.map Ty.ints (clB n blk ql)) := Own.ren o30 (B1.ren (by decide) rfl)
   have o34 : Own s8 43 3 1 x2 (List.length ([] : List Int)) (List.map Ty.int ([] : List Int)) := Own.ren o31 (B1.ren (by decide) rfl)
   refine wpList_nil (tn ?_)
   refine gI a7 s8 ok7 (gM q16 (gE2 ok7 fun a8 s9 ok8 D7 => ?_)); have F9 := F8.step0 D7.stp; have o36 := Own.k0 o35 D7.stp; have o37 := OwnP.k0 o32 D7.stp; have o38 := Own.k0 o33 D7.stp; have o39 := Own.k0 o34 D7.stp
   refine tailP (L := [40, 42]) (R := (fun v τ' => ∃ τ, (fun v τ => ∃ (bz : Value), True ∧ (OwnP τ 40 r [(Ty.int n), (Ty.val av), (Ty.val bz), (Ty.bool mir), (Ty.val x2), (Ty.bool (false)), (Ty.bool true)]) ∧ (Own τ 42 30 1 bz (List.length (((clB n blk ql)) ++ [(([] : List Int))])) (List.map Ty.ints (((clB n blk ql)) ++ [(([] : List Int))]))) ∧ ((plPutE n ((clB n blk ql)).length (([] : List Int))) = 0)) v τ ∧ Back [(40, 40), (42, 42)] τ τ')) (E := (fun c_ => c_ = fltC 103 (plPutE n ((clB n blk ql)).length (([] : List Int))) ∧ (plPutE n ((clB n blk ql)).length (([] : List Int))) ≠ 0)) rfl rfl (by decide) ok8 (y_callP (L := [40, 42]) [(40, 40), (42, 42)] [(40, 40), (42, 42)] #[a8.eval (.tmp 61), a8.eval ((Operand.const (Value.slice none 0 0)))] rfl (by decide) Tryz.func101 rfl rfl (by simp only [List.map_toArray, List.map_cons, List.map_nil]) (put_fn (r) (av) (x1) (x2) (n) ((clB n blk ql)) (mir) (false) ((clD ql dot)) (([] : List Int)) _ (GW.low_lend _ (by decide)) _ _ (Ty.up _ (GW.le_lend _ _) (D7.dn 0 (by decide) rfl rfl)) (Ty.up _ (GW.le_lend _ _) (nil_lst rfl rfl)) (OwnP.ren (ownp_cell 6 (Ty.bool ((clD ql dot))) (ownp_cell 5 (Ty.bool (false)) o37 rfl (fun _ _ h => (cvb (by (first | rfl | omega | (simp_all; done) | (simp_all; omega))) h))) rfl (fun _ _ h => (cvb (by (first | rfl | omega | (simp_all; done) | (simp_all; omega))) h))) (GW.ren_lend _ _ (by decide) rfl)) (Own.ren (cvo (by (simp)) (by (simp)) o38) (GW.ren_lend _ _ (by decide) rfl)) (by omega) (by omega))) (fun c_ t_ hs_ he_ => panB ok8 (F9.stepL hs_ (by decide)) (fltTo (fun h_ => by rw [hE]; exact ite_r hp1) he_)) (fun a9 s10 hs3 ok9 r3 sm2 => ?_)
   have F10 := F9.stepL hs3 (by decide); have o44 := Own.keepL o36 hs3 (by decide) (by decide); have o45 := Own.keepL o39 hs3 (by decide) (by decide)
   obtain ⟨t2, ⟨x3, hT2, o40, o41, hp2⟩, B2⟩ := r3
   have o42 : OwnP s10 40 r [(Ty.int n), (Ty.val av), (Ty.val x3), (Ty.bool mir), (Ty.val x2), (Ty.bool (false)), (Ty.bool true)] := OwnP.ren o40 (B2.ren (by decide) rfl)
   have o43 : Own s10 42 30 1 x3 (List.length (((clB n blk ql)) ++ [(([] : List Int))])) (List.map Ty.ints (((clB n blk ql)) ++ [(([] : List Int))])) := Own.ren o41 (B2.ren (by decide) rfl)
   refine wpList_nil (bn (tn (wp_seq ?_)))
   refine gI a9 s10 ok9 (gC (Ty.bool false) (gE ok9 fun a10 s11 ok10 D8 => ?_)); have o46 := Own.k0 o44 D8.stp; have o47 := Own.k0 o45 D8.stp; have o48 := OwnP.k0 o42 D8.stp; have o49 := Own.k0 o43 D8.stp; refine tn (wp_ret ?_)
   refine toP ?_
   exact retL1 rfl ok10 (F10.step0 D8.stp) ⟨av, x3, x2, (cvb (by (exact (decide_eq_false h44).symm)) (D8.dn 0 rfl rfl)), (ownp_cell 6 (Ty.bool (sgS n (PSt.mk all blk mir ql dot) first c).dot) (ownp_cell 5 (Ty.bool (!(List.isEmpty (sgS n (PSt.mk all blk mir ql dot) first c).sm))) (ownp_cell 3 (Ty.bool (sgS n (PSt.mk all blk mir ql dot) first c).mir) o48 rfl (fun _ _ h => (cvb (by (rw [hS])) h))) rfl (fun _ _ h => (cvb (by (rw [hS]; rfl)) h))) rfl (fun _ _ h => (cvb (by (rw [hS])) h))), (cvo (by (rw [hS])) (by (rw [hS])) o46), (cvo (by (rw [hS])) (by (rw [hS])) o49), (cvo (by (rw [hS])) (by (rw [hS])) o47), (by rw [hE]; exact (ite_r (by assumption)).trans (by assumption))⟩
  ·
   obtain ⟨d15, d16⟩ := Bool.or_eq_false_iff.mp c2
   obtain ⟨d17, d18⟩ := Bool.or_eq_false_iff.mp d15
   obtain ⟨d19, d20⟩ := Bool.or_eq_false_iff.mp d17
   replace d19 := of_decide_eq_false d19
   replace d20 := of_decide_eq_false d20
   replace d18 := of_decide_eq_false d18
   replace d16 := of_decide_eq_false d16
   have hX : isX c = false := c2
   refine wp_seq ?_
   refine gI a5 s6 ok5 (gM q12 (gS rfl (fun A G H I J d0 => rP (y_eql (ed d0 rfl rfl rfl) rfl)) (gB 0 (gE ok5 fun a11 s12 ok11 D9 => ?_)))); have F12 := F6.step0 D9.stp; have q21 := D9.kt q11 rfl; have q22 := D9.kt q12 rfl; have o50 := OwnP.k0 o21 D9.stp; have o51 := Own.k0 o22 D9.stp; have o52 := Own.k0 o23 D9.stp; have o53 := Own.k0 o24 D9.stp; refine tn ?_
   refine cond_p (p := (c = (46 : Int))) (D9.dn 2 rfl rfl) (fun c3 => ?_) (fun c3 => ?_)
   ·
    have hS := sgS_D (n := n) (s := (PSt.mk all blk mir ql dot)) hA hX c3; have hE := sgE_D (n := n) (s := (PSt.mk all blk mir ql dot)) hA hX c3; have h44 : c ≠ 44 := (by omega)
    refine wp_seq (wp_seq ?_)
    refine gI a11 s12 ok11 (gM q21 (gT (Ty.val r) rfl (fun A G H I J d0 => rP (y_nilp (OwnP.k0 o50 H) (ed d0 rfl rfl rfl))) (gT (Ty.val (ptrAt r 5)) rfl (fun A G H I J d0 => rP (ownp_field Tryz.fld107_5 Tryz.inf4 (by decide) (OwnP.k0 o50 H) (ed d0 rfl rfl rfl))) (gS rfl (fun A G H I J d0 => rP (ownp_load Tryz.underlying4 rfl (OwnP.k0 o50 H) (ed d0 rfl rfl rfl) rfl)) (gS rfl (fun A G H I J d0 => rP (y_not (ed d0 rfl rfl rfl))) (gS rfl (fun A G H I J d0 => rP (y_move (ed d0 rfl rfl rfl))) (gS rfl (fun A G H I J d0 => gu I (ed d0 rfl rfl rfl) fun hg => y_move (kp (J 0 rfl) H q21)) (gT (Ty.grd ((!(!(List.isEmpty ql))) = true) (Ty.val r)) rfl (fun A G H I J d0 d1 => gu I (ed d1 rfl rfl rfl) fun hg => y_nilp (OwnP.k0 o50 H) ((ed d0 rfl rfl rfl).1 hg)) (gT (Ty.grd ((!(!(List.isEmpty ql))) = true) (Ty.val (ptrAt r 6))) rfl (fun A G H I J d0 d1 => gu I (ed d1 rfl rfl rfl) fun hg => ownp_field Tryz.fld107_6 Tryz.inf4 (by decide) (OwnP.k0 o50 H) ((ed d0 rfl rfl rfl).1 hg)) (gS rfl (fun A G H I J d0 d1 => gu I (ed d1 rfl rfl rfl) fun hg => ownp_load Tryz.underlying4 rfl (OwnP.k0 o50 H) ((ed d0 rfl rfl rfl).1 hg) rfl) (gS rfl (fun A G H I J d0 d1 => gu I (ed d1 rfl rfl rfl) fun hg => y_not ((ed d0 rfl rfl rfl).1 hg)) (gS rfl (fun A G H I J d0 d1 => rP (y_pick_and (ed d0 rfl rfl rfl) (ed d1 rfl rfl rfl) rfl)) (gE ok11 fun a12 s13 ok12 D10 => ?_))))))))))))); have F13 := F12.step0 D10.stp; have q24 := D10.kt q21 rfl; have o54 := OwnP.k0 o50 D10.stp; have o55 := Own.k0 o51 D10.stp; have o56 := Own.k0 o52 D10.stp; have o57 := Own.k0 o53 D10.stp; refine tn ?_
    refine cond_t (D10.dn 11 rfl rfl) (fun c4 => ?_) (fun c4 => ?_)
    ·
     obtain ⟨d21, d22⟩ := Bool.and_eq_true_iff.mp c4
     simp only [Bool.and_eq_true, Bool.not_eq_true', Bool.not_eq_false', Bool.not_not, List.isEmpty_iff] at c4; have hqd : ql = [] ∧ dot = false := c4
     refine gI a12 s13 ok12 (gE2 ok12 fun a13 s14 ok13 D11 => ?_); have F14 := F13.step0 D11.stp; have o58 := OwnP.k0 o54 D11.stp; have o59 := Own.k0 o55 D11.stp; have o60 := Own.k0 o56 D11.stp; have o61 := Own.k0 o57 D11.stp
     refine tailP (L := []) (R := (fun v τ' => ∃ τ, (fun v τ => True ∧ (((4 : Int)) = 0)) v τ ∧ Back [] τ τ')) (E := (fun c_ => c_ = fltC 103 ((4 : Int)) ∧ ((4 : Int)) ≠ 0)) rfl rfl (by decide) ok13 (y_callP (L := []) [] [] #[a13.eval ((Operand.const (Value.int IntKind.i64 4)))] rfl (by decide) Tryz.func102 rfl rfl (by simp only [List.map_toArray, List.map_cons, List.map_nil]) (fail_fn ((4 : Int)) _ (GW.low_lend _ (by decide)) _ (Ty.up _ (GW.le_lend _ _) (cvi (σ := s14) (by omega) rfl))  (by omega))) (fun c_ t_ hs_ he_ => panB ok13 (F14.stepL hs_ (by decide)) (fltTo (fun h_ => by rw [hE]; exact if_pos hqd) he_)) (fun a14 s15 hs4 ok14 r4 sm3 => ?_)
     have F15 := F14.stepL hs4 (by decide); have q27 := kpL hs4 (by decide) (sm3 0 (by decide)) (D11.kt q24 rfl); have o62 := OwnP.keepL o58 hs4 (by decide) (by decide); have o63 := Own.keepL o59 hs4 (by decide) (by decide); have o64 := Own.keepL o60 hs4 (by decide) (by decide); have o65 := Own.keepL o61 hs4 (by decide) (by decide)
     obtain ⟨t3, ⟨hT3, hp3⟩, B3⟩ := r4
     exact absurd hp3 (by first | decide | assumption | omega)
    ·
     have hqd : ¬ (ql = [] ∧ dot = false) := (by rintro ⟨h1_, h2_⟩; rw [h1_, h2_] at c4; simp at c4)
     refine wp_skip (tn (wp_seq ?_))
     refine gI a12 s13 ok12 (gM q24 (gE2 ok12 fun a15 s16 ok15 D12 => ?_)); have F16 := F13.step0 D12.stp; have o66 := OwnP.k0 o54 D12.stp; have o67 := Own.k0 o55 D12.stp; have o68 := Own.k0 o56 D12.stp; have o69 := Own.k0 o57 D12.stp
     refine tailP (L := [40, 42, 43]) (R := (fun v τ' => ∃ τ, (fun v τ => ∃ (bz : Value), ∃ (sz : Value), True ∧ (OwnP τ 40 r [(Ty.int n), (Ty.val av), (Ty.val bz), (Ty.bool mir), (Ty.val sz), (Ty.bool false), (Ty.bool (clD ql dot))]) ∧ (Own τ 42 30 1 bz (List.length (clB n blk ql)) (List.map Ty.ints (clB n blk ql))) ∧ (Own τ 43 3 1 sz (List.length ([] : List Int)) (List.map Ty.int ([] : List Int))) ∧ ((clE n blk ql) = 0)) v τ ∧ Back [(40, 40), (42, 42), (43, 43)] τ τ')) (E := (fun c_ => c_ = fltC 103 (clE n blk ql) ∧ (clE n blk ql) ≠ 0)) rfl rfl (by decide) ok15 (y_callP (L := [40, 42, 43]) [(40, 40), (42, 42), (43, 43)] [(40, 40), (42, 42), (43, 43)] #[a15.eval (.tmp 79)] rfl (by decide) Tryz.func100 rfl rfl (by simp only [List.map_toArray, List.map_cons, List.map_nil]) (close_fn (r) (av) (bv) (sv) (n) (blk) (mir) (dot) (ql) _ (GW.low_lend _ (by decide)) _ (Ty.up _ (GW.le_lend _ _) (D12.dn 0 (by decide) rfl rfl)) (OwnP.ren o66 (GW.ren_lend _ _ (by decide) rfl)) (Own.ren o68 (GW.ren_lend _ _ (by decide) rfl)) (Own.ren o69 (GW.ren_lend _ _ (by decide) rfl)) (by omega) (by omega) (by omega) (by omega))) (fun c_ t_ hs_ he_ => panB ok15 (F16.stepL hs_ (by decide)) (fltTo (fun h_ => by rw [hE]; exact if_neg hqd) he_)) (fun a16 s17 hs5 ok16 r5 sm4 => ?_)
     have F17 := F16.stepL hs5 (by decide); have q31 := kpL hs5 (by decide) (sm4 0 (by decide)) (D12.kt q24 rfl); have o76 := Own.keepL o67 hs5 (by decide) (by decide)
     obtain ⟨t4, ⟨x4, x5, hT4, o70, o71, o72, hp4⟩, B4⟩ := r5
     have o73 : OwnP s17 40 r [(Ty.int n), (Ty.val av), (Ty.val x4), (Ty.bool mir), (Ty.val x5), (Ty.bool false), (Ty.bool (clD ql dot))] := OwnP.ren o70 (B4.ren (by decide) rfl)
     have o74 : Own s17 42 30 1 x4 (List.length (clB n blk ql)) (List.map Ty.ints (clB n blk ql)) := Own.ren o71 (B4.ren (by decide) rfl)
     have o75 : Own s17 43 3 1 x5 (List.length ([] : List Int)) (List.map Ty.int ([] : List Int)) := Own.ren o72 (B4.ren (by decide) rfl)
     refine wpList_nil (tn (wp_seq ?_))
     refine gI a16 s17 ok16 (gM q31 (gT (Ty.val r) rfl (fun A G H I J d0 d1 => rP (y_nilp (OwnP.k0 o73 H) (ed d0 rfl rfl rfl))) (gT (Ty.val (ptrAt r 6)) rfl (fun A G H I J d0 d1 => rP (ownp_field Tryz.fld107_6 Tryz.inf4 (by decide) (OwnP.k0 o73 H) (ed d0 rfl rfl rfl))) (gE2 ok16 fun a17 s18 ok17 D13 => ?_)))); have o77 := Own.k0 o76 D13.stp; have o78 := OwnP.k0 o73 D13.stp; have o79 := Own.k0 o74 D13.stp; have o80 := Own.k0 o75 D13.stp
     refine tailL0 (L := [40]) (R := (fun _ τ => OwnP τ 40 r ([(Ty.int n), (Ty.val av), (Ty.val x4), (Ty.bool mir), (Ty.val x5), (Ty.bool false), (Ty.bool (clD ql dot))].set 6 (Ty.bool false)))) rfl rfl (YldM.toL (m_storep Tryz.inf4 (by decide) o78 (D13.dn 2 (by decide) rfl rfl) (Nat.le_of_ble_eq_true rfl) rfl (one_val rfl))) (fun v2 s19 hs6 r6 => ?_)
     have F19 := (F17.step0 D13.stp).stepL hs6 (by decide); have o82 := Own.keepL o77 hs6 (by decide) (by decide); have o83 := Own.keepL o79 hs6 (by decide) (by decide); have o84 := Own.keepL o80 hs6 (by decide) (by decide)
     have o81 : OwnP s19 40 r [(Ty.int n), (Ty.val av), (Ty.val x4), (Ty.bool mir), (Ty.val x5), (Ty.bool false), (Ty.bool false)] := r6
     clear r6; refine wpList_nil (tn (wp_seq ?_))
     refine gI a17 s19 ok17 (gC (Ty.bool false) (gE ok17 fun a18 s20 ok18 D14 => ?_)); have o85 := Own.k0 o82 D14.stp; have o86 := Own.k0 o83 D14.stp; have o87 := Own.k0 o84 D14.stp; have o88 := OwnP.k0 o81 D14.stp; refine tn (wp_ret (br (tr ?_)))
     refine toP ?_
     exact retL1 rfl ok18 (F19.step0 D14.stp) ⟨av, x4, x5, (cvb (by (exact (decide_eq_false h44).symm)) (D14.dn 0 rfl rfl)), (ownp_cell 6 (Ty.bool (sgS n (PSt.mk all blk mir ql dot) first c).dot) (ownp_cell 5 (Ty.bool (!(List.isEmpty (sgS n (PSt.mk all blk mir ql dot) first c).sm))) (ownp_cell 3 (Ty.bool (sgS n (PSt.mk all blk mir ql dot) first c).mir) o88 rfl (fun _ _ h => (cvb (by (rw [hS])) h))) rfl (fun _ _ h => (cvb (by (rw [hS]; rfl)) h))) rfl (fun _ _ h => (cvb (by (rw [hS])) h))), (cvo (by (rw [hS])) (by (rw [hS])) o85), (cvo (by (rw [hS])) (by (rw [hS])) o86), (cvo (by (rw [hS])) (by (rw [hS])) o87), (by rw [hE]; exact (if_neg hqd).trans (by assumption))⟩
   ·
    have h46 : c ≠ 46 := c3
    refine wp_seq ?_
    refine gI a11 s12 ok11 (gM q22 (gS rfl (fun A G H I J d0 => rP (y_eql (ed d0 rfl rfl rfl) rfl)) (gB 0 (gE ok11 fun a19 s21 ok19 D15 => ?_)))); have F21 := F12.step0 D15.stp; have q36 := D15.kt q21 rfl; have o89 := OwnP.k0 o50 D15.stp; have o90 := Own.k0 o51 D15.stp; have o91 := Own.k0 o52 D15.stp; have o92 := Own.k0 o53 D15.stp; refine tn ?_
    refine cond_p (p := (c = (44 : Int))) (D15.dn 2 rfl rfl) (fun c5 => ?_) (fun c5 => ?_)
    ·
     have hS := sgS_C (n := n) (s := (PSt.mk all blk mir ql dot)) hA hX h46 c5; have hE := sgE_C (n := n) (s := (PSt.mk all blk mir ql dot)) hA hX h46 c5
     refine wp_seq (wp_seq ?_)
     refine gI a19 s21 ok19 (gM q36 (gT (Ty.val r) rfl (fun A G H I J d0 => rP (y_nilp (OwnP.k0 o89 H) (ed d0 rfl rfl rfl))) (gT (Ty.val (ptrAt r 5)) rfl (fun A G H I J d0 => rP (ownp_field Tryz.fld107_5 Tryz.inf4 (by decide) (OwnP.k0 o89 H) (ed d0 rfl rfl rfl))) (gS rfl (fun A G H I J d0 => rP (ownp_load Tryz.underlying4 rfl (OwnP.k0 o89 H) (ed d0 rfl rfl rfl) rfl)) (gS rfl (fun A G H I J d0 => rP (y_not (ed d0 rfl rfl rfl))) (gS rfl (fun A G H I J d0 => rP (y_move (ed d0 rfl rfl rfl))) (gS rfl (fun A G H I J d0 => gu I (ed d0 rfl rfl rfl) fun hg => y_move (kp (J 0 rfl) H q36)) (gT (Ty.grd ((!(!(List.isEmpty ql))) = true) (Ty.val r)) rfl (fun A G H I J d0 d1 => gu I (ed d1 rfl rfl rfl) fun hg => y_nilp (OwnP.k0 o89 H) ((ed d0 rfl rfl rfl).1 hg)) (gT (Ty.grd ((!(!(List.isEmpty ql))) = true) (Ty.val (ptrAt r 6))) rfl (fun A G H I J d0 d1 => gu I (ed d1 rfl rfl rfl) fun hg => ownp_field Tryz.fld107_6 Tryz.inf4 (by decide) (OwnP.k0 o89 H) ((ed d0 rfl rfl rfl).1 hg)) (gS rfl (fun A G H I J d0 d1 => gu I (ed d1 rfl rfl rfl) fun hg => ownp_load Tryz.underlying4 rfl (OwnP.k0 o89 H) ((ed d0 rfl rfl rfl).1 hg) rfl) (gS rfl (fun A G H I J d0 d1 => gu I (ed d1 rfl rfl rfl) fun hg => y_not ((ed d0 rfl rfl rfl).1 hg)) (gS rfl (fun A G H I J d0 d1 => rP (y_pick_and (ed d0 rfl rfl rfl) (ed d1 rfl rfl rfl) rfl)) (gE ok19 fun a20 s22 ok20 D16 => ?_))))))))))))); have F22 := F21.step0 D16.stp; have q39 := D16.kt q36 rfl; have o93 := OwnP.k0 o89 D16.stp; have o94 := Own.k0 o90 D16.stp; have o95 := Own.k0 o91 D16.stp; have o96 := Own.k0 o92 D16.stp; refine tn ?_
     refine cond_t (D16.dn 11 rfl rfl) (fun c6 => ?_) (fun c6 => ?_)
     ·
      obtain ⟨d23, d24⟩ := Bool.and_eq_true_iff.mp c6
      simp only [Bool.and_eq_true, Bool.not_eq_true', Bool.not_eq_false', Bool.not_not, List.isEmpty_iff] at c6; have hqd : ql = [] ∧ dot = false := c6
      refine gI a20 s22 ok20 (gE2 ok20 fun a21 s23 ok21 D17 => ?_); have F23 := F22.step0 D17.stp; have o97 := OwnP.k0 o93 D17.stp; have o98 := Own.k0 o94 D17.stp; have o99 := Own.k0 o95 D17.stp; have o100 := Own.k0 o96 D17.stp
      refine tailP (L := []) (R := (fun v τ' => ∃ τ, (fun v τ => True ∧ (((4 : Int)) = 0)) v τ ∧ Back [] τ τ')) (E := (fun c_ => c_ = fltC 103 ((4 : Int)) ∧ ((4 : Int)) ≠ 0)) rfl rfl (by decide) ok21 (y_callP (L := []) [] [] #[a21.eval ((Operand.const (Value.int IntKind.i64 4)))] rfl (by decide) Tryz.func102 rfl rfl (by simp only [List.map_toArray, List.map_cons, List.map_nil]) (fail_fn ((4 : Int)) _ (GW.low_lend _ (by decide)) _ (Ty.up _ (GW.le_lend _ _) (cvi (σ := s23) (by omega) rfl))  (by omega))) (fun c_ t_ hs_ he_ => panB ok21 (F23.stepL hs_ (by decide)) (fltTo (fun h_ => by rw [hE]; exact if_pos hqd) he_)) (fun a22 s24 hs7 ok22 r7 sm5 => ?_)
      have F24 := F23.stepL hs7 (by decide); have q42 := kpL hs7 (by decide) (sm5 0 (by decide)) (D17.kt q39 rfl); have o101 := OwnP.keepL o97 hs7 (by decide) (by decide); have o102 := Own.keepL o98 hs7 (by decide) (by decide); have o103 := Own.keepL o99 hs7 (by decide) (by decide); have o104 := Own.keepL o100 hs7 (by decide) (by decide)
      obtain ⟨t5, ⟨hT5, hp5⟩, B5⟩ := r7
      exact absurd hp5 (by first | decide | assumption | omega)
     ·
      have hqd : ¬ (ql = [] ∧ dot = false) := (by rintro ⟨h1_, h2_⟩; rw [h1_, h2_] at c6; simp at c6)
      refine wp_skip (tn (wp_seq ?_))
      refine gI a20 s22 ok20 (gM q39 (gE2 ok20 fun a23 s25 ok23 D18 => ?_)); have F25 := F22.step0 D18.stp; have o105 := OwnP.k0 o93 D18.stp; have o106 := Own.k0 o94 D18.stp; have o107 := Own.k0 o95 D18.stp; have o108 := Own.k0 o96 D18.stp
      refine tailP (L := [40, 41, 42, 43]) (R := (fun v τ' => ∃ τ, (fun v τ => ∃ (az : Value), ∃ (bz : Value), ∃ (sz : Value), True ∧ (OwnP τ 40 r [(Ty.int n), (Ty.val az), (Ty.val bz), (Ty.bool false), (Ty.val sz), (Ty.bool false), (Ty.bool false)]) ∧ (Own τ 41 30 1 az (List.length (enA n (PSt.mk all blk mir ql dot))) (List.map Ty.ints (enA n (PSt.mk all blk mir ql dot)))) ∧ (Own τ 42 30 1 bz (List.length ([] : List (List Int))) (List.map Ty.ints ([] : List (List Int)))) ∧ (Own τ 43 3 1 sz (List.length ([] : List Int)) (List.map Ty.int ([] : List Int))) ∧ ((enE n (PSt.mk all blk mir ql dot)) = 0)) v τ ∧ Back [(40, 40), (41, 41), (42, 42), (43, 43)] τ τ')) (E := (fun c_ => c_ = fltC 103 (enE n (PSt.mk all blk mir ql dot)) ∧ (enE n (PSt.mk all blk mir ql dot)) ≠ 0)) rfl rfl (by decide) ok23 (y_callP (L := [40, 41, 42, 43]) [(40, 40), (41, 41), (42, 42), (43, 43)] [(40, 40), (41, 41), (42, 42), (43, 43)] #[a23.eval (.tmp 100)] rfl (by decide) Tryz.func82 rfl rfl (by simp only [List.map_toArray, List.map_cons, List.map_nil]) (end_fn (r) (av) (bv) (sv) (n) (all) (blk) (mir) (dot) (ql) _ (GW.low_lend _ (by decide)) _ (Ty.up _ (GW.le_lend _ _) (D18.dn 0 (by decide) rfl rfl)) (OwnP.ren o105 (GW.ren_lend _ _ (by decide) rfl)) (Own.ren o106 (GW.ren_lend _ _ (by decide) rfl)) (Own.ren o107 (GW.ren_lend _ _ (by decide) rfl)) (Own.ren o108 (GW.ren_lend _ _ (by decide) rfl)) (by first | omega | assumption | exact hce) (by first | omega | assumption | exact hce) (by first | omega | assumption | exact hce) (by first | omega | assumption | exact hce) (by first | omega | assumption | exact hce) (by first | omega | assumption | exact hce))) (fun c_ t_ hs_ he_ => panB ok23 (F25.stepL hs_ (by decide)) (fltTo (fun h_ => by rw [hE]; exact if_neg hqd) he_)) (fun a24 s26 hs8 ok24 r8 sm6 => ?_)
      have F26 := F25.stepL hs8 (by decide)
      obtain ⟨t6, ⟨x6, x7, x8, hT6, o109, o110, o111, o112, hp6⟩, B6⟩ := r8
      have o113 : OwnP s26 40 r [(Ty.int n), (Ty.val x6), (Ty.val x7), (Ty.bool false), (Ty.val x8), (Ty.bool false), (Ty.bool false)] := OwnP.ren o109 (B6.ren (by decide) rfl)
      have o114 : Own s26 41 30 1 x6 (List.length (enA n (PSt.mk all blk mir ql dot))) (List.map Ty.ints (enA n (PSt.mk all blk mir ql dot))) := Own.ren o110 (B6.ren (by decide) rfl)
      have o115 : Own s26 42 30 1 x7 (List.length ([] : List (List Int))) (List.map Ty.ints ([] : List (List Int))) := Own.ren o111 (B6.ren (by decide) rfl)
      have o116 : Own s26 43 3 1 x8 (List.length ([] : List Int)) (List.map Ty.int ([] : List Int)) := Own.ren o112 (B6.ren (by decide) rfl)
      refine wpList_nil (tn (wp_seq ?_))
      refine gI a24 s26 ok24 (gC (Ty.bool true) (gE ok24 fun a25 s27 ok25 D19 => ?_)); have o117 := OwnP.k0 o113 D19.stp; have o118 := Own.k0 o114 D19.stp; have o119 := Own.k0 o115 D19.stp; have o120 := Own.k0 o116 D19.stp; refine tn (wp_ret (br (tr ?_)))
      refine toP ?_
      exact retL1 rfl ok25 (F26.step0 D19.stp) ⟨x6, x7, x8, (cvb (by (exact (decide_eq_true c5).symm)) (D19.dn 0 rfl rfl)), (ownp_cell 6 (Ty.bool (sgS n (PSt.mk all blk mir ql dot) first c).dot) (ownp_cell 5 (Ty.bool (!(List.isEmpty (sgS n (PSt.mk all blk mir ql dot) first c).sm))) (ownp_cell 3 (Ty.bool (sgS n (PSt.mk all blk mir ql dot) first c).mir) o117 rfl (fun _ _ h => (cvb (by (rw [hS])) h))) rfl (fun _ _ h => (cvb (by (rw [hS]; rfl)) h))) rfl (fun _ _ h => (cvb (by (rw [hS])) h))), (cvo (by (rw [hS])) (by (rw [hS])) o118), (cvo (by (rw [hS])) (by (rw [hS])) o119), (cvo (by (rw [hS])) (by (rw [hS])) o120), (by rw [hE]; exact (if_neg hqd).trans (by assumption))⟩
    ·
     have h44 : c ≠ 44 := c5
     refine wp_seq ?_
     refine gI a19 s21 ok19 (gM (D15.kt q22 rfl) (gS rfl (fun A G H I J d0 => rP (y_call _ Tryz.func103 rfl rfl my1 (sign_fn (c) _ _ (cvi (σ := G) (by omega) (ed d0 rfl rfl rfl)) (by omega)))) (gB 0 (gE ok19 fun a26 s28 ok26 D20 => ?_)))); have o121 := OwnP.k0 o89 D20.stp; have o122 := Own.k0 o90 D20.stp; have o123 := Own.k0 o91 D20.stp; have o124 := Own.k0 o92 D20.stp; have q48 := D20.dn 2 rfl rfl; refine tn (wp_seq (wp_seq ?_))
     refine gI a26 s28 ok26 (gM q48 (gS rfl (fun A G H I J d0 => rP (y_lss (ed d0 rfl rfl rfl) rfl)) (gE ok26 fun a27 s29 ok27 D21 => ?_))); have F29 := (F21.step0 D20.stp).step0 D21.stp; have q49 := D21.kt (D20.kt q36 rfl) rfl; have q50 := D21.kt q48 rfl; have o125 := OwnP.k0 o121 D21.stp; have o126 := Own.k0 o122 D21.stp; have o127 := Own.k0 o123 D21.stp; have o128 := Own.k0 o124 D21.stp; refine tn ?_
     refine cond_p (p := ((signIdx (c)) < (0 : Int))) (D21.dn 1 rfl rfl) (fun c7 => ?_) (fun c7 => ?_)
     ·
      have hE := sgE_N (n := n) (s := (PSt.mk all blk mir ql dot)) hA hX h46 h44 c7
      refine wp_seq ?_
      refine gI a27 s29 ok27 (gM q49 (gE2 ok27 fun a28 s30 ok28 D22 => ?_)); have F30 := F29.step0 D22.stp; have o129 := OwnP.k0 o125 D22.stp; have o130 := Own.k0 o126 D22.stp; have o131 := Own.k0 o127 D22.stp; have o132 := Own.k0 o128 D22.stp
      refine tailP (L := [40, 42, 43]) (R := (fun v τ' => ∃ τ, (fun v τ => ∃ (bz : Value), ∃ (sz : Value), True ∧ (OwnP τ 40 r [(Ty.int n), (Ty.val av), (Ty.val bz), (Ty.bool mir), (Ty.val sz), (Ty.bool false), (Ty.bool (clD ql dot))]) ∧ (Own τ 42 30 1 bz (List.length (clB n blk ql)) (List.map Ty.ints (clB n blk ql))) ∧ (Own τ 43 3 1 sz (List.length ([] : List Int)) (List.map Ty.int ([] : List Int))) ∧ ((clE n blk ql) = 0)) v τ ∧ Back [(40, 40), (42, 42), (43, 43)] τ τ')) (E := (fun c_ => c_ = fltC 103 (clE n blk ql) ∧ (clE n blk ql) ≠ 0)) rfl rfl (by decide) ok28 (y_callP (L := [40, 42, 43]) [(40, 40), (42, 42), (43, 43)] [(40, 40), (42, 42), (43, 43)] #[a28.eval (.tmp 12)] rfl (by decide) Tryz.func100 rfl rfl (by simp only [List.map_toArray, List.map_cons, List.map_nil]) (close_fn (r) (av) (bv) (sv) (n) (blk) (mir) (dot) (ql) _ (GW.low_lend _ (by decide)) _ (Ty.up _ (GW.le_lend _ _) (D22.dn 0 (by decide) rfl rfl)) (OwnP.ren o129 (GW.ren_lend _ _ (by decide) rfl)) (Own.ren o131 (GW.ren_lend _ _ (by decide) rfl)) (Own.ren o132 (GW.ren_lend _ _ (by decide) rfl)) (by omega) (by omega) (by omega) (by omega))) (fun c_ t_ hs_ he_ => panB ok28 (F30.stepL hs_ (by decide)) (fltTo (fun h_ => by rw [hE]; exact ite_l h_) he_)) (fun a29 s31 hs9 ok29 r9 sm7 => ?_)
      have F31 := F30.stepL hs9 (by decide); have q55 := kpL hs9 (by decide) (sm7 0 (by decide)) (D22.kt q49 rfl); have q56 := kpL hs9 (by decide) (sm7 7 (by decide)) (D22.kt q50 rfl); have o139 := Own.keepL o130 hs9 (by decide) (by decide)
      obtain ⟨t7, ⟨x9, x10, hT7, o133, o134, o135, hp7⟩, B7⟩ := r9
      have o136 : OwnP s31 40 r [(Ty.int n), (Ty.val av), (Ty.val x9), (Ty.bool mir), (Ty.val x10), (Ty.bool false), (Ty.bool (clD ql dot))] := OwnP.ren o133 (B7.ren (by decide) rfl)
      have o137 : Own s31 42 30 1 x9 (List.length (clB n blk ql)) (List.map Ty.ints (clB n blk ql)) := Own.ren o134 (B7.ren (by decide) rfl)
      have o138 : Own s31 43 3 1 x10 (List.length ([] : List Int)) (List.map Ty.int ([] : List Int)) := Own.ren o135 (B7.ren (by decide) rfl)
      refine wpList_nil (tn ?_)
      refine gI a29 s31 ok29 (gE2 ok29 fun a30 s32 ok30 D23 => ?_); have F32 := F31.step0 D23.stp; have o140 := Own.k0 o139 D23.stp; have o141 := OwnP.k0 o136 D23.stp; have o142 := Own.k0 o137 D23.stp; have o143 := Own.k0 o138 D23.stp
      refine tailP (L := []) (R := (fun v τ' => ∃ τ, (fun v τ => True ∧ (((4 : Int)) = 0)) v τ ∧ Back [] τ τ')) (E := (fun c_ => c_ = fltC 103 ((4 : Int)) ∧ ((4 : Int)) ≠ 0)) rfl rfl (by decide) ok30 (y_callP (L := []) [] [] #[a30.eval ((Operand.const (Value.int IntKind.i64 4)))] rfl (by decide) Tryz.func102 rfl rfl (by simp only [List.map_toArray, List.map_cons, List.map_nil]) (fail_fn ((4 : Int)) _ (GW.low_lend _ (by decide)) _ (Ty.up _ (GW.le_lend _ _) (cvi (σ := s32) (by omega) rfl))  (by omega))) (fun c_ t_ hs_ he_ => panB ok30 (F32.stepL hs_ (by decide)) (fltTo (fun h_ => by rw [hE]; exact ite_r (by assumption)) he_)) (fun a31 s33 hs10 ok31 r10 sm8 => ?_)
      have F33 := F32.stepL hs10 (by decide); have q60 := kpL hs10 (by decide) (sm8 0 (by decide)) (D23.kt q55 rfl); have q61 := kpL hs10 (by decide) (sm8 7 (by decide)) (D23.kt q56 rfl); have o144 := Own.keepL o140 hs10 (by decide) (by decide); have o145 := OwnP.keepL o141 hs10 (by decide) (by decide); have o146 := Own.keepL o142 hs10 (by decide) (by decide); have o147 := Own.keepL o143 hs10 (by decide) (by decide)
      obtain ⟨t8, ⟨hT8, hp8⟩, B8⟩ := r10
      exact absurd hp8 (by first | decide | assumption | omega)
     ·
      have hE := sgE_S (n := n) (s := (PSt.mk all blk mir ql dot)) hA hX h46 h44 c7; have hS := sgS_S (n := n) (s := (PSt.mk all blk mir ql dot)) hA hX h46 h44
      refine wp_skip (tn ?_)
      refine gI a27 s29 ok27 (gM q49 (gM q49 (gM q49 (gT (Ty.val r) rfl (fun A G H I J d0 => rP (y_nilp (OwnP.k0 o125 H) (ed d0 rfl rfl rfl))) (gT (Ty.val (ptrAt r 4)) rfl (fun A G H I J d0 => rP (ownp_field Tryz.fld107_4 Tryz.inf30 (by decide) (OwnP.k0 o125 H) (ed d0 rfl rfl rfl))) (gS rfl (fun A G H I J d0 => rP (ownp_load Tryz.underlying30 rfl (OwnP.k0 o125 H) (ed d0 rfl rfl rfl) rfl)) (gM q50 (gT (Ty.int ((signIdx (c)) + (1 : Int))) rfl (fun A G H I J d0 => rP (y_add (ed d0 rfl rfl rfl) rfl (w64 (by omega) (by omega)))) (gT (Ty.sl 1 1 [(Ty.int ((signIdx (c)) + (1 : Int)))]) rfl (fun A G H I J d0 => rP (y_build1o Tryz.underlying30 Tryz.inf3 rfl (one_val rfl) (ed d0 rfl rfl rfl))) (gE2 ok27 fun a32 s34 ok32 D24 => ?_)))))))))); have o148 := OwnP.k0 o125 D24.stp; have o149 := Own.k0 o126 D24.stp; have o150 := Own.k0 o127 D24.stp; have o151 := Own.k0 o128 D24.stp; have q66 := D24.dn 8 (by decide) rfl rfl
      have b1 := sl_le q66
      refine tL ok32 (YldM.toL (m_append Tryz.underlying30 Tryz.inf3 (by decide) rfl (by decide) (al (R := (Pr.own 43 3 1 (List.length ql) (List.map Ty.int ql))) (D24.dn 5 (by decide) rfl rfl) o151) q66 (by intro U hU; simp at hU; subst hU; exact one_val rfl) (by omega) (by omega))) fun a33 s35 hs11 ok33 r11 sm9 => ?_
      have F35 := (F29.step0 D24.stp).stepL hs11 (by decide); have q67 := kpL hs11 (by decide) (sm9 15 (by decide)) (D24.dn 0 (by decide) rfl rfl); have q68 := kpL hs11 (by decide) (sm9 16 (by decide)) (D24.dn 1 (by decide) rfl rfl); have o153 := OwnP.keepL o148 hs11 (by decide) (by decide); have o154 := Own.keepL o149 hs11 (by decide) (by decide); have o155 := Own.keepL o150 hs11 (by decide) (by decide)
      obtain ⟨x11, hx1⟩ : ∃ x, a33.eval (.tmp 24) = x := ⟨_, rfl⟩
      have q69 : At (Ty.val x11) s35 a33 (.tmp 24) := hx1
      have o152 := al2 (R := (Pr.own 43 3 1 (List.length (ql ++ [((signIdx (c)) + (1 : Int))])) (List.map Ty.int (ql ++ [((signIdx (c)) + (1 : Int))])))) hx1 (cvo (by simp) (by first | (rw [List.map_append]; rfl) | simp) r11)
      clear r11
      refine tL (R := (fun v τ => Pr.has (Ty.pr (Ty.val r)) τ v)) ok33 (Yld.toL (y_nilp o153 q67)) fun a34 s36 hs12 ok34 r12 sm10 => ?_
      have F36 := F35.stepL hs12 (by decide); have q70 := kpL hs12 (by decide) (sm10 16 (by decide)) q68; have q71 := kpL hs12 (by decide) (sm10 24 (by decide)) q69; have o156 := OwnP.keepL o153 hs12 (by decide) (by decide); have o157 := Own.keepL o154 hs12 (by decide) (by decide); have o158 := Own.keepL o155 hs12 (by decide) (by decide); have o159 := Own.keepL o152 hs12 (by decide) (by decide)
      have q72 : At (Ty.val r) s36 a34 (.tmp 25) := r12
      clear r12
      refine tL (R := (fun v τ => Pr.has (Ty.pr (Ty.val (ptrAt r 4))) τ v)) ok34 (Yld.toL (ownp_field Tryz.fld107_4 Tryz.inf30 (by decide) o156 q72)) fun a35 s37 hs13 ok35 r13 sm11 => ?_
      have F37 := F36.stepL hs13 (by decide); have q73 := kpL hs13 (by decide) (sm11 16 (by decide)) q70; have q74 := kpL hs13 (by decide) (sm11 24 (by decide)) q71; have o160 := OwnP.keepL o156 hs13 (by decide) (by decide); have o161 := Own.keepL o157 hs13 (by decide) (by decide); have o162 := Own.keepL o158 hs13 (by decide) (by decide); have o163 := Own.keepL o159 hs13 (by decide) (by decide)
      have q75 : At (Ty.val (ptrAt r 4)) s37 a35 (.tmp 26) := r13
      clear r13
      refine tailL0 (L := [40]) (R := (fun _ τ => OwnP τ 40 r ([(Ty.int n), (Ty.val av), (Ty.val bv), (Ty.bool mir), (Ty.val sv), (Ty.bool (!(List.isEmpty ql))), (Ty.bool dot)].set 4 (Ty.val x11)))) rfl rfl (YldM.toL (m_storep Tryz.inf30 (by decide) o160 q75 (Nat.le_of_ble_eq_true rfl) q74 (one_val (Own.one o163)))) (fun v3 s38 hs14 r14 => ?_)
      have F38 := F37.stepL hs14 (by decide); have q76 := kpL hs14 (by decide) rfl q73; have o165 := Own.keepL o161 hs14 (by decide) (by decide); have o166 := Own.keepL o162 hs14 (by decide) (by decide); have o167 := Own.keepL o163 hs14 (by decide) (by decide)
      have o164 : OwnP s38 40 r [(Ty.int n), (Ty.val av), (Ty.val bv), (Ty.bool mir), (Ty.val x11), (Ty.bool (!(List.isEmpty ql))), (Ty.bool dot)] := r14
      clear r14
      refine tL (R := (fun v τ => Pr.has (Ty.pr (Ty.val r)) τ v)) ok35 (Yld.toL (y_nilp o164 q76)) fun a36 s39 hs15 ok36 r15 sm12 => ?_
      have F39 := F38.stepL hs15 (by decide); have o168 := Own.keepL o165 hs15 (by decide) (by decide); have o169 := Own.keepL o166 hs15 (by decide) (by decide); have o170 := Own.keepL o167 hs15 (by decide) (by decide); have o171 := OwnP.keepL o164 hs15 (by decide) (by decide)
      have q78 : At (Ty.val r) s39 a36 (.tmp 27) := r15
      clear r15
      refine tL (R := (fun v τ => Pr.has (Ty.pr (Ty.val (ptrAt r 5))) τ v)) ok36 (Yld.toL (ownp_field Tryz.fld107_5 Tryz.inf4 (by decide) o171 q78)) fun a37 s40 hs16 ok37 r16 sm13 => ?_
      have F40 := F39.stepL hs16 (by decide); have o172 := Own.keepL o168 hs16 (by decide) (by decide); have o173 := Own.keepL o169 hs16 (by decide) (by decide); have o174 := Own.keepL o170 hs16 (by decide) (by decide); have o175 := OwnP.keepL o171 hs16 (by decide) (by decide)
      have q79 : At (Ty.val (ptrAt r 5)) s40 a37 (.tmp 28) := r16
      clear r16
      refine tailL0 (L := [40]) (R := (fun _ τ => OwnP τ 40 r ([(Ty.int n), (Ty.val av), (Ty.val bv), (Ty.bool mir), (Ty.val x11), (Ty.bool (!(List.isEmpty ql))), (Ty.bool dot)].set 5 (Ty.bool true)))) rfl rfl (YldM.toL (m_storep Tryz.inf4 (by decide) o175 q79 (Nat.le_of_ble_eq_true rfl) rfl (one_val rfl))) (fun v4 s41 hs17 r17 => ?_)
      have F41 := F40.stepL hs17 (by decide); have o177 := Own.keepL o172 hs17 (by decide) (by decide); have o178 := Own.keepL o173 hs17 (by decide) (by decide); have o179 := Own.keepL o174 hs17 (by decide) (by decide)
      have o176 : OwnP s41 40 r [(Ty.int n), (Ty.val av), (Ty.val bv), (Ty.bool mir), (Ty.val x11), (Ty.bool true), (Ty.bool dot)] := r17
      clear r17; refine wpList_nil (bn (tn (wp_seq ?_)))
      refine gI a37 s41 ok37 (gC (Ty.bool false) (gE ok37 fun a38 s42 ok38 D25 => ?_)); have o180 := Own.k0 o177 D25.stp; have o181 := Own.k0 o178 D25.stp; have o182 := Own.k0 o179 D25.stp; have o183 := OwnP.k0 o176 D25.stp; refine tn (wp_ret ?_)
      refine toP ?_
      exact retL1 rfl ok38 (F41.step0 D25.stp) ⟨av, bv, x11, (cvb (by (exact (decide_eq_false h44).symm)) (D25.dn 0 rfl rfl)), (ownp_cell 6 (Ty.bool (sgS n (PSt.mk all blk mir ql dot) first c).dot) (ownp_cell 5 (Ty.bool (!(List.isEmpty (sgS n (PSt.mk all blk mir ql dot) first c).sm))) (ownp_cell 3 (Ty.bool (sgS n (PSt.mk all blk mir ql dot) first c).mir) o183 rfl (fun _ _ h => (cvb (by (rw [hS])) h))) rfl (fun _ _ h => (cvb (by (rw [hS]; simp)) h))) rfl (fun _ _ h => (cvb (by (rw [hS])) h))), (cvo (by (rw [hS])) (by (rw [hS])) o180), (cvo (by (rw [hS])) (by (rw [hS])) o181), (cvo (by (rw [hS])) (by (rw [hS])) o182), (by exact hE)⟩


end Go.Proofs.YtdjihbjikpbhgaaGreatDoor
