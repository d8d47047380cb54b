/- The functions that the law MethodMade reaches, each by its contract. Part 8. -/
import Derived.Test.YtdjihbjikpbhgaaGreatDoorMethodMadeW7
namespace Go.Proofs.YtdjihbjikpbhgaaGreatDoor
open Go.KL

theorem Tryz.fld107_4 : fieldOf Tryz.prog 107 4 = some (30, 4) := by kernel_rfl
theorem Tryz.fld107_5 : fieldOf Tryz.prog 107 5 = some (4, 5) := by kernel_rfl
set_option maxHeartbeats 4000000 in
set_option maxRecDepth 100000 in
theorem close_fn (r av bv sv : Value) (n : Int) (blk : List (List Int)) (mir : Bool) (dot : Bool) (ql : List Int) (σ : GW) (hlow : Low [40, 42, 43] σ) (v0 : Value) (hv0 : Ty.has (Ty.val r) σ v0) (ho_r : OwnP σ 40 r [(Ty.int n), (Ty.val av), (Ty.val bv), (Ty.bool mir), (Ty.val sv), (Ty.bool (!(List.isEmpty ql))), (Ty.bool dot)]) (ho_bv : Own σ 42 30 1 bv (List.length blk) (List.map Ty.ints blk)) (ho_sv : Own σ 43 3 1 sv (List.length ql) (List.map Ty.int ql)) (hb : blk.length ≤ 1000) (hn : 1 ≤ n ∧ n ≤ 12) (H : ql.length ≤ 100000) (hsv : ∀ k, k < ql.length → 1 ≤ ql.getD k 0 ∧ ql.getD k 0 ≤ 12) :
    FnP Tryz.prog 100 #[v0] σ [40, 42, 43] (fun v τ => ∃ (bz : Value), ∃ (sz : Value), True ∧ (OwnP τ 40 r [(Ty.int n), (Ty.val av), (Ty.val bz), (Ty.bool mir), (Ty.val sz), (Ty.bool false), (Ty.bool (clD ql dot))]) ∧ (Own τ 42 30 1 bz (List.length (clB n blk ql)) (List.map Ty.ints (clB n blk ql))) ∧ (Own τ 43 3 1 sz (List.length ([] : List Int)) (List.map Ty.int ([] : List Int))) ∧ ((clE n blk ql) = 0)) (fun c_ => c_ = fltC 103 (clE n blk ql) ∧ (clE n blk ql) ≠ 0) := by
 have hsl : (1 ≤ ql.length) ∨ ql = [] := (by cases ql; exact .inr rfl; exact .inl (by simp))
 refine fn_introP hlow Tryz.func100 rfl Tryz.ntmps100 (Nat.le_of_ble_eq_true rfl) (fun a0 F0 ok0 hargs => ?_)
 have p0 := pB (hargs 0 _ rfl) hv0
 clear hargs; refine wp_seq (wp_seq ?_)
 refine gI a0 σ ok0 (gM p0 (gT (Ty.val r) rfl (fun A G H I J d0 => rP (y_nilp (OwnP.k0 ho_r H) (ed d0 rfl rfl rfl))) (gT (Ty.val (ptrAt r 5)) rfl (fun A G H I J d0 => rP (ownp_field Tryz.fld107_5 Tryz.inf4 (by decide) (OwnP.k0 ho_r H) (ed d0 rfl rfl rfl))) (gS rfl (fun A G H I J d0 => rP (ownp_load Tryz.underlying4 rfl (OwnP.k0 ho_r H) (ed d0 rfl rfl rfl) rfl)) (gS rfl (fun A G H I J d0 => rP (y_not (ed d0 rfl rfl rfl))) (gE ok0 fun a1 s1 ok1 D1 => ?_)))))); have F1 := F0.step0 D1.stp; have q1 := D1.kt p0 rfl; have o1 := OwnP.k0 ho_r D1.stp; have o2 := Own.k0 ho_bv D1.stp; have o3 := Own.k0 ho_sv D1.stp; refine tn ?_
 refine cond_t (D1.dn 4 rfl rfl) (fun c1 => ?_) (fun c1 => ?_)
 ·
  have hsn : ql = [] := by simpa using c1
  refine wp_ret (tr ?_)
  refine toP ?_
  exact retL0 rfl ok1 F1 ⟨bv, sv, trivial, (ownp_cell 6 (Ty.bool (clD ql dot)) (ownp_cell 5 (Ty.bool false) o1 rfl (fun _ _ h => (cvb (by (first | (rw [hsn]; done) | (rw [hsn]; rfl))) h))) rfl (fun _ _ h => (cvb (by (first | (rw [hsn]; done) | (rw [hsn]; rfl))) h))), (cvo (by (rw [hsn, clB_nil])) (by (rw [hsn, clB_nil])) o2), (cvo (by (rw [hsn])) (by (rw [hsn])) o3), (by rw [hsn]; exact clE_nil)⟩
 ·
  have hsn : ql ≠ [] := (by simpa using c1); have hq1 : 1 ≤ ql.length := hsl.resolve_right hsn
  refine wp_skip (tn (wp_seq ?_))
  refine gI a1 s1 ok1 (gM q1 (gT (Ty.val r) rfl (fun A G H I J d0 => rP (y_nilp (OwnP.k0 o1 H) (ed d0 rfl rfl rfl))) (gT (Ty.val (ptrAt r 4)) rfl (fun A G H I J d0 => rP (ownp_field Tryz.fld107_4 Tryz.inf30 (by decide) (OwnP.k0 o1 H) (ed d0 rfl rfl rfl))) (gS rfl (fun A G H I J d0 => rP (ownp_load Tryz.underlying30 rfl (OwnP.k0 o1 H) (ed d0 rfl rfl rfl) rfl)) (gB 0 (gE ok1 fun a2 s2 ok2 D2 => ?_)))))); have q3 := D2.kt q1 rfl; have o4 := OwnP.k0 o1 D2.stp; have o5 := Own.k0 o2 D2.stp; have o6 := Own.k0 o3 D2.stp; refine tn (wp_seq ?_)
  refine gI a2 s2 ok2 (gM q3 (gM q3 (gT (Ty.val r) rfl (fun A G H I J d0 d1 d2 => rP (y_nilp (OwnP.k0 o4 H) (ed d0 rfl rfl rfl))) (gT (Ty.val (ptrAt r 4)) rfl (fun A G H I J d0 d1 d2 => rP (ownp_field Tryz.fld107_4 Tryz.inf30 (by decide) (OwnP.k0 o4 H) (ed d0 rfl rfl rfl))) (gE2 ok2 fun a3 s3 ok3 D3 => ?_))))); have o7 := OwnP.k0 o4 D3.stp; have o8 := Own.k0 o5 D3.stp; have o9 := Own.k0 o6 D3.stp
  refine tailL0 (L := [40]) (R := (fun _ τ => OwnP τ 40 r ([(Ty.int n), (Ty.val av), (Ty.val bv), (Ty.bool mir), (Ty.val sv), (Ty.bool (!(List.isEmpty ql))), (Ty.bool dot)].set 4 (Ty.val (Value.slice none 0 0))))) rfl rfl (YldM.toL (m_storep Tryz.inf30 (by decide) o7 (D3.dn 3 (by decide) rfl rfl) (Nat.le_of_ble_eq_true rfl) rfl (one_val rfl))) (fun v1 s4 hs1 r1 => ?_)
  have F4 := ((F1.step0 D2.stp).step0 D3.stp).stepL hs1 (by decide); have q9 := kpL hs1 (by decide) rfl (D3.kt q3 rfl); have q10 := kpL hs1 (by decide) rfl (D3.kt (D2.dn 4 rfl rfl) rfl); have q11 := kpL hs1 (by decide) rfl (D3.dn 1 (by decide) rfl rfl); have o11 := Own.keepL o8 hs1 (by decide) (by decide); have o12 := Own.keepL o9 hs1 (by decide) (by decide)
  have o10 : OwnP s4 40 r [(Ty.int n), (Ty.val av), (Ty.val bv), (Ty.bool mir), (Ty.val (Value.slice none 0 0)), (Ty.bool (!(List.isEmpty ql))), (Ty.bool dot)] := r1
  clear r1
  refine tL (R := (fun v τ => Pr.has (Ty.pr (Ty.val r)) τ v)) ok3 (Yld.toL (y_nilp o10 q11)) fun a4 s5 hs2 ok4 r2 sm1 => ?_
  have F5 := F4.stepL hs2 (by decide); have q13 := kpL hs2 (by decide) (sm1 0 (by decide)) q9; have q14 := kpL hs2 (by decide) (sm1 2 (by decide)) q10; have o13 := Own.keepL o11 hs2 (by decide) (by decide); have o14 := Own.keepL o12 hs2 (by decide) (by decide); have o15 := OwnP.keepL o10 hs2 (by decide) (by decide)
  have q15 : At (Ty.val r) s5 a4 (.tmp 17) := r2
  clear r2
  refine tL (R := (fun v τ => Pr.has (Ty.pr (Ty.val (ptrAt r 5))) τ v)) ok4 (Yld.toL (ownp_field Tryz.fld107_5 Tryz.inf4 (by decide) o15 q15)) fun a5 s6 hs3 ok5 r3 sm2 => ?_
  have F6 := F5.stepL hs3 (by decide); have q16 := kpL hs3 (by decide) (sm2 0 (by decide)) q13; have q17 := kpL hs3 (by decide) (sm2 2 (by decide)) q14; have o16 := Own.keepL o13 hs3 (by decide) (by decide); have o17 := Own.keepL o14 hs3 (by decide) (by decide); have o18 := OwnP.keepL o15 hs3 (by decide) (by decide)
  have q18 : At (Ty.val (ptrAt r 5)) s6 a5 (.tmp 18) := r3
  clear r3
  refine tailL0 (L := [40]) (R := (fun _ τ => OwnP τ 40 r ([(Ty.int n), (Ty.val av), (Ty.val bv), (Ty.bool mir), (Ty.val (Value.slice none 0 0)), (Ty.bool (!(List.isEmpty ql))), (Ty.bool dot)].set 5 (Ty.bool false)))) rfl rfl (YldM.toL (m_storep Tryz.inf4 (by decide) o18 q18 (Nat.le_of_ble_eq_true rfl) rfl (one_val rfl))) (fun v2 s7 hs4 r4 => ?_)
  have F7 := F6.stepL hs4 (by decide); have q19 := kpL hs4 (by decide) rfl q16; have q20 := kpL hs4 (by decide) rfl q17; have o20 := Own.keepL o16 hs4 (by decide) (by decide); have o21 := Own.keepL o17 hs4 (by decide) (by decide)
  have o19 : OwnP s7 40 r [(Ty.int n), (Ty.val av), (Ty.val bv), (Ty.bool mir), (Ty.val (Value.slice none 0 0)), (Ty.bool false), (Ty.bool dot)] := r4
  clear r4; refine wpList_nil (tn (wp_seq (wp_seq ?_)))
  refine gI a5 s7 ok5 (gM q20 (gE2 ok5 fun a6 s8 ok6 D4 => ?_)); have o22 := Own.k0 o20 D4.stp; have o23 := Own.k0 o21 D4.stp; have o24 := OwnP.k0 o19 D4.stp
  refine tL ok6 (y_callL (L := [40]) [(43, 40)] [(40, 43)] #[a6.eval (.tmp 19)] rfl (by decide) Tryz.func119 rfl rfl my1 (isSortedO_fn (sv) (ql) _ (GW.low_lend _ (by decide)) _ (Ty.up _ (GW.le_lend _ _) (D4.dn 0 (by decide) rfl rfl)) (Own.ren (cvo (by (simp)) (by (simp)) o23) (GW.ren_lend _ _ (by decide) rfl)) (by omega) (by omega))) fun a7 s9 hs5 ok7 r5 sm3 => ?_
  have F9 := (F7.step0 D4.stp).stepL hs5 (by decide); have q25 := kpL hs5 (by decide) (sm3 0 (by decide)) (D4.kt q19 rfl); have q26 := kpL hs5 (by decide) (sm3 2 (by decide)) (D4.kt q20 rfl); have o27 := Own.keepL o22 hs5 (by decide) (by decide); have o28 := OwnP.keepL o24 hs5 (by decide) (by decide)
  obtain ⟨t1, ⟨hT1, o25⟩, B1⟩ := r5
  have q27 : At (Ty.bool (sortB (ql))) s9 a7 (.tmp 20) := Ty.up _ B1.le hT1
  have o26 : Own s9 43 3 1 sv (List.length (ql)) (List.map Ty.int (ql)) := Own.ren o25 (B1.ren (by decide) rfl)
  refine tL (R := (fun v τ => Pr.has (Ty.pr (Ty.bool (!(sortB (ql))))) τ v)) ok7 (Yld.toL (y_not q27)) fun a8 s10 hs6 ok8 r6 sm4 => ?_
  have F10 := F9.stepL hs6 (by decide); have q28 := kpL hs6 (by decide) (sm4 0 (by decide)) q25; have q29 := kpL hs6 (by decide) (sm4 2 (by decide)) q26; have o29 := Own.keepL o27 hs6 (by decide) (by decide); have o30 := OwnP.keepL o28 hs6 (by decide) (by decide); have o31 := Own.keepL o26 hs6 (by decide) (by decide)
  have q30 : At (Ty.bool (!(sortB (ql)))) s10 a8 (.tmp 21) := r6
  clear r6
  refine tL ok8 (Yld.toL (y_mv q30)) fun a9 s11 hs7 ok9 r7 sm5 => ?_
  have F11 := F10.stepL hs7 (by decide); have q31 := kpL hs7 (by decide) (sm5 0 (by decide)) q28; have q32 := kpL hs7 (by decide) (sm5 2 (by decide)) q29; have o32 := Own.keepL o29 hs7 (by decide) (by decide); have o33 := OwnP.keepL o30 hs7 (by decide) (by decide); have o34 := Own.keepL o31 hs7 (by decide) (by decide)
  have q33 : At (Ty.bool (!(sortB (ql)))) s11 a9 (.tmp 22) := r7
  clear r7
  rcases Bool.eq_false_or_eq_true (!(sortB (ql))) with hg1 | hg1
  ·
   have q34 : At (Ty.bool true) s11 a9 (.tmp 22) := cvb hg1 q33
   have hso : sortB ql = false := by simpa using hg1
   refine tailSkip ok9 rfl rfl (by decide) q34 rfl rfl (by decide) (fun a10 ok10 q35 sm6 => ?_)
   have q36 : At (Ty.val r) s11 a10 (.tmp 0) := kp (sm6 0 (by decide)) (Stp.refl _ _) q31
   have q37 : At (Ty.val sv) s11 a10 (.tmp 2) := kp (sm6 2 (by decide)) (Stp.refl _ _) q32
   have q38 : At (Ty.bool true) s11 a10 (.tmp 22) := kp (sm6 22 (by decide)) (Stp.refl _ _) q34
   refine tailSkip ok10 rfl rfl (by decide) q38 rfl rfl (by decide) (fun a11 ok11 q39 sm7 => ?_)
   have q40 : At (Ty.val r) s11 a11 (.tmp 0) := kp (sm7 0 (by decide)) (Stp.refl _ _) q36
   have q41 : At (Ty.val sv) s11 a11 (.tmp 2) := kp (sm7 2 (by decide)) (Stp.refl _ _) q37
   have q42 : At (Ty.bool true) s11 a11 (.tmp 22) := kp (sm7 22 (by decide)) (Stp.refl _ _) q38
   refine tailSkip ok11 rfl rfl (by decide) q42 rfl rfl (by decide) (fun a12 ok12 q43 sm8 => ?_)
   have q44 : At (Ty.val r) s11 a12 (.tmp 0) := kp (sm8 0 (by decide)) (Stp.refl _ _) q40
   have q45 : At (Ty.val sv) s11 a12 (.tmp 2) := kp (sm8 2 (by decide)) (Stp.refl _ _) q41
   have q46 : At (Ty.bool true) s11 a12 (.tmp 22) := kp (sm8 22 (by decide)) (Stp.refl _ _) q42
   refine tailSkip ok12 rfl rfl (by decide) q46 rfl rfl (by decide) (fun a13 ok13 q47 sm9 => ?_)
   have q48 : At (Ty.val r) s11 a13 (.tmp 0) := kp (sm9 0 (by decide)) (Stp.refl _ _) q44
   have q49 : At (Ty.val sv) s11 a13 (.tmp 2) := kp (sm9 2 (by decide)) (Stp.refl _ _) q45
   have q50 : At (Ty.bool true) s11 a13 (.tmp 22) := kp (sm9 22 (by decide)) (Stp.refl _ _) q46
   refine tailSkip ok13 rfl rfl (by decide) q50 rfl rfl (by decide) (fun a14 ok14 q51 sm10 => ?_)
   have q52 : At (Ty.val r) s11 a14 (.tmp 0) := kp (sm10 0 (by decide)) (Stp.refl _ _) q48
   have q53 : At (Ty.val sv) s11 a14 (.tmp 2) := kp (sm10 2 (by decide)) (Stp.refl _ _) q49
   have q54 : At (Ty.bool true) s11 a14 (.tmp 22) := kp (sm10 22 (by decide)) (Stp.refl _ _) q50
   have q55 : At (Ty.val undef) s11 a14 (.tmp 26) := kp (sm10 26 (by decide)) (Stp.refl _ _) q47
   refine tailSkip ok14 rfl rfl (by decide) q54 rfl rfl (by decide) (fun a15 ok15 q56 sm11 => ?_)
   have q57 : At (Ty.val r) s11 a15 (.tmp 0) := kp (sm11 0 (by decide)) (Stp.refl _ _) q52
   have q58 : At (Ty.val sv) s11 a15 (.tmp 2) := kp (sm11 2 (by decide)) (Stp.refl _ _) q53
   have q59 : At (Ty.bool true) s11 a15 (.tmp 22) := kp (sm11 22 (by decide)) (Stp.refl _ _) q54
   have q60 : At (Ty.val undef) s11 a15 (.tmp 26) := kp (sm11 26 (by decide)) (Stp.refl _ _) q55
   refine tailSkip ok15 rfl rfl (by decide) q59 rfl rfl (by decide) (fun a16 ok16 q61 sm12 => ?_)
   have q62 : At (Ty.val r) s11 a16 (.tmp 0) := kp (sm12 0 (by decide)) (Stp.refl _ _) q57
   have q63 : At (Ty.val sv) s11 a16 (.tmp 2) := kp (sm12 2 (by decide)) (Stp.refl _ _) q58
   have q64 : At (Ty.bool true) s11 a16 (.tmp 22) := kp (sm12 22 (by decide)) (Stp.refl _ _) q59
   refine tL (R := (fun v τ => Pr.has (Ty.pr (Ty.bool true)) τ v)) ok16 (Yld.toL (y_pickT q64 rfl)) fun a17 s12 hs8 ok17 r8 sm13 => ?_
   have F12 := F11.stepL hs8 (by decide); have q65 := kpL hs8 (by decide) (sm13 0 (by decide)) q62; have q66 := kpL hs8 (by decide) (sm13 2 (by decide)) q63; have o35 := Own.keepL o32 hs8 (by decide) (by decide); have o36 := OwnP.keepL o33 hs8 (by decide) (by decide); have o37 := Own.keepL o34 hs8 (by decide) (by decide)
   have q67 : At (Ty.bool true) s12 a17 (.tmp 30) := r8
   clear r8; refine wpList_nil (tn ?_)
   refine cond_t q67 (fun _ => ?_) (fun c2 => (by cases c2))
   refine gI a17 s12 ok17 (gE2 ok17 fun a18 s13 ok18 D5 => ?_); have F13 := F12.step0 D5.stp; have o38 := Own.k0 o35 D5.stp; have o39 := OwnP.k0 o36 D5.stp; have o40 := Own.k0 o37 D5.stp
   refine tailP (L := []) (R := (fun v τ' => ∃ τ, (fun v τ => True ∧ (((6 : Int)) = 0)) v τ ∧ Back [] τ τ')) (E := (fun c_ => c_ = fltC 103 ((6 : Int)) ∧ ((6 : Int)) ≠ 0)) rfl rfl (by decide) ok18 (y_callP (L := []) [] [] #[a18.eval ((Operand.const (Value.int IntKind.i64 6)))] rfl (by decide) Tryz.func102 rfl rfl (by simp only [List.map_toArray, List.map_cons, List.map_nil]) (fail_fn ((6 : Int)) _ (GW.low_lend _ (by decide)) _ (Ty.up _ (GW.le_lend _ _) (cvi (σ := s13) (by omega) rfl))  (by omega))) (fun c_ t_ hs_ he_ => panB ok18 (F13.stepL hs_ (by decide)) (fltTo (fun h_ => by exact clE_6 hsn (by rw [incr_sd, hso]; rfl)) he_)) (fun a19 s14 hs9 ok19 r9 sm14 => ?_)
   have F14 := F13.stepL hs9 (by decide); have q70 := kpL hs9 (by decide) (sm14 0 (by decide)) (D5.kt q65 rfl); have q71 := kpL hs9 (by decide) (sm14 2 (by decide)) (D5.kt q66 rfl); have o41 := Own.keepL o38 hs9 (by decide) (by decide); have o42 := OwnP.keepL o39 hs9 (by decide) (by decide); have o43 := Own.keepL o40 hs9 (by decide) (by decide)
   obtain ⟨t2, ⟨hT2, hp1⟩, B2⟩ := r9
   exact absurd hp1 (by first | decide | assumption | omega)
  ·
   have q73 : At (Ty.bool false) s11 a9 (.tmp 22) := cvb hg1 q33
   have hso : sortB ql = true := by simpa using hg1
   refine tailDo (L := []) (R := (fun v τ => Pr.has (Ty.pr (Ty.val sv)) τ v)) ok9 rfl rfl (by decide) q73 rfl rfl (by decide) (Yld.toL (y_move q32)) (fun a20 s15 hs10 ok20 r10 sm15 => ?_)
   have F15 := F11.stepL hs10 (by decide); have q74 := kpL hs10 (by decide) (sm15 0 (by decide)) q31; have q75 := kpL hs10 (by decide) (sm15 2 (by decide)) q32; have q76 := kpL hs10 (by decide) (sm15 22 (by decide)) q73; have o44 := Own.keepL o32 hs10 (by decide) (by decide); have o45 := OwnP.keepL o33 hs10 (by decide) (by decide); have o46 := Own.keepL o34 hs10 (by decide) (by decide)
   have q77 : At (Ty.val sv) s15 a20 (.tmp 23) := r10
   clear r10
   refine tailDo (L := [43]) (R := (fun v τ' => ∃ τ, (fun v τ => ∃ (z : Value), (Ty.has (Ty.val z) τ v) ∧ (Own τ 40 3 1 sv (List.length ((ql))) (List.map Ty.int ((ql)))) ∧ (Own τ 41 3 1 z (List.length ((ql))) (List.map Ty.int ((ql))))) v τ ∧ Back [(40, 43), (41, 61)] τ τ')) ok20 rfl rfl (by decide) q76 rfl rfl (by decide) (y_callL (L := [40]) [(43, 40)] [(40, 43), (41, 61)] #[a20.eval (.tmp 23)] rfl (by decide) Tryz.func104 rfl rfl my1 (cloneO_fn (sv) ((ql)) _ (GW.low_lend _ (by decide)) _ (Ty.up _ (GW.le_lend _ _) q77) (Own.ren (cvo (by (simp)) (by (simp)) o46) (GW.ren_lend _ _ (by decide) rfl)) (by first | omega | (simp only [List.length_append, List.length_singleton]; omega)) (by first | omega | (simp only [List.length_append, List.length_singleton]; omega)))) (fun a21 s16 hs11 ok21 r11 sm16 => ?_)
   have F16 := F15.stepL hs11 (by decide); have q78 := kpL hs11 (by decide) (sm16 0 (by decide)) q74; have q79 := kpL hs11 (by decide) (sm16 2 (by decide)) q75; have q80 := kpL hs11 (by decide) (sm16 22 (by decide)) q76; have o51 := Own.keepL o44 hs11 (by decide) (by decide); have o52 := OwnP.keepL o45 hs11 (by decide) (by decide)
   obtain ⟨t3, ⟨x1, hT3, o47, o48⟩, B3⟩ := r11
   have q81 : At (Ty.val x1) s16 a21 (.tmp 24) := Ty.up _ B3.le hT3
   have o49 : Own s16 43 3 1 sv (List.length ((ql))) (List.map Ty.int ((ql))) := Own.ren o47 (B3.ren (by decide) rfl)
   have o50 : Own s16 61 3 1 x1 (List.length ((ql))) (List.map Ty.int ((ql))) := Own.ren o48 (B3.ren (by decide) rfl)
   refine tailDo (L := [61]) (R := (fun v τ' => ∃ τ, (fun v τ => ∃ (zs : List Int), ∃ (z : Value), (Ty.has (Ty.val z) τ v) ∧ (Own τ 40 3 1 z (List.length zs) (List.map Ty.int zs)) ∧ ((dupB (((ql))) = false → zs.length = (((ql))).length) ∧ (dupB (((ql))) = true → zs.length < (((ql))).length))) v τ ∧ Back [(40, 61)] τ τ')) ok21 rfl rfl (by decide) q80 rfl rfl (by decide) (y_callL (L := [40]) [(61, 40)] [(40, 61)] #[a21.eval (.tmp 24)] rfl (by decide) Tryz.func120 rfl rfl my1 (compact_fn (x1) (((ql))) _ (GW.low_lend _ (by decide)) _ (Ty.up _ (GW.le_lend _ _) q81) (Own.ren (cvo (by (simp)) (by (simp)) o50) (GW.ren_lend _ _ (by decide) rfl)) (by omega) (by omega))) (fun a22 s17 hs12 ok22 r12 sm17 => ?_)
   have F17 := F16.stepL hs12 (by decide); have q82 := kpL hs12 (by decide) (sm17 0 (by decide)) q78; have q83 := kpL hs12 (by decide) (sm17 2 (by decide)) q79; have q84 := kpL hs12 (by decide) (sm17 22 (by decide)) q80; have o55 := Own.keepL o51 hs12 (by decide) (by decide); have o56 := OwnP.keepL o52 hs12 (by decide) (by decide); have o57 := Own.keepL o49 hs12 (by decide) (by decide)
   obtain ⟨t4, ⟨g1, x2, hT4, o53, hp2⟩, B4⟩ := r12
   have q85 : At (Ty.val x2) s17 a22 (.tmp 25) := Ty.up _ B4.le hT4
   have o54 : Own s17 61 3 1 x2 (List.length (g1)) (List.map Ty.int (g1)) := Own.ren o53 (B4.ren (by decide) rfl)
   refine tailDo (L := []) (R := (fun v τ => Pr.has (Ty.pr (Ty.nat (List.length (g1)))) τ v)) ok22 rfl rfl (by decide) q84 rfl rfl (by decide) (Yld.toL (own_len Tryz.underlying30 (al (R := (Pr.own 61 3 1 (List.length (g1)) (List.map Ty.int (g1)))) q85 o54))) (fun a23 s18 hs13 ok23 r13 sm18 => ?_)
   have F18 := F17.stepL hs13 (by decide); have q86 := kpL hs13 (by decide) (sm18 0 (by decide)) q82; have q87 := kpL hs13 (by decide) (sm18 2 (by decide)) q83; have q88 := kpL hs13 (by decide) (sm18 22 (by decide)) q84; have o58 := Own.keepL o55 hs13 (by decide) (by decide); have o59 := OwnP.keepL o56 hs13 (by decide) (by decide); have o60 := Own.keepL o57 hs13 (by decide) (by decide); have o61 := Own.keepL o54 hs13 (by decide) (by decide)
   have q89 : At (Ty.nat (List.length (g1))) s18 a23 (.tmp 26) := r13
   clear r13
   refine tailDo (L := []) (R := (fun v τ => Pr.has (Ty.pr (Ty.val sv)) τ v)) ok23 rfl rfl (by decide) q88 rfl rfl (by decide) (Yld.toL (y_move q87)) (fun a24 s19 hs14 ok24 r14 sm19 => ?_)
   have F19 := F18.stepL hs14 (by decide); have q90 := kpL hs14 (by decide) (sm19 0 (by decide)) q86; have q91 := kpL hs14 (by decide) (sm19 2 (by decide)) q87; have q92 := kpL hs14 (by decide) (sm19 22 (by decide)) q88; have q93 := kpL hs14 (by decide) (sm19 26 (by decide)) q89; have o62 := Own.keepL o58 hs14 (by decide) (by decide); have o63 := OwnP.keepL o59 hs14 (by decide) (by decide); have o64 := Own.keepL o60 hs14 (by decide) (by decide); have o65 := Own.keepL o61 hs14 (by decide) (by decide)
   have q94 : At (Ty.val sv) s19 a24 (.tmp 27) := r14
   clear r14
   refine tailDo (L := []) (R := (fun v τ => Pr.has (Ty.pr (Ty.nat (List.length ((ql))))) τ v)) ok24 rfl rfl (by decide) q92 rfl rfl (by decide) (Yld.toL (own_len Tryz.underlying30 (al (R := (Pr.own 43 3 1 (List.length ((ql))) (List.map Ty.int ((ql))))) q94 o64))) (fun a25 s20 hs15 ok25 r15 sm20 => ?_)
   have F20 := F19.stepL hs15 (by decide); have q95 := kpL hs15 (by decide) (sm20 0 (by decide)) q90; have q96 := kpL hs15 (by decide) (sm20 2 (by decide)) q91; have q97 := kpL hs15 (by decide) (sm20 22 (by decide)) q92; have q98 := kpL hs15 (by decide) (sm20 26 (by decide)) q93; have o66 := Own.keepL o62 hs15 (by decide) (by decide); have o67 := OwnP.keepL o63 hs15 (by decide) (by decide); have o68 := Own.keepL o64 hs15 (by decide) (by decide); have o69 := Own.keepL o65 hs15 (by decide) (by decide)
   have q99 : At (Ty.nat (List.length ((ql)))) s20 a25 (.tmp 28) := r15
   clear r15
   refine tailDo (L := []) (R := (fun v τ => Pr.has (Ty.pr (Ty.bool (decide ((((List.length (g1)) : Nat) : Int) < (((List.length ((ql))) : Nat) : Int))))) τ v)) ok25 rfl rfl (by decide) q97 rfl rfl (by decide) (Yld.toL (y_lss q98 q99)) (fun a26 s21 hs16 ok26 r16 sm21 => ?_)
   have F21 := F20.stepL hs16 (by decide); have q100 := kpL hs16 (by decide) (sm21 0 (by decide)) q95; have q101 := kpL hs16 (by decide) (sm21 2 (by decide)) q96; have q102 := kpL hs16 (by decide) (sm21 22 (by decide)) q97; have o70 := Own.keepL o66 hs16 (by decide) (by decide); have o71 := OwnP.keepL o67 hs16 (by decide) (by decide); have o72 := Own.keepL o68 hs16 (by decide) (by decide); have o73 := Own.keepL o69 hs16 (by decide) (by decide)
   have q103 : At (Ty.bool (decide ((((List.length (g1)) : Nat) : Int) < (((List.length ((ql))) : Nat) : Int)))) s21 a26 (.tmp 29) := r16
   clear r16
   refine tL (R := (fun v τ => Pr.has (Ty.pr (Ty.bool (decide ((((List.length (g1)) : Nat) : Int) < (((List.length ((ql))) : Nat) : Int))))) τ v)) ok26 (Yld.toL (y_pickF q102 q103)) fun a27 s22 hs17 ok27 r17 sm22 => ?_
   have F22 := F21.stepL hs17 (by decide); have q104 := kpL hs17 (by decide) (sm22 0 (by decide)) q100; have q105 := kpL hs17 (by decide) (sm22 2 (by decide)) q101; have o74 := Own.keepL o70 hs17 (by decide) (by decide); have o75 := OwnP.keepL o71 hs17 (by decide) (by decide); have o76 := Own.keepL o72 hs17 (by decide) (by decide); have o77 := Own.keepL o73 hs17 (by decide) (by decide)
   have q106 : At (Ty.bool (decide ((((List.length (g1)) : Nat) : Int) < (((List.length ((ql))) : Nat) : Int)))) s22 a27 (.tmp 30) := r17
   clear r17; refine wpList_nil (tn ?_)
   refine cond_p (p := ((((List.length (g1)) : Nat) : Int) < (((List.length ((ql))) : Nat) : Int))) q106 (fun c3 => ?_) (fun c3 => ?_)
   ·
    have hdu : dupB ql = true := (by cases e : dupB ql; exact absurd (hp2.1 e) (by omega); rfl)
    refine gI a27 s22 ok27 (gE2 ok27 fun a28 s23 ok28 D6 => ?_); have F23 := F22.step0 D6.stp; have o78 := Own.k0 o74 D6.stp; have o79 := OwnP.k0 o75 D6.stp; have o80 := Own.k0 o76 D6.stp
    refine tailP (L := []) (R := (fun v τ' => ∃ τ, (fun v τ => True ∧ (((6 : Int)) = 0)) v τ ∧ Back [] τ τ')) (E := (fun c_ => c_ = fltC 103 ((6 : Int)) ∧ ((6 : Int)) ≠ 0)) rfl rfl (by decide) ok28 (y_callP (L := []) [] [] #[a28.eval ((Operand.const (Value.int IntKind.i64 6)))] rfl (by decide) Tryz.func102 rfl rfl (by simp only [List.map_toArray, List.map_cons, List.map_nil]) (fail_fn ((6 : Int)) _ (GW.low_lend _ (by decide)) _ (Ty.up _ (GW.le_lend _ _) (cvi (σ := s23) (by omega) rfl))  (by omega))) (fun c_ t_ hs_ he_ => panB ok28 (F23.stepL hs_ (by decide)) (fltTo (fun h_ => by exact clE_6 hsn (by rw [incr_sd, hdu]; simp)) he_)) (fun a29 s24 hs18 ok29 r18 sm23 => ?_)
    have F24 := F23.stepL hs18 (by decide); have q109 := kpL hs18 (by decide) (sm23 0 (by decide)) (D6.kt q104 rfl); have q110 := kpL hs18 (by decide) (sm23 2 (by decide)) (D6.kt q105 rfl); have o81 := Own.keepL o78 hs18 (by decide) (by decide); have o82 := OwnP.keepL o79 hs18 (by decide) (by decide); have o83 := Own.keepL o80 hs18 (by decide) (by decide)
    obtain ⟨t5, ⟨hT5, hp3⟩, B5⟩ := r18
    exact absurd hp3 (by first | decide | assumption | omega)
   ·
    have hdu : dupB ql = false := (by cases e : dupB ql; rfl; exact absurd (hp2.2 e) (by omega)); have hin : incrB ql = true := (by rw [incr_sd, hso, hdu]; rfl); have hv0 := hsv 0 (by omega); have hv0b : 1 ≤ ql.getD ((0 : Int)).toNat 0 ∧ ql.getD ((0 : Int)).toNat 0 ≤ 12 := hv0; have hvl := hsv (ql.length - 1) (by omega)
    refine wp_skip (tn (wp_seq (wp_seq ?_)))
    refine gI a27 s22 ok27 (gM q105 (gT (Ty.val (cellPtr sv ((0 : Int)).toNat)) rfl (fun A G H I J d0 => rP (own_index1 (i := (0 : Int)) Tryz.underlying30 Tryz.inf3 (Own.k0 o76 H) (ed d0 rfl rfl rfl) rfl (by omega) (by omega))) (gS rfl (fun A G H I J d0 => rP (own_load Tryz.underlying3 rfl (Own.k0 o76 H) (ed d0 rfl rfl rfl) (lst_get Ty.int ((ql)) 0 ((0 : Int)).toNat (by omega)))) (gT (Ty.nat (((((ql)).getD ((0 : Int)).toNat 0)).toNat % 2)) rfl (fun A G H I J d0 => rP (y_remN (toN (σ := G) (ed d0 rfl rfl rfl) (by omega)) (toN (σ := G) rfl (by omega)) (by omega))) (gS rfl (fun A G H I J d0 => rP (y_eql (ed d0 rfl rfl rfl) rfl)) (gE ok27 fun a30 s25 ok30 D7 => ?_)))))); have F25 := F22.step0 D7.stp; have q112 := D7.kt q104 rfl; have q113 := D7.kt q105 rfl; have o84 := Own.k0 o74 D7.stp; have o85 := OwnP.k0 o75 D7.stp; have o86 := Own.k0 o76 D7.stp; refine tn ?_
    refine cond_p (p := ((((((((ql)).getD ((0 : Int)).toNat 0)).toNat % 2) : Nat) : Int) = (0 : Int))) (D7.dn 4 rfl rfl) (fun c4 => ?_) (fun c4 => ?_)
    ·
     have hf : plFst ql = [(1 : Int)] ++ ql := plFst_1 c4; have hl1 : ([(1 : Int)] ++ ql).length = ql.length + 1 := (by rw [List.length_append, List.length_singleton]; omega); have hl2 := ins_last (c := 1) hq1
     refine gI a30 s25 ok30 (gM q113 (gR (Pr.own 50 3 1 1 (List.map Ty.int [(1 : Int)])) rfl (by intro A G H I J; exact rP ((y_lit1 (k := 50) Tryz.underlying30 Tryz.inf3 rfl (one_val rfl) (show Ty.has (Ty.int (1 : Int)) G (A.eval ((Operand.const (Value.int IntKind.i64 1)))) from rfl)).mono (fun _ _ h => cvo (by simp) (by simp) h))) (gE2 ok30 fun a31 s26 ok31 D8 => ?_))); have o87 := Own.k0 o84 D8.stp; have o88 := OwnP.k0 o85 D8.stp; have o89 := Own.k0 o86 D8.stp
     obtain ⟨x3, hx1⟩ : ∃ x, a31.eval (.tmp 38) = x := ⟨_, rfl⟩
     have q118 : At (Ty.val x3) s26 a31 (.tmp 38) := hx1
     have o90 := al2 (R := (Pr.own 50 3 1 1 (List.map Ty.int [(1 : Int)]))) hx1 (D8.done 1 (by decide))
     refine tL ok31 (y_callL (L := [40, 41]) [(43, 40), (50, 41)] [(40, 43), (41, 50)] #[a31.eval (.tmp 37), a31.eval ((Operand.const (Value.int IntKind.i64 0))), a31.eval (.tmp 38)] rfl (by decide) Tryz.func121 rfl rfl my3 (insert_fn (sv) (((ql))) (x3) ([(1 : Int)]) _ (GW.low_lend _ (by decide)) _ _ _ (Ty.up _ (GW.le_lend _ _) (D8.dn 0 (by decide) rfl rfl)) (Ty.up _ (GW.le_lend _ _) (cvi (σ := s26) (by first | omega | exact ⟨_, rfl⟩) rfl)) (Ty.up _ (GW.le_lend _ _) q118) (Own.ren (cvo (by (simp)) (by (simp)) o89) (GW.ren_lend _ _ (by decide) rfl)) (Own.ren (cvo (by (simp)) (by (simp)) o90) (GW.ren_lend _ _ (by decide) rfl)) (by first | omega | exact ⟨_, rfl⟩) (by first | omega | exact ⟨_, rfl⟩) (by first | omega | exact ⟨_, rfl⟩))) fun a32 s27 hs19 ok32 r19 sm24 => ?_
     have F27 := (F25.step0 D8.stp).stepL hs19 (by decide); have q119 := kpL hs19 (by decide) (sm24 0 (by decide)) (D8.kt q112 rfl); have q120 := kpL hs19 (by decide) (sm24 2 (by decide)) (D8.kt q113 rfl); have o93 := Own.keepL o87 hs19 (by decide) (by decide); have o94 := OwnP.keepL o88 hs19 (by decide) (by decide)
     obtain ⟨t6, ⟨x4, hT6, o91⟩, B6⟩ := r19
     have q121 : At (Ty.val x4) s27 a32 (.tmp 39) := Ty.up _ B6.le hT6
     have o92 : Own s27 43 3 1 x4 (List.length (([(1 : Int)]) ++ (((ql))))) (List.map Ty.int (([(1 : Int)]) ++ (((ql))))) := Own.ren o91 (B6.ren (by decide) rfl)
     refine tL ok32 (Yld.toL (y_as q121)) fun a33 s28 hs20 ok33 r20 sm25 => ?_
     have F28 := F27.stepL hs20 (by decide); have q122 := kpL hs20 (by decide) (sm25 0 (by decide)) q119; have o95 := Own.keepL o93 hs20 (by decide) (by decide); have o96 := OwnP.keepL o94 hs20 (by decide) (by decide); have o97 := Own.keepL o92 hs20 (by decide) (by decide)
     have q123 : At (Ty.val x4) s28 a33 (.tmp 2) := r20
     clear r20; refine wpList_nil (tn (wp_seq (wp_seq ?_)))
     refine gI a33 s28 ok33 (gM q123 (gM q123 (gT (Ty.nat (List.length (([(1 : Int)]) ++ (((ql)))))) rfl (fun A G H I J d0 => rP (own_len Tryz.underlying30 (al (R := (Pr.own 43 3 1 (List.length (([(1 : Int)]) ++ (((ql))))) (List.map Ty.int (([(1 : Int)]) ++ (((ql))))))) (ed d0 rfl rfl rfl) (Own.k0 o97 H)))) (gT (Ty.nat ((List.length (([(1 : Int)]) ++ (((ql))))) - 1)) rfl (fun A G H I J d0 => rP ((y_sub (ed d0 rfl rfl rfl) rfl (w64 (by omega) (by omega))).mono (fun τ _ h => cvi (σ := τ) (by omega) h))) (gT (Ty.val (cellPtr x4 ((List.length (([(1 : Int)]) ++ (((ql))))) - 1))) rfl (fun A G H I J d0 d1 => rP (own_index1 (i := ((((List.length (([(1 : Int)]) ++ (((ql))))) - 1) : Nat) : Int)) Tryz.underlying30 Tryz.inf3 (Own.k0 o97 H) (ed d0 rfl rfl rfl) (ed d1 rfl rfl rfl) (by omega) (by omega))) (gS rfl (fun A G H I J d0 => rP (own_load Tryz.underlying3 rfl (Own.k0 o97 H) (ed d0 rfl rfl rfl) (lst_get Ty.int (([(1 : Int)]) ++ (((ql)))) 0 ((List.length (([(1 : Int)]) ++ (((ql))))) - 1) (by omega)))) (gB 0 (gE ok33 fun a34 s29 ok34 D9 => ?_)))))))); have q124 := D9.kt q122 rfl; have o98 := Own.k0 o95 D9.stp; have o99 := OwnP.k0 o96 D9.stp; have o100 := Own.k0 o97 D9.stp; have q126 := D9.dn 6 rfl rfl; refine tn (wp_seq ?_)
     refine gI a34 s29 ok34 (gM q126 (gM q124 (gT (Ty.val r) rfl (fun A G H I J d0 => rP (y_nilp (OwnP.k0 o99 H) (ed d0 rfl rfl rfl))) (gT (Ty.val (ptrAt r 0)) rfl (fun A G H I J d0 => rP (ownp_field Tryz.fld107_0 Tryz.inf3 (by decide) (OwnP.k0 o99 H) (ed d0 rfl rfl rfl))) (gS rfl (fun A G H I J d0 => rP (ownp_load Tryz.underlying3 rfl (OwnP.k0 o99 H) (ed d0 rfl rfl rfl) rfl)) (gS rfl (fun A G H I J d0 d1 => rP (y_lss (ed d0 rfl rfl rfl) (ed d1 rfl rfl rfl))) (gS rfl (fun A G H I J d0 => rP (y_move (ed d0 rfl rfl rfl))) (gS rfl (fun A G H I J d0 => gu I (ed d0 rfl rfl rfl) fun hg => y_move (kp (J 0 rfl) H q124)) (gT (Ty.grd ((decide (((([(1 : Int)]) ++ (((ql)))).getD ((List.length (([(1 : Int)]) ++ (((ql))))) - 1) 0) < n)) = true) (Ty.val r)) rfl (fun A G H I J d0 d1 => gu I (ed d1 rfl rfl rfl) fun hg => y_nilp (OwnP.k0 o99 H) ((ed d0 rfl rfl rfl).1 hg)) (gT (Ty.grd ((decide (((([(1 : Int)]) ++ (((ql)))).getD ((List.length (([(1 : Int)]) ++ (((ql))))) - 1) 0) < n)) = true) (Ty.val (ptrAt r 0))) rfl (fun A G H I J d0 d1 => gut I (ed d1 rfl rfl rfl) fun hg hp => ownp_field Tryz.fld107_0 Tryz.inf3 (by decide) (OwnP.k0 o99 H) ((ed d0 rfl rfl rfl).1 hg)) (gS rfl (fun A G H I J d0 d1 => gu I (ed d1 rfl rfl rfl) fun hg => ownp_load Tryz.underlying3 rfl (OwnP.k0 o99 H) ((ed d0 rfl rfl rfl).1 hg) rfl) (gS rfl (fun A G H I J d0 => gu I (ed d0 rfl rfl rfl) fun hg => y_move (kp (J 3 rfl) H q126)) (gT (Ty.grd ((decide (((([(1 : Int)]) ++ (((ql)))).getD ((List.length (([(1 : Int)]) ++ (((ql))))) - 1) 0) < n)) = true) (Ty.int (n - ((([(1 : Int)]) ++ (((ql)))).getD ((List.length (([(1 : Int)]) ++ (((ql))))) - 1) 0)))) rfl (fun A G H I J d0 d1 d2 => gut I (ed d2 rfl rfl rfl) fun hg hp => y_sub ((ed d0 rfl rfl rfl).1 hg) ((ed d1 rfl rfl rfl).1 hg) (w64 (by omega) (by omega))) ?_)))))))))))))
     refine gT (Ty.grd ((decide (((([(1 : Int)]) ++ (((ql)))).getD ((List.length (([(1 : Int)]) ++ (((ql))))) - 1) 0) < n)) = true) (Ty.nat (((n - ((([(1 : Int)]) ++ (((ql)))).getD ((List.length (([(1 : Int)]) ++ (((ql))))) - 1) 0))).toNat % 2))) rfl (fun A G H I J d0 d1 => gut I (ed d1 rfl rfl rfl) fun hg hp => y_remN (toN (σ := G) ((ed d0 rfl rfl rfl).1 hg) (by omega)) (toN (σ := G) rfl (by omega)) (by omega)) (gS rfl (fun A G H I J d0 d1 => gu I (ed d1 rfl rfl rfl) fun hg => y_eql ((ed d0 rfl rfl rfl).1 hg) rfl) (gS rfl (fun A G H I J d0 d1 => rP (y_pick_and (ed d0 rfl rfl rfl) (ed d1 rfl rfl rfl) rfl)) (gE ok34 fun a35 s30 ok35 D10 => ?_))); have F30 := (F28.step0 D9.stp).step0 D10.stp; have q127 := D10.kt q124 rfl; have q128 := D10.kt (D9.kt q123 rfl) rfl; have o101 := Own.k0 o98 D10.stp; have o102 := OwnP.k0 o99 D10.stp; have o103 := Own.k0 o100 D10.stp; have q129 := D10.dn 15 rfl rfl; refine tn ?_
     refine cond_t q129 (fun c5 => ?_) (fun c5 => ?_)
     ·
      obtain ⟨d1, d2⟩ := Bool.and_eq_true_iff.mp c5
      replace d1 := of_decide_eq_true d1
      replace d2 := of_decide_eq_true d2
      simp only [Bool.and_eq_true, decide_eq_true_eq] at c5; have hL : plIn n ql = ([(1 : Int)] ++ ql) ++ [n] := plIn_1 hf c5.1 (by have h_ := c5.2; omega)
      refine gI a35 s30 ok35 (gM q128 (gM q127 (gT (Ty.val r) rfl (fun A G H I J d0 => rP (y_nilp (OwnP.k0 o102 H) (ed d0 rfl rfl rfl))) (gT (Ty.val (ptrAt r 0)) rfl (fun A G H I J d0 => rP (ownp_field Tryz.fld107_0 Tryz.inf3 (by decide) (OwnP.k0 o102 H) (ed d0 rfl rfl rfl))) (gS rfl (fun A G H I J d0 => rP (ownp_load Tryz.underlying3 rfl (OwnP.k0 o102 H) (ed d0 rfl rfl rfl) rfl)) (gT (Ty.sl 1 1 [(Ty.int n)]) rfl (fun A G H I J d0 => rP (y_build1o Tryz.underlying30 Tryz.inf3 rfl (one_val rfl) (ed d0 rfl rfl rfl))) (gE2 ok35 fun a36 s31 ok36 D11 => ?_))))))); have o104 := Own.k0 o101 D11.stp; have o105 := OwnP.k0 o102 D11.stp; have o106 := Own.k0 o103 D11.stp
      have q132 : At (Ty.val x4) s31 a36 (.tmp 62) := D11.done 0 (by decide)
      have q133 := D11.dn 5 (by decide) rfl rfl
      have b1 := sl_le q133
      refine tL ok36 (YldM.toL (m_append Tryz.underlying30 Tryz.inf3 (by decide) rfl (by decide) (al (R := (Pr.own 43 3 1 (List.length (([(1 : Int)]) ++ (((ql))))) (List.map Ty.int (([(1 : Int)]) ++ (((ql))))))) q132 o106) q133 (by intro U hU; simp at hU; subst hU; exact one_val rfl) (by omega) (by omega))) fun a37 s32 hs21 ok37 r21 sm26 => ?_
      have F32 := (F30.step0 D11.stp).stepL hs21 (by decide); have q134 := kpL hs21 (by decide) (sm26 0 (by decide)) (D11.kt q127 rfl); have q135 := kpL hs21 (by decide) (sm26 2 (by decide)) (D11.kt q128 rfl); have o108 := Own.keepL o104 hs21 (by decide) (by decide); have o109 := OwnP.keepL o105 hs21 (by decide) (by decide)
      obtain ⟨x5, hx2⟩ : ∃ x, a37.eval (.tmp 68) = x := ⟨_, rfl⟩
      have q136 : At (Ty.val x5) s32 a37 (.tmp 68) := hx2
      have o107 := al2 (R := (Pr.own 43 3 1 (List.length ((([(1 : Int)]) ++ (((ql)))) ++ [n])) (List.map Ty.int ((([(1 : Int)]) ++ (((ql)))) ++ [n])))) hx2 (cvo (by first | (simp; done) | (simp; omega)) (by first | (rw [List.map_append]; rfl) | simp) r21)
      clear r21
      refine tL ok37 (Yld.toL (y_as q136)) fun a38 s33 hs22 ok38 r22 sm27 => ?_
      have F33 := F32.stepL hs22 (by decide); have q137 := kpL hs22 (by decide) (sm27 0 (by decide)) q134; have o110 := Own.keepL o108 hs22 (by decide) (by decide); have o111 := OwnP.keepL o109 hs22 (by decide) (by decide); have o112 := Own.keepL o107 hs22 (by decide) (by decide)
      have q138 : At (Ty.val x5) s33 a38 (.tmp 2) := r22
      clear r22; refine wpList_nil (tn ?_)
      obtain ⟨t7, e1, h1, q139⟩ := Own.seal o112 (by decide)
      rw [← e1]
      have F34 := F33.step h1 (by decide); have o113 := Own.keepL o110 (h1.toL (L := [43]) (by simp)) (by decide) (by decide); have o114 := OwnP.keepL o111 (h1.toL (L := [43]) (by simp)) (by decide) (by decide); have q140 := Ty.up (Ty.val r) (h1.le (by decide)) q137
      have q141 : At (Ty.lst Ty.int ((([(1 : Int)]) ++ (((ql)))) ++ [n])) t7 a38 (.tmp 2) := by have e : a38.eval (.tmp 2) = x5 := q138; show Ty.has _ _ _; rw [e]; exact q139
      refine gI a38 t7 ok38 (gM q140 (gM q141 (gE2 ok38 fun a39 s34 ok39 D12 => ?_))); have F35 := F34.step0 D12.stp; have o115 := Own.k0 o113 D12.stp; have o116 := OwnP.k0 o114 D12.stp
      refine tailP (L := [40, 42]) (R := (fun v τ' => ∃ τ, (fun v τ => ∃ (bz : Value), True ∧ (OwnP τ 40 r [(Ty.int n), (Ty.val av), (Ty.val bz), (Ty.bool mir), (Ty.val (Value.slice none 0 0)), (Ty.bool (false)), (Ty.bool true)]) ∧ (Own τ 42 30 1 bz (List.length (blk ++ [(((([(1 : Int)]) ++ (((ql)))) ++ [n]))])) (List.map Ty.ints (blk ++ [(((([(1 : Int)]) ++ (((ql)))) ++ [n]))]))) ∧ ((plPutE n blk.length (((([(1 : Int)]) ++ (((ql)))) ++ [n]))) = 0)) v τ ∧ Back [(40, 40), (42, 42)] τ τ')) (E := (fun c_ => c_ = fltC 103 (plPutE n blk.length (((([(1 : Int)]) ++ (((ql)))) ++ [n]))) ∧ (plPutE n blk.length (((([(1 : Int)]) ++ (((ql)))) ++ [n]))) ≠ 0)) rfl rfl (by decide) ok39 (y_callP (L := [40, 42]) [(40, 40), (42, 42)] [(40, 40), (42, 42)] #[a39.eval (.tmp 69), a39.eval (.tmp 70)] rfl (by decide) Tryz.func101 rfl rfl (by simp only [List.map_toArray, List.map_cons, List.map_nil]) (put_fn (r) (av) (bv) ((Value.slice none 0 0)) (n) (blk) (mir) (false) (dot) (((([(1 : Int)]) ++ (((ql)))) ++ [n])) _ (GW.low_lend _ (by decide)) _ _ (Ty.up _ (GW.le_lend _ _) (D12.dn 0 (by decide) rfl rfl)) (Ty.up _ (GW.le_lend _ _) (D12.dn 1 (by decide) rfl rfl)) (OwnP.ren (ownp_cell 5 (Ty.bool (false)) o116 rfl (fun _ _ h => (cvb (by (first | rfl | omega | (simp_all; done) | (simp_all; omega))) h))) (GW.ren_lend _ _ (by decide) rfl)) (Own.ren o115 (GW.ren_lend _ _ (by decide) rfl)) (by omega) (by omega))) (fun c_ t_ hs_ he_ => panB ok39 (F35.stepL hs_ (by decide)) (fltTo (fun h_ => by exact clE_put hsn hin hL) he_)) (fun a40 s35 hs23 ok40 r23 sm28 => ?_)
      have F36 := F35.stepL hs23 (by decide)
      obtain ⟨t8, ⟨x6, hT7, o117, o118, hp4⟩, B7⟩ := r23
      have o119 : OwnP s35 40 r [(Ty.int n), (Ty.val av), (Ty.val x6), (Ty.bool mir), (Ty.val (Value.slice none 0 0)), (Ty.bool (false)), (Ty.bool true)] := OwnP.ren o117 (B7.ren (by decide) rfl)
      have o120 : Own s35 42 30 1 x6 (List.length (blk ++ [(((([(1 : Int)]) ++ (((ql)))) ++ [n]))])) (List.map Ty.ints (blk ++ [(((([(1 : Int)]) ++ (((ql)))) ++ [n]))])) := Own.ren o118 (B7.ren (by decide) rfl)
      refine wpList_nil ?_
      have o121 : Own s35 43 3 1 (Value.slice none 0 0) 0 (List.map Ty.int ([] : List Int)) := Own.nil _ _ _ _
      refine toPn ?_
      exact nL0 rfl ok40 F36 ⟨x6, (Value.slice none 0 0), trivial, (ownp_cell 6 (Ty.bool (clD ql dot)) (ownp_cell 5 (Ty.bool false) o119 rfl (fun _ _ h => (cvb (by (rfl)) h))) rfl (fun _ _ h => (cvb (by (rw [clD_ne hsn])) h))), (cvo (by (rw [clB_put hsn hL])) (by (rw [clB_put hsn hL])) o120), (cvo (by (simp)) (by (simp)) o121), (by rw [clE_put hsn hin hL]; first | assumption | omega)⟩
     ·
      simp only [Bool.and_eq_false_iff, decide_eq_false_iff_not] at c5; have hL : plIn n ql = [(1 : Int)] ++ ql := plIn_0 hf (by rintro ⟨h1_, h2_⟩; rcases c5 with h_ | h_; exact h_ h1_; omega)
      refine wp_skip (tn ?_)
      obtain ⟨t9, e2, h2, q145⟩ := Own.seal o103 (by decide)
      rw [← e2]
      have F37 := F30.step h2 (by decide); have o122 := Own.keepL o101 (h2.toL (L := [43]) (by simp)) (by decide) (by decide); have o123 := OwnP.keepL o102 (h2.toL (L := [43]) (by simp)) (by decide) (by decide); have q146 := Ty.up (Ty.val r) (h2.le (by decide)) q127
      have q147 : At (Ty.lst Ty.int (([(1 : Int)]) ++ (((ql))))) t9 a35 (.tmp 2) := by have e : a35.eval (.tmp 2) = x4 := q128; show Ty.has _ _ _; rw [e]; exact q145
      have q148 := Ty.up (Ty.bool ((decide (((([(1 : Int)]) ++ (((ql)))).getD ((List.length (([(1 : Int)]) ++ (((ql))))) - 1) 0) < n)) && (decide ((((((n - ((([(1 : Int)]) ++ (((ql)))).getD ((List.length (([(1 : Int)]) ++ (((ql))))) - 1) 0))).toNat % 2) : Nat) : Int) = (1 : Int))))) (h2.le (by decide)) q129
      refine gI a35 t9 ok35 (gM q146 (gM q147 (gE2 ok35 fun a41 s36 ok41 D13 => ?_))); have F38 := F37.step0 D13.stp; have o124 := Own.k0 o122 D13.stp; have o125 := OwnP.k0 o123 D13.stp
      refine tailP (L := [40, 42]) (R := (fun v τ' => ∃ τ, (fun v τ => ∃ (bz : Value), True ∧ (OwnP τ 40 r [(Ty.int n), (Ty.val av), (Ty.val bz), (Ty.bool mir), (Ty.val (Value.slice none 0 0)), (Ty.bool (false)), (Ty.bool true)]) ∧ (Own τ 42 30 1 bz (List.length (blk ++ [((([(1 : Int)]) ++ (((ql)))))])) (List.map Ty.ints (blk ++ [((([(1 : Int)]) ++ (((ql)))))]))) ∧ ((plPutE n blk.length ((([(1 : Int)]) ++ (((ql)))))) = 0)) v τ ∧ Back [(40, 40), (42, 42)] τ τ')) (E := (fun c_ => c_ = fltC 103 (plPutE n blk.length ((([(1 : Int)]) ++ (((ql)))))) ∧ (plPutE n blk.length ((([(1 : Int)]) ++ (((ql)))))) ≠ 0)) rfl rfl (by decide) ok41 (y_callP (L := [40, 42]) [(40, 40), (42, 42)] [(40, 40), (42, 42)] #[a41.eval (.tmp 69), a41.eval (.tmp 70)] rfl (by decide) Tryz.func101 rfl rfl (by simp only [List.map_toArray, List.map_cons, List.map_nil]) (put_fn (r) (av) (bv) ((Value.slice none 0 0)) (n) (blk) (mir) (false) (dot) ((([(1 : Int)]) ++ (((ql))))) _ (GW.low_lend _ (by decide)) _ _ (Ty.up _ (GW.le_lend _ _) (D13.dn 0 (by decide) rfl rfl)) (Ty.up _ (GW.le_lend _ _) (D13.dn 1 (by decide) rfl rfl)) (OwnP.ren (ownp_cell 5 (Ty.bool (false)) o125 rfl (fun _ _ h => (cvb (by (first | rfl | omega | (simp_all; done) | (simp_all; omega))) h))) (GW.ren_lend _ _ (by decide) rfl)) (Own.ren o124 (GW.ren_lend _ _ (by decide) rfl)) (by omega) (by omega))) (fun c_ t_ hs_ he_ => panB ok41 (F38.stepL hs_ (by decide)) (fltTo (fun h_ => by exact clE_put hsn hin hL) he_)) (fun a42 s37 hs24 ok42 r24 sm29 => ?_)
      have F39 := F38.stepL hs24 (by decide)
      obtain ⟨t10, ⟨x7, hT8, o126, o127, hp5⟩, B8⟩ := r24
      have o128 : OwnP s37 40 r [(Ty.int n), (Ty.val av), (Ty.val x7), (Ty.bool mir), (Ty.val (Value.slice none 0 0)), (Ty.bool (false)), (Ty.bool true)] := OwnP.ren o126 (B8.ren (by decide) rfl)
      have o129 : Own s37 42 30 1 x7 (List.length (blk ++ [((([(1 : Int)]) ++ (((ql)))))])) (List.map Ty.ints (blk ++ [((([(1 : Int)]) ++ (((ql)))))])) := Own.ren o127 (B8.ren (by decide) rfl)
      refine wpList_nil ?_
      have o130 : Own s37 43 3 1 (Value.slice none 0 0) 0 (List.map Ty.int ([] : List Int)) := Own.nil _ _ _ _
      refine toPn ?_
      exact nL0 rfl ok42 F39 ⟨x7, (Value.slice none 0 0), trivial, (ownp_cell 6 (Ty.bool (clD ql dot)) (ownp_cell 5 (Ty.bool false) o128 rfl (fun _ _ h => (cvb (by (rfl)) h))) rfl (fun _ _ h => (cvb (by (rw [clD_ne hsn])) h))), (cvo (by (rw [clB_put hsn hL])) (by (rw [clB_put hsn hL])) o129), (cvo (by (simp)) (by (simp)) o130), (by rw [clE_put hsn hin hL]; first | assumption | omega)⟩
    ·
     have hf : plFst ql = ql := plFst_0 c4
     refine wp_skip (tn (wp_seq (wp_seq ?_)))
     refine gI a30 s25 ok30 (gM q113 (gM q113 (gT (Ty.nat (List.length ((ql)))) rfl (fun A G H I J d0 => rP (own_len Tryz.underlying30 (al (R := (Pr.own 43 3 1 (List.length ((ql))) (List.map Ty.int ((ql))))) (ed d0 rfl rfl rfl) (Own.k0 o86 H)))) (gT (Ty.nat ((List.length ((ql))) - 1)) rfl (fun A G H I J d0 => rP ((y_sub (ed d0 rfl rfl rfl) rfl (w64 (by omega) (by omega))).mono (fun τ _ h => cvi (σ := τ) (by omega) h))) (gT (Ty.val (cellPtr sv ((List.length ((ql))) - 1))) rfl (fun A G H I J d0 d1 => rP (own_index1 (i := ((((List.length ((ql))) - 1) : Nat) : Int)) Tryz.underlying30 Tryz.inf3 (Own.k0 o86 H) (ed d0 rfl rfl rfl) (ed d1 rfl rfl rfl) (by omega) (by omega))) (gS rfl (fun A G H I J d0 => rP (own_load Tryz.underlying3 rfl (Own.k0 o86 H) (ed d0 rfl rfl rfl) (lst_get Ty.int ((ql)) 0 ((List.length ((ql))) - 1) (by omega)))) (gB 0 (gE ok30 fun a43 s38 ok43 D14 => ?_)))))))); have q152 := D14.kt q112 rfl; have o131 := Own.k0 o84 D14.stp; have o132 := OwnP.k0 o85 D14.stp; have o133 := Own.k0 o86 D14.stp; have q154 := D14.dn 6 rfl rfl; refine tn (wp_seq ?_)
     refine gI a43 s38 ok43 (gM q154 (gM q152 (gT (Ty.val r) rfl (fun A G H I J d0 => rP (y_nilp (OwnP.k0 o132 H) (ed d0 rfl rfl rfl))) (gT (Ty.val (ptrAt r 0)) rfl (fun A G H I J d0 => rP (ownp_field Tryz.fld107_0 Tryz.inf3 (by decide) (OwnP.k0 o132 H) (ed d0 rfl rfl rfl))) (gS rfl (fun A G H I J d0 => rP (ownp_load Tryz.underlying3 rfl (OwnP.k0 o132 H) (ed d0 rfl rfl rfl) rfl)) (gS rfl (fun A G H I J d0 d1 => rP (y_lss (ed d0 rfl rfl rfl) (ed d1 rfl rfl rfl))) (gS rfl (fun A G H I J d0 => rP (y_move (ed d0 rfl rfl rfl))) (gS rfl (fun A G H I J d0 => gu I (ed d0 rfl rfl rfl) fun hg => y_move (kp (J 0 rfl) H q152)) (gT (Ty.grd ((decide ((((ql)).getD ((List.length ((ql))) - 1) 0) < n)) = true) (Ty.val r)) rfl (fun A G H I J d0 d1 => gu I (ed d1 rfl rfl rfl) fun hg => y_nilp (OwnP.k0 o132 H) ((ed d0 rfl rfl rfl).1 hg)) (gT (Ty.grd ((decide ((((ql)).getD ((List.length ((ql))) - 1) 0) < n)) = true) (Ty.val (ptrAt r 0))) rfl (fun A G H I J d0 d1 => gut I (ed d1 rfl rfl rfl) fun hg hp => ownp_field Tryz.fld107_0 Tryz.inf3 (by decide) (OwnP.k0 o132 H) ((ed d0 rfl rfl rfl).1 hg)) (gS rfl (fun A G H I J d0 d1 => gu I (ed d1 rfl rfl rfl) fun hg => ownp_load Tryz.underlying3 rfl (OwnP.k0 o132 H) ((ed d0 rfl rfl rfl).1 hg) rfl) (gS rfl (fun A G H I J d0 => gu I (ed d0 rfl rfl rfl) fun hg => y_move (kp (J 3 rfl) H q154)) (gT (Ty.grd ((decide ((((ql)).getD ((List.length ((ql))) - 1) 0) < n)) = true) (Ty.int (n - (((ql)).getD ((List.length ((ql))) - 1) 0)))) rfl (fun A G H I J d0 d1 d2 => gut I (ed d2 rfl rfl rfl) fun hg hp => y_sub ((ed d0 rfl rfl rfl).1 hg) ((ed d1 rfl rfl rfl).1 hg) (w64 (by omega) (by omega))) ?_)))))))))))))
     refine gT (Ty.grd ((decide ((((ql)).getD ((List.length ((ql))) - 1) 0) < n)) = true) (Ty.nat (((n - (((ql)).getD ((List.length ((ql))) - 1) 0))).toNat % 2))) rfl (fun A G H I J d0 d1 => gut I (ed d1 rfl rfl rfl) fun hg hp => y_remN (toN (σ := G) ((ed d0 rfl rfl rfl).1 hg) (by omega)) (toN (σ := G) rfl (by omega)) (by omega)) (gS rfl (fun A G H I J d0 d1 => gu I (ed d1 rfl rfl rfl) fun hg => y_eql ((ed d0 rfl rfl rfl).1 hg) rfl) (gS rfl (fun A G H I J d0 d1 => rP (y_pick_and (ed d0 rfl rfl rfl) (ed d1 rfl rfl rfl) rfl)) (gE ok43 fun a44 s39 ok44 D15 => ?_))); have F41 := (F25.step0 D14.stp).step0 D15.stp; have q155 := D15.kt q152 rfl; have q156 := D15.kt (D14.kt q113 rfl) rfl; have o134 := Own.k0 o131 D15.stp; have o135 := OwnP.k0 o132 D15.stp; have o136 := Own.k0 o133 D15.stp; have q157 := D15.dn 15 rfl rfl; refine tn ?_
     refine cond_t q157 (fun c6 => ?_) (fun c6 => ?_)
     ·
      obtain ⟨d3, d4⟩ := Bool.and_eq_true_iff.mp c6
      replace d3 := of_decide_eq_true d3
      replace d4 := of_decide_eq_true d4
      simp only [Bool.and_eq_true, decide_eq_true_eq] at c6; have hL : plIn n ql = ql ++ [n] := plIn_1 hf c6.1 (by have h_ := c6.2; omega)
      refine gI a44 s39 ok44 (gM q156 (gM q155 (gT (Ty.val r) rfl (fun A G H I J d0 => rP (y_nilp (OwnP.k0 o135 H) (ed d0 rfl rfl rfl))) (gT (Ty.val (ptrAt r 0)) rfl (fun A G H I J d0 => rP (ownp_field Tryz.fld107_0 Tryz.inf3 (by decide) (OwnP.k0 o135 H) (ed d0 rfl rfl rfl))) (gS rfl (fun A G H I J d0 => rP (ownp_load Tryz.underlying3 rfl (OwnP.k0 o135 H) (ed d0 rfl rfl rfl) rfl)) (gT (Ty.sl 1 1 [(Ty.int n)]) rfl (fun A G H I J d0 => rP (y_build1o Tryz.underlying30 Tryz.inf3 rfl (one_val rfl) (ed d0 rfl rfl rfl))) (gE2 ok44 fun a45 s40 ok45 D16 => ?_))))))); have o137 := Own.k0 o134 D16.stp; have o138 := OwnP.k0 o135 D16.stp; have o139 := Own.k0 o136 D16.stp; have q161 := D16.dn 5 (by decide) rfl rfl
      have b2 := sl_le q161
      refine tL ok45 (YldM.toL (m_append Tryz.underlying30 Tryz.inf3 (by decide) rfl (by decide) (al (R := (Pr.own 43 3 1 (List.length ((ql))) (List.map Ty.int ((ql))))) (D16.dn 0 (by decide) rfl rfl) o139) q161 (by intro U hU; simp at hU; subst hU; exact one_val rfl) (by omega) (by omega))) fun a46 s41 hs25 ok46 r25 sm30 => ?_
      have F43 := (F41.step0 D16.stp).stepL hs25 (by decide); have q162 := kpL hs25 (by decide) (sm30 0 (by decide)) (D16.kt q155 rfl); have q163 := kpL hs25 (by decide) (sm30 2 (by decide)) (D16.kt q156 rfl); have o141 := Own.keepL o137 hs25 (by decide) (by decide); have o142 := OwnP.keepL o138 hs25 (by decide) (by decide)
      obtain ⟨x8, hx3⟩ : ∃ x, a46.eval (.tmp 68) = x := ⟨_, rfl⟩
      have q164 : At (Ty.val x8) s41 a46 (.tmp 68) := hx3
      have o140 := al2 (R := (Pr.own 43 3 1 (List.length (((ql)) ++ [n])) (List.map Ty.int (((ql)) ++ [n])))) hx3 (cvo (by simp) (by first | (rw [List.map_append]; rfl) | simp) r25)
      clear r25
      refine tL ok46 (Yld.toL (y_as q164)) fun a47 s42 hs26 ok47 r26 sm31 => ?_
      have F44 := F43.stepL hs26 (by decide); have q165 := kpL hs26 (by decide) (sm31 0 (by decide)) q162; have o143 := Own.keepL o141 hs26 (by decide) (by decide); have o144 := OwnP.keepL o142 hs26 (by decide) (by decide); have o145 := Own.keepL o140 hs26 (by decide) (by decide)
      have q166 : At (Ty.val x8) s42 a47 (.tmp 2) := r26
      clear r26; refine wpList_nil (tn ?_)
      obtain ⟨t11, e3, h3, q167⟩ := Own.seal o145 (by decide)
      rw [← e3]
      have F45 := F44.step h3 (by decide); have o146 := Own.keepL o143 (h3.toL (L := [43]) (by simp)) (by decide) (by decide); have o147 := OwnP.keepL o144 (h3.toL (L := [43]) (by simp)) (by decide) (by decide); have q168 := Ty.up (Ty.val r) (h3.le (by decide)) q165
      have q169 : At (Ty.lst Ty.int (((ql)) ++ [n])) t11 a47 (.tmp 2) := by have e : a47.eval (.tmp 2) = x8 := q166; show Ty.has _ _ _; rw [e]; exact q167
      refine gI a47 t11 ok47 (gM q168 (gM q169 (gE2 ok47 fun a48 s43 ok48 D17 => ?_))); have F46 := F45.step0 D17.stp; have o148 := Own.k0 o146 D17.stp; have o149 := OwnP.k0 o147 D17.stp
      refine tailP (L := [40, 42]) (R := (fun v τ' => ∃ τ, (fun v τ => ∃ (bz : Value), True ∧ (OwnP τ 40 r [(Ty.int n), (Ty.val av), (Ty.val bz), (Ty.bool mir), (Ty.val (Value.slice none 0 0)), (Ty.bool (false)), (Ty.bool true)]) ∧ (Own τ 42 30 1 bz (List.length (blk ++ [((((ql)) ++ [n]))])) (List.map Ty.ints (blk ++ [((((ql)) ++ [n]))]))) ∧ ((plPutE n blk.length ((((ql)) ++ [n]))) = 0)) v τ ∧ Back [(40, 40), (42, 42)] τ τ')) (E := (fun c_ => c_ = fltC 103 (plPutE n blk.length ((((ql)) ++ [n]))) ∧ (plPutE n blk.length ((((ql)) ++ [n]))) ≠ 0)) rfl rfl (by decide) ok48 (y_callP (L := [40, 42]) [(40, 40), (42, 42)] [(40, 40), (42, 42)] #[a48.eval (.tmp 69), a48.eval (.tmp 70)] rfl (by decide) Tryz.func101 rfl rfl (by simp only [List.map_toArray, List.map_cons, List.map_nil]) (put_fn (r) (av) (bv) ((Value.slice none 0 0)) (n) (blk) (mir) (false) (dot) ((((ql)) ++ [n])) _ (GW.low_lend _ (by decide)) _ _ (Ty.up _ (GW.le_lend _ _) (D17.dn 0 (by decide) rfl rfl)) (Ty.up _ (GW.le_lend _ _) (D17.dn 1 (by decide) rfl rfl)) (OwnP.ren (ownp_cell 5 (Ty.bool (false)) o149 rfl (fun _ _ h => (cvb (by (first | rfl | omega | (simp_all; done) | (simp_all; omega))) h))) (GW.ren_lend _ _ (by decide) rfl)) (Own.ren o148 (GW.ren_lend _ _ (by decide) rfl)) (by omega) (by omega))) (fun c_ t_ hs_ he_ => panB ok48 (F46.stepL hs_ (by decide)) (fltTo (fun h_ => by exact clE_put hsn hin hL) he_)) (fun a49 s44 hs27 ok49 r27 sm32 => ?_)
      have F47 := F46.stepL hs27 (by decide)
      obtain ⟨t12, ⟨x9, hT9, o150, o151, hp6⟩, B9⟩ := r27
      have o152 : OwnP s44 40 r [(Ty.int n), (Ty.val av), (Ty.val x9), (Ty.bool mir), (Ty.val (Value.slice none 0 0)), (Ty.bool (false)), (Ty.bool true)] := OwnP.ren o150 (B9.ren (by decide) rfl)
      have o153 : Own s44 42 30 1 x9 (List.length (blk ++ [((((ql)) ++ [n]))])) (List.map Ty.ints (blk ++ [((((ql)) ++ [n]))])) := Own.ren o151 (B9.ren (by decide) rfl)
      refine wpList_nil ?_
      have o154 : Own s44 43 3 1 (Value.slice none 0 0) 0 (List.map Ty.int ([] : List Int)) := Own.nil _ _ _ _
      refine toPn ?_
      exact nL0 rfl ok49 F47 ⟨x9, (Value.slice none 0 0), trivial, (ownp_cell 6 (Ty.bool (clD ql dot)) (ownp_cell 5 (Ty.bool false) o152 rfl (fun _ _ h => (cvb (by (rfl)) h))) rfl (fun _ _ h => (cvb (by (rw [clD_ne hsn])) h))), (cvo (by (rw [clB_put hsn hL])) (by (rw [clB_put hsn hL])) o153), (cvo (by (simp)) (by (simp)) o154), (by rw [clE_put hsn hin hL]; first | assumption | omega)⟩
     ·
      simp only [Bool.and_eq_false_iff, decide_eq_false_iff_not] at c6; have hL : plIn n ql = ql := plIn_0 hf (by rintro ⟨h1_, h2_⟩; rcases c6 with h_ | h_; exact h_ h1_; omega)
      refine wp_skip (tn ?_)
      obtain ⟨t13, e4, h4, q173⟩ := Own.seal o136 (by decide)
      rw [← e4]
      have F48 := F41.step h4 (by decide); have o155 := Own.keepL o134 (h4.toL (L := [43]) (by simp)) (by decide) (by decide); have o156 := OwnP.keepL o135 (h4.toL (L := [43]) (by simp)) (by decide) (by decide); have q174 := Ty.up (Ty.val r) (h4.le (by decide)) q155
      have q175 : At (Ty.lst Ty.int ((ql))) t13 a44 (.tmp 2) := by have e : a44.eval (.tmp 2) = sv := q156; show Ty.has _ _ _; rw [e]; exact q173
      have q176 := Ty.up (Ty.bool ((decide ((((ql)).getD ((List.length ((ql))) - 1) 0) < n)) && (decide ((((((n - (((ql)).getD ((List.length ((ql))) - 1) 0))).toNat % 2) : Nat) : Int) = (1 : Int))))) (h4.le (by decide)) q157
      refine gI a44 t13 ok44 (gM q174 (gM q175 (gE2 ok44 fun a50 s45 ok50 D18 => ?_))); have F49 := F48.step0 D18.stp; have o157 := Own.k0 o155 D18.stp; have o158 := OwnP.k0 o156 D18.stp
      refine tailP (L := [40, 42]) (R := (fun v τ' => ∃ τ, (fun v τ => ∃ (bz : Value), True ∧ (OwnP τ 40 r [(Ty.int n), (Ty.val av), (Ty.val bz), (Ty.bool mir), (Ty.val (Value.slice none 0 0)), (Ty.bool (false)), (Ty.bool true)]) ∧ (Own τ 42 30 1 bz (List.length (blk ++ [(((ql)))])) (List.map Ty.ints (blk ++ [(((ql)))]))) ∧ ((plPutE n blk.length (((ql)))) = 0)) v τ ∧ Back [(40, 40), (42, 42)] τ τ')) (E := (fun c_ => c_ = fltC 103 (plPutE n blk.length (((ql)))) ∧ (plPutE n blk.length (((ql)))) ≠ 0)) rfl rfl (by decide) ok50 (y_callP (L := [40, 42]) [(40, 40), (42, 42)] [(40, 40), (42, 42)] #[a50.eval (.tmp 69), a50.eval (.tmp 70)] rfl (by decide) Tryz.func101 rfl rfl (by simp only [List.map_toArray, List.map_cons, List.map_nil]) (put_fn (r) (av) (bv) ((Value.slice none 0 0)) (n) (blk) (mir) (false) (dot) (((ql))) _ (GW.low_lend _ (by decide)) _ _ (Ty.up _ (GW.le_lend _ _) (D18.dn 0 (by decide) rfl rfl)) (Ty.up _ (GW.le_lend _ _) (D18.dn 1 (by decide) rfl rfl)) (OwnP.ren (ownp_cell 5 (Ty.bool (false)) o158 rfl (fun _ _ h => (cvb (by (first | rfl | omega | (simp_all; done) | (simp_all; omega))) h))) (GW.ren_lend _ _ (by decide) rfl)) (Own.ren o157 (GW.ren_lend _ _ (by decide) rfl)) (by omega) (by omega))) (fun c_ t_ hs_ he_ => panB ok50 (F49.stepL hs_ (by decide)) (fltTo (fun h_ => by exact clE_put hsn hin hL) he_)) (fun a51 s46 hs28 ok51 r28 sm33 => ?_)
      have F50 := F49.stepL hs28 (by decide)
      obtain ⟨t14, ⟨x10, hT10, o159, o160, hp7⟩, B10⟩ := r28
      have o161 : OwnP s46 40 r [(Ty.int n), (Ty.val av), (Ty.val x10), (Ty.bool mir), (Ty.val (Value.slice none 0 0)), (Ty.bool (false)), (Ty.bool true)] := OwnP.ren o159 (B10.ren (by decide) rfl)
      have o162 : Own s46 42 30 1 x10 (List.length (blk ++ [(((ql)))])) (List.map Ty.ints (blk ++ [(((ql)))])) := Own.ren o160 (B10.ren (by decide) rfl)
      refine wpList_nil ?_
      have o163 : Own s46 43 3 1 (Value.slice none 0 0) 0 (List.map Ty.int ([] : List Int)) := Own.nil _ _ _ _
      refine toPn ?_
      exact nL0 rfl ok51 F50 ⟨x10, (Value.slice none 0 0), trivial, (ownp_cell 6 (Ty.bool (clD ql dot)) (ownp_cell 5 (Ty.bool false) o161 rfl (fun _ _ h => (cvb (by (rfl)) h))) rfl (fun _ _ h => (cvb (by (rw [clD_ne hsn])) h))), (cvo (by (rw [clB_put hsn hL])) (by (rw [clB_put hsn hL])) o162), (cvo (by (simp)) (by (simp)) o163), (by rw [clE_put hsn hin hL]; first | assumption | omega)⟩


set_option maxHeartbeats 4000000 in
set_option maxRecDepth 100000 in
theorem cloneS_fn (xs : List Int) (σ : GW)  (v0 : Value) (hv0 : Ty.has (Ty.lst Ty.int xs) σ v0)  (hx2 : xs.length ≤ 1000000) :
    FnC Tryz.prog 104 #[v0] σ (Ty.lst Ty.int xs) := by
 refine fn_intro0 Tryz.func104 rfl Tryz.ntmps104 (Nat.le_of_ble_eq_true rfl) (fun s0 a0 hle F0 ok0 hargs => ?_)
 have p0 := pA hle (hargs 0 _ rfl) hv0
 have b1 := sl_le p0
 clear hargs; refine wp_seq ?_
 refine gI a0 s0 ok0 (gC (Ty.val (Value.slice none 0 0)) (gE ok0 fun a1 s1 ok1 D1 => ?_)); have q1 := D1.kt p0 rfl; refine tn (wp_seq (wp_seq ?_))
 refine gI a1 s1 ok1 (gM q1 (gT (Ty.nilb xs) rfl (fun A G H I J d0 => rP (y_slnb Tryz.underlying30 (ed d0 rfl rfl rfl) rfl)) (gE ok1 fun a2 s2 ok2 D2 => ?_))); have F2 := (F0.step0 D1.stp).step0 D2.stp; refine tn ?_
 refine cond_nb (D2.dn 1 rfl rfl) (fun c1 => ?_) ?_
 ·
  have hxe := c1
  refine wp_seq ?_
  refine gI a2 s2 ok2 (gC (Ty.val (Value.slice none 0 0)) (gE ok2 fun a3 s3 ok3 D3 => ?_)); refine tn (wp_ret (tr ?_))
  exact retL1 rfl ok3 (F2.step0 D3.stp) (nil_lst (by (rw [hxe])) (D3.dn 0 rfl rfl))
 ·
  refine wp_skip (tn (wp_seq ?_))
  refine gI a2 s2 ok2 (gR (Pr.own 5 3 1 0 (List.map Ty.int ([] : List Int))) rfl (by intro A G H I J; exact rP ((y_lit0 (k := 5) Tryz.underlying30 Tryz.inf3).mono (fun _ _ h => cvo (by simp) (by simp) h))) (gM (D2.kt q1 rfl) (gE2 ok2 fun a4 s4 ok4 D4 => ?_)))
  obtain ⟨x1, hx1⟩ : ∃ x, a4.eval (.tmp 5) = x := ⟨_, rfl⟩
  have q5 : At (Ty.val x1) s4 a4 (.tmp 5) := hx1
  have o1 := al2 (R := (Pr.own 5 3 1 0 (List.map Ty.int ([] : List Int)))) hx1 (D4.done 0 (by decide))
  refine tL ok4 (YldM.toL (m_append Tryz.underlying30 Tryz.inf3 (by decide) rfl (by decide) (al (R := (Pr.own 5 3 1 0 (List.map Ty.int ([] : List Int)))) q5 o1) (D4.dn 1 (by decide) rfl rfl) (one_map (fun _ => one_val rfl)) (by omega) (by omega))) fun a5 s5 hs1 ok5 r1 sm1 => ?_
  have F5 := (F2.step0 D4.stp).stepL hs1 (by decide)
  obtain ⟨x2, hx2⟩ : ∃ x, a5.eval (.tmp 7) = x := ⟨_, rfl⟩
  have q7 : At (Ty.val x2) s5 a5 (.tmp 7) := hx2
  have o2 := al2 (R := (Pr.own 5 3 1 (List.length xs) (List.map Ty.int xs))) hx2 (cvo (by simp) (by first | (rw [List.map_append]; rfl) | simp) r1)
  clear r1
  refine tL ok5 (Yld.toL (y_as q7)) fun a6 s6 hs2 ok6 r2 sm2 => ?_
  have F6 := F5.stepL hs2 (by decide); have o3 := Own.keepL o2 hs2 (by decide) (by decide)
  have q8 : At (Ty.val x2) s6 a6 (.tmp 2) := r2
  clear r2; refine wpList_nil (tn (wp_ret ?_))
  obtain ⟨t1, e1, h1, q9⟩ := Own.seal o3 (by decide)
  rw [← e1]
  have F7 := F6.step h1 (by decide)
  have q10 : At (Ty.lst Ty.int xs) t1 a6 (.tmp 2) := by have e : a6.eval (.tmp 2) = x2 := q8; show Ty.has _ _ _; rw [e]; exact q9
  exact retL1 rfl ok6 F7 q10


theorem Tryz.fld107_1 : fieldOf Tryz.prog 107 1 = some (22, 1) := by kernel_rfl
theorem Tryz.fld107_3 : fieldOf Tryz.prog 107 3 = some (4, 3) := by kernel_rfl
set_option maxHeartbeats 4000000 in
set_option maxRecDepth 100000 in
theorem end_fn (r av bv sv : Value) (n : Int) (all : List (List Int)) (blk : List (List Int)) (mir : Bool) (dot : Bool) (ql : List Int) (σ : GW) (hlow : Low [40, 41, 42, 43] σ) (v0 : Value) (hv0 : Ty.has (Ty.val r) σ v0) (ho_r : OwnP σ 40 r [(Ty.int n), (Ty.val av), (Ty.val bv), (Ty.bool mir), (Ty.val sv), (Ty.bool (!(List.isEmpty ql))), (Ty.bool dot)]) (ho_av : Own σ 41 30 1 av (List.length all) (List.map Ty.ints all)) (ho_bv : Own σ 42 30 1 bv (List.length blk) (List.map Ty.ints blk)) (ho_sv : Own σ 43 3 1 sv (List.length ql) (List.map Ty.int ql)) (hbe : ∀ x ∈ blk, x.length ≤ 20000) (ha : all.length ≤ 1000) (hb : blk.length ≤ 200) (hn : 1 ≤ n ∧ n ≤ 12) (H : ql.length ≤ 10000) (hsv : ∀ k, k < ql.length → 1 ≤ ql.getD k 0 ∧ ql.getD k 0 ≤ 12) :
    FnP Tryz.prog 82 #[v0] σ [40, 41, 42, 43] (fun v τ => ∃ (az : Value), ∃ (bz : Value), ∃ (sz : Value), True ∧ (OwnP τ 40 r [(Ty.int n), (Ty.val az), (Ty.val bz), (Ty.bool false), (Ty.val sz), (Ty.bool false), (Ty.bool false)]) ∧ (Own τ 41 30 1 az (List.length (enA n (PSt.mk all blk mir ql dot))) (List.map Ty.ints (enA n (PSt.mk all blk mir ql dot)))) ∧ (Own τ 42 30 1 bz (List.length ([] : List (List Int))) (List.map Ty.ints ([] : List (List Int)))) ∧ (Own τ 43 3 1 sz (List.length ([] : List Int)) (List.map Ty.int ([] : List Int))) ∧ ((enE n (PSt.mk all blk mir ql dot)) = 0)) (fun c_ => c_ = fltC 103 (enE n (PSt.mk all blk mir ql dot)) ∧ (enE n (PSt.mk all blk mir ql dot)) ≠ 0) := by
 obtain ⟨B, hB⟩ : ∃ B, B = clB n blk ql := ⟨_, rfl⟩
 have hBl : B.length ≤ blk.length + 1 := by rw [hB]; exact clB_len
 have hBe : ∀ x ∈ B, x.length ≤ 20000 := by rw [hB]; exact clB_el hbe (by omega)
 refine fn_introP hlow Tryz.func82 rfl Tryz.ntmps82 (Nat.le_of_ble_eq_true rfl) (fun a0 F0 ok0 hargs => ?_)
 have p0 := pB (hargs 0 _ rfl) hv0
 clear hargs; refine wp_seq ?_
 refine gI a0 σ ok0 (gM p0 (gE2 ok0 fun a1 s1 ok1 D1 => ?_)); have F1 := F0.step0 D1.stp; have o1 := OwnP.k0 ho_r D1.stp; have o2 := Own.k0 ho_av D1.stp; have o3 := Own.k0 ho_bv D1.stp; have o4 := Own.k0 ho_sv D1.stp
 refine tailP (L := [40, 42, 43]) (R := (fun v τ' => ∃ τ, (fun v τ => ∃ (bz : Value), ∃ (sz : Value), True ∧ (OwnP τ 40 r [(Ty.int n), (Ty.val av), (Ty.val bz), (Ty.bool mir), (Ty.val sz), (Ty.bool false), (Ty.bool (clD ql dot))]) ∧ (Own τ 42 30 1 bz (List.length (clB n blk ql)) (List.map Ty.ints (clB n blk ql))) ∧ (Own τ 43 3 1 sz (List.length ([] : List Int)) (List.map Ty.int ([] : List Int))) ∧ ((clE n blk ql) = 0)) v τ ∧ Back [(40, 40), (42, 42), (43, 43)] τ τ')) (E := (fun c_ => c_ = fltC 103 (clE n blk ql) ∧ (clE n blk ql) ≠ 0)) rfl rfl (by decide) ok1 (y_callP (L := [40, 42, 43]) [(40, 40), (42, 42), (43, 43)] [(40, 40), (42, 42), (43, 43)] #[a1.eval (.tmp 4)] rfl (by decide) Tryz.func100 rfl rfl (by simp only [List.map_toArray, List.map_cons, List.map_nil]) (close_fn (r) (av) (bv) (sv) (n) (blk) (mir) (dot) (ql) _ (GW.low_lend _ (by decide)) _ (Ty.up _ (GW.le_lend _ _) (D1.dn 0 (by decide) rfl rfl)) (OwnP.ren o1 (GW.ren_lend _ _ (by decide) rfl)) (Own.ren o3 (GW.ren_lend _ _ (by decide) rfl)) (Own.ren o4 (GW.ren_lend _ _ (by decide) rfl)) (by omega) (by omega) (by omega) (by omega))) (fun c_ t_ hs_ he_ => panB ok1 (F1.stepL hs_ (by decide)) (fltTo (fun h_ => by exact enE_1 h_) he_)) (fun a2 s2 hs1 ok2 r1 sm1 => ?_)
 have F2 := F1.stepL hs1 (by decide); have q3 := kpL hs1 (by decide) (sm1 0 (by decide)) (D1.kt p0 rfl); have o11 := Own.keepL o2 hs1 (by decide) (by decide)
 obtain ⟨t1, ⟨x1, x2, hT1, o5, o6, o7, hp1⟩, B1⟩ := r1
 have o8 : OwnP s2 40 r [(Ty.int n), (Ty.val av), (Ty.val x1), (Ty.bool mir), (Ty.val x2), (Ty.bool false), (Ty.bool (clD ql dot))] := OwnP.ren o5 (B1.ren (by decide) rfl)
 have o9 : Own s2 42 30 1 x1 (List.length (clB n blk ql)) (List.map Ty.ints (clB n blk ql)) := Own.ren o6 (B1.ren (by decide) rfl)
 have o10 : Own s2 43 3 1 x2 (List.length ([] : List Int)) (List.map Ty.int ([] : List Int)) := Own.ren o7 (B1.ren (by decide) rfl)
 refine wpList_nil ?_
 have o12 : Own s2 42 30 1 x1 (List.length B) (List.map Ty.ints B) := (cvo (by (rw [hB])) (by (rw [hB])) o9)
 refine tn (wp_seq (wp_seq ?_))
 refine gI a2 s2 ok2 (gM q3 (gT (Ty.val r) rfl (fun A G H I J d0 => rP (y_nilp (OwnP.k0 o8 H) (ed d0 rfl rfl rfl))) (gT (Ty.val (ptrAt r 6)) rfl (fun A G H I J d0 => rP (ownp_field Tryz.fld107_6 Tryz.inf4 (by decide) (OwnP.k0 o8 H) (ed d0 rfl rfl rfl))) (gS rfl (fun A G H I J d0 => rP (ownp_load Tryz.underlying4 rfl (OwnP.k0 o8 H) (ed d0 rfl rfl rfl) rfl)) (gS rfl (fun A G H I J d0 => rP (y_not (ed d0 rfl rfl rfl))) (gE ok2 fun a3 s3 ok3 D2 => ?_)))))); have F3 := F2.step0 D2.stp; have q5 := D2.kt q3 rfl; have o13 := Own.k0 o11 D2.stp; have o14 := OwnP.k0 o8 D2.stp; have o15 := Own.k0 o12 D2.stp; have o16 := Own.k0 o10 D2.stp; refine tn ?_
 refine cond_t (D2.dn 4 rfl rfl) (fun c1 => ?_) (fun c1 => ?_)
 ·
  have hdd : clD ql dot = false := (by simpa using c1)
  refine gI a3 s3 ok3 (gE2 ok3 fun a4 s4 ok4 D3 => ?_); have F4 := F3.step0 D3.stp; have o17 := Own.k0 o13 D3.stp; have o18 := OwnP.k0 o14 D3.stp; have o19 := Own.k0 o15 D3.stp; have o20 := Own.k0 o16 D3.stp
  refine tailP (L := []) (R := (fun v τ' => ∃ τ, (fun v τ => True ∧ (((5 : Int)) = 0)) v τ ∧ Back [] τ τ')) (E := (fun c_ => c_ = fltC 103 ((5 : Int)) ∧ ((5 : Int)) ≠ 0)) rfl rfl (by decide) ok4 (y_callP (L := []) [] [] #[a4.eval ((Operand.const (Value.int IntKind.i64 5)))] rfl (by decide) Tryz.func102 rfl rfl (by simp only [List.map_toArray, List.map_cons, List.map_nil]) (fail_fn ((5 : Int)) _ (GW.low_lend _ (by decide)) _ (Ty.up _ (GW.le_lend _ _) (cvi (σ := s4) (by omega) rfl))  (by omega))) (fun c_ t_ hs_ he_ => panB ok4 (F4.stepL hs_ (by decide)) (fltTo (fun h_ => by exact enE_2 hp1 hdd) he_)) (fun a5 s5 hs2 ok5 r2 sm2 => ?_)
  have F5 := F4.stepL hs2 (by decide); have q8 := kpL hs2 (by decide) (sm2 0 (by decide)) (D3.kt q5 rfl); have o21 := Own.keepL o17 hs2 (by decide) (by decide); have o22 := OwnP.keepL o18 hs2 (by decide) (by decide); have o23 := Own.keepL o19 hs2 (by decide) (by decide); have o24 := Own.keepL o20 hs2 (by decide) (by decide)
  obtain ⟨t2, ⟨hT2, hp2⟩, B2⟩ := r2
  exact absurd hp2 (by first | decide | assumption | omega)
 ·
  have hdd : clD ql dot = true := (by simpa using c1)
  refine wp_skip (tn (wp_seq ?_))
  refine gI a3 s3 ok3 (gM q5 (gT (Ty.val r) rfl (fun A G H I J d0 => rP (y_nilp (OwnP.k0 o14 H) (ed d0 rfl rfl rfl))) (gT (Ty.val (ptrAt r 2)) rfl (fun A G H I J d0 => rP (ownp_field Tryz.fld107_2 Tryz.inf22 (by decide) (OwnP.k0 o14 H) (ed d0 rfl rfl rfl))) (gS rfl (fun A G H I J d0 => rP (ownp_load Tryz.underlying22 rfl (OwnP.k0 o14 H) (ed d0 rfl rfl rfl) rfl)) (gB 0 (gE ok3 fun a6 s6 ok6 D4 => ?_)))))); have q10 := D4.kt q5 rfl; have o25 := Own.k0 o13 D4.stp; have o26 := OwnP.k0 o14 D4.stp; have o27 := Own.k0 o15 D4.stp; have o28 := Own.k0 o16 D4.stp
  have q11 : At (Ty.val x1) s6 a6 (.tmp 2) := D4.done 4
  refine tn (wp_seq (wp_seq ?_))
  refine gI a6 s6 ok6 (gM q10 (gT (Ty.val r) rfl (fun A G H I J d0 => rP (y_nilp (OwnP.k0 o26 H) (ed d0 rfl rfl rfl))) (gT (Ty.val (ptrAt r 3)) rfl (fun A G H I J d0 => rP (ownp_field Tryz.fld107_3 Tryz.inf4 (by decide) (OwnP.k0 o26 H) (ed d0 rfl rfl rfl))) (gS rfl (fun A G H I J d0 => rP (ownp_load Tryz.underlying4 rfl (OwnP.k0 o26 H) (ed d0 rfl rfl rfl) rfl)) (gE ok6 fun a7 s7 ok7 D5 => ?_))))); have F7 := (F3.step0 D4.stp).step0 D5.stp; have q12 := D5.kt q10 rfl; have q13 := D5.kt q11 rfl; have o29 := Own.k0 o25 D5.stp; have o30 := OwnP.k0 o26 D5.stp; have o31 := Own.k0 o27 D5.stp; have o32 := Own.k0 o28 D5.stp; have q14 := D5.dn 3 rfl rfl; refine tn ?_
  refine cond_t q14 (fun c2 => ?_) (fun c2 => ?_)
  ·
   have hmi : mir = true := c2
   refine wp_seq ?_
   refine gI a7 s7 ok7 (gM q13 (gT (Ty.nat (List.length B)) rfl (fun A G H I J d0 => rP (own_len Tryz.underlying22 (al (R := (Pr.own 42 30 1 (List.length B) (List.map Ty.ints B))) (ed d0 rfl rfl rfl) (Own.k0 o31 H)))) (gT (Ty.int ((((List.length B) : Nat) : Int) - (2 : Int))) rfl (fun A G H I J d0 => rP (y_sub (ed d0 rfl rfl rfl) rfl (w64 (by omega) (by omega)))) (gB 0 (gE ok7 fun a8 s8 ok8 D6 => ?_))))); have o33 := Own.k0 o29 D6.stp; have o34 := OwnP.k0 o30 D6.stp; have o35 := Own.k0 o31 D6.stp; have o36 := Own.k0 o32 D6.stp; refine tn (wp_block ?_)
   refine loop (fun n1 a9 w1 => ∃ (t3 : GW) (k : Nat) (x2_0 : Value), t3.w = w1 ∧ FromL [40, 41, 42, 43] σ t3 ∧ Ok 60 [] a9 ∧ At (Ty.int (((B.length : Nat) : Int) - 2 - ((k : Nat) : Int))) t3 a9 (.tmp 3) ∧ At (Ty.val x2_0) t3 a9 (.tmp 2) ∧ At (Ty.val r) t3 a9 (.tmp 0) ∧ Own t3 42 30 1 x2_0 (List.length (B ++ mirP B k)) (List.map Ty.ints (B ++ mirP B k)) ∧ Own t3 41 30 1 av (List.length all) (List.map Ty.ints all) ∧ OwnP t3 40 r [(Ty.int n), (Ty.val av), (Ty.val x1), (Ty.bool mir), (Ty.val x2), (Ty.bool false), (Ty.bool (clD ql dot))] ∧ Own t3 43 3 1 x2 (List.length ([] : List Int)) (List.map Ty.int ([] : List Int)) ∧ (k ≤ B.length) ∧ n1 = B.length - k) (B.length - (0)) ?_ ?_
   ·
    exact ⟨s8, 0, x1, rfl, (F7.step0 D6.stp), ok8, (cvi (by (omega)) (D6.dn 3 rfl rfl)), (D6.kt q13 rfl), (D6.kt q12 rfl), (cvo (by (first | rfl | (rw [mirP_0, List.append_nil]))) (by (first | rfl | (rw [mirP_0, List.append_nil]))) o35), o33, o34, o36, by omega, rfl⟩
   ·
    rintro n2 a10 w2 ⟨t4, k, x2_0, rfl, F9, ok9, q18, q19, q20, o37, o38, o39, o40, hk, rfl⟩
    refine wp_seq (wp_seq ?_)
    refine gI a10 t4 ok9 (gM q18 (gS rfl (fun A G H I J d0 => rP (y_geq (ed d0 rfl rfl rfl) rfl)) (gE ok9 fun a11 s9 ok10 D7 => ?_))); have F10 := F9.step0 D7.stp; have q21 := D7.kt q18 rfl; have q22 := D7.kt q19 rfl; have q23 := D7.kt q20 rfl; have o41 := Own.k0 o37 D7.stp; have o42 := Own.k0 o38 D7.stp; have o43 := OwnP.k0 o39 D7.stp; have o44 := Own.k0 o40 D7.stp; have q24 := D7.dn 1 rfl rfl; refine tn ?_
    refine cond_p (p := ((0 : Int) ≤ (((B.length : Nat) : Int) - 2 - ((k : Nat) : Int)))) q24 (fun c3 => ?_) (fun c3 => ?_)
    ·
     have hk2 : k + 2 ≤ B.length := (by omega); have hce : ((B ++ mirP B k).getD ((((B.length : Nat) : Int) - 2 - ((k : Nat) : Int))).toNat []).length ≤ 1000000 := (by rw [mir_el hk2 rfl]; have h_ := el_len (j := B.length - 2 - k) hBe; omega); have hBk : (B ++ mirP B k).length = B.length + k := (by rw [List.length_append, mirP_len (by omega)])
     refine wp_skip (tn (wp_seq (wp_block ?_)))
     refine gI a11 s9 ok10 (gM q22 (gM q22 (gM q21 (gT (Ty.val (cellPtr x2_0 ((((B.length : Nat) : Int) - 2 - ((k : Nat) : Int))).toNat)) rfl (fun A G H I J d0 d1 => rP (own_index1 (i := (((B.length : Nat) : Int) - 2 - ((k : Nat) : Int))) Tryz.underlying22 Tryz.inf30 (Own.k0 o41 H) (ed d0 rfl rfl rfl) (ed d1 rfl rfl rfl) (by omega) (by omega))) (gS rfl (fun A G H I J d0 => rP (own_load Tryz.underlying30 rfl (Own.k0 o41 H) (ed d0 rfl rfl rfl) (lst_get Ty.ints (B ++ mirP B k) [] ((((B.length : Nat) : Int) - 2 - ((k : Nat) : Int))).toNat (by omega)))) (gS rfl (fun A G H I J d0 => rP (y_call _ Tryz.func104 rfl rfl my1 (cloneS_fn (((B ++ mirP B k).getD ((((B.length : Nat) : Int) - 2 - ((k : Nat) : Int))).toNat [])) _ _ (ed d0 rfl rfl rfl) (by omega)))) (gT (Ty.sl 1 1 [(Ty.lst Ty.int (((B ++ mirP B k).getD ((((B.length : Nat) : Int) - 2 - ((k : Nat) : Int))).toNat [])))]) rfl (fun A G H I J d0 => rP (y_build1o Tryz.underlying22 Tryz.inf30 rfl (one_sl) (ed d0 rfl rfl rfl))) (gE2 ok10 fun a12 s10 ok11 D8 => ?_)))))))); have o45 := Own.k0 o41 D8.stp; have o46 := Own.k0 o42 D8.stp; have o47 := OwnP.k0 o43 D8.stp; have o48 := Own.k0 o44 D8.stp
     have q28 : At (Ty.val x2_0) s10 a12 (.tmp 27) := D8.done 0 (by decide)
     have q29 := D8.dn 6 (by decide) rfl rfl
     have b1 := sl_le q29
     refine tL ok11 (YldM.toL (m_append Tryz.underlying22 Tryz.inf30 (by decide) rfl (by decide) (al (R := (Pr.own 42 30 1 (List.length (B ++ mirP B k)) (List.map Ty.ints (B ++ mirP B k)))) q28 o45) q29 (by intro U hU; simp at hU; subst hU; exact one_sl) (by omega) (by omega))) fun a13 s11 hs3 ok12 r3 sm3 => ?_
     have F12 := (F10.step0 D8.stp).stepL hs3 (by decide); have q30 := kpL hs3 (by decide) (sm3 3 (by decide)) (D8.kt q21 rfl); have q31 := kpL hs3 (by decide) (sm3 2 (by decide)) (D8.kt q22 rfl); have q32 := kpL hs3 (by decide) (sm3 0 (by decide)) (D8.kt q23 rfl); have o50 := Own.keepL o46 hs3 (by decide) (by decide); have o51 := OwnP.keepL o47 hs3 (by decide) (by decide); have o52 := Own.keepL o48 hs3 (by decide) (by decide)
     obtain ⟨x3, hx1⟩ : ∃ x, a13.eval (.tmp 34) = x := ⟨_, rfl⟩
     have q33 : At (Ty.val x3) s11 a13 (.tmp 34) := hx1
     have o49 := al2 (R := (Pr.own 42 30 1 (List.length ((B ++ mirP B k) ++ [(((B ++ mirP B k).getD ((((B.length : Nat) : Int) - 2 - ((k : Nat) : Int))).toNat []))])) (List.map Ty.ints ((B ++ mirP B k) ++ [(((B ++ mirP B k).getD ((((B.length : Nat) : Int) - 2 - ((k : Nat) : Int))).toNat []))])))) hx1 (cvo (by first | (simp; done) | (simp; omega)) (by first | (rw [List.map_append]; rfl) | simp) r3)
     clear r3
     refine tL ok12 (Yld.toL (y_as q33)) fun a14 s12 hs4 ok13 r4 sm4 => ?_
     have F13 := F12.stepL hs4 (by decide); have q34 := kpL hs4 (by decide) (sm4 3 (by decide)) q30; have q35 := kpL hs4 (by decide) (sm4 0 (by decide)) q32; have o53 := Own.keepL o50 hs4 (by decide) (by decide); have o54 := OwnP.keepL o51 hs4 (by decide) (by decide); have o55 := Own.keepL o52 hs4 (by decide) (by decide); have o56 := Own.keepL o49 hs4 (by decide) (by decide)
     have q36 : At (Ty.val x3) s12 a14 (.tmp 2) := r4
     clear r4; refine wpList_nil (bn (tn ?_))
     refine gI a14 s12 ok13 (gM q34 (gT (Ty.int ((((B.length : Nat) : Int) - 2 - ((k : Nat) : Int)) - (1 : Int))) rfl (fun A G H I J d0 => rP (y_sub (ed d0 rfl rfl rfl) rfl (w64 (by omega) (by omega)))) (gB 0 (gE ok13 fun a15 s13 ok14 D9 => ?_)))); have o57 := Own.k0 o53 D9.stp; have o58 := OwnP.k0 o54 D9.stp; have o59 := Own.k0 o55 D9.stp; have o60 := Own.k0 o56 D9.stp
     exact tn ⟨B.length - ((k + 1)), by omega, s13, (k + 1), x3, rfl, (F13.step0 D9.stp), ok14, (cvi (by (omega)) (D9.dn 2 rfl rfl)), (D9.kt q36 rfl), (D9.kt q35 rfl), (cvo (by (first | (rw [mirP_succ hk2, ← List.append_assoc, mir_el hk2 rfl]; done) | (rw [mirP_succ hk2, ← List.append_assoc, mir_el hk2 rfl]))) (by (first | (rw [mirP_succ hk2, ← List.append_assoc, mir_el hk2 rfl]; done) | (rw [mirP_succ hk2, ← List.append_assoc, mir_el hk2 rfl]))) o60), o57, o58, o59, by omega, rfl⟩
    ·
     have hML : B ++ mirP B k = mirL mir B := (by rw [hmi]; exact mirL_all (by omega)); have hBk : (B ++ mirP B k).length ≤ 2 * B.length := (by rw [hML]; exact mirL_len)
     refine wp_exit (tx (tx (bx (tn (wp_seq ?_)))))
     obtain ⟨t5, e1, h1, q40⟩ := Own.seal o41 (by decide)
     rw [← e1]
     have F15 := F10.step h1 (by decide); have o61 := Own.keepL o42 (h1.toL (L := [42]) (by simp)) (by decide) (by decide); have o62 := OwnP.keepL o43 (h1.toL (L := [42]) (by simp)) (by decide) (by decide); have o63 := Own.keepL o44 (h1.toL (L := [42]) (by simp)) (by decide) (by decide); have q41 := Ty.up (Ty.int (((B.length : Nat) : Int) - 2 - ((k : Nat) : Int))) (h1.le (by decide)) q21
     have q42 : At (Ty.lst Ty.ints (B ++ mirP B k)) t5 a11 (.tmp 2) := by have e : a11.eval (.tmp 2) = x2_0 := q22; show Ty.has _ _ _; rw [e]; exact q40
     have q43 := Ty.up (Ty.val r) (h1.le (by decide)) q23; have q44 := Ty.up (Ty.bool (decide ((0 : Int) ≤ (((B.length : Nat) : Int) - 2 - ((k : Nat) : Int))))) (h1.le (by decide)) q24
     refine gI a11 t5 ok10 (gM q43 (gM q43 (gT (Ty.val r) rfl (fun A G H I J d0 => rP (y_nilp (OwnP.k0 o62 H) (ed d0 rfl rfl rfl))) (gT (Ty.val (ptrAt r 1)) rfl (fun A G H I J d0 => rP (ownp_field Tryz.fld107_1 Tryz.inf22 (by decide) (OwnP.k0 o62 H) (ed d0 rfl rfl rfl))) (gS rfl (fun A G H I J d0 => rP (ownp_load Tryz.underlying22 rfl (OwnP.k0 o62 H) (ed d0 rfl rfl rfl) rfl)) (gM q42 (gE2 ok10 fun a16 s14 ok15 D10 => ?_))))))); have o64 := Own.k0 o61 D10.stp; have o65 := OwnP.k0 o62 D10.stp; have o66 := Own.k0 o63 D10.stp
     refine tL ok15 (YldM.toL (m_append Tryz.underlying22 Tryz.inf30 (by decide) rfl (by decide) (al (R := (Pr.own 41 30 1 (List.length all) (List.map Ty.ints all))) (D10.dn 4 (by decide) rfl rfl) o64) (D10.dn 5 (by decide) rfl rfl) (one_map (fun _ => one_sl)) (by omega) (by omega))) fun a17 s15 hs5 ok16 r5 sm5 => ?_
     have F17 := (F15.step0 D10.stp).stepL hs5 (by decide); have q49 := kpL hs5 (by decide) (sm5 0 (by decide)) (D10.kt q43 rfl); have q50 := kpL hs5 (by decide) (sm5 35 (by decide)) (D10.dn 0 (by decide) rfl rfl); have o68 := OwnP.keepL o65 hs5 (by decide) (by decide); have o69 := Own.keepL o66 hs5 (by decide) (by decide)
     obtain ⟨x4, hx2⟩ : ∃ x, a17.eval (.tmp 41) = x := ⟨_, rfl⟩
     have q51 : At (Ty.val x4) s15 a17 (.tmp 41) := hx2
     have o67 := al2 (R := (Pr.own 41 30 1 (List.length (all ++ (B ++ mirP B k))) (List.map Ty.ints (all ++ (B ++ mirP B k))))) hx2 (cvo (by simp) (by first | (rw [List.map_append]; rfl) | simp) r5)
     clear r5
     refine tL (R := (fun v τ => Pr.has (Ty.pr (Ty.val r)) τ v)) ok16 (Yld.toL (y_nilp o68 q50)) fun a18 s16 hs6 ok17 r6 sm6 => ?_
     have F18 := F17.stepL hs6 (by decide); have q52 := kpL hs6 (by decide) (sm6 0 (by decide)) q49; have q53 := kpL hs6 (by decide) (sm6 41 (by decide)) q51; have o70 := OwnP.keepL o68 hs6 (by decide) (by decide); have o71 := Own.keepL o69 hs6 (by decide) (by decide); have o72 := Own.keepL o67 hs6 (by decide) (by decide)
     have q54 : At (Ty.val r) s16 a18 (.tmp 42) := r6
     clear r6
     refine tL (R := (fun v τ => Pr.has (Ty.pr (Ty.val (ptrAt r 1))) τ v)) ok17 (Yld.toL (ownp_field Tryz.fld107_1 Tryz.inf22 (by decide) o70 q54)) fun a19 s17 hs7 ok18 r7 sm7 => ?_
     have F19 := F18.stepL hs7 (by decide); have q55 := kpL hs7 (by decide) (sm7 0 (by decide)) q52; have q56 := kpL hs7 (by decide) (sm7 41 (by decide)) q53; have o73 := OwnP.keepL o70 hs7 (by decide) (by decide); have o74 := Own.keepL o71 hs7 (by decide) (by decide); have o75 := Own.keepL o72 hs7 (by decide) (by decide)
     have q57 : At (Ty.val (ptrAt r 1)) s17 a19 (.tmp 43) := r7
     clear r7
     refine tailL0 (L := [40]) (R := (fun _ τ => OwnP τ 40 r ([(Ty.int n), (Ty.val av), (Ty.val x1), (Ty.bool mir), (Ty.val x2), (Ty.bool false), (Ty.bool (clD ql dot))].set 1 (Ty.val x4)))) rfl rfl (YldM.toL (m_storep Tryz.inf22 (by decide) o73 q57 (Nat.le_of_ble_eq_true rfl) q56 (one_val (Own.one o75)))) (fun v1 s18 hs8 r8 => ?_)
     have F20 := F19.stepL hs8 (by decide); have q58 := kpL hs8 (by decide) rfl q55; have o77 := Own.keepL o74 hs8 (by decide) (by decide); have o78 := Own.keepL o75 hs8 (by decide) (by decide)
     have o76 : OwnP s18 40 r [(Ty.int n), (Ty.val x4), (Ty.val x1), (Ty.bool mir), (Ty.val x2), (Ty.bool false), (Ty.bool (clD ql dot))] := r8
     clear r8; refine wpList_nil (tn (wp_seq ?_))
     refine gI a19 s18 ok18 (gM q58 (gM q58 (gM q58 (gT (Ty.val r) rfl (fun A G H I J d0 d1 d2 d3 => rP (y_nilp (OwnP.k0 o76 H) (ed d0 rfl rfl rfl))) (gT (Ty.val (ptrAt r 2)) rfl (fun A G H I J d0 d1 d2 d3 => rP (ownp_field Tryz.fld107_2 Tryz.inf22 (by decide) (OwnP.k0 o76 H) (ed d0 rfl rfl rfl))) (gE2 ok18 fun a20 s19 ok19 D11 => ?_)))))); have o79 := Own.k0 o77 D11.stp; have o80 := Own.k0 o78 D11.stp; have o81 := OwnP.k0 o76 D11.stp
     refine tailL0 (L := [40]) (R := (fun _ τ => OwnP τ 40 r ([(Ty.int n), (Ty.val x4), (Ty.val x1), (Ty.bool mir), (Ty.val x2), (Ty.bool false), (Ty.bool (clD ql dot))].set 2 (Ty.val (Value.slice none 0 0))))) rfl rfl (YldM.toL (m_storep Tryz.inf22 (by decide) o81 (D11.dn 4 (by decide) rfl rfl) (Nat.le_of_ble_eq_true rfl) rfl (one_val rfl))) (fun v2 s20 hs9 r9 => ?_)
     have F22 := (F20.step0 D11.stp).stepL hs9 (by decide); have q64 := kpL hs9 (by decide) rfl (D11.kt q58 rfl); have q65 := kpL hs9 (by decide) rfl (D11.dn 1 (by decide) rfl rfl); have q66 := kpL hs9 (by decide) rfl (D11.dn 2 (by decide) rfl rfl); have o83 := Own.keepL o79 hs9 (by decide) (by decide); have o84 := Own.keepL o80 hs9 (by decide) (by decide)
     have o82 : OwnP s20 40 r [(Ty.int n), (Ty.val x4), (Ty.val (Value.slice none 0 0)), (Ty.bool mir), (Ty.val x2), (Ty.bool false), (Ty.bool (clD ql dot))] := r9
     clear r9
     refine tL (R := (fun v τ => Pr.has (Ty.pr (Ty.val r)) τ v)) ok19 (Yld.toL (y_nilp o82 q65)) fun a21 s21 hs10 ok20 r10 sm8 => ?_
     have F23 := F22.stepL hs10 (by decide); have q68 := kpL hs10 (by decide) (sm8 0 (by decide)) q64; have q69 := kpL hs10 (by decide) (sm8 46 (by decide)) q66; have o85 := Own.keepL o83 hs10 (by decide) (by decide); have o86 := Own.keepL o84 hs10 (by decide) (by decide); have o87 := OwnP.keepL o82 hs10 (by decide) (by decide)
     have q70 : At (Ty.val r) s21 a21 (.tmp 49) := r10
     clear r10
     refine tL (R := (fun v τ => Pr.has (Ty.pr (Ty.val (ptrAt r 3))) τ v)) ok20 (Yld.toL (ownp_field Tryz.fld107_3 Tryz.inf4 (by decide) o87 q70)) fun a22 s22 hs11 ok21 r11 sm9 => ?_
     have F24 := F23.stepL hs11 (by decide); have q71 := kpL hs11 (by decide) (sm9 0 (by decide)) q68; have q72 := kpL hs11 (by decide) (sm9 46 (by decide)) q69; have o88 := Own.keepL o85 hs11 (by decide) (by decide); have o89 := Own.keepL o86 hs11 (by decide) (by decide); have o90 := OwnP.keepL o87 hs11 (by decide) (by decide)
     have q73 : At (Ty.val (ptrAt r 3)) s22 a22 (.tmp 50) := r11
     clear r11
     refine tailL0 (L := [40]) (R := (fun _ τ => OwnP τ 40 r ([(Ty.int n), (Ty.val x4), (Ty.val (Value.slice none 0 0)), (Ty.bool mir), (Ty.val x2), (Ty.bool false), (Ty.bool (clD ql dot))].set 3 (Ty.bool false)))) rfl rfl (YldM.toL (m_storep Tryz.inf4 (by decide) o90 q73 (Nat.le_of_ble_eq_true rfl) rfl (one_val rfl))) (fun v3 s23 hs12 r12 => ?_)
     have F25 := F24.stepL hs12 (by decide); have q74 := kpL hs12 (by decide) rfl q71; have q75 := kpL hs12 (by decide) rfl q72; have o92 := Own.keepL o88 hs12 (by decide) (by decide); have o93 := Own.keepL o89 hs12 (by decide) (by decide)
     have o91 : OwnP s23 40 r [(Ty.int n), (Ty.val x4), (Ty.val (Value.slice none 0 0)), (Ty.bool false), (Ty.val x2), (Ty.bool false), (Ty.bool (clD ql dot))] := r12
     clear r12
     refine tL (R := (fun v τ => Pr.has (Ty.pr (Ty.val r)) τ v)) ok21 (Yld.toL (y_nilp o91 q75)) fun a23 s24 hs13 ok22 r13 sm10 => ?_
     have F26 := F25.stepL hs13 (by decide); have q77 := kpL hs13 (by decide) (sm10 0 (by decide)) q74; have o94 := Own.keepL o92 hs13 (by decide) (by decide); have o95 := Own.keepL o93 hs13 (by decide) (by decide); have o96 := OwnP.keepL o91 hs13 (by decide) (by decide)
     have q78 : At (Ty.val r) s24 a23 (.tmp 51) := r13
     clear r13
     refine tL (R := (fun v τ => Pr.has (Ty.pr (Ty.val (ptrAt r 6))) τ v)) ok22 (Yld.toL (ownp_field Tryz.fld107_6 Tryz.inf4 (by decide) o96 q78)) fun a24 s25 hs14 ok23 r14 sm11 => ?_
     have F27 := F26.stepL hs14 (by decide); have q79 := kpL hs14 (by decide) (sm11 0 (by decide)) q77; have o97 := Own.keepL o94 hs14 (by decide) (by decide); have o98 := Own.keepL o95 hs14 (by decide) (by decide); have o99 := OwnP.keepL o96 hs14 (by decide) (by decide)
     have q80 : At (Ty.val (ptrAt r 6)) s25 a24 (.tmp 52) := r14
     clear r14
     refine tailL0 (L := [40]) (R := (fun _ τ => OwnP τ 40 r ([(Ty.int n), (Ty.val x4), (Ty.val (Value.slice none 0 0)), (Ty.bool false), (Ty.val x2), (Ty.bool false), (Ty.bool (clD ql dot))].set 6 (Ty.bool false)))) rfl rfl (YldM.toL (m_storep Tryz.inf4 (by decide) o99 q80 (Nat.le_of_ble_eq_true rfl) rfl (one_val rfl))) (fun v4 s26 hs15 r15 => ?_)
     have F28 := F27.stepL hs15 (by decide); have q81 := kpL hs15 (by decide) rfl q79; have o101 := Own.keepL o97 hs15 (by decide) (by decide); have o102 := Own.keepL o98 hs15 (by decide) (by decide)
     have o100 : OwnP s26 40 r [(Ty.int n), (Ty.val x4), (Ty.val (Value.slice none 0 0)), (Ty.bool false), (Ty.val x2), (Ty.bool false), (Ty.bool false)] := r15
     clear r15; refine wpList_nil (tn (wp_seq ?_))
     refine gI a24 s26 ok23 (gM q81 (gT (Ty.val r) rfl (fun A G H I J d0 => rP (y_nilp (OwnP.k0 o100 H) (ed d0 rfl rfl rfl))) (gT (Ty.val (ptrAt r 1)) rfl (fun A G H I J d0 => rP (ownp_field Tryz.fld107_1 Tryz.inf22 (by decide) (OwnP.k0 o100 H) (ed d0 rfl rfl rfl))) (gS rfl (fun A G H I J d0 => rP (ownp_load Tryz.underlying22 rfl (OwnP.k0 o100 H) (ed d0 rfl rfl rfl) rfl)) (gT (Ty.nat (List.length (all ++ (B ++ mirP B k)))) rfl (fun A G H I J d0 => rP (own_len Tryz.underlying22 (al (R := (Pr.own 41 30 1 (List.length (all ++ (B ++ mirP B k))) (List.map Ty.ints (all ++ (B ++ mirP B k))))) (ed d0 rfl rfl rfl) (Own.k0 o102 H)))) (gS rfl (fun A G H I J d0 => rP (y_gtr (ed d0 rfl rfl rfl) rfl)) (gE ok23 fun a25 s27 ok24 D12 => ?_))))))); have F29 := F28.step0 D12.stp; have o103 := Own.k0 o101 D12.stp; have o104 := Own.k0 o102 D12.stp; have o105 := OwnP.k0 o100 D12.stp; refine tn ?_
     refine cond_p (p := ((200 : Int) < (((List.length (all ++ (B ++ mirP B k))) : Nat) : Int))) (D12.dn 5 rfl rfl) (fun c4 => ?_) (fun c4 => ?_)
     ·
      refine gI a25 s27 ok24 (gE2 ok24 fun a26 s28 ok25 D13 => ?_); have F30 := F29.step0 D13.stp; have o106 := Own.k0 o103 D13.stp; have o107 := Own.k0 o104 D13.stp; have o108 := OwnP.k0 o105 D13.stp
      refine tailP (L := []) (R := (fun v τ' => ∃ τ, (fun v τ => True ∧ (((3 : Int)) = 0)) v τ ∧ Back [] τ τ')) (E := (fun c_ => c_ = fltC 103 ((3 : Int)) ∧ ((3 : Int)) ≠ 0)) rfl rfl (by decide) ok25 (y_callP (L := []) [] [] #[a26.eval ((Operand.const (Value.int IntKind.i64 3)))] rfl (by decide) Tryz.func102 rfl rfl (by simp only [List.map_toArray, List.map_cons, List.map_nil]) (fail_fn ((3 : Int)) _ (GW.low_lend _ (by decide)) _ (Ty.up _ (GW.le_lend _ _) (cvi (σ := s28) (by omega) rfl))  (by omega))) (fun c_ t_ hs_ he_ => panB ok25 (F30.stepL hs_ (by decide)) (fltTo (fun h_ => by exact enE_3 hp1 hdd (by rw [← hB, ← hML]; omega)) he_)) (fun a27 s29 hs16 ok26 r16 sm12 => ?_)
      have F31 := F30.stepL hs16 (by decide); have o109 := Own.keepL o106 hs16 (by decide) (by decide); have o110 := Own.keepL o107 hs16 (by decide) (by decide); have o111 := OwnP.keepL o108 hs16 (by decide) (by decide)
      obtain ⟨t6, ⟨hT3, hp3⟩, B3⟩ := r16
      exact absurd hp3 (by first | decide | assumption | omega)
     ·
      refine wp_skip ?_
      have o112 : Own s27 42 30 1 (Value.slice none 0 0) 0 (List.map Ty.ints ([] : List (List Int))) := Own.nil _ _ _ _
      refine toPn ?_
      exact nL0 rfl ok24 F29 ⟨x4, (Value.slice none 0 0), x2, trivial, o105, (cvo (by (rw [show enA n (PSt.mk all blk mir ql dot) = all ++ mirL mir B from by rw [hB]; rfl, ← hML])) (by (rw [show enA n (PSt.mk all blk mir ql dot) = all ++ mirL mir B from by rw [hB]; rfl, ← hML])) o104), (cvo (by (simp)) (by (simp)) o112), o103, (by exact enE_0 hp1 hdd (by rw [← hB, ← hML]; omega))⟩
  ·
   have hmi : mir = false := c2; have hML : B = mirL mir B := (by rw [hmi]; rfl)
   refine wp_skip (tn (wp_seq ?_))
   obtain ⟨t7, e2, h2, q85⟩ := Own.seal o31 (by decide)
   rw [← e2]
   have F32 := F7.step h2 (by decide); have o113 := Own.keepL o29 (h2.toL (L := [42]) (by simp)) (by decide) (by decide); have o114 := OwnP.keepL o30 (h2.toL (L := [42]) (by simp)) (by decide) (by decide); have o115 := Own.keepL o32 (h2.toL (L := [42]) (by simp)) (by decide) (by decide); have q86 := Ty.up (Ty.val r) (h2.le (by decide)) q12
   have q87 : At (Ty.lst Ty.ints B) t7 a7 (.tmp 2) := by have e : a7.eval (.tmp 2) = x1 := q13; show Ty.has _ _ _; rw [e]; exact q85
   have q88 := Ty.up (Ty.bool mir) (h2.le (by decide)) q14; have o116 := ownp_cellq 2 (Ty.lst Ty.ints B) o114 rfl q85
   refine gI a7 t7 ok7 (gM q86 (gM q86 (gT (Ty.val r) rfl (fun A G H I J d0 => rP (y_nilp (OwnP.k0 o116 H) (ed d0 rfl rfl rfl))) (gT (Ty.val (ptrAt r 1)) rfl (fun A G H I J d0 => rP (ownp_field Tryz.fld107_1 Tryz.inf22 (by decide) (OwnP.k0 o116 H) (ed d0 rfl rfl rfl))) (gS rfl (fun A G H I J d0 => rP (ownp_load Tryz.underlying22 rfl (OwnP.k0 o116 H) (ed d0 rfl rfl rfl) rfl)) (gM q87 (gE2 ok7 fun a28 s30 ok27 D14 => ?_))))))); have o117 := Own.k0 o113 D14.stp; have o118 := OwnP.k0 o116 D14.stp; have o119 := Own.k0 o115 D14.stp
   refine tL ok27 (YldM.toL (m_append Tryz.underlying22 Tryz.inf30 (by decide) rfl (by decide) (al (R := (Pr.own 41 30 1 (List.length all) (List.map Ty.ints all))) (D14.dn 4 (by decide) rfl rfl) o117) (D14.dn 5 (by decide) rfl rfl) (one_map (fun _ => one_sl)) (by omega) (by omega))) fun a29 s31 hs17 ok28 r17 sm13 => ?_
   have F34 := (F32.step0 D14.stp).stepL hs17 (by decide); have q93 := kpL hs17 (by decide) (sm13 0 (by decide)) (D14.kt q86 rfl); have q94 := kpL hs17 (by decide) (sm13 35 (by decide)) (D14.dn 0 (by decide) rfl rfl); have o121 := OwnP.keepL o118 hs17 (by decide) (by decide); have o122 := Own.keepL o119 hs17 (by decide) (by decide)
   obtain ⟨x5, hx3⟩ : ∃ x, a29.eval (.tmp 41) = x := ⟨_, rfl⟩
   have q95 : At (Ty.val x5) s31 a29 (.tmp 41) := hx3
   have o120 := al2 (R := (Pr.own 41 30 1 (List.length (all ++ B)) (List.map Ty.ints (all ++ B)))) hx3 (cvo (by simp) (by first | (rw [List.map_append]; rfl) | simp) r17)
   clear r17
   refine tL (R := (fun v τ => Pr.has (Ty.pr (Ty.val r)) τ v)) ok28 (Yld.toL (y_nilp o121 q94)) fun a30 s32 hs18 ok29 r18 sm14 => ?_
   have F35 := F34.stepL hs18 (by decide); have q96 := kpL hs18 (by decide) (sm14 0 (by decide)) q93; have q97 := kpL hs18 (by decide) (sm14 41 (by decide)) q95; have o123 := OwnP.keepL o121 hs18 (by decide) (by decide); have o124 := Own.keepL o122 hs18 (by decide) (by decide); have o125 := Own.keepL o120 hs18 (by decide) (by decide)
   have q98 : At (Ty.val r) s32 a30 (.tmp 42) := r18
   clear r18
   refine tL (R := (fun v τ => Pr.has (Ty.pr (Ty.val (ptrAt r 1))) τ v)) ok29 (Yld.toL (ownp_field Tryz.fld107_1 Tryz.inf22 (by decide) o123 q98)) fun a31 s33 hs19 ok30 r19 sm15 => ?_
   have F36 := F35.stepL hs19 (by decide); have q99 := kpL hs19 (by decide) (sm15 0 (by decide)) q96; have q100 := kpL hs19 (by decide) (sm15 41 (by decide)) q97; have o126 := OwnP.keepL o123 hs19 (by decide) (by decide); have o127 := Own.keepL o124 hs19 (by decide) (by decide); have o128 := Own.keepL o125 hs19 (by decide) (by decide)
   have q101 : At (Ty.val (ptrAt r 1)) s33 a31 (.tmp 43) := r19
   clear r19
   refine tailL0 (L := [40]) (R := (fun _ τ => OwnP τ 40 r ([(Ty.int n), (Ty.val av), (Ty.lst Ty.ints B), (Ty.bool mir), (Ty.val x2), (Ty.bool false), (Ty.bool (clD ql dot))].set 1 (Ty.val x5)))) rfl rfl (YldM.toL (m_storep Tryz.inf22 (by decide) o126 q101 (Nat.le_of_ble_eq_true rfl) q100 (one_val (Own.one o128)))) (fun v5 s34 hs20 r20 => ?_)
   have F37 := F36.stepL hs20 (by decide); have q102 := kpL hs20 (by decide) rfl q99; have o130 := Own.keepL o127 hs20 (by decide) (by decide); have o131 := Own.keepL o128 hs20 (by decide) (by decide)
   have o129 : OwnP s34 40 r [(Ty.int n), (Ty.val x5), (Ty.lst Ty.ints B), (Ty.bool mir), (Ty.val x2), (Ty.bool false), (Ty.bool (clD ql dot))] := r20
   clear r20; refine wpList_nil (tn (wp_seq ?_))
   refine gI a31 s34 ok30 (gM q102 (gM q102 (gM q102 (gT (Ty.val r) rfl (fun A G H I J d0 d1 d2 d3 => rP (y_nilp (OwnP.k0 o129 H) (ed d0 rfl rfl rfl))) (gT (Ty.val (ptrAt r 2)) rfl (fun A G H I J d0 d1 d2 d3 => rP (ownp_field Tryz.fld107_2 Tryz.inf22 (by decide) (OwnP.k0 o129 H) (ed d0 rfl rfl rfl))) (gE2 ok30 fun a32 s35 ok31 D15 => ?_)))))); have o132 := Own.k0 o130 D15.stp; have o133 := Own.k0 o131 D15.stp; have o134 := OwnP.k0 o129 D15.stp
   refine tailL0 (L := [40]) (R := (fun _ τ => OwnP τ 40 r ([(Ty.int n), (Ty.val x5), (Ty.lst Ty.ints B), (Ty.bool mir), (Ty.val x2), (Ty.bool false), (Ty.bool (clD ql dot))].set 2 (Ty.val (Value.slice none 0 0))))) rfl rfl (YldM.toL (m_storep Tryz.inf22 (by decide) o134 (D15.dn 4 (by decide) rfl rfl) (Nat.le_of_ble_eq_true rfl) rfl (one_val rfl))) (fun v6 s36 hs21 r21 => ?_)
   have F39 := (F37.step0 D15.stp).stepL hs21 (by decide); have q108 := kpL hs21 (by decide) rfl (D15.kt q102 rfl); have q109 := kpL hs21 (by decide) rfl (D15.dn 1 (by decide) rfl rfl); have q110 := kpL hs21 (by decide) rfl (D15.dn 2 (by decide) rfl rfl); have o136 := Own.keepL o132 hs21 (by decide) (by decide); have o137 := Own.keepL o133 hs21 (by decide) (by decide)
   have o135 : OwnP s36 40 r [(Ty.int n), (Ty.val x5), (Ty.val (Value.slice none 0 0)), (Ty.bool mir), (Ty.val x2), (Ty.bool false), (Ty.bool (clD ql dot))] := r21
   clear r21
   refine tL (R := (fun v τ => Pr.has (Ty.pr (Ty.val r)) τ v)) ok31 (Yld.toL (y_nilp o135 q109)) fun a33 s37 hs22 ok32 r22 sm16 => ?_
   have F40 := F39.stepL hs22 (by decide); have q112 := kpL hs22 (by decide) (sm16 0 (by decide)) q108; have q113 := kpL hs22 (by decide) (sm16 46 (by decide)) q110; have o138 := Own.keepL o136 hs22 (by decide) (by decide); have o139 := Own.keepL o137 hs22 (by decide) (by decide); have o140 := OwnP.keepL o135 hs22 (by decide) (by decide)
   have q114 : At (Ty.val r) s37 a33 (.tmp 49) := r22
   clear r22
   refine tL (R := (fun v τ => Pr.has (Ty.pr (Ty.val (ptrAt r 3))) τ v)) ok32 (Yld.toL (ownp_field Tryz.fld107_3 Tryz.inf4 (by decide) o140 q114)) fun a34 s38 hs23 ok33 r23 sm17 => ?_
   have F41 := F40.stepL hs23 (by decide); have q115 := kpL hs23 (by decide) (sm17 0 (by decide)) q112; have q116 := kpL hs23 (by decide) (sm17 46 (by decide)) q113; have o141 := Own.keepL o138 hs23 (by decide) (by decide); have o142 := Own.keepL o139 hs23 (by decide) (by decide); have o143 := OwnP.keepL o140 hs23 (by decide) (by decide)
   have q117 : At (Ty.val (ptrAt r 3)) s38 a34 (.tmp 50) := r23
   clear r23
   refine tailL0 (L := [40]) (R := (fun _ τ => OwnP τ 40 r ([(Ty.int n), (Ty.val x5), (Ty.val (Value.slice none 0 0)), (Ty.bool mir), (Ty.val x2), (Ty.bool false), (Ty.bool (clD ql dot))].set 3 (Ty.bool false)))) rfl rfl (YldM.toL (m_storep Tryz.inf4 (by decide) o143 q117 (Nat.le_of_ble_eq_true rfl) rfl (one_val rfl))) (fun v7 s39 hs24 r24 => ?_)
   have F42 := F41.stepL hs24 (by decide); have q118 := kpL hs24 (by decide) rfl q115; have q119 := kpL hs24 (by decide) rfl q116; have o145 := Own.keepL o141 hs24 (by decide) (by decide); have o146 := Own.keepL o142 hs24 (by decide) (by decide)
   have o144 : OwnP s39 40 r [(Ty.int n), (Ty.val x5), (Ty.val (Value.slice none 0 0)), (Ty.bool false), (Ty.val x2), (Ty.bool false), (Ty.bool (clD ql dot))] := r24
   clear r24
   refine tL (R := (fun v τ => Pr.has (Ty.pr (Ty.val r)) τ v)) ok33 (Yld.toL (y_nilp o144 q119)) fun a35 s40 hs25 ok34 r25 sm18 => ?_
   have F43 := F42.stepL hs25 (by decide); have q121 := kpL hs25 (by decide) (sm18 0 (by decide)) q118; have o147 := Own.keepL o145 hs25 (by decide) (by decide); have o148 := Own.keepL o146 hs25 (by decide) (by decide); have o149 := OwnP.keepL o144 hs25 (by decide) (by decide)
   have q122 : At (Ty.val r) s40 a35 (.tmp 51) := r25
   clear r25
   refine tL (R := (fun v τ => Pr.has (Ty.pr (Ty.val (ptrAt r 6))) τ v)) ok34 (Yld.toL (ownp_field Tryz.fld107_6 Tryz.inf4 (by decide) o149 q122)) fun a36 s41 hs26 ok35 r26 sm19 => ?_
   have F44 := F43.stepL hs26 (by decide); have q123 := kpL hs26 (by decide) (sm19 0 (by decide)) q121; have o150 := Own.keepL o147 hs26 (by decide) (by decide); have o151 := Own.keepL o148 hs26 (by decide) (by decide); have o152 := OwnP.keepL o149 hs26 (by decide) (by decide)
   have q124 : At (Ty.val (ptrAt r 6)) s41 a36 (.tmp 52) := r26
   clear r26
   refine tailL0 (L := [40]) (R := (fun _ τ => OwnP τ 40 r ([(Ty.int n), (Ty.val x5), (Ty.val (Value.slice none 0 0)), (Ty.bool false), (Ty.val x2), (Ty.bool false), (Ty.bool (clD ql dot))].set 6 (Ty.bool false)))) rfl rfl (YldM.toL (m_storep Tryz.inf4 (by decide) o152 q124 (Nat.le_of_ble_eq_true rfl) rfl (one_val rfl))) (fun v8 s42 hs27 r27 => ?_)
   have F45 := F44.stepL hs27 (by decide); have q125 := kpL hs27 (by decide) rfl q123; have o154 := Own.keepL o150 hs27 (by decide) (by decide); have o155 := Own.keepL o151 hs27 (by decide) (by decide)
   have o153 : OwnP s42 40 r [(Ty.int n), (Ty.val x5), (Ty.val (Value.slice none 0 0)), (Ty.bool false), (Ty.val x2), (Ty.bool false), (Ty.bool false)] := r27
   clear r27; refine wpList_nil (tn (wp_seq ?_))
   refine gI a36 s42 ok35 (gM q125 (gT (Ty.val r) rfl (fun A G H I J d0 => rP (y_nilp (OwnP.k0 o153 H) (ed d0 rfl rfl rfl))) (gT (Ty.val (ptrAt r 1)) rfl (fun A G H I J d0 => rP (ownp_field Tryz.fld107_1 Tryz.inf22 (by decide) (OwnP.k0 o153 H) (ed d0 rfl rfl rfl))) (gS rfl (fun A G H I J d0 => rP (ownp_load Tryz.underlying22 rfl (OwnP.k0 o153 H) (ed d0 rfl rfl rfl) rfl)) (gT (Ty.nat (List.length (all ++ B))) rfl (fun A G H I J d0 => rP (own_len Tryz.underlying22 (al (R := (Pr.own 41 30 1 (List.length (all ++ B)) (List.map Ty.ints (all ++ B)))) (ed d0 rfl rfl rfl) (Own.k0 o155 H)))) (gS rfl (fun A G H I J d0 => rP (y_gtr (ed d0 rfl rfl rfl) rfl)) (gE ok35 fun a37 s43 ok36 D16 => ?_))))))); have F46 := F45.step0 D16.stp; have o156 := Own.k0 o154 D16.stp; have o157 := Own.k0 o155 D16.stp; have o158 := OwnP.k0 o153 D16.stp; refine tn ?_
   refine cond_p (p := ((200 : Int) < (((List.length (all ++ B)) : Nat) : Int))) (D16.dn 5 rfl rfl) (fun c5 => ?_) (fun c5 => ?_)
   ·
    refine gI a37 s43 ok36 (gE2 ok36 fun a38 s44 ok37 D17 => ?_); have F47 := F46.step0 D17.stp; have o159 := Own.k0 o156 D17.stp; have o160 := Own.k0 o157 D17.stp; have o161 := OwnP.k0 o158 D17.stp
    refine tailP (L := []) (R := (fun v τ' => ∃ τ, (fun v τ => True ∧ (((3 : Int)) = 0)) v τ ∧ Back [] τ τ')) (E := (fun c_ => c_ = fltC 103 ((3 : Int)) ∧ ((3 : Int)) ≠ 0)) rfl rfl (by decide) ok37 (y_callP (L := []) [] [] #[a38.eval ((Operand.const (Value.int IntKind.i64 3)))] rfl (by decide) Tryz.func102 rfl rfl (by simp only [List.map_toArray, List.map_cons, List.map_nil]) (fail_fn ((3 : Int)) _ (GW.low_lend _ (by decide)) _ (Ty.up _ (GW.le_lend _ _) (cvi (σ := s44) (by omega) rfl))  (by omega))) (fun c_ t_ hs_ he_ => panB ok37 (F47.stepL hs_ (by decide)) (fltTo (fun h_ => by exact enE_3 hp1 hdd (by rw [← hB, ← hML]; omega)) he_)) (fun a39 s45 hs28 ok38 r28 sm20 => ?_)
    have F48 := F47.stepL hs28 (by decide); have o162 := Own.keepL o159 hs28 (by decide) (by decide); have o163 := Own.keepL o160 hs28 (by decide) (by decide); have o164 := OwnP.keepL o161 hs28 (by decide) (by decide)
    obtain ⟨t8, ⟨hT4, hp4⟩, B4⟩ := r28
    exact absurd hp4 (by first | decide | assumption | omega)
   ·
    refine wp_skip ?_
    have o165 : Own s43 42 30 1 (Value.slice none 0 0) 0 (List.map Ty.ints ([] : List (List Int))) := Own.nil _ _ _ _
    refine toPn ?_
    exact nL0 rfl ok36 F46 ⟨x5, (Value.slice none 0 0), x2, trivial, o158, (cvo (by (rw [show enA n (PSt.mk all blk mir ql dot) = all ++ mirL mir B from by rw [hB]; rfl, ← hML])) (by (rw [show enA n (PSt.mk all blk mir ql dot) = all ++ mirL mir B from by rw [hB]; rfl, ← hML])) o157), (cvo (by (simp)) (by (simp)) o165), o156, (by exact enE_0 hp1 hdd (by rw [← hB, ← hML]; omega))⟩


set_option maxHeartbeats 4000000 in
set_option maxRecDepth 100000 in
theorem sIndexByte_fn (s : ByteArray) (c : Int) (σ : GW)  (v0 v1 : Value) (hv0 : Ty.has (Ty.val (Value.string s)) σ v0) (hv1 : Ty.has (Ty.val (Value.int .u8 c)) σ v1)   :
    FnC Tryz.prog 128 #[v0, v1] σ (Ty.int (Lib.indexByte (ByteArray.data s).toList (c).toNat.toUInt8)) := by
 refine fn_intro0 Tryz.func128 rfl Tryz.ntmps128 (Nat.le_of_ble_eq_true rfl) (fun s0 a0 hle F0 ok0 hargs => ?_)
 have p0 := pA hle (hargs 0 _ rfl) hv0
 have p1 := pA hle (hargs 1 _ rfl) hv1
 clear hargs; refine wp_seq ?_
 refine gI a0 s0 ok0 (gC (Ty.int (0 : Int)) (gE ok0 fun a1 s1 ok1 D1 => ?_)); refine tn (wp_seq ?_)
 refine gI a1 s1 ok1 (gM (D1.kt p0 rfl) (gM (D1.kt p1 rfl) (gS rfl (fun A G H I J d0 d1 => rP (y_call _ Tryz.func124 rfl rfl my2 (slIndexByte_fn (s) (c) _ _ _ (ed d0 rfl rfl rfl) (ed d1 rfl rfl rfl) ))) (gB 0 (gE ok1 fun a2 s2 ok2 D2 => ?_))))); refine tn (wp_ret ?_)
 exact retL1 rfl ok2 ((F0.step0 D1.stp).step0 D2.stp) (D2.dn 3 rfl rfl)


set_option maxHeartbeats 4000000 in
set_option maxRecDepth 100000 in
theorem validRune_fn (r : Int) (σ : GW)  (v0 : Value) (hv0 : Ty.has (Ty.val (Value.int .i32 r)) σ v0)   :
    FnC Tryz.prog 129 #[v0] σ (Ty.bool (Utf8.valid r)) := by
 refine fn_intro0 Tryz.func129 rfl Tryz.ntmps129 (Nat.le_of_ble_eq_true rfl) (fun s0 a0 hle F0 ok0 hargs => ?_)
 have p0 := pA hle (hargs 0 _ rfl) hv0
 clear hargs; refine wp_seq ?_
 refine gI a0 s0 ok0 (gC (Ty.bool false) (gE ok0 fun a1 s1 ok1 D1 => ?_)); have q1 := D1.kt p0 rfl; refine tn (wp_seq (wp_block (wp_seq ?_)))
 refine gI a1 s1 ok1 (gM q1 (gS rfl (fun A G H I J d0 => rP (y_leq rfl (ed d0 rfl rfl rfl))) (gS rfl (fun A G H I J d0 => rP (y_move (ed d0 rfl rfl rfl))) (gS rfl (fun A G H I J d0 => gu I (ed d0 rfl rfl rfl) fun hg => y_move (kp (J 0 rfl) H q1)) (gS rfl (fun A G H I J d0 d1 => gu I (ed d1 rfl rfl rfl) fun hg => y_lss ((ed d0 rfl rfl rfl).1 hg) rfl) (gS rfl (fun A G H I J d0 d1 => rP (y_pick_and (ed d0 rfl rfl rfl) (ed d1 rfl rfl rfl) rfl)) (gB 0 (gE ok1 fun a2 s2 ok2 D2 => ?_)))))))); have F2 := (F0.step0 D1.stp).step0 D2.stp; have q2 := D2.kt q1 rfl; refine tn ?_
 refine cond_t (D2.dn 6 rfl rfl) (fun c1 => ?_) (fun c1 => ?_)
 ·
  obtain ⟨d1, d2⟩ := Bool.and_eq_true_iff.mp c1
  replace d1 := of_decide_eq_true d1
  replace d2 := of_decide_eq_true d2
  refine wp_seq ?_
  refine gI a2 s2 ok2 (gC (Ty.bool true) (gE ok2 fun a3 s3 ok3 D3 => ?_)); refine tn (wp_ret (br (tr ?_)))
  exact retL1 rfl ok3 (F2.step0 D3.stp) (cvb (by (simp only [Bool.and_eq_true, decide_eq_true_eq] at c1; unfold Utf8.valid; rw [decide_eq_true (show 0 ≤ r by omega), decide_eq_true (show r < 0xD800 by omega)]; rfl)) (D3.dn 0 rfl rfl))
 ·
  refine wp_seq ?_
  refine gI a2 s2 ok2 (gM q2 (gS rfl (fun A G H I J d0 => rP (y_lss rfl (ed d0 rfl rfl rfl))) (gS rfl (fun A G H I J d0 => rP (y_move (ed d0 rfl rfl rfl))) (gS rfl (fun A G H I J d0 => gu I (ed d0 rfl rfl rfl) fun hg => y_move (kp (J 0 rfl) H q2)) (gS rfl (fun A G H I J d0 d1 => gu I (ed d1 rfl rfl rfl) fun hg => y_leq ((ed d0 rfl rfl rfl).1 hg) rfl) (gS rfl (fun A G H I J d0 d1 => rP (y_pick_and (ed d0 rfl rfl rfl) (ed d1 rfl rfl rfl) rfl)) (gB 0 (gE ok2 fun a4 s4 ok4 D4 => ?_)))))))); have F4 := F2.step0 D4.stp; refine tn ?_
  refine cond_t (D4.dn 6 rfl rfl) (fun c2 => ?_) (fun c2 => ?_)
  ·
   obtain ⟨d3, d4⟩ := Bool.and_eq_true_iff.mp c2
   replace d3 := of_decide_eq_true d3
   replace d4 := of_decide_eq_true d4
   refine wp_seq ?_
   refine gI a4 s4 ok4 (gC (Ty.bool true) (gE ok4 fun a5 s5 ok5 D5 => ?_)); refine tn (wp_ret (br (tr ?_)))
   exact retL1 rfl ok5 (F4.step0 D5.stp) (cvb (by (simp only [Bool.and_eq_true, decide_eq_true_eq] at c2; unfold Utf8.valid; rw [decide_eq_true (show 0xE000 ≤ r by omega), decide_eq_true (show r ≤ 0x10FFFF by omega)]; simp)) (D5.dn 0 rfl rfl))
  ·
   refine wp_skip (bn (tn (wp_seq ?_)))
   refine gI a4 s4 ok4 (gC (Ty.bool false) (gE ok4 fun a6 s6 ok6 D6 => ?_)); refine tn (wp_ret ?_)
   exact retL1 rfl ok6 (F4.step0 D6.stp) (cvb (by (simp only [Bool.and_eq_false_iff, decide_eq_false_iff_not] at c1 c2; unfold Utf8.valid; refine Eq.symm (Bool.or_eq_false_iff.2 ⟨?_, ?_⟩) <;> simp only [Bool.and_eq_false_iff, decide_eq_false_iff_not] <;> omega)) (D6.dn 0 rfl rfl))


set_option maxHeartbeats 4000000 in
set_option maxRecDepth 100000 in
theorem idxRune_fn (r : Int) (σ : GW)  (v0 v1 : Value) (hv0 : Ty.has (Ty.val (Value.string SIGNS)) σ v0) (hv1 : Ty.has (Ty.val (Value.int .i32 r)) σ v1)  (hr : -2147483648 ≤ r ∧ r ≤ 2147483647) :
    FnC Tryz.prog 114 #[v0, v1] σ (Ty.int (signIdx r)) := by
 have hsz := signs_size
 refine fn_intro0 Tryz.func114 rfl Tryz.ntmps114 (Nat.le_of_ble_eq_true rfl) (fun s0 a0 hle F0 ok0 hargs => ?_)
 have p0 := pA hle (hargs 0 _ rfl) hv0
 have p1 := pA hle (hargs 1 _ rfl) hv1
 clear hargs; refine wp_seq ?_
 refine gI a0 s0 ok0 (gC (Ty.int (0 : Int)) (gE ok0 fun a1 s1 ok1 D1 => ?_)); have q2 := D1.kt p1 rfl; refine tn (wp_block (wp_seq ?_))
 refine gI a1 s1 ok1 (gM q2 (gS rfl (fun A G H I J d0 => rP (y_leq rfl (ed d0 rfl rfl rfl))) (gS rfl (fun A G H I J d0 => rP (y_move (ed d0 rfl rfl rfl))) (gS rfl (fun A G H I J d0 => gu I (ed d0 rfl rfl rfl) fun hg => y_move (kp (J 1 rfl) H q2)) (gS rfl (fun A G H I J d0 d1 => gu I (ed d1 rfl rfl rfl) fun hg => y_lss ((ed d0 rfl rfl rfl).1 hg) rfl) (gS rfl (fun A G H I J d0 d1 => rP (y_pick_and (ed d0 rfl rfl rfl) (ed d1 rfl rfl rfl) rfl)) (gB 0 (gE ok1 fun a2 s2 ok2 D2 => ?_)))))))); have F2 := (F0.step0 D1.stp).step0 D2.stp; have q3 := D2.kt (D1.kt p0 rfl) rfl; have q4 := D2.kt q2 rfl; refine tn ?_
 refine cond_t (D2.dn 6 rfl rfl) (fun c1 => ?_) (fun c1 => ?_)
 ·
  obtain ⟨d1, d2⟩ := Bool.and_eq_true_iff.mp c1
  replace d1 := of_decide_eq_true d1
  replace d2 := of_decide_eq_true d2
  simp only [Bool.and_eq_true, decide_eq_true_eq] at c1
  refine wp_seq ?_
  refine gI a2 s2 ok2 (gM q3 (gM q4 (gT (Ty.val (Value.int .u8 r)) rfl (fun A G H I J d0 => rP (y_conv Tryz.underlying5 (ed d0 rfl rfl rfl) (by exact wrap_u8 (by omega) (by omega)) (by rw [Tryz.underlying21]; rfl))) (gS rfl (fun A G H I J d0 d1 => rP (y_call _ Tryz.func128 rfl rfl my2 (sIndexByte_fn (SIGNS) (r) _ _ _ (ed d0 rfl rfl rfl) (cvi (σ := G) (by omega) (ed d1 rfl rfl rfl)) ))) (gB 0 (gE ok2 fun a3 s3 ok3 D3 => ?_)))))); refine tn (wp_ret (br ?_))
  exact retL1 rfl ok3 (F2.step0 D3.stp) (cvi (by (exact (signIdx_lo c1.1 c1.2).symm)) (D3.dn 4 rfl rfl))
 ·
  have hc1 : ¬ (0 ≤ r ∧ r < 128) := (by intro h; simp only [Bool.and_eq_false_iff, decide_eq_false_iff_not] at c1; omega)
  refine wp_seq ?_
  refine gI a2 s2 ok2 (gM q4 (gS rfl (fun A G H I J d0 => rP (y_eql (ed d0 rfl rfl rfl) rfl)) (gB 0 (gE ok2 fun a4 s4 ok4 D4 => ?_)))); have F4 := F2.step0 D4.stp; have q7 := D4.kt q3 rfl; have q8 := D4.kt q4 rfl; refine tn ?_
  refine cond_p (p := (r = (65533 : Int))) (D4.dn 2 rfl rfl) (fun c2 => ?_) (fun c2 => ?_)
  ·
   refine wp_seq (wp_seq ?_)
   refine gI a4 s4 ok4 (gM q7 (gR (Pr.iter 5 SIGNS 0) rfl (by intro A G H I J d0; exact rP (y_range 5 Tryz.underlying9 (ed d0 rfl rfl rfl))) (gE ok4 fun a5 s5 ok5 D5 => ?_)))
   obtain ⟨x1, hx1⟩ : ∃ x, a5.eval (.tmp 175) = x := ⟨_, rfl⟩
   have q10 : At (Ty.val x1) s5 a5 (.tmp 175) := hx1
   have o1 := al2 (R := (Pr.iter 5 SIGNS 0)) hx1 (D5.done 1)
   refine tn (wp_block ?_)
   refine loop (fun n1 a6 w1 => ∃ (t1 : GW) (p : Nat), t1.w = w1 ∧ FromL [] s0 t1 ∧ Ok 187 [] a6 ∧ At (Ty.val x1) t1 a6 (.tmp 175) ∧ Iter t1 5 x1 SIGNS p ∧ (p ≤ 12) ∧ n1 = 12 - p) (12 - (0)) ?_ ?_
   ·
    exact ⟨s5, 0, rfl, (F4.step0 D5.stp), ok5, q10, (cvit (by omega) o1), by omega, rfl⟩
   ·
    rintro n2 a7 w2 ⟨t2, p, rfl, F6, ok6, q11, o2, hp, rfl⟩
    refine wp_seq ?_
    refine gI a7 t2 ok6 (gE2 ok6 fun a8 s6 ok7 D6 => ?_); have q12 := D6.kt q11 rfl; have o3 := Iter.k0 o2 D6.stp
    refine tL (R := (fun v τ => (Ty.nxt (decide (p < SIGNS.size)) p (run1 SIGNS p)).has τ v ∧ Iter τ 5 x1 SIGNS (stepTo SIGNS p))) ok7 (YldM.toL (m_next (by decide) o3 q12)) fun a9 s7 hs1 ok8 r1 sm1 => ?_
    have F8 := (F6.step0 D6.stp).stepL hs1 (by decide); have q13 := kpL hs1 (by decide) (sm1 175 (by decide)) q12
    have q14 : At (Ty.nxt (decide (p < SIGNS.size)) p (run1 SIGNS p)) s7 a9 (.tmp 176) := (r1).1
    have o4 : Iter s7 5 x1 SIGNS (stepTo SIGNS p) := (r1).2
    clear r1
    refine tL (R := (fun v τ => Pr.has (Ty.pr (Ty.bool (decide (p < SIGNS.size)))) τ v)) ok8 (Yld.toL (y_ext_n0 q14)) fun a10 s8 hs2 ok9 r2 sm2 => ?_
    have F9 := F8.stepL hs2 (by decide); have q15 := kpL hs2 (by decide) (sm2 175 (by decide)) q13; have q16 := kpL hs2 (by decide) (sm2 176 (by decide)) q14; have o5 := Iter.keepL o4 hs2 (by decide) (by decide)
    have q17 : At (Ty.bool (decide (p < SIGNS.size))) s8 a10 (.tmp 177) := r2
    clear r2; refine wpList_nil (tn (wp_seq ?_))
    refine cond_p (p := (p < SIGNS.size)) q17 (fun c3 => ?_) (fun c3 => ?_)
    ·
     refine wp_skip (tn (wp_block (wp_seq ?_)))
     refine gI a10 s8 ok9 (gT (Ty.nat p) rfl (fun A G H I J => rP (y_ext_n1 (kp (J 176 rfl) H q16) (decide_eq_true (by omega)))) (gT (Ty.val (Value.int .i32 ((run1 SIGNS p : Nat) : Int))) rfl (fun A G H I J d0 => rP (y_ext_n2 (kp (J 176 rfl) H q16) (decide_eq_true (by omega)))) (gB 0 (gB 0 (gE ok9 fun a11 s9 ok10 D7 => ?_))))); have o6 := Iter.k0 o5 D7.stp; refine tn (wp_seq ?_)
     refine gI a11 s9 ok10 (gM (D7.dn 3 rfl rfl) (gS rfl (fun A G H I J d0 => rP (y_eql (ed d0 rfl rfl rfl) rfl)) (gE ok10 fun a12 s10 ok11 D8 => ?_))); have o7 := Iter.k0 o6 D8.stp; refine tn ?_
     refine cond_p (p := (((run1 SIGNS p : Nat) : Int) = (65533 : Int))) (D8.dn 1 rfl rfl) (fun c4 => ?_) (fun c4 => ?_)
     ·
      exfalso
      have := (signs_run (p := p) (by omega)).1; omega
     ·
      refine wp_skip (bn ?_)
      exact tn ⟨12 - ((p + 1)), by omega, s10, (p + 1), rfl, ((F9.step0 D7.stp).step0 D8.stp), ok11, (D8.kt (D7.kt q15 rfl) rfl), (cvit (by exact (signs_run (by omega)).2) o7), by omega, rfl⟩
    ·
     refine wp_exit (tx (tx (bx (tn (wp_seq ?_)))))
     refine gI a10 s8 ok9 (gC (Ty.int (-1 : Int)) (gE ok9 fun a13 s11 ok12 D9 => ?_)); have o8 := Iter.k0 o5 D9.stp; refine tn (wp_ret (br ?_))
     exact retL1 rfl ok12 (F9.step0 D9.stp) (cvi (by (exact (signIdx_hi (by omega)).symm)) (D9.dn 0 rfl rfl))
  ·
   refine wp_seq ?_
   refine gI a4 s4 ok4 (gM q8 (gS rfl (fun A G H I J d0 => rP (y_call _ Tryz.func129 rfl rfl my1 (validRune_fn (r) _ _ (ed d0 rfl rfl rfl) ))) (gS rfl (fun A G H I J d0 => rP (y_not (ed d0 rfl rfl rfl))) (gB 0 (gE ok4 fun a14 s12 ok13 D10 => ?_))))); have F13 := F4.step0 D10.stp; refine tn ?_
   refine cond_t (D10.dn 3 rfl rfl) (fun c5 => ?_) (fun c5 => ?_)
   ·
    refine wp_seq ?_
    refine gI a14 s12 ok13 (gC (Ty.int (-1 : Int)) (gE ok13 fun a15 s13 ok14 D11 => ?_)); refine tn (wp_ret (br ?_))
    exact retL1 rfl ok14 (F13.step0 D11.stp) (cvi (by (exact (signIdx_hi hc1).symm)) (D11.dn 0 rfl rfl))
   ·
    have hv : Utf8.valid r = true := (by simpa using c5); have hr0 : 0 ≤ r := (by unfold Utf8.valid at hv; simp only [Bool.or_eq_true, Bool.and_eq_true, decide_eq_true_eq] at hv; omega); have hef := enc_facts (by omega) hv; obtain ⟨E, hE⟩ : ∃ E, E = Utf8.encode r := ⟨_, rfl⟩; rw [← hE] at hef; have hsl := signs_lt (j := E.size - 1) (by omega)
    refine wp_scope_straight (wp_seq ?_)
    refine gI a14 s12 ok13 (gM (D10.kt q8 rfl) (gT (Ty.val (Value.string (Utf8.encode r))) rfl (fun A G H I J d0 => rP (y_convrs Tryz.underlying9 (ed d0 rfl rfl rfl) (by rw [Tryz.underlying21]; rfl))) (gB 0 (gE ok13 fun a16 s14 ok15 D12 => ?_))))
    have q31 : At (Ty.val (Value.string E)) s14 a16 (.tmp 7) := (cvt (by (rw [hE])) (D12.dn 2 rfl rfl))
    refine tn (wp_seq ?_)
    refine gI a16 s14 ok15 (gM q31 (gT (Ty.nat (ByteArray.size E)) rfl (fun A G H I J d0 => rP (y_len_str Tryz.underlying9 (ed d0 rfl rfl rfl))) (gT (Ty.nat ((ByteArray.size E) - 1)) rfl (fun A G H I J d0 => rP ((y_sub (ed d0 rfl rfl rfl) rfl (w64 (by omega) (by omega))).mono (fun τ _ h => cvi (σ := τ) (by omega) h))) (gB 0 (gE ok15 fun a17 s15 ok16 D13 => ?_))))); have q34 := D13.dn 3 rfl rfl; refine tn (wp_seq ?_)
    refine gI a17 s15 ok16 (gM q34 (gB 0 (gE ok16 fun a18 s16 ok17 D14 => ?_))); refine tn (wp_seq ?_)
    refine gI a18 s16 ok17 (gC (Ty.int (0 : Int)) (gE ok17 fun a19 s17 ok18 D15 => ?_)); refine tn (wp_seq (wp_block ?_))
    refine loop (fun n3 a20 w3 => ∃ (t3 : GW), t3.w = w3 ∧ FromL [] s0 t3 ∧ Ok 187 [] a20 ∧ At (Ty.nat ((ByteArray.size E) - 1)) t3 a20 (.tmp 9) ∧ At (Ty.val (Value.string SIGNS)) t3 a20 (.tmp 0) ∧ At (Ty.val (Value.string E)) t3 a20 (.tmp 7) ∧ At (Ty.nat ((ByteArray.size E) - 1)) t3 a20 (.tmp 8) ∧ n3 = 1) (1) ?_ ?_
    ·
     exact ⟨s17, rfl, ((((F13.step0 D12.stp).step0 D13.stp).step0 D14.stp).step0 D15.stp), ok18, (D15.kt (D14.dn 1 rfl rfl) rfl), (D15.kt (D14.kt (D13.kt (D12.kt (D10.kt q7 rfl) rfl) rfl) rfl) rfl), (D15.kt (D14.kt (D13.kt q31 rfl) rfl) rfl), (D15.kt (D14.kt q34 rfl) rfl), rfl⟩
    ·
     rintro n4 a21 w4 ⟨t4, rfl, F19, ok19, q43, q44, q45, q46, rfl⟩
     refine wp_seq (wp_seq ?_)
     refine gI a21 t4 ok19 (gM q43 (gM q44 (gT (Ty.nat (ByteArray.size SIGNS)) rfl (fun A G H I J d0 => rP (y_len_str Tryz.underlying9 (ed d0 rfl rfl rfl))) (gS rfl (fun A G H I J d0 d1 => rP (y_lss (ed d0 rfl rfl rfl) (ed d1 rfl rfl rfl))) (gE ok19 fun a22 s18 ok20 D16 => ?_))))); have q47 := D16.kt q43 rfl; have q48 := D16.kt q44 rfl; have q49 := D16.kt q45 rfl; have q50 := D16.kt q46 rfl; refine tn ?_
     refine cond_p (p := (((((ByteArray.size E) - 1) : Nat) : Int) < (((ByteArray.size SIGNS) : Nat) : Int))) (D16.dn 3 rfl rfl) (fun c6 => ?_) (fun c6 => ?_)
     ·
      refine wp_skip (tn (wp_block (wp_scope_straight (wp_seq (wp_seq ?_)))))
      refine gI a22 s18 ok20 (gM q48 (gM q47 (gT (Ty.val (Value.int .u8 (((SIGNS.get! ((ByteArray.size E) - 1)).toNat : Nat) : Int))) rfl (fun A G H I J d0 d1 => rP (y_sindex Tryz.underlying9 (ed d0 rfl rfl rfl) (ed d1 rfl rfl rfl) (by omega) (by omega))) (gM q49 (gM q50 (gT (Ty.val (Value.int .u8 (((E.get! ((ByteArray.size E) - 1)).toNat : Nat) : Int))) rfl (fun A G H I J d0 d1 => rP (y_sindex Tryz.underlying9 (ed d0 rfl rfl rfl) (ed d1 rfl rfl rfl) (by omega) (by omega))) (gS rfl (fun A G H I J d0 d1 => rP (y_neq (ed d0 rfl rfl rfl) (ed d1 rfl rfl rfl))) (gE ok20 fun a23 s19 ok21 D17 => ?_)))))))); refine tn ?_
      refine cond_p (p := ((((SIGNS.get! ((ByteArray.size E) - 1)).toNat : Nat) : Int) ≠ (((E.get! ((ByteArray.size E) - 1)).toNat : Nat) : Int))) (D17.dn 6 rfl rfl) (fun c7 => ?_) (fun c7 => ?_)
      ·
       refine wp_seq ?_
       refine gI a23 s19 ok21 (gM (D17.kt q48 rfl) (gM (D17.kt q47 rfl) (gT (Ty.nat (((ByteArray.size E) - 1) + 1)) rfl (fun A G H I J d0 => rP ((y_add (ed d0 rfl rfl rfl) rfl (w64 (by omega) (by omega))).mono (fun τ _ h => cvi (σ := τ) (by first | omega | exact (Int.natCast_mul _ _).symm) h))) (gT (Ty.val (Value.string (ByteArray.extract SIGNS (((ByteArray.size E) - 1) + 1) (ByteArray.size SIGNS)))) rfl (fun A G H I J d0 d1 => rP (y_sfrom (l := (((ByteArray.size E) - 1) + 1)) Tryz.underlying9 (ed d0 rfl rfl rfl) (ed d1 rfl rfl rfl) (by omega))) (gM (D17.kt q49 rfl) (gM (D17.kt q50 rfl) (gT (Ty.val (Value.int .u8 (((E.get! ((ByteArray.size E) - 1)).toNat : Nat) : Int))) rfl (fun A G H I J d0 d1 => rP (y_sindex Tryz.underlying9 (ed d0 rfl rfl rfl) (ed d1 rfl rfl rfl) (by omega) (by omega))) (gS rfl (fun A G H I J d0 d1 => rP (y_call _ Tryz.func128 rfl rfl my2 (sIndexByte_fn ((ByteArray.extract SIGNS (((ByteArray.size E) - 1) + 1) (ByteArray.size SIGNS))) ((((E.get! ((ByteArray.size E) - 1)).toNat : Nat) : Int)) _ _ _ (ed d0 rfl rfl rfl) (cvi (σ := G) (by omega) (ed d1 rfl rfl rfl)) ))) (gB 0 (gE ok21 fun a24 s20 ok22 D18 => ?_)))))))))); refine tn (wp_seq (wp_seq ?_))
       refine gI a24 s20 ok22 (gM (D18.dn 8 rfl rfl) (gS rfl (fun A G H I J d0 => rP (y_lss (ed d0 rfl rfl rfl) rfl)) (gE ok22 fun a25 s21 ok23 D19 => ?_))); refine tn ?_
       refine cond_p (p := ((Lib.indexByte (ByteArray.data ((ByteArray.extract SIGNS (((ByteArray.size E) - 1) + 1) (ByteArray.size SIGNS)))).toList (((((E.get! ((ByteArray.size E) - 1)).toNat : Nat) : Int))).toNat.toUInt8) < (0 : Int))) (D19.dn 1 rfl rfl) (fun c8 => ?_) (fun c8 => ?_)
       ·
        refine wp_seq ?_
        refine gI a25 s21 ok23 (gC (Ty.int (-1 : Int)) (gE ok23 fun a26 s22 ok24 D20 => ?_)); refine tn (wp_ret (tr (tr (scr (br (tr (br (tr (scr (br ?_))))))))))
        exact retL1 rfl ok24 (((((F19.step0 D16.stp).step0 D17.stp).step0 D18.stp).step0 D19.stp).step0 D20.stp) (cvi (by (exact (signIdx_hi hc1).symm)) (D20.dn 0 rfl rfl))
       ·
        exfalso
        have := signs_cut (l := E.size - 1 + 1) (c := (((E.get! (E.size - 1)).toNat : Nat) : Int)) (by omega) (by omega); omega
      ·
       exfalso
       omega
     ·
      exfalso
      omega


set_option maxHeartbeats 4000000 in
set_option maxRecDepth 100000 in
theorem sign_fn (r : Int) (σ : GW)  (v0 : Value) (hv0 : Ty.has (Ty.val (Value.int .i32 r)) σ v0)  (hr : -2147483648 ≤ r ∧ r ≤ 2147483647) :
    FnC Tryz.prog 103 #[v0] σ (Ty.int (signIdx r)) := by
 refine fn_intro0 Tryz.func103 rfl Tryz.ntmps103 (Nat.le_of_ble_eq_true rfl) (fun s0 a0 hle F0 ok0 hargs => ?_)
 have p0 := pA hle (hargs 0 _ rfl) hv0
 clear hargs; refine wp_seq ?_
 refine gI a0 s0 ok0 (gC (Ty.int (0 : Int)) (gE ok0 fun a1 s1 ok1 D1 => ?_)); refine tn (wp_seq ?_)
 refine gI a1 s1 ok1 (gM (D1.kt p0 rfl) (gS rfl (fun A G H I J d0 => rP (y_call _ Tryz.func114 rfl rfl my2 (idxRune_fn (r) _ _ _ rfl (ed d0 rfl rfl rfl) (by omega)))) (gB 0 (gE ok1 fun a2 s2 ok2 D2 => ?_)))); refine tn (wp_ret ?_)
 exact retL1 rfl ok2 ((F0.step0 D1.stp).step0 D2.stp) (D2.dn 2 rfl rfl)


end Go.Proofs.YtdjihbjikpbhgaaGreatDoor
