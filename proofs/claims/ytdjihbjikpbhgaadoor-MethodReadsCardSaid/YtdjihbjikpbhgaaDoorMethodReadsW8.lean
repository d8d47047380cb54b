/- The functions that the law MethodReads reaches, each by its contract. Part 8. -/
import Derived.Test.YtdjihbjikpbhgaaDoorMethodReadsW7
namespace Go.Proofs.YtdjihbjikpbhgaaDoor
open Go.KL

set_option maxHeartbeats 4000000 in
set_option maxRecDepth 100000 in
theorem rReadMethod_fn (s : ByteArray) (σ : GW)  (v0 : Value) (hv0 : Ty.has (Ty.val (Value.string s)) σ v0)   :
    FnC Tryd.prog 13 #[v0] σ (Ty.tup2 (Ty.agg [(Ty.val (Value.string (if rdE s = 0 then pcs s 0 else ByteArray.empty))), (Ty.int (if rdE s = 0 then digE (pcs s 1) else 0)), (Ty.lst Ty.ints (if rdE s = 0 then (plM (digE (pcs s 1)) (pcs s 2)).2 else []))]) (Ty.int (rdE s))) := by
 have hpz : ∀ k, (pcs s k).size ≤ s.size := pcs_le
 refine fn_intro0 Tryd.func13 rfl Tryd.ntmps13 (Nat.le_of_ble_eq_true rfl) (fun s0 a0 hle F0 ok0 hargs => ?_)
 have p0 := pA hle (hargs 0 _ rfl) hv0
 clear hargs; refine wp_seq ?_
 refine gI a0 s0 ok0 (gR (Pr.ownp 61 [(Ty.val (Value.string ByteArray.empty)), (Ty.int (0 : Int)), (Ty.val (Value.slice none 0 0))]) rfl (by intro A B E G H; exact rP (y_alloc Tryd.inf36 rfl (alloc_vals (vs := [.string ByteArray.empty, .int .i64 0, .slice none 0 0]) rfl))) (gC (Ty.int (0 : Int)) (gE ok0 fun a1 s1 ok1 D1 => ?_))); have q1 := D1.kt p0 rfl
 obtain ⟨x1, hx1⟩ : ∃ x, a1.eval (.tmp 2) = x := ⟨_, rfl⟩
 have q2 : At (Ty.val x1) s1 a1 (.tmp 2) := hx1
 have o1 := al2 (R := (Pr.ownp 61 [(Ty.val (Value.string ByteArray.empty)), (Ty.int (0 : Int)), (Ty.val (Value.slice none 0 0))])) hx1 (D1.done 0)
 refine tn (wp_seq (wp_seq ?_))
 refine gI a1 s1 ok1 (gM q1 (gT (Ty.nat (ByteArray.size s)) rfl (fun A B E G H d0 => rP (y_len_str Tryd.underlying9 (ed d0 rfl rfl rfl))) (gS rfl (fun A B E G H d0 => rP (y_gtr (ed d0 rfl rfl rfl) rfl)) (gE ok1 fun a2 s2 ok2 D2 => ?_)))); have F2 := (F0.step0 D1.stp).step0 D2.stp; have q4 := D2.kt q2 rfl; have o2 := OwnP.k0 o1 D2.stp; refine tn ?_
 refine cond_p (p := ((4000 : Int) < (((ByteArray.size s) : Nat) : Int))) (D2.dn 2 rfl rfl) (fun c1 => ?_) (fun c1 => ?_)
 ·
  have hr := rd_3 (s := s) (by omega)
  refine wp_seq ?_
  refine gI a2 s2 ok2 (gT (Ty.agg [(Ty.val (Value.string ByteArray.empty)), (Ty.int (0 : Int)), (Ty.val (Value.slice none 0 0))]) rfl (fun A B E G H => rP (y_bld [] [(Ty.val (Value.string ByteArray.empty)), (Ty.int (0 : Int)), (Ty.val (Value.slice none 0 0))] (l := [(0, 1), (1, 1), (2, 1)]) rfl Tryd.inf36 rfl (alloc_vals (vs := [.string ByteArray.empty, .int .i64 0, .slice none 0 0]) rfl) rfl (by intro p hp; cases hp))) (gE2 ok2 fun a3 s3 ok3 D3 => ?_)); have q6 := D3.kt q4 rfl; have o3 := OwnP.k0 o2 D3.stp
  refine tailL0 (L := [61]) (R := (fun _ τ => OwnP τ 61 x1 [(Ty.val (Value.string ByteArray.empty)), (Ty.int (0 : Int)), (Ty.val (Value.slice none 0 0))])) rfl rfl (YldM.toL (m_storeagg Tryd.inf36 (by decide) o3 q6 rfl (D3.dn 0 (by decide) rfl rfl) (by intro U hU; simp only [List.mem_cons, List.not_mem_nil, or_false] at hU; rcases hU with rfl | rfl | rfl <;> first | exact one_val rfl | exact one_sl | exact one_ref))) (fun v1 s4 hs1 r1 => ?_)
  have F4 := (F2.step0 D3.stp).stepL hs1 (by decide); have q8 := kpL hs1 (by decide) rfl q6
  have o4 : OwnP s4 61 x1 [(Ty.val (Value.string ByteArray.empty)), (Ty.int (0 : Int)), (Ty.val (Value.slice none 0 0))] := r1
  clear r1
  refine tL (R := (fun v τ => Pr.has (Ty.pr (Ty.int (3 : Int))) τ v)) ok3 (Yld.toL (y_assign rfl)) fun a4 s5 hs2 ok4 r2 sm1 => ?_
  have F5 := F4.stepL hs2 (by decide); have q10 := kpL hs2 (by decide) (sm1 2 (by decide)) q8; have o5 := OwnP.keepL o4 hs2 (by decide) (by decide)
  have q11 : At (Ty.int (3 : Int)) s5 a4 (.tmp 3) := r2
  clear r2; refine wpList_nil (tn (wp_ret (tr ?_)))
  have o6 : OwnP s5 61 x1 [(Ty.val (Value.string ByteArray.empty)), (Ty.int (0 : Int)), (Ty.val (Value.slice none 0 0))] := o5
  have o7 : OwnP s5 61 x1 [(Ty.val (Value.string (if rdE s = 0 then pcs s 0 else ByteArray.empty))), (Ty.int (0 : Int)), (Ty.val (Value.slice none 0 0))] := cvop (by rw [show (Ty.val (Value.string ByteArray.empty)) = (Ty.val (Value.string (if rdE s = 0 then pcs s 0 else ByteArray.empty))) from by (rw [hr]; rfl)]) o6
  have o8 : OwnP s5 61 x1 [(Ty.val (Value.string (if rdE s = 0 then pcs s 0 else ByteArray.empty))), (Ty.int (if rdE s = 0 then digE (pcs s 1) else 0)), (Ty.val (Value.slice none 0 0))] := cvop (by rw [show (Ty.int (0 : Int)) = (Ty.int (if rdE s = 0 then digE (pcs s 1) else 0)) from by (rw [hr]; rfl)]) o7
  have o9 : OwnP s5 61 x1 [(Ty.val (Value.string (if rdE s = 0 then pcs s 0 else ByteArray.empty))), (Ty.int (if rdE s = 0 then digE (pcs s 1) else 0)), (Ty.lst Ty.ints (if rdE s = 0 then (plM (digE (pcs s 1)) (pcs s 2)).2 else []))] := ownp_cellq 2 (Ty.lst Ty.ints (if rdE s = 0 then (plM (digE (pcs s 1)) (pcs s 2)).2 else [])) o8 rfl (nil_has (by rw [hr]; rfl))
  exact retL2c (k := 61) (ts := [(Ty.val (Value.string (if rdE s = 0 then pcs s 0 else ByteArray.empty))), (Ty.int (if rdE s = 0 then digE (pcs s 1) else 0)), (Ty.lst Ty.ints (if rdE s = 0 then (plM (digE (pcs s 1)) (pcs s 2)).2 else []))]) rfl ok4 F5 Tryd.underlying36 Tryd.inf36 (al (R := (Pr.ownp 61 [(Ty.val (Value.string (if rdE s = 0 then pcs s 0 else ByteArray.empty))), (Ty.int (if rdE s = 0 then digE (pcs s 1) else 0)), (Ty.lst Ty.ints (if rdE s = 0 then (plM (digE (pcs s 1)) (pcs s 2)).2 else []))])) q10 o9) (fun v_ hv_ => (hasT2 hv_ (cvi (by (rw [hr])) q11)))
 ·
  have k1 : ¬ 4000 < s.size := (by omega)
  refine wp_skip (tn (wp_seq ?_))
  refine gI a2 s2 ok2 (gM (D2.kt q1 rfl) (gS rfl (fun A B E G H d0 => rP (y_call #[A.eval (.tmp 13), A.eval ((Operand.const (Value.int IntKind.u8 124)))] Tryd.func32 rfl rfl my2 (rCutAt_fn (s) _ _ _ (ed d0 rfl rfl rfl) (cvi (σ := B) (by omega) rfl) (by omega)))) (gB 0 (gE ok2 fun a5 s6 ok5 D4 => ?_)))); have o10 := OwnP.k0 o2 D4.stp; have q13 := D4.dn 2 rfl rfl; refine tn (wp_seq (wp_seq ?_))
  refine gI a5 s6 ok5 (gM q13 (gS rfl (fun A B E G H d0 => rP (y_len Tryd.underlying47 (ed d0 rfl rfl rfl))) (gS rfl (fun A B E G H d0 => rP (y_lss (ed d0 rfl rfl rfl) rfl)) (gE ok5 fun a6 s7 ok6 D5 => ?_)))); have F7 := (F2.step0 D4.stp).step0 D5.stp; have q14 := D5.kt (D4.kt q4 rfl) rfl; have q15 := D5.kt q13 rfl; have o11 := OwnP.k0 o10 D5.stp; refine tn ?_
  refine cond_p (p := ((((List.length (cutT 124 s)) : Nat) : Int) < (3 : Int))) (D5.dn 2 rfl rfl) (fun c2 => ?_) (fun c2 => ?_)
  ·
   have hr := rd_5 k1 (by omega)
   refine wp_seq ?_
   refine gI a6 s7 ok6 (gT (Ty.agg [(Ty.val (Value.string ByteArray.empty)), (Ty.int (0 : Int)), (Ty.val (Value.slice none 0 0))]) rfl (fun A B E G H => rP (y_bld [] [(Ty.val (Value.string ByteArray.empty)), (Ty.int (0 : Int)), (Ty.val (Value.slice none 0 0))] (l := [(0, 1), (1, 1), (2, 1)]) rfl Tryd.inf36 rfl (alloc_vals (vs := [.string ByteArray.empty, .int .i64 0, .slice none 0 0]) rfl) rfl (by intro p hp; cases hp))) (gE2 ok6 fun a7 s8 ok7 D6 => ?_)); have q17 := D6.kt q14 rfl; have o12 := OwnP.k0 o11 D6.stp
   refine tailL0 (L := [61]) (R := (fun _ τ => OwnP τ 61 x1 [(Ty.val (Value.string ByteArray.empty)), (Ty.int (0 : Int)), (Ty.val (Value.slice none 0 0))])) rfl rfl (YldM.toL (m_storeagg Tryd.inf36 (by decide) o12 q17 rfl (D6.dn 0 (by decide) rfl rfl) (by intro U hU; simp only [List.mem_cons, List.not_mem_nil, or_false] at hU; rcases hU with rfl | rfl | rfl <;> first | exact one_val rfl | exact one_sl | exact one_ref))) (fun v2 s9 hs3 r3 => ?_)
   have F9 := (F7.step0 D6.stp).stepL hs3 (by decide); have q19 := kpL hs3 (by decide) rfl q17
   have o13 : OwnP s9 61 x1 [(Ty.val (Value.string ByteArray.empty)), (Ty.int (0 : Int)), (Ty.val (Value.slice none 0 0))] := r3
   clear r3
   refine tL (R := (fun v τ => Pr.has (Ty.pr (Ty.int (5 : Int))) τ v)) ok7 (Yld.toL (y_assign rfl)) fun a8 s10 hs4 ok8 r4 sm2 => ?_
   have F10 := F9.stepL hs4 (by decide); have q21 := kpL hs4 (by decide) (sm2 2 (by decide)) q19; have o14 := OwnP.keepL o13 hs4 (by decide) (by decide)
   have q22 : At (Ty.int (5 : Int)) s10 a8 (.tmp 3) := r4
   clear r4; refine wpList_nil (tn (wp_ret (tr ?_)))
   have o15 : OwnP s10 61 x1 [(Ty.val (Value.string ByteArray.empty)), (Ty.int (0 : Int)), (Ty.val (Value.slice none 0 0))] := o14
   have o16 : OwnP s10 61 x1 [(Ty.val (Value.string (if rdE s = 0 then pcs s 0 else ByteArray.empty))), (Ty.int (0 : Int)), (Ty.val (Value.slice none 0 0))] := cvop (by rw [show (Ty.val (Value.string ByteArray.empty)) = (Ty.val (Value.string (if rdE s = 0 then pcs s 0 else ByteArray.empty))) from by (rw [hr]; rfl)]) o15
   have o17 : OwnP s10 61 x1 [(Ty.val (Value.string (if rdE s = 0 then pcs s 0 else ByteArray.empty))), (Ty.int (if rdE s = 0 then digE (pcs s 1) else 0)), (Ty.val (Value.slice none 0 0))] := cvop (by rw [show (Ty.int (0 : Int)) = (Ty.int (if rdE s = 0 then digE (pcs s 1) else 0)) from by (rw [hr]; rfl)]) o16
   have o18 : OwnP s10 61 x1 [(Ty.val (Value.string (if rdE s = 0 then pcs s 0 else ByteArray.empty))), (Ty.int (if rdE s = 0 then digE (pcs s 1) else 0)), (Ty.lst Ty.ints (if rdE s = 0 then (plM (digE (pcs s 1)) (pcs s 2)).2 else []))] := ownp_cellq 2 (Ty.lst Ty.ints (if rdE s = 0 then (plM (digE (pcs s 1)) (pcs s 2)).2 else [])) o17 rfl (nil_has (by rw [hr]; rfl))
   exact retL2c (k := 61) (ts := [(Ty.val (Value.string (if rdE s = 0 then pcs s 0 else ByteArray.empty))), (Ty.int (if rdE s = 0 then digE (pcs s 1) else 0)), (Ty.lst Ty.ints (if rdE s = 0 then (plM (digE (pcs s 1)) (pcs s 2)).2 else []))]) rfl ok8 F10 Tryd.underlying36 Tryd.inf36 (al (R := (Pr.ownp 61 [(Ty.val (Value.string (if rdE s = 0 then pcs s 0 else ByteArray.empty))), (Ty.int (if rdE s = 0 then digE (pcs s 1) else 0)), (Ty.lst Ty.ints (if rdE s = 0 then (plM (digE (pcs s 1)) (pcs s 2)).2 else []))])) q21 o18) (fun v_ hv_ => (hasT2 hv_ (cvi (by (rw [hr])) q22)))
  ·
   have k2 : ¬ (cutT 124 s).length < 3 := (by omega)
   refine wp_skip (tn (wp_seq (wp_seq ?_)))
   refine gI a6 s7 ok6 (gM q15 (gS rfl (fun A B E G H d0 => rP (y_len Tryd.underlying47 (ed d0 rfl rfl rfl))) (gS rfl (fun A B E G H d0 => rP (y_gtr (ed d0 rfl rfl rfl) rfl)) (gE ok6 fun a9 s11 ok9 D7 => ?_)))); have F11 := F7.step0 D7.stp; have q23 := D7.kt q14 rfl; have q24 := D7.kt q15 rfl; have o19 := OwnP.k0 o11 D7.stp; refine tn ?_
   refine cond_p (p := ((3 : Int) < (((List.length (cutT 124 s)) : Nat) : Int))) (D7.dn 2 rfl rfl) (fun c3 => ?_) (fun c3 => ?_)
   ·
    have hr := rd_4 k1 k2 (by omega)
    refine wp_seq ?_
    refine gI a9 s11 ok9 (gT (Ty.agg [(Ty.val (Value.string ByteArray.empty)), (Ty.int (0 : Int)), (Ty.val (Value.slice none 0 0))]) rfl (fun A B E G H => rP (y_bld [] [(Ty.val (Value.string ByteArray.empty)), (Ty.int (0 : Int)), (Ty.val (Value.slice none 0 0))] (l := [(0, 1), (1, 1), (2, 1)]) rfl Tryd.inf36 rfl (alloc_vals (vs := [.string ByteArray.empty, .int .i64 0, .slice none 0 0]) rfl) rfl (by intro p hp; cases hp))) (gE2 ok9 fun a10 s12 ok10 D8 => ?_)); have q26 := D8.kt q23 rfl; have o20 := OwnP.k0 o19 D8.stp
    refine tailL0 (L := [61]) (R := (fun _ τ => OwnP τ 61 x1 [(Ty.val (Value.string ByteArray.empty)), (Ty.int (0 : Int)), (Ty.val (Value.slice none 0 0))])) rfl rfl (YldM.toL (m_storeagg Tryd.inf36 (by decide) o20 q26 rfl (D8.dn 0 (by decide) rfl rfl) (by intro U hU; simp only [List.mem_cons, List.not_mem_nil, or_false] at hU; rcases hU with rfl | rfl | rfl <;> first | exact one_val rfl | exact one_sl | exact one_ref))) (fun v3 s13 hs5 r5 => ?_)
    have F13 := (F11.step0 D8.stp).stepL hs5 (by decide); have q28 := kpL hs5 (by decide) rfl q26
    have o21 : OwnP s13 61 x1 [(Ty.val (Value.string ByteArray.empty)), (Ty.int (0 : Int)), (Ty.val (Value.slice none 0 0))] := r5
    clear r5
    refine tL (R := (fun v τ => Pr.has (Ty.pr (Ty.int (4 : Int))) τ v)) ok10 (Yld.toL (y_assign rfl)) fun a11 s14 hs6 ok11 r6 sm3 => ?_
    have F14 := F13.stepL hs6 (by decide); have q30 := kpL hs6 (by decide) (sm3 2 (by decide)) q28; have o22 := OwnP.keepL o21 hs6 (by decide) (by decide)
    have q31 : At (Ty.int (4 : Int)) s14 a11 (.tmp 3) := r6
    clear r6; refine wpList_nil (tn (wp_ret (tr ?_)))
    have o23 : OwnP s14 61 x1 [(Ty.val (Value.string ByteArray.empty)), (Ty.int (0 : Int)), (Ty.val (Value.slice none 0 0))] := o22
    have o24 : OwnP s14 61 x1 [(Ty.val (Value.string (if rdE s = 0 then pcs s 0 else ByteArray.empty))), (Ty.int (0 : Int)), (Ty.val (Value.slice none 0 0))] := cvop (by rw [show (Ty.val (Value.string ByteArray.empty)) = (Ty.val (Value.string (if rdE s = 0 then pcs s 0 else ByteArray.empty))) from by (rw [hr]; rfl)]) o23
    have o25 : OwnP s14 61 x1 [(Ty.val (Value.string (if rdE s = 0 then pcs s 0 else ByteArray.empty))), (Ty.int (if rdE s = 0 then digE (pcs s 1) else 0)), (Ty.val (Value.slice none 0 0))] := cvop (by rw [show (Ty.int (0 : Int)) = (Ty.int (if rdE s = 0 then digE (pcs s 1) else 0)) from by (rw [hr]; rfl)]) o24
    have o26 : OwnP s14 61 x1 [(Ty.val (Value.string (if rdE s = 0 then pcs s 0 else ByteArray.empty))), (Ty.int (if rdE s = 0 then digE (pcs s 1) else 0)), (Ty.lst Ty.ints (if rdE s = 0 then (plM (digE (pcs s 1)) (pcs s 2)).2 else []))] := ownp_cellq 2 (Ty.lst Ty.ints (if rdE s = 0 then (plM (digE (pcs s 1)) (pcs s 2)).2 else [])) o25 rfl (nil_has (by rw [hr]; rfl))
    exact retL2c (k := 61) (ts := [(Ty.val (Value.string (if rdE s = 0 then pcs s 0 else ByteArray.empty))), (Ty.int (if rdE s = 0 then digE (pcs s 1) else 0)), (Ty.lst Ty.ints (if rdE s = 0 then (plM (digE (pcs s 1)) (pcs s 2)).2 else []))]) rfl ok11 F14 Tryd.underlying36 Tryd.inf36 (al (R := (Pr.ownp 61 [(Ty.val (Value.string (if rdE s = 0 then pcs s 0 else ByteArray.empty))), (Ty.int (if rdE s = 0 then digE (pcs s 1) else 0)), (Ty.lst Ty.ints (if rdE s = 0 then (plM (digE (pcs s 1)) (pcs s 2)).2 else []))])) q30 o26) (fun v_ hv_ => (hasT2 hv_ (cvi (by (rw [hr])) q31)))
   ·
    have k3 : ¬ 3 < (cutT 124 s).length := (by omega); have hp0 : ((cutT 124 s).getD ((0 : Int)).toNat ByteArray.empty).size ≤ s.size := hpz 0; have hp1 : ((cutT 124 s).getD ((1 : Int)).toNat ByteArray.empty).size ≤ s.size := hpz 1; have hp2 : ((cutT 124 s).getD ((2 : Int)).toNat ByteArray.empty).size ≤ s.size := hpz 2; have q1_ : digE ((cutT 124 s).getD ((1 : Int)).toNat ByteArray.empty) = digE (pcs s 1) := rfl; have q2_ : (plM (digE ((cutT 124 s).getD ((1 : Int)).toNat ByteArray.empty)) ((cutT 124 s).getD ((2 : Int)).toNat ByteArray.empty)).1 = (plM (digE (pcs s 1)) (pcs s 2)).1 := rfl
    refine wp_skip (tn (wp_seq ?_))
    refine gI a9 s11 ok9 (gM q24 (gT (Ty.ref [(Ty.val (Value.string ((cutT 124 s).getD ((0 : Int)).toNat ByteArray.empty)))]) rfl (fun A B E G H d0 => rP (y_index1 Tryd.underlying47 Tryd.inf9 (ed d0 rfl rfl rfl) rfl (by omega) (lst_get Ty.str (cutT 124 s) ByteArray.empty ((0 : Int)).toNat (by omega)))) (gS rfl (fun A B E G H d0 => rP (y_load Tryd.underlying9 rfl (ed d0 rfl rfl rfl) rfl)) (gS rfl (fun A B E G H d0 => rP (y_call _ Tryd.func33 rfl rfl my1 (rIsName_fn (((cutT 124 s).getD ((0 : Int)).toNat ByteArray.empty)) _ _ (ed d0 rfl rfl rfl) (by omega)))) (gB 0 (gE ok9 fun a12 s15 ok12 D9 => ?_)))))); have o27 := OwnP.k0 o19 D9.stp; refine tn (wp_seq (wp_seq ?_))
    refine gI a12 s15 ok12 (gM (D9.dn 4 rfl rfl) (gS rfl (fun A B E G H d0 => rP (y_not (ed d0 rfl rfl rfl))) (gE ok12 fun a13 s16 ok13 D10 => ?_))); have F16 := (F11.step0 D9.stp).step0 D10.stp; have q35 := D10.kt (D9.kt q23 rfl) rfl; have q36 := D10.kt (D9.kt q24 rfl) rfl; have o28 := OwnP.k0 o27 D10.stp; refine tn ?_
    refine cond_t (D10.dn 1 rfl rfl) (fun c4 => ?_) (fun c4 => ?_)
    ·
     have c4b : (!nameL (pcs s 0)) = true := c4; have hr := rd_7 k1 k2 k3 (by simpa using c4b)
     refine wp_seq ?_
     refine gI a13 s16 ok13 (gT (Ty.agg [(Ty.val (Value.string ByteArray.empty)), (Ty.int (0 : Int)), (Ty.val (Value.slice none 0 0))]) rfl (fun A B E G H => rP (y_bld [] [(Ty.val (Value.string ByteArray.empty)), (Ty.int (0 : Int)), (Ty.val (Value.slice none 0 0))] (l := [(0, 1), (1, 1), (2, 1)]) rfl Tryd.inf36 rfl (alloc_vals (vs := [.string ByteArray.empty, .int .i64 0, .slice none 0 0]) rfl) rfl (by intro p hp; cases hp))) (gE2 ok13 fun a14 s17 ok14 D11 => ?_)); have q38 := D11.kt q35 rfl; have o29 := OwnP.k0 o28 D11.stp
     refine tailL0 (L := [61]) (R := (fun _ τ => OwnP τ 61 x1 [(Ty.val (Value.string ByteArray.empty)), (Ty.int (0 : Int)), (Ty.val (Value.slice none 0 0))])) rfl rfl (YldM.toL (m_storeagg Tryd.inf36 (by decide) o29 q38 rfl (D11.dn 0 (by decide) rfl rfl) (by intro U hU; simp only [List.mem_cons, List.not_mem_nil, or_false] at hU; rcases hU with rfl | rfl | rfl <;> first | exact one_val rfl | exact one_sl | exact one_ref))) (fun v4 s18 hs7 r7 => ?_)
     have F18 := (F16.step0 D11.stp).stepL hs7 (by decide); have q40 := kpL hs7 (by decide) rfl q38
     have o30 : OwnP s18 61 x1 [(Ty.val (Value.string ByteArray.empty)), (Ty.int (0 : Int)), (Ty.val (Value.slice none 0 0))] := r7
     clear r7
     refine tL (R := (fun v τ => Pr.has (Ty.pr (Ty.int (7 : Int))) τ v)) ok14 (Yld.toL (y_assign rfl)) fun a15 s19 hs8 ok15 r8 sm4 => ?_
     have F19 := F18.stepL hs8 (by decide); have q42 := kpL hs8 (by decide) (sm4 2 (by decide)) q40; have o31 := OwnP.keepL o30 hs8 (by decide) (by decide)
     have q43 : At (Ty.int (7 : Int)) s19 a15 (.tmp 3) := r8
     clear r8; refine wpList_nil (tn (wp_ret (tr ?_)))
     have o32 : OwnP s19 61 x1 [(Ty.val (Value.string ByteArray.empty)), (Ty.int (0 : Int)), (Ty.val (Value.slice none 0 0))] := o31
     have o33 : OwnP s19 61 x1 [(Ty.val (Value.string (if rdE s = 0 then pcs s 0 else ByteArray.empty))), (Ty.int (0 : Int)), (Ty.val (Value.slice none 0 0))] := cvop (by rw [show (Ty.val (Value.string ByteArray.empty)) = (Ty.val (Value.string (if rdE s = 0 then pcs s 0 else ByteArray.empty))) from by (rw [hr]; rfl)]) o32
     have o34 : OwnP s19 61 x1 [(Ty.val (Value.string (if rdE s = 0 then pcs s 0 else ByteArray.empty))), (Ty.int (if rdE s = 0 then digE (pcs s 1) else 0)), (Ty.val (Value.slice none 0 0))] := cvop (by rw [show (Ty.int (0 : Int)) = (Ty.int (if rdE s = 0 then digE (pcs s 1) else 0)) from by (rw [hr]; rfl)]) o33
     have o35 : OwnP s19 61 x1 [(Ty.val (Value.string (if rdE s = 0 then pcs s 0 else ByteArray.empty))), (Ty.int (if rdE s = 0 then digE (pcs s 1) else 0)), (Ty.lst Ty.ints (if rdE s = 0 then (plM (digE (pcs s 1)) (pcs s 2)).2 else []))] := ownp_cellq 2 (Ty.lst Ty.ints (if rdE s = 0 then (plM (digE (pcs s 1)) (pcs s 2)).2 else [])) o34 rfl (nil_has (by rw [hr]; rfl))
     exact retL2c (k := 61) (ts := [(Ty.val (Value.string (if rdE s = 0 then pcs s 0 else ByteArray.empty))), (Ty.int (if rdE s = 0 then digE (pcs s 1) else 0)), (Ty.lst Ty.ints (if rdE s = 0 then (plM (digE (pcs s 1)) (pcs s 2)).2 else []))]) rfl ok15 F19 Tryd.underlying36 Tryd.inf36 (al (R := (Pr.ownp 61 [(Ty.val (Value.string (if rdE s = 0 then pcs s 0 else ByteArray.empty))), (Ty.int (if rdE s = 0 then digE (pcs s 1) else 0)), (Ty.lst Ty.ints (if rdE s = 0 then (plM (digE (pcs s 1)) (pcs s 2)).2 else []))])) q42 o35) (fun v_ hv_ => (hasT2 hv_ (cvi (by (rw [hr])) q43)))
    ·
     have c4b : (!nameL (pcs s 0)) = false := c4; have k4 : nameL (pcs s 0) = true := (by simpa using c4b)
     refine wp_skip (tn (wp_seq ?_))
     refine gI a13 s16 ok13 (gM q36 (gT (Ty.ref [(Ty.val (Value.string ((cutT 124 s).getD ((1 : Int)).toNat ByteArray.empty)))]) rfl (fun A B E G H d0 => rP (y_index1 Tryd.underlying47 Tryd.inf9 (ed d0 rfl rfl rfl) rfl (by omega) (lst_get Ty.str (cutT 124 s) ByteArray.empty ((1 : Int)).toNat (by omega)))) (gS rfl (fun A B E G H d0 => rP (y_load Tryd.underlying9 rfl (ed d0 rfl rfl rfl) rfl)) (gS rfl (fun A B E G H d0 => rP (y_call _ Tryd.func34 rfl rfl my1 (rDigits_fn (((cutT 124 s).getD ((1 : Int)).toNat ByteArray.empty)) _ _ (ed d0 rfl rfl rfl) (by omega)))) (gB 0 (gE ok13 fun a16 s20 ok16 D12 => ?_)))))); have o36 := OwnP.k0 o28 D12.stp; have q46 := D12.dn 4 rfl rfl; refine tn (wp_seq (wp_seq ?_))
     refine gI a16 s20 ok16 (gM q46 (gS rfl (fun A B E G H d0 => rP (y_lss (ed d0 rfl rfl rfl) rfl)) (gE ok16 fun a17 s21 ok17 D13 => ?_))); have F21 := (F16.step0 D12.stp).step0 D13.stp; have q47 := D13.kt (D12.kt q35 rfl) rfl; have q49 := D13.kt q46 rfl; have o37 := OwnP.k0 o36 D13.stp; refine tn ?_
     refine cond_p (p := ((digE (((cutT 124 s).getD ((1 : Int)).toNat ByteArray.empty))) < (0 : Int))) (D13.dn 1 rfl rfl) (fun c5 => ?_) (fun c5 => ?_)
     ·
      have hr := rd_4b k1 k2 k3 k4 (by omega)
      refine wp_seq ?_
      refine gI a17 s21 ok17 (gT (Ty.agg [(Ty.val (Value.string ByteArray.empty)), (Ty.int (0 : Int)), (Ty.val (Value.slice none 0 0))]) rfl (fun A B E G H => rP (y_bld [] [(Ty.val (Value.string ByteArray.empty)), (Ty.int (0 : Int)), (Ty.val (Value.slice none 0 0))] (l := [(0, 1), (1, 1), (2, 1)]) rfl Tryd.inf36 rfl (alloc_vals (vs := [.string ByteArray.empty, .int .i64 0, .slice none 0 0]) rfl) rfl (by intro p hp; cases hp))) (gE2 ok17 fun a18 s22 ok18 D14 => ?_)); have q51 := D14.kt q47 rfl; have o38 := OwnP.k0 o37 D14.stp
      refine tailL0 (L := [61]) (R := (fun _ τ => OwnP τ 61 x1 [(Ty.val (Value.string ByteArray.empty)), (Ty.int (0 : Int)), (Ty.val (Value.slice none 0 0))])) rfl rfl (YldM.toL (m_storeagg Tryd.inf36 (by decide) o38 q51 rfl (D14.dn 0 (by decide) rfl rfl) (by intro U hU; simp only [List.mem_cons, List.not_mem_nil, or_false] at hU; rcases hU with rfl | rfl | rfl <;> first | exact one_val rfl | exact one_sl | exact one_ref))) (fun v5 s23 hs9 r9 => ?_)
      have F23 := (F21.step0 D14.stp).stepL hs9 (by decide); have q53 := kpL hs9 (by decide) rfl q51
      have o39 : OwnP s23 61 x1 [(Ty.val (Value.string ByteArray.empty)), (Ty.int (0 : Int)), (Ty.val (Value.slice none 0 0))] := r9
      clear r9
      refine tL (R := (fun v τ => Pr.has (Ty.pr (Ty.int (4 : Int))) τ v)) ok18 (Yld.toL (y_assign rfl)) fun a19 s24 hs10 ok19 r10 sm5 => ?_
      have F24 := F23.stepL hs10 (by decide); have q55 := kpL hs10 (by decide) (sm5 2 (by decide)) q53; have o40 := OwnP.keepL o39 hs10 (by decide) (by decide)
      have q56 : At (Ty.int (4 : Int)) s24 a19 (.tmp 3) := r10
      clear r10; refine wpList_nil (tn (wp_ret (tr ?_)))
      have o41 : OwnP s24 61 x1 [(Ty.val (Value.string ByteArray.empty)), (Ty.int (0 : Int)), (Ty.val (Value.slice none 0 0))] := o40
      have o42 : OwnP s24 61 x1 [(Ty.val (Value.string (if rdE s = 0 then pcs s 0 else ByteArray.empty))), (Ty.int (0 : Int)), (Ty.val (Value.slice none 0 0))] := cvop (by rw [show (Ty.val (Value.string ByteArray.empty)) = (Ty.val (Value.string (if rdE s = 0 then pcs s 0 else ByteArray.empty))) from by (rw [hr]; rfl)]) o41
      have o43 : OwnP s24 61 x1 [(Ty.val (Value.string (if rdE s = 0 then pcs s 0 else ByteArray.empty))), (Ty.int (if rdE s = 0 then digE (pcs s 1) else 0)), (Ty.val (Value.slice none 0 0))] := cvop (by rw [show (Ty.int (0 : Int)) = (Ty.int (if rdE s = 0 then digE (pcs s 1) else 0)) from by (rw [hr]; rfl)]) o42
      have o44 : OwnP s24 61 x1 [(Ty.val (Value.string (if rdE s = 0 then pcs s 0 else ByteArray.empty))), (Ty.int (if rdE s = 0 then digE (pcs s 1) else 0)), (Ty.lst Ty.ints (if rdE s = 0 then (plM (digE (pcs s 1)) (pcs s 2)).2 else []))] := ownp_cellq 2 (Ty.lst Ty.ints (if rdE s = 0 then (plM (digE (pcs s 1)) (pcs s 2)).2 else [])) o43 rfl (nil_has (by rw [hr]; rfl))
      exact retL2c (k := 61) (ts := [(Ty.val (Value.string (if rdE s = 0 then pcs s 0 else ByteArray.empty))), (Ty.int (if rdE s = 0 then digE (pcs s 1) else 0)), (Ty.lst Ty.ints (if rdE s = 0 then (plM (digE (pcs s 1)) (pcs s 2)).2 else []))]) rfl ok19 F24 Tryd.underlying36 Tryd.inf36 (al (R := (Pr.ownp 61 [(Ty.val (Value.string (if rdE s = 0 then pcs s 0 else ByteArray.empty))), (Ty.int (if rdE s = 0 then digE (pcs s 1) else 0)), (Ty.lst Ty.ints (if rdE s = 0 then (plM (digE (pcs s 1)) (pcs s 2)).2 else []))])) q55 o44) (fun v_ hv_ => (hasT2 hv_ (cvi (by (rw [hr])) q56)))
     ·
      have k5 : ¬ digE (pcs s 1) < 0 := (by omega)
      refine wp_skip (tn (wp_seq (wp_seq ?_)))
      refine gI a17 s21 ok17 (gM q49 (gS rfl (fun A B E G H d0 => rP (y_lss (ed d0 rfl rfl rfl) rfl)) (gS rfl (fun A B E G H d0 => rP (y_move (ed d0 rfl rfl rfl))) (gS rfl (fun A B E G H d0 => gu G (ed d0 rfl rfl rfl) fun hg => y_move (kp (H 6 rfl) E q49)) (gS rfl (fun A B E G H d0 d1 => gu G (ed d1 rfl rfl rfl) fun hg => y_gtr ((ed d0 rfl rfl rfl).1 hg) rfl) (gS rfl (fun A B E G H d0 d1 => rP (y_pick_or (ed d0 rfl rfl rfl) rfl (ed d1 rfl rfl rfl))) (gE ok17 fun a20 s25 ok20 D15 => ?_))))))); have F25 := F21.step0 D15.stp; have q57 := D15.kt q47 rfl; have q58 := D15.kt (D13.kt (D12.kt q36 rfl) rfl) rfl; have q59 := D15.kt q49 rfl; have o45 := OwnP.k0 o37 D15.stp; refine tn ?_
      refine cond_t (D15.dn 5 rfl rfl) (fun c6 => ?_) (fun c6 => ?_)
      ·
       have hr := rd_1 k1 k2 k3 k4 k5 (by simp only [Bool.or_eq_true, decide_eq_true_eq] at c6; omega)
       refine wp_seq ?_
       refine gI a20 s25 ok20 (gT (Ty.agg [(Ty.val (Value.string ByteArray.empty)), (Ty.int (0 : Int)), (Ty.val (Value.slice none 0 0))]) rfl (fun A B E G H => rP (y_bld [] [(Ty.val (Value.string ByteArray.empty)), (Ty.int (0 : Int)), (Ty.val (Value.slice none 0 0))] (l := [(0, 1), (1, 1), (2, 1)]) rfl Tryd.inf36 rfl (alloc_vals (vs := [.string ByteArray.empty, .int .i64 0, .slice none 0 0]) rfl) rfl (by intro p hp; cases hp))) (gE2 ok20 fun a21 s26 ok21 D16 => ?_)); have q61 := D16.kt q57 rfl; have o46 := OwnP.k0 o45 D16.stp
       refine tailL0 (L := [61]) (R := (fun _ τ => OwnP τ 61 x1 [(Ty.val (Value.string ByteArray.empty)), (Ty.int (0 : Int)), (Ty.val (Value.slice none 0 0))])) rfl rfl (YldM.toL (m_storeagg Tryd.inf36 (by decide) o46 q61 rfl (D16.dn 0 (by decide) rfl rfl) (by intro U hU; simp only [List.mem_cons, List.not_mem_nil, or_false] at hU; rcases hU with rfl | rfl | rfl <;> first | exact one_val rfl | exact one_sl | exact one_ref))) (fun v6 s27 hs11 r11 => ?_)
       have F27 := (F25.step0 D16.stp).stepL hs11 (by decide); have q63 := kpL hs11 (by decide) rfl q61
       have o47 : OwnP s27 61 x1 [(Ty.val (Value.string ByteArray.empty)), (Ty.int (0 : Int)), (Ty.val (Value.slice none 0 0))] := r11
       clear r11
       refine tL (R := (fun v τ => Pr.has (Ty.pr (Ty.int (1 : Int))) τ v)) ok21 (Yld.toL (y_assign rfl)) fun a22 s28 hs12 ok22 r12 sm6 => ?_
       have F28 := F27.stepL hs12 (by decide); have q65 := kpL hs12 (by decide) (sm6 2 (by decide)) q63; have o48 := OwnP.keepL o47 hs12 (by decide) (by decide)
       have q66 : At (Ty.int (1 : Int)) s28 a22 (.tmp 3) := r12
       clear r12; refine wpList_nil (tn (wp_ret (tr ?_)))
       have o49 : OwnP s28 61 x1 [(Ty.val (Value.string ByteArray.empty)), (Ty.int (0 : Int)), (Ty.val (Value.slice none 0 0))] := o48
       have o50 : OwnP s28 61 x1 [(Ty.val (Value.string (if rdE s = 0 then pcs s 0 else ByteArray.empty))), (Ty.int (0 : Int)), (Ty.val (Value.slice none 0 0))] := cvop (by rw [show (Ty.val (Value.string ByteArray.empty)) = (Ty.val (Value.string (if rdE s = 0 then pcs s 0 else ByteArray.empty))) from by (rw [hr]; rfl)]) o49
       have o51 : OwnP s28 61 x1 [(Ty.val (Value.string (if rdE s = 0 then pcs s 0 else ByteArray.empty))), (Ty.int (if rdE s = 0 then digE (pcs s 1) else 0)), (Ty.val (Value.slice none 0 0))] := cvop (by rw [show (Ty.int (0 : Int)) = (Ty.int (if rdE s = 0 then digE (pcs s 1) else 0)) from by (rw [hr]; rfl)]) o50
       have o52 : OwnP s28 61 x1 [(Ty.val (Value.string (if rdE s = 0 then pcs s 0 else ByteArray.empty))), (Ty.int (if rdE s = 0 then digE (pcs s 1) else 0)), (Ty.lst Ty.ints (if rdE s = 0 then (plM (digE (pcs s 1)) (pcs s 2)).2 else []))] := ownp_cellq 2 (Ty.lst Ty.ints (if rdE s = 0 then (plM (digE (pcs s 1)) (pcs s 2)).2 else [])) o51 rfl (nil_has (by rw [hr]; rfl))
       exact retL2c (k := 61) (ts := [(Ty.val (Value.string (if rdE s = 0 then pcs s 0 else ByteArray.empty))), (Ty.int (if rdE s = 0 then digE (pcs s 1) else 0)), (Ty.lst Ty.ints (if rdE s = 0 then (plM (digE (pcs s 1)) (pcs s 2)).2 else []))]) rfl ok22 F28 Tryd.underlying36 Tryd.inf36 (al (R := (Pr.ownp 61 [(Ty.val (Value.string (if rdE s = 0 then pcs s 0 else ByteArray.empty))), (Ty.int (if rdE s = 0 then digE (pcs s 1) else 0)), (Ty.lst Ty.ints (if rdE s = 0 then (plM (digE (pcs s 1)) (pcs s 2)).2 else []))])) q65 o52) (fun v_ hv_ => (hasT2 hv_ (cvi (by (rw [hr])) q66)))
      ·
       obtain ⟨d1, d2⟩ := Bool.or_eq_false_iff.mp c6
       replace d1 := of_decide_eq_false d1
       replace d2 := of_decide_eq_false d2
       have k6 : ¬ (digE (pcs s 1) < 2 ∨ 12 < digE (pcs s 1)) := (by simp only [Bool.or_eq_false_iff, decide_eq_false_iff_not] at c6; omega); have hr := rd_p k1 k2 k3 k4 k5 k6
       refine wp_skip (tn (wp_seq ?_))
       refine gI a20 s25 ok20 (gM q59 (gM q58 (gT (Ty.ref [(Ty.val (Value.string ((cutT 124 s).getD ((2 : Int)).toNat ByteArray.empty)))]) rfl (fun A B E G H d0 => rP (y_index1 Tryd.underlying47 Tryd.inf9 (ed d0 rfl rfl rfl) rfl (by omega) (lst_get Ty.str (cutT 124 s) ByteArray.empty ((2 : Int)).toNat (by omega)))) (gS rfl (fun A B E G H d0 => rP (y_load Tryd.underlying9 rfl (ed d0 rfl rfl rfl) rfl)) (gS rfl (fun A B E G H d0 d1 => rP (y_call _ Tryd.func35 rfl rfl my2 (rParsePlaces_fn ((digE (((cutT 124 s).getD ((1 : Int)).toNat ByteArray.empty)))) (((cutT 124 s).getD ((2 : Int)).toNat ByteArray.empty)) _ _ _ (cvi (σ := B) (by omega) (ed d0 rfl rfl rfl)) (ed d1 rfl rfl rfl) ))) (gS rfl (fun A B E G H d0 => rP (y_move (ed d0 rfl rfl rfl))) (gT (Ty.lst Ty.ints (plM ((digE (((cutT 124 s).getD ((1 : Int)).toNat ByteArray.empty)))) (((cutT 124 s).getD ((2 : Int)).toNat ByteArray.empty))).2) rfl (fun A B E G H d0 => rP (y_ext2_0 (ed d0 rfl rfl rfl))) (gT (Ty.int (plM ((digE (((cutT 124 s).getD ((1 : Int)).toNat ByteArray.empty)))) (((cutT 124 s).getD ((2 : Int)).toNat ByteArray.empty))).1) rfl (fun A B E G H d0 d1 => rP (y_ext2_1 (ed d0 rfl rfl rfl))) (gB 0 (gB 0 (gE ok20 fun a23 s29 ok23 D17 => ?_))))))))))); have o53 := OwnP.k0 o45 D17.stp; have q71 := D17.dn 9 rfl rfl; refine tn (wp_seq (wp_seq ?_))
       refine gI a23 s29 ok23 (gM q71 (gS rfl (fun A B E G H d0 => rP (y_neq (ed d0 rfl rfl rfl) rfl)) (gE ok23 fun a24 s30 ok24 D18 => ?_))); have F30 := (F25.step0 D17.stp).step0 D18.stp; have q72 := D18.kt (D17.kt q57 rfl) rfl; have o54 := OwnP.k0 o53 D18.stp; refine tn ?_
       refine cond_p (p := ((plM ((digE (((cutT 124 s).getD ((1 : Int)).toNat ByteArray.empty)))) (((cutT 124 s).getD ((2 : Int)).toNat ByteArray.empty))).1 ≠ (0 : Int))) (D18.dn 1 rfl rfl) (fun c7 => ?_) (fun c7 => ?_)
       ·
        have h7 : rdE s ≠ 0 := (by rw [hr, ← q2_]; exact c7)
        refine wp_seq ?_
        refine gI a24 s30 ok24 (gT (Ty.agg [(Ty.val (Value.string ByteArray.empty)), (Ty.int (0 : Int)), (Ty.val (Value.slice none 0 0))]) rfl (fun A B E G H => rP (y_bld [] [(Ty.val (Value.string ByteArray.empty)), (Ty.int (0 : Int)), (Ty.val (Value.slice none 0 0))] (l := [(0, 1), (1, 1), (2, 1)]) rfl Tryd.inf36 rfl (alloc_vals (vs := [.string ByteArray.empty, .int .i64 0, .slice none 0 0]) rfl) rfl (by intro p hp; cases hp))) (gM (D18.kt q71 rfl) (gE2 ok24 fun a25 s31 ok25 D19 => ?_))); have q78 := D19.kt q72 rfl; have o55 := OwnP.k0 o54 D19.stp
        refine tailL0 (L := [61]) (R := (fun _ τ => OwnP τ 61 x1 [(Ty.val (Value.string ByteArray.empty)), (Ty.int (0 : Int)), (Ty.val (Value.slice none 0 0))])) rfl rfl (YldM.toL (m_storeagg Tryd.inf36 (by decide) o55 q78 rfl (D19.dn 0 (by decide) rfl rfl) (by intro U hU; simp only [List.mem_cons, List.not_mem_nil, or_false] at hU; rcases hU with rfl | rfl | rfl <;> first | exact one_val rfl | exact one_sl | exact one_ref))) (fun v7 s32 hs13 r13 => ?_)
        have F32 := (F30.step0 D19.stp).stepL hs13 (by decide); have q81 := kpL hs13 (by decide) rfl q78; have q82 := kpL hs13 (by decide) rfl (D19.dn 1 (by decide) rfl rfl)
        have o56 : OwnP s32 61 x1 [(Ty.val (Value.string ByteArray.empty)), (Ty.int (0 : Int)), (Ty.val (Value.slice none 0 0))] := r13
        clear r13
        refine tL ok25 (Yld.toL (y_as q82)) fun a26 s33 hs14 ok26 r14 sm7 => ?_
        have F33 := F32.stepL hs14 (by decide); have q84 := kpL hs14 (by decide) (sm7 2 (by decide)) q81; have o57 := OwnP.keepL o56 hs14 (by decide) (by decide)
        have q85 : At (Ty.int (plM ((digE (((cutT 124 s).getD ((1 : Int)).toNat ByteArray.empty)))) (((cutT 124 s).getD ((2 : Int)).toNat ByteArray.empty))).1) s33 a26 (.tmp 3) := r14
        clear r14; refine wpList_nil (tn (wp_ret (tr ?_)))
        have o58 : OwnP s33 61 x1 [(Ty.val (Value.string ByteArray.empty)), (Ty.int (0 : Int)), (Ty.val (Value.slice none 0 0))] := o57
        have o59 : OwnP s33 61 x1 [(Ty.val (Value.string (if rdE s = 0 then pcs s 0 else ByteArray.empty))), (Ty.int (0 : Int)), (Ty.val (Value.slice none 0 0))] := cvop (by rw [show (Ty.val (Value.string ByteArray.empty)) = (Ty.val (Value.string (if rdE s = 0 then pcs s 0 else ByteArray.empty))) from by (rw [if_neg h7])]) o58
        have o60 : OwnP s33 61 x1 [(Ty.val (Value.string (if rdE s = 0 then pcs s 0 else ByteArray.empty))), (Ty.int (if rdE s = 0 then digE (pcs s 1) else 0)), (Ty.val (Value.slice none 0 0))] := cvop (by rw [show (Ty.int (0 : Int)) = (Ty.int (if rdE s = 0 then digE (pcs s 1) else 0)) from by (rw [if_neg h7])]) o59
        have o61 : OwnP s33 61 x1 [(Ty.val (Value.string (if rdE s = 0 then pcs s 0 else ByteArray.empty))), (Ty.int (if rdE s = 0 then digE (pcs s 1) else 0)), (Ty.lst Ty.ints (if rdE s = 0 then (plM (digE (pcs s 1)) (pcs s 2)).2 else []))] := ownp_cellq 2 (Ty.lst Ty.ints (if rdE s = 0 then (plM (digE (pcs s 1)) (pcs s 2)).2 else [])) o60 rfl (nil_has (by rw [if_neg h7]))
        exact retL2c (k := 61) (ts := [(Ty.val (Value.string (if rdE s = 0 then pcs s 0 else ByteArray.empty))), (Ty.int (if rdE s = 0 then digE (pcs s 1) else 0)), (Ty.lst Ty.ints (if rdE s = 0 then (plM (digE (pcs s 1)) (pcs s 2)).2 else []))]) rfl ok26 F33 Tryd.underlying36 Tryd.inf36 (al (R := (Pr.ownp 61 [(Ty.val (Value.string (if rdE s = 0 then pcs s 0 else ByteArray.empty))), (Ty.int (if rdE s = 0 then digE (pcs s 1) else 0)), (Ty.lst Ty.ints (if rdE s = 0 then (plM (digE (pcs s 1)) (pcs s 2)).2 else []))])) q84 o61) (fun v_ hv_ => (hasT2 hv_ (cvi (by (rw [hr, ← q2_])) q85)))
       ·
        have h7 : rdE s = 0 := (by rw [hr, ← q2_]; omega)
        refine wp_skip (tn (wp_seq ?_))
        refine gI a24 s30 ok24 (gM (D18.kt (D17.kt q58 rfl) rfl) (gT (Ty.ref [(Ty.val (Value.string ((cutT 124 s).getD ((0 : Int)).toNat ByteArray.empty)))]) rfl (fun A B E G H d0 => rP (y_index1 Tryd.underlying47 Tryd.inf9 (ed d0 rfl rfl rfl) rfl (by omega) (lst_get Ty.str (cutT 124 s) ByteArray.empty ((0 : Int)).toNat (by omega)))) (gS rfl (fun A B E G H d0 => rP (y_load Tryd.underlying9 rfl (ed d0 rfl rfl rfl) rfl)) (gM (D18.kt (D17.kt q59 rfl) rfl) (gM (D18.kt (D17.dn 8 rfl rfl) rfl) (gT (Ty.agg [(Ty.val (Value.string ((cutT 124 s).getD ((0 : Int)).toNat ByteArray.empty))), (Ty.int (digE (((cutT 124 s).getD ((1 : Int)).toNat ByteArray.empty)))), (Ty.lst Ty.ints (plM ((digE (((cutT 124 s).getD ((1 : Int)).toNat ByteArray.empty)))) (((cutT 124 s).getD ((2 : Int)).toNat ByteArray.empty))).2)]) rfl (fun A B E G H d0 d1 d2 => rP (y_bld [(0, (.tmp 58), (Ty.val (Value.string ((cutT 124 s).getD ((0 : Int)).toNat ByteArray.empty)))), (1, (.tmp 59), (Ty.int (digE (((cutT 124 s).getD ((1 : Int)).toNat ByteArray.empty))))), (2, (.tmp 60), (Ty.lst Ty.ints (plM ((digE (((cutT 124 s).getD ((1 : Int)).toNat ByteArray.empty)))) (((cutT 124 s).getD ((2 : Int)).toNat ByteArray.empty))).2))] [(Ty.val (Value.string ByteArray.empty)), (Ty.int (0 : Int)), (Ty.val (Value.slice none 0 0))] (l := [(0, 1), (1, 1), (2, 1)]) rfl Tryd.inf36 rfl (alloc_vals (vs := [.string ByteArray.empty, .int .i64 0, .slice none 0 0]) rfl) rfl (by intro p hp; simp only [List.mem_cons, List.not_mem_nil, or_false] at hp; rcases hp with rfl | rfl | rfl; exact ⟨one_val rfl, (ed d0 rfl rfl rfl)⟩; exact ⟨one_val rfl, (ed d1 rfl rfl rfl)⟩; exact ⟨one_sl, (ed d2 rfl rfl rfl)⟩))) (gE2 ok24 fun a27 s34 ok27 D20 => ?_))))))); have q86 := D20.kt q72 rfl; have o62 := OwnP.k0 o54 D20.stp
        refine tailL0 (L := [61]) (R := (fun _ τ => OwnP τ 61 x1 [(Ty.val (Value.string ((cutT 124 s).getD ((0 : Int)).toNat ByteArray.empty))), (Ty.int (digE (((cutT 124 s).getD ((1 : Int)).toNat ByteArray.empty)))), (Ty.lst Ty.ints (plM ((digE (((cutT 124 s).getD ((1 : Int)).toNat ByteArray.empty)))) (((cutT 124 s).getD ((2 : Int)).toNat ByteArray.empty))).2)])) rfl rfl (YldM.toL (m_storeagg Tryd.inf36 (by decide) o62 q86 rfl (D20.dn 5 (by decide) rfl rfl) (by intro U hU; simp only [List.mem_cons, List.not_mem_nil, or_false] at hU; rcases hU with rfl | rfl | rfl <;> first | exact one_val rfl | exact one_sl | exact one_ref))) (fun v8 s35 hs15 r15 => ?_)
        have F35 := (F30.step0 D20.stp).stepL hs15 (by decide); have q88 := kpL hs15 (by decide) rfl q86
        have o63 : OwnP s35 61 x1 [(Ty.val (Value.string ((cutT 124 s).getD ((0 : Int)).toNat ByteArray.empty))), (Ty.int (digE (((cutT 124 s).getD ((1 : Int)).toNat ByteArray.empty)))), (Ty.lst Ty.ints (plM ((digE (((cutT 124 s).getD ((1 : Int)).toNat ByteArray.empty)))) (((cutT 124 s).getD ((2 : Int)).toNat ByteArray.empty))).2)] := r15
        clear r15
        refine tL (R := (fun v τ => Pr.has (Ty.pr (Ty.int (0 : Int))) τ v)) ok27 (Yld.toL (y_assign rfl)) fun a28 s36 hs16 ok28 r16 sm8 => ?_
        have F36 := F35.stepL hs16 (by decide); have q90 := kpL hs16 (by decide) (sm8 2 (by decide)) q88; have o64 := OwnP.keepL o63 hs16 (by decide) (by decide)
        have q91 : At (Ty.int (0 : Int)) s36 a28 (.tmp 3) := r16
        clear r16; refine wpList_nil (tn (wp_ret ?_))
        have o65 : OwnP s36 61 x1 [(Ty.val (Value.string ((cutT 124 s).getD ((0 : Int)).toNat ByteArray.empty))), (Ty.int (digE (((cutT 124 s).getD ((1 : Int)).toNat ByteArray.empty)))), (Ty.lst Ty.ints (plM ((digE (((cutT 124 s).getD ((1 : Int)).toNat ByteArray.empty)))) (((cutT 124 s).getD ((2 : Int)).toNat ByteArray.empty))).2)] := o64
        have o66 : OwnP s36 61 x1 [(Ty.val (Value.string (if rdE s = 0 then pcs s 0 else ByteArray.empty))), (Ty.int (digE (((cutT 124 s).getD ((1 : Int)).toNat ByteArray.empty)))), (Ty.lst Ty.ints (plM ((digE (((cutT 124 s).getD ((1 : Int)).toNat ByteArray.empty)))) (((cutT 124 s).getD ((2 : Int)).toNat ByteArray.empty))).2)] := cvop (by rw [show (Ty.val (Value.string ((cutT 124 s).getD ((0 : Int)).toNat ByteArray.empty))) = (Ty.val (Value.string (if rdE s = 0 then pcs s 0 else ByteArray.empty))) from by (rw [if_pos h7]; rfl)]) o65
        have o67 : OwnP s36 61 x1 [(Ty.val (Value.string (if rdE s = 0 then pcs s 0 else ByteArray.empty))), (Ty.int (if rdE s = 0 then digE (pcs s 1) else 0)), (Ty.lst Ty.ints (plM ((digE (((cutT 124 s).getD ((1 : Int)).toNat ByteArray.empty)))) (((cutT 124 s).getD ((2 : Int)).toNat ByteArray.empty))).2)] := cvop (by rw [show (Ty.int (digE (((cutT 124 s).getD ((1 : Int)).toNat ByteArray.empty)))) = (Ty.int (if rdE s = 0 then digE (pcs s 1) else 0)) from by (rw [if_pos h7]; rfl)]) o66
        have o68 : OwnP s36 61 x1 [(Ty.val (Value.string (if rdE s = 0 then pcs s 0 else ByteArray.empty))), (Ty.int (if rdE s = 0 then digE (pcs s 1) else 0)), (Ty.lst Ty.ints (if rdE s = 0 then (plM (digE (pcs s 1)) (pcs s 2)).2 else []))] := cvop (by rw [show (Ty.lst Ty.ints (plM ((digE (((cutT 124 s).getD ((1 : Int)).toNat ByteArray.empty)))) (((cutT 124 s).getD ((2 : Int)).toNat ByteArray.empty))).2) = (Ty.lst Ty.ints (if rdE s = 0 then (plM (digE (pcs s 1)) (pcs s 2)).2 else [])) from by (rw [if_pos h7]; rfl)]) o67
        exact retL2c (k := 61) (ts := [(Ty.val (Value.string (if rdE s = 0 then pcs s 0 else ByteArray.empty))), (Ty.int (if rdE s = 0 then digE (pcs s 1) else 0)), (Ty.lst Ty.ints (if rdE s = 0 then (plM (digE (pcs s 1)) (pcs s 2)).2 else []))]) rfl ok28 F36 Tryd.underlying36 Tryd.inf36 (al (R := (Pr.ownp 61 [(Ty.val (Value.string (if rdE s = 0 then pcs s 0 else ByteArray.empty))), (Ty.int (if rdE s = 0 then digE (pcs s 1) else 0)), (Ty.lst Ty.ints (if rdE s = 0 then (plM (digE (pcs s 1)) (pcs s 2)).2 else []))])) q90 o68) (fun v_ hv_ => (hasT2 hv_ (cvi (by (rw [h7])) q91)))


set_option maxRecDepth 100000 in
theorem rsame_fn (xs : List Int) (ys : List Int) (σ : GW) (v0 v1 : Value) (hv0 : Ty.has (Ty.lst Ty.int xs) σ v0) (hv1 : Ty.has (Ty.lst Ty.int ys) σ v1)  :
    FnC Tryd.prog 65 #[v0, v1] σ (Ty.bool (decide (xs = ys))) := by
 refine fn_intro Tryd.func65 rfl Tryd.ntmps65 (Nat.le_of_ble_eq_true rfl) (fun s0 a0 hle F0 ok0 hargs => ?_)
 have p0 := pA hle (hargs 0 _ rfl) hv0
 have b1 := sl_le p0
 have p1 := pA hle (hargs 1 _ rfl) hv1
 have b2 := sl_le p1
 clear hargs; refine wp_seq ?_
 refine gI a0 s0 ok0 (gC (Ty.bool false) (gE ok0 fun a1 s1 ok1 D1 => ?_)); have q1 := D1.kt p0 rfl; have q2 := D1.kt p1 rfl; refine tn (wp_seq (wp_seq ?_))
 refine gI a1 s1 ok1 (gM q1 (gS rfl (fun A B E G H d0 => rP (y_len Tryd.underlying42 (ed d0 rfl rfl rfl))) (gM q2 (gS rfl (fun A B E G H d0 => rP (y_len Tryd.underlying42 (ed d0 rfl rfl rfl))) (gS rfl (fun A B E G H d0 d1 => rP (y_neq (ed d0 rfl rfl rfl) (ed d1 rfl rfl rfl))) (gE ok1 fun a2 s2 ok2 D2 => ?_)))))); have F2 := (F0.step0 D1.stp).step0 D2.stp; refine tn ?_
 refine cond_p (p := ((((List.length xs) : Nat) : Int) ≠ (((List.length ys) : Nat) : Int))) (D2.dn 4 rfl rfl) (fun c1 => ?_) (fun c1 => ?_)
 ·
  refine wp_seq ?_
  refine gI a2 s2 ok2 (gC (Ty.bool false) (gE ok2 fun a3 s3 ok3 D3 => ?_)); refine tn (wp_ret (tr ?_))
  exact ret1 rfl ok3 (F2.step0 D3.stp) (cvb (by (rw [decide_eq_false]; intro e; subst e; omega)) (D3.dn 0 rfl rfl))
 ·
  refine wp_skip (tn (wp_seq (wp_seq ?_)))
  refine gI a2 s2 ok2 (gC (Ty.int (0 : Int)) (gE ok2 fun a4 s4 ok4 D4 => ?_)); refine tn (wp_block ?_)
  refine loop (fun n1 a5 w1 => ∃ (t1 : GW) (k : Nat), t1.w = w1 ∧ From s0 t1 ∧ Ok 26 [] a5 ∧ At (Ty.nat k) t1 a5 (.tmp 5) ∧ At (Ty.lst Ty.int xs) t1 a5 (.tmp 0) ∧ At (Ty.lst Ty.int ys) t1 a5 (.tmp 1) ∧ (k ≤ xs.length) ∧ (xs.length = ys.length) ∧ (∀ j, j < k → xs.getD j 0 = ys.getD j 0) ∧ n1 = xs.length - k) (xs.length - (0)) ?_ ?_
  ·
   exact ⟨s4, 0, rfl, (F2.step0 D4.stp), ok4, (cvi (by (first | rfl | omega | (simp_all; done) | (simp_all; omega))) (D4.dn 0 rfl rfl)), (D4.kt (D2.kt q1 rfl) rfl), (D4.kt (D2.kt q2 rfl) rfl), by omega, by omega, fun j hj => absurd hj (Nat.not_lt_zero j), rfl⟩
  ·
   rintro n2 a6 w2 ⟨t2, k, rfl, F5, ok5, q10, q11, q12, hk, hl, heq, rfl⟩
   refine wp_seq (wp_seq ?_)
   refine gI a6 t2 ok5 (gM q10 (gM q11 (gS rfl (fun A B E G H d0 => rP (y_len Tryd.underlying42 (ed d0 rfl rfl rfl))) (gS rfl (fun A B E G H d0 d1 => rP (y_lss (ed d0 rfl rfl rfl) (ed d1 rfl rfl rfl))) (gE ok5 fun a7 s5 ok6 D5 => ?_))))); have F6 := F5.step0 D5.stp; have q13 := D5.kt q10 rfl; have q14 := D5.kt q11 rfl; have q15 := D5.kt q12 rfl; refine tn ?_
   refine cond_p (p := (((k : Nat) : Int) < (((List.length xs) : Nat) : Int))) (D5.dn 3 rfl rfl) (fun c2 => ?_) (fun c2 => ?_)
   ·
    refine wp_skip (tn (wp_seq (wp_block (wp_seq ?_))))
    refine gI a7 s5 ok6 (gM q14 (gM q13 (gT (Ty.ref [(Ty.int (xs.getD k 0))]) rfl (fun A B E G H d0 d1 => rP (y_index1 Tryd.underlying42 Tryd.inf3 (ed d0 rfl rfl rfl) (ed d1 rfl rfl rfl) (by omega) (lst_get Ty.int xs 0 k (by omega)))) (gS rfl (fun A B E G H d0 => rP (y_load Tryd.underlying3 rfl (ed d0 rfl rfl rfl) rfl)) (gM q15 (gM q13 (gT (Ty.ref [(Ty.int (ys.getD k 0))]) rfl (fun A B E G H d0 d1 => rP (y_index1 Tryd.underlying42 Tryd.inf3 (ed d0 rfl rfl rfl) (ed d1 rfl rfl rfl) (by omega) (lst_get Ty.int ys 0 k (by omega)))) (gS rfl (fun A B E G H d0 => rP (y_load Tryd.underlying3 rfl (ed d0 rfl rfl rfl) rfl)) (gS rfl (fun A B E G H d0 d1 => rP (y_neq (ed d0 rfl rfl rfl) (ed d1 rfl rfl rfl))) (gE ok6 fun a8 s6 ok7 D6 => ?_)))))))))); have F7 := F6.step0 D6.stp; refine tn ?_
    refine cond_p (p := ((xs.getD k 0) ≠ (ys.getD k 0))) (D6.dn 8 rfl rfl) (fun c3 => ?_) (fun c3 => ?_)
    ·
     refine wp_seq ?_
     refine gI a8 s6 ok7 (gC (Ty.bool false) (gE ok7 fun a9 s7 ok8 D7 => ?_)); refine tn (wp_ret (br (tr (tr (br (tr ?_))))))
     exact ret1 rfl ok8 (F7.step0 D7.stp) (cvb (by (exact (decide_eq_false (fun e => by subst e; simp_all)).symm)) (D7.dn 0 rfl rfl))
    ·
     refine wp_skip (bn (tn ?_))
     refine gI a8 s6 ok7 (gM (D6.kt q13 rfl) (gT (Ty.int (((k : Nat) : Int) + (1 : Int))) rfl (fun A B E G H d0 => rP (y_add (ed d0 rfl rfl rfl) rfl (w64 (by omega) (by omega)))) (gB 0 (gE ok7 fun a10 s8 ok9 D8 => ?_))))
     exact tn ⟨xs.length - ((k+1)), by omega, s8, (k+1), rfl, (F7.step0 D8.stp), ok9, (cvi (by (first | rfl | omega | (simp_all; done) | (simp_all; omega))) (D8.dn 2 rfl rfl)), (D8.kt (D6.kt q14 rfl) rfl), (D8.kt (D6.kt q15 rfl) rfl), by omega, by omega, all_snoc heq (by assumption), rfl⟩
   ·
    refine wp_exit (tx (tx (bx (tn (wp_seq ?_)))))
    refine gI a7 s5 ok6 (gC (Ty.bool true) (gE ok6 fun a11 s9 ok10 D9 => ?_)); refine tn (wp_ret ?_)
    exact ret1 rfl ok10 (F6.step0 D9.stp) (cvb (by (exact (decide_eq_true (list_ext (by omega) (fun j hj => heq j (by omega)))).symm)) (D9.dn 0 rfl rfl))


set_option maxHeartbeats 4000000 in
set_option maxRecDepth 100000 in
theorem rSameAll_fn (a : List (List Int)) (b : List (List Int)) (σ : GW)  (v0 v1 : Value) (hv0 : Ty.has (Ty.lst Ty.ints a) σ v0) (hv1 : Ty.has (Ty.lst Ty.ints b) σ v1)   :
    FnC Tryd.prog 36 #[v0, v1] σ (Ty.bool (decide (a = b))) := by
 refine fn_intro0 Tryd.func36 rfl Tryd.ntmps36 (Nat.le_of_ble_eq_true rfl) (fun s0 a0 hle F0 ok0 hargs => ?_)
 have p0 := pA hle (hargs 0 _ rfl) hv0
 have b1 := sl_le p0
 have p1 := pA hle (hargs 1 _ rfl) hv1
 have b2 := sl_le p1
 clear hargs; refine wp_seq ?_
 refine gI a0 s0 ok0 (gC (Ty.bool false) (gE ok0 fun a1 s1 ok1 D1 => ?_)); have q1 := D1.kt p0 rfl; have q2 := D1.kt p1 rfl; refine tn (wp_seq (wp_seq ?_))
 refine gI a1 s1 ok1 (gM q1 (gS rfl (fun A B E G H d0 => rP (y_len Tryd.underlying34 (ed d0 rfl rfl rfl))) (gM q2 (gS rfl (fun A B E G H d0 => rP (y_len Tryd.underlying34 (ed d0 rfl rfl rfl))) (gS rfl (fun A B E G H d0 d1 => rP (y_neq (ed d0 rfl rfl rfl) (ed d1 rfl rfl rfl))) (gE ok1 fun a2 s2 ok2 D2 => ?_)))))); have F2 := (F0.step0 D1.stp).step0 D2.stp; refine tn ?_
 refine cond_p (p := ((((List.length a) : Nat) : Int) ≠ (((List.length b) : Nat) : Int))) (D2.dn 4 rfl rfl) (fun c1 => ?_) (fun c1 => ?_)
 ·
  refine wp_seq ?_
  refine gI a2 s2 ok2 (gC (Ty.bool false) (gE ok2 fun a3 s3 ok3 D3 => ?_)); refine tn (wp_ret (tr ?_))
  exact retL1 rfl ok3 (F2.step0 D3.stp) (cvb (by (rw [decide_eq_false]; intro e; subst e; omega)) (D3.dn 0 rfl rfl))
 ·
  refine wp_skip (tn (wp_seq (wp_seq ?_)))
  refine gI a2 s2 ok2 (gC (Ty.int (0 : Int)) (gE ok2 fun a4 s4 ok4 D4 => ?_)); refine tn (wp_block ?_)
  refine loop (fun n1 a5 w1 => ∃ (t1 : GW) (k : Nat), t1.w = w1 ∧ FromL [] s0 t1 ∧ Ok 29 [] a5 ∧ At (Ty.nat k) t1 a5 (.tmp 5) ∧ At (Ty.lst Ty.ints a) t1 a5 (.tmp 0) ∧ At (Ty.lst Ty.ints b) t1 a5 (.tmp 1) ∧ (k ≤ a.length) ∧ (a.length = b.length) ∧ (∀ j, j < k → a.getD j [] = b.getD j []) ∧ n1 = a.length - k) (a.length - (0)) ?_ ?_
  ·
   exact ⟨s4, 0, rfl, (F2.step0 D4.stp), ok4, (cvi (by (first | rfl | omega | (simp_all; done) | (simp_all; omega))) (D4.dn 0 rfl rfl)), (D4.kt (D2.kt q1 rfl) rfl), (D4.kt (D2.kt q2 rfl) rfl), by omega, by omega, fun j hj => absurd hj (Nat.not_lt_zero j), rfl⟩
  ·
   rintro n2 a6 w2 ⟨t2, k, rfl, F5, ok5, q10, q11, q12, hk, hl, heq, rfl⟩
   refine wp_seq (wp_seq ?_)
   refine gI a6 t2 ok5 (gM q10 (gM q11 (gS rfl (fun A B E G H d0 => rP (y_len Tryd.underlying34 (ed d0 rfl rfl rfl))) (gS rfl (fun A B E G H d0 d1 => rP (y_lss (ed d0 rfl rfl rfl) (ed d1 rfl rfl rfl))) (gE ok5 fun a7 s5 ok6 D5 => ?_))))); have F6 := F5.step0 D5.stp; have q13 := D5.kt q10 rfl; have q14 := D5.kt q11 rfl; have q15 := D5.kt q12 rfl; refine tn ?_
   refine cond_p (p := (((k : Nat) : Int) < (((List.length a) : Nat) : Int))) (D5.dn 3 rfl rfl) (fun c2 => ?_) (fun c2 => ?_)
   ·
    refine wp_skip (tn (wp_seq (wp_block (wp_seq ?_))))
    refine gI a7 s5 ok6 (gM q14 (gM q13 (gT (Ty.ref [(Ty.lst Ty.int (a.getD k []))]) rfl (fun A B E G H d0 d1 => rP (y_index1 Tryd.underlying34 Tryd.inf42 (ed d0 rfl rfl rfl) (ed d1 rfl rfl rfl) (by omega) (lst_get Ty.ints a [] k (by omega)))) (gS rfl (fun A B E G H d0 => rP (y_load Tryd.underlying42 rfl (ed d0 rfl rfl rfl) rfl)) (gM q15 (gM q13 (gT (Ty.ref [(Ty.lst Ty.int (b.getD k []))]) rfl (fun A B E G H d0 d1 => rP (y_index1 Tryd.underlying34 Tryd.inf42 (ed d0 rfl rfl rfl) (ed d1 rfl rfl rfl) (by omega) (lst_get Ty.ints b [] k (by omega)))) (gS rfl (fun A B E G H d0 => rP (y_load Tryd.underlying42 rfl (ed d0 rfl rfl rfl) rfl)) (gS rfl (fun A B E G H d0 d1 => rP (y_call _ Tryd.func65 rfl rfl my2 (rsame_fn ((a.getD k [])) ((b.getD k [])) _ _ _ (ed d0 rfl rfl rfl) (ed d1 rfl rfl rfl) ))) (gB 0 (gE ok6 fun a8 s6 ok7 D6 => ?_))))))))))); refine tn (wp_seq ?_)
    refine gI a8 s6 ok7 (gM (D6.dn 9 rfl rfl) (gS rfl (fun A B E G H d0 => rP (y_not (ed d0 rfl rfl rfl))) (gE ok7 fun a9 s7 ok8 D7 => ?_))); have F8 := (F6.step0 D6.stp).step0 D7.stp; refine tn ?_
    refine cond_t (D7.dn 1 rfl rfl) (fun c3 => ?_) (fun c3 => ?_)
    ·
     refine wp_seq ?_
     refine gI a9 s7 ok8 (gC (Ty.bool false) (gE ok8 fun a10 s8 ok9 D8 => ?_)); refine tn (wp_ret (br (tr (tr (br (tr ?_))))))
     exact retL1 rfl ok9 (F8.step0 D8.stp) (cvb (by (exact (decide_eq_false (fun e => by subst e; simp at c3)).symm)) (D8.dn 0 rfl rfl))
    ·
     refine wp_skip (bn (tn ?_))
     refine gI a9 s7 ok8 (gM (D7.kt (D6.kt q13 rfl) rfl) (gT (Ty.int (((k : Nat) : Int) + (1 : Int))) rfl (fun A B E G H d0 => rP (y_add (ed d0 rfl rfl rfl) rfl (w64 (by omega) (by omega)))) (gB 0 (gE ok8 fun a11 s9 ok10 D9 => ?_))))
     exact tn ⟨a.length - ((k+1)), by omega, s9, (k+1), rfl, (F8.step0 D9.stp), ok10, (cvi (by (first | rfl | omega | (simp_all; done) | (simp_all; omega))) (D9.dn 2 rfl rfl)), (D9.kt (D7.kt (D6.kt q14 rfl) rfl) rfl), (D9.kt (D7.kt (D6.kt q15 rfl) rfl) rfl), by omega, by omega, all_snocs heq (by simpa using c3), rfl⟩
   ·
    refine wp_exit (tx (tx (bx (tn (wp_seq ?_)))))
    refine gI a7 s5 ok6 (gC (Ty.bool true) (gE ok6 fun a12 s10 ok11 D10 => ?_)); refine tn (wp_ret ?_)
    exact retL1 rfl ok11 (F6.step0 D10.stp) (cvb (by (exact (decide_eq_true (lists_ext (by omega) (fun j hj => heq j (by omega)))).symm)) (D10.dn 0 rfl rfl))


theorem Tryd.fld36_0 : fieldOf Tryd.prog 36 0 = some (9, 0) := by kernel_rfl
theorem Tryd.fld36_1 : fieldOf Tryd.prog 36 1 = some (3, 1) := by kernel_rfl
theorem Tryd.fld36_2 : fieldOf Tryd.prog 36 2 = some (34, 2) := by kernel_rfl
set_option maxHeartbeats 4000000 in
set_option maxRecDepth 100000 in
theorem sameMethod_fn (s1_ : ByteArray) (s2_ : ByteArray) (n1_ : Int) (n2_ : Int) (l1_ : List (List Int)) (l2_ : List (List Int)) (σ : GW)  (v0 v1 : Value) (hv0 : Ty.has (Ty.agg [(Ty.val (Value.string s1_)), (Ty.int n1_), (Ty.lst Ty.ints l1_)]) σ v0) (hv1 : Ty.has (Ty.agg [(Ty.val (Value.string s2_)), (Ty.int n2_), (Ty.lst Ty.ints l2_)]) σ v1)   :
    FnC Tryd.prog 14 #[v0, v1] σ (Ty.bool (((decide (s1_ = s2_)) && (decide (n1_ = n2_))) && (decide (l1_ = l2_)))) := by
 refine fn_intro0 Tryd.func14 rfl Tryd.ntmps14 (Nat.le_of_ble_eq_true rfl) (fun s0 a0 hle F0 ok0 hargs => ?_)
 have p0 := pA hle (hargs 0 _ rfl) hv0
 have p1 := pA hle (hargs 1 _ rfl) hv1
 clear hargs; refine wp_seq ?_
 refine gI a0 s0 ok0 (gS rfl (fun A B E G H => rP (y_boxagg (kp (H 0 rfl) E p0))) (gS rfl (fun A B E G H => rP (y_boxagg (kp (H 1 rfl) E p1))) (gC (Ty.bool false) (gE ok0 fun a1 s1 ok1 D1 => ?_)))); have q1 := D1.dn 0 rfl rfl; have q2 := D1.dn 1 rfl rfl; refine tn (wp_seq ?_)
 refine gI a1 s1 ok1 (gS rfl (fun A B E G H => rP (y_field Tryd.fld36_0 Tryd.inf9 (by decide) (kp (H 2 rfl) E q1) rfl)) (gS rfl (fun A B E G H d0 => rP (y_load Tryd.underlying9 rfl (ed d0 rfl rfl rfl) rfl)) (gS rfl (fun A B E G H => rP (y_field Tryd.fld36_0 Tryd.inf9 (by decide) (kp (H 3 rfl) E q2) rfl)) (gS rfl (fun A B E G H d0 => rP (y_load Tryd.underlying9 rfl (ed d0 rfl rfl rfl) rfl)) (gT (Ty.bool (decide (s1_ = s2_))) rfl (fun A B E G H d0 d1 => rP (y_seql Tryd.underlying9 (ed d0 rfl rfl rfl) (ed d1 rfl rfl rfl))) (gS rfl (fun A B E G H d0 => rP (y_move (ed d0 rfl rfl rfl))) (gS rfl (fun A B E G H d0 => gut G (ed d0 rfl rfl rfl) fun hg hp => y_field Tryd.fld36_1 Tryd.inf3 (by decide) (kp (H 2 rfl) E q1) rfl) (gS rfl (fun A B E G H d0 d1 => gu G (ed d1 rfl rfl rfl) fun hg => y_load Tryd.underlying3 rfl ((ed d0 rfl rfl rfl).1 hg) rfl) (gS rfl (fun A B E G H d0 => gut G (ed d0 rfl rfl rfl) fun hg hp => y_field Tryd.fld36_1 Tryd.inf3 (by decide) (kp (H 3 rfl) E q2) rfl) (gS rfl (fun A B E G H d0 d1 => gu G (ed d1 rfl rfl rfl) fun hg => y_load Tryd.underlying3 rfl ((ed d0 rfl rfl rfl).1 hg) rfl) (gS rfl (fun A B E G H d0 d1 d2 => gu G (ed d2 rfl rfl rfl) fun hg => y_eql ((ed d0 rfl rfl rfl).1 hg) ((ed d1 rfl rfl rfl).1 hg)) (gS rfl (fun A B E G H d0 d1 => rP (y_pick_and (ed d0 rfl rfl rfl) (ed d1 rfl rfl rfl) rfl)) (gS rfl (fun A B E G H d0 d1 => rP (y_move (ed d0 rfl rfl rfl))) (gT (Ty.grd (((decide (s1_ = s2_)) && (decide (n1_ = n2_))) = true) (Ty.ref [(Ty.lst Ty.ints l1_)])) rfl (by intro A B E G H d0; refine run_guard G rfl rfl (by decide) (ed d0 rfl rfl rfl) (fun hg => ?_); obtain ⟨d1, d2⟩ := Bool.and_eq_true_iff.mp hg; have d1 := of_decide_eq_true d1; have d2 := of_decide_eq_true d2; exact y_field Tryd.fld36_2 Tryd.inf34 (by decide) (kp (H 2 rfl) E q1) rfl) ?_))))))))))))))
 refine gT (Ty.grd (((decide (s1_ = s2_)) && (decide (n1_ = n2_))) = true) (Ty.lst Ty.ints l1_)) rfl (by intro A B E G H d0 d1; refine run_guard G rfl rfl (by decide) (ed d1 rfl rfl rfl) (fun hg => ?_); obtain ⟨d3, d4⟩ := Bool.and_eq_true_iff.mp hg; have d3 := of_decide_eq_true d3; have d4 := of_decide_eq_true d4; exact y_load Tryd.underlying34 rfl ((ed d0 rfl rfl rfl).1 hg) rfl) (gT (Ty.grd (((decide (s1_ = s2_)) && (decide (n1_ = n2_))) = true) (Ty.ref [(Ty.lst Ty.ints l2_)])) rfl (by intro A B E G H d0; refine run_guard G rfl rfl (by decide) (ed d0 rfl rfl rfl) (fun hg => ?_); obtain ⟨d5, d6⟩ := Bool.and_eq_true_iff.mp hg; have d5 := of_decide_eq_true d5; have d6 := of_decide_eq_true d6; exact y_field Tryd.fld36_2 Tryd.inf34 (by decide) (kp (H 3 rfl) E q2) rfl) (gT (Ty.grd (((decide (s1_ = s2_)) && (decide (n1_ = n2_))) = true) (Ty.lst Ty.ints l2_)) rfl (by intro A B E G H d0 d1; refine run_guard G rfl rfl (by decide) (ed d1 rfl rfl rfl) (fun hg => ?_); obtain ⟨d7, d8⟩ := Bool.and_eq_true_iff.mp hg; have d7 := of_decide_eq_true d7; have d8 := of_decide_eq_true d8; exact y_load Tryd.underlying34 rfl ((ed d0 rfl rfl rfl).1 hg) rfl) (gT (Ty.grd (((decide (s1_ = s2_)) && (decide (n1_ = n2_))) = true) (Ty.bool (decide ((l1_) = (l2_))))) rfl (by intro A B E G H d0 d1 d2 d3; refine run_guard G rfl rfl (by decide) (ed d2 rfl rfl rfl) (fun hg => ?_); obtain ⟨d9, d10⟩ := Bool.and_eq_true_iff.mp hg; have d9 := of_decide_eq_true d9; have d10 := of_decide_eq_true d10; exact y_call _ Tryd.func36 rfl rfl my2 (rSameAll_fn (l1_) (l2_) _ _ _ ((ed d0 rfl rfl rfl).1 hg) ((ed d1 rfl rfl rfl).1 hg) )) (gS rfl (fun A B E G H d0 d1 => rP (y_pick_and (ed d0 rfl rfl rfl) (ed d1 rfl rfl rfl) rfl)) (gB 0 (gE ok1 fun a2 s2 ok2 D2 => ?_)))))); refine tn (wp_ret ?_)
 exact retL1 rfl ok2 ((F0.step0 D1.stp).step0 D2.stp) (cvb (by (first | rfl | omega | (simp_all; done) | (simp_all; omega))) (D2.dn 19 rfl rfl))


set_option maxHeartbeats 4000000 in
set_option maxRecDepth 100000 in
theorem methodReads_fn (s : ByteArray) (σ : GW)  (v0 : Value) (hv0 : Ty.has (Ty.val (Value.string s)) σ v0)  (hglb0 : Glb errG σ) :
    FnC Tryd.prog 4 #[v0] σ (Ty.bool true) := by
 refine fn_intro0 Tryd.func4 rfl Tryd.ntmps4 (Nat.le_of_ble_eq_true rfl) (fun s0 a0 hle F0 ok0 hargs => ?_)
 have p0 := pA hle (hargs 0 _ rfl) hv0
 clear hargs
 have hglb : Glb errG s0 := Glb.up hle hglb0
 refine wp_seq ?_
 refine gI a0 s0 ok0 (gC (Ty.bool false) (gE ok0 fun a1 s1 ok1 D1 => ?_)); have q1 := D1.kt p0 rfl; refine tn (wp_seq (wp_seq ?_))
 refine gI a1 s1 ok1 (gM q1 (gT (Ty.nat (ByteArray.size s)) rfl (fun A B E G H d0 => rP (y_len_str Tryd.underlying9 (ed d0 rfl rfl rfl))) (gS rfl (fun A B E G H d0 => rP (y_gtr (ed d0 rfl rfl rfl) rfl)) (gS rfl (fun A B E G H d0 => rP (y_move (ed d0 rfl rfl rfl))) (gS rfl (fun A B E G H d0 => gu G (ed d0 rfl rfl rfl) fun hg => y_move (kp (H 0 rfl) E q1)) (gT (Ty.grd ((decide ((600 : Int) < (((ByteArray.size s) : Nat) : Int))) = true) (Ty.nat (ByteArray.size s))) rfl (fun A B E G H d0 d1 => gu G (ed d1 rfl rfl rfl) fun hg => y_len_str Tryd.underlying9 ((ed d0 rfl rfl rfl).1 hg)) (gS rfl (fun A B E G H d0 d1 => gu G (ed d1 rfl rfl rfl) fun hg => y_lss ((ed d0 rfl rfl rfl).1 hg) rfl) (gS rfl (fun A B E G H d0 d1 => rP (y_pick_and (ed d0 rfl rfl rfl) (ed d1 rfl rfl rfl) rfl)) (gE ok1 fun a2 s2 ok2 D2 => ?_))))))))); have F2 := (F0.step0 D1.stp).step0 D2.stp; have q2 := D2.kt q1 rfl; refine tn ?_
 refine cond_t (D2.dn 7 rfl rfl) (fun c1 => ?_) (fun c1 => ?_)
 ·
  obtain ⟨d1, d2⟩ := Bool.and_eq_true_iff.mp c1
  replace d1 := of_decide_eq_true d1
  replace d2 := of_decide_eq_true d2
  refine wp_seq ?_
  refine gI a2 s2 ok2 (gC (Ty.bool true) (gE ok2 fun a3 s3 ok3 D3 => ?_)); refine tn (wp_ret (tr ?_))
  exact retL1 rfl ok3 (F2.step0 D3.stp) (D3.dn 0 rfl rfl)
 ·
  refine wp_skip (tn (wp_seq ?_))
  refine gI a2 s2 ok2 (gM q2 (gS rfl (fun A B E G H d0 => rP (y_call _ Tryd.func12 rfl rfl my1 (mRead_fn (s) _ _ (ed d0 rfl rfl rfl) (by first | omega | assumption | exact Glb.up E.le0 (Glb.fl F2 rfl hglb))))) (gS rfl (fun A B E G H d0 => rP (y_move (ed d0 rfl rfl rfl))) (gT (Ty.agg [(Ty.val (Value.string (if rdE s = 0 then pcs s 0 else ByteArray.empty))), (Ty.int (if rdE s = 0 then digE (pcs s 1) else 0)), (Ty.lst Ty.ints (if rdE s = 0 then (plM (digE (pcs s 1)) (pcs s 2)).2 else []))]) rfl (fun A B E G H d0 => rP (y_ext2_0 (ed d0 rfl rfl rfl))) (gT (Ty.int (rdE s)) rfl (fun A B E G H d0 d1 => rP (y_ext2_1 (ed d0 rfl rfl rfl))) (gR (Pr.ownp 61 [(Ty.val (Value.string ByteArray.empty)), (Ty.int (0 : Int)), (Ty.val (Value.slice none 0 0))]) rfl (by intro A B E G H; exact rP (y_alloc Tryd.inf36 rfl (alloc_vals (vs := [.string ByteArray.empty, .int .i64 0, .slice none 0 0]) rfl))) (gE2 ok2 fun a4 s4 ok4 D4 => ?_)))))))
  obtain ⟨x1, hx1⟩ : ∃ x, a4.eval (.tmp 3) = x := ⟨_, rfl⟩
  have q8 : At (Ty.val x1) s4 a4 (.tmp 3) := hx1
  have o1 := al2 (R := (Pr.ownp 61 [(Ty.val (Value.string ByteArray.empty)), (Ty.int (0 : Int)), (Ty.val (Value.slice none 0 0))])) hx1 (D4.done 5 (by decide))
  refine tailL0 (L := [61]) (R := (fun _ τ => OwnP τ 61 x1 [(Ty.val (Value.string (if rdE s = 0 then pcs s 0 else ByteArray.empty))), (Ty.int (if rdE s = 0 then digE (pcs s 1) else 0)), (Ty.lst Ty.ints (if rdE s = 0 then (plM (digE (pcs s 1)) (pcs s 2)).2 else []))])) rfl rfl (YldM.toL (m_storeagg Tryd.inf36 (by decide) o1 q8 rfl (D4.dn 3 (by decide) rfl rfl) (by intro U hU; simp only [List.mem_cons, List.not_mem_nil, or_false] at hU; rcases hU with rfl | rfl | rfl <;> first | exact one_val rfl | exact one_sl | exact one_ref))) (fun v1 s5 hs1 r1 => ?_)
  have F5 := (F2.step0 D4.stp).stepL hs1 (by decide); have q9 := kpL hs1 (by decide) rfl (D4.kt q2 rfl); have q10 := kpL hs1 (by decide) rfl (D4.dn 4 (by decide) rfl rfl); have q11 := kpL hs1 (by decide) rfl q8
  have o2 : OwnP s5 61 x1 [(Ty.val (Value.string (if rdE s = 0 then pcs s 0 else ByteArray.empty))), (Ty.int (if rdE s = 0 then digE (pcs s 1) else 0)), (Ty.lst Ty.ints (if rdE s = 0 then (plM (digE (pcs s 1)) (pcs s 2)).2 else []))] := r1
  clear r1
  refine tL ok4 (Yld.toL (y_as q10)) fun a5 s6 hs2 ok5 r2 sm1 => ?_
  have F6 := F5.stepL hs2 (by decide); have q13 := kpL hs2 (by decide) (sm1 0 (by decide)) q9; have q14 := kpL hs2 (by decide) (sm1 3 (by decide)) q11; have o3 := OwnP.keepL o2 hs2 (by decide) (by decide)
  have q15 : At (Ty.int (rdE s)) s6 a5 (.tmp 4) := r2
  clear r2; refine wpList_nil (tn (wp_seq ?_))
  refine gI a5 s6 ok5 (gM q13 (gS rfl (fun A B E G H d0 => rP (y_call _ Tryd.func13 rfl rfl my1 (rReadMethod_fn (s) _ _ (ed d0 rfl rfl rfl) ))) (gS rfl (fun A B E G H d0 => rP (y_move (ed d0 rfl rfl rfl))) (gT (Ty.agg [(Ty.val (Value.string (if rdE s = 0 then pcs s 0 else ByteArray.empty))), (Ty.int (if rdE s = 0 then digE (pcs s 1) else 0)), (Ty.lst Ty.ints (if rdE s = 0 then (plM (digE (pcs s 1)) (pcs s 2)).2 else []))]) rfl (fun A B E G H d0 => rP (y_ext2_0 (ed d0 rfl rfl rfl))) (gT (Ty.int (rdE s)) rfl (fun A B E G H d0 d1 => rP (y_ext2_1 (ed d0 rfl rfl rfl))) (gR (Pr.ownp 62 [(Ty.val (Value.string ByteArray.empty)), (Ty.int (0 : Int)), (Ty.val (Value.slice none 0 0))]) rfl (by intro A B E G H; exact rP (y_alloc Tryd.inf36 rfl (alloc_vals (vs := [.string ByteArray.empty, .int .i64 0, .slice none 0 0]) rfl))) (gE2 ok5 fun a6 s7 ok6 D5 => ?_))))))); have o4 := OwnP.k0 o3 D5.stp
  obtain ⟨x2, hx2⟩ : ∃ x, a6.eval (.tmp 5) = x := ⟨_, rfl⟩
  have q20 : At (Ty.val x2) s7 a6 (.tmp 5) := hx2
  have o5 := al2 (R := (Pr.ownp 62 [(Ty.val (Value.string ByteArray.empty)), (Ty.int (0 : Int)), (Ty.val (Value.slice none 0 0))])) hx2 (D5.done 5 (by decide))
  refine tailL0 (L := [62]) (R := (fun _ τ => OwnP τ 62 x2 [(Ty.val (Value.string (if rdE s = 0 then pcs s 0 else ByteArray.empty))), (Ty.int (if rdE s = 0 then digE (pcs s 1) else 0)), (Ty.lst Ty.ints (if rdE s = 0 then (plM (digE (pcs s 1)) (pcs s 2)).2 else []))])) rfl rfl (YldM.toL (m_storeagg Tryd.inf36 (by decide) o5 q20 rfl (D5.dn 3 (by decide) rfl rfl) (by intro U hU; simp only [List.mem_cons, List.not_mem_nil, or_false] at hU; rcases hU with rfl | rfl | rfl <;> first | exact one_val rfl | exact one_sl | exact one_ref))) (fun v2 s8 hs3 r3 => ?_)
  have F8 := (F6.step0 D5.stp).stepL hs3 (by decide); have q21 := kpL hs3 (by decide) rfl (D5.kt q14 rfl); have q22 := kpL hs3 (by decide) rfl (D5.kt q15 rfl); have q23 := kpL hs3 (by decide) rfl (D5.dn 4 (by decide) rfl rfl); have q24 := kpL hs3 (by decide) rfl q20; have o7 := OwnP.keepL o4 hs3 (by decide) (by decide)
  have o6 : OwnP s8 62 x2 [(Ty.val (Value.string (if rdE s = 0 then pcs s 0 else ByteArray.empty))), (Ty.int (if rdE s = 0 then digE (pcs s 1) else 0)), (Ty.lst Ty.ints (if rdE s = 0 then (plM (digE (pcs s 1)) (pcs s 2)).2 else []))] := r3
  clear r3
  refine tL ok6 (Yld.toL (y_as q23)) fun a7 s9 hs4 ok7 r4 sm2 => ?_
  have F9 := F8.stepL hs4 (by decide); have q26 := kpL hs4 (by decide) (sm2 3 (by decide)) q21; have q27 := kpL hs4 (by decide) (sm2 4 (by decide)) q22; have q28 := kpL hs4 (by decide) (sm2 5 (by decide)) q24; have o8 := OwnP.keepL o7 hs4 (by decide) (by decide); have o9 := OwnP.keepL o6 hs4 (by decide) (by decide)
  have q29 : At (Ty.int (rdE s)) s9 a7 (.tmp 6) := r4
  clear r4; refine wpList_nil (tn (wp_seq ?_))
  refine gI a7 s9 ok7 (gM q27 (gM q29 (gS rfl (fun A B E G H d0 d1 => rP (y_eql (ed d0 rfl rfl rfl) (ed d1 rfl rfl rfl))) (gS rfl (fun A B E G H d0 => rP (y_move (ed d0 rfl rfl rfl))) (gT (Ty.grd ((decide ((rdE s) = (rdE s))) = true) (Ty.agg [(Ty.val (Value.string (if rdE s = 0 then pcs s 0 else ByteArray.empty))), (Ty.int (if rdE s = 0 then digE (pcs s 1) else 0)), (Ty.lst Ty.ints (if rdE s = 0 then (plM (digE (pcs s 1)) (pcs s 2)).2 else []))])) rfl (fun A B E G H d0 => gu G (ed d0 rfl rfl rfl) fun hg => ownp_loadagg Tryd.underlying36 Tryd.inf36 (OwnP.k0 o8 E) (kp (H 3 rfl) E q26)) (gT (Ty.grd ((decide ((rdE s) = (rdE s))) = true) (Ty.agg [(Ty.val (Value.string (if rdE s = 0 then pcs s 0 else ByteArray.empty))), (Ty.int (if rdE s = 0 then digE (pcs s 1) else 0)), (Ty.lst Ty.ints (if rdE s = 0 then (plM (digE (pcs s 1)) (pcs s 2)).2 else []))])) rfl (fun A B E G H d0 => gu G (ed d0 rfl rfl rfl) fun hg => ownp_loadagg Tryd.underlying36 Tryd.inf36 (OwnP.k0 o9 E) (kp (H 5 rfl) E q28)) (gS rfl (fun A B E G H d0 d1 d2 d3 => gut G (ed d2 rfl rfl rfl) fun hg hp => y_call _ Tryd.func14 rfl rfl my2 (sameMethod_fn ((if rdE s = 0 then pcs s 0 else ByteArray.empty)) ((if rdE s = 0 then pcs s 0 else ByteArray.empty)) ((if rdE s = 0 then digE (pcs s 1) else 0)) ((if rdE s = 0 then digE (pcs s 1) else 0)) ((if rdE s = 0 then (plM (digE (pcs s 1)) (pcs s 2)).2 else [])) ((if rdE s = 0 then (plM (digE (pcs s 1)) (pcs s 2)).2 else [])) _ _ _ ((ed d0 rfl rfl rfl).1 hg) ((ed d1 rfl rfl rfl).1 hg) )) (gS rfl (fun A B E G H d0 d1 => rP (y_pick_and (ed d0 rfl rfl rfl) (ed d1 rfl rfl rfl) rfl)) (gB 0 (gE ok7 fun a8 s10 ok8 D6 => ?_)))))))))); have o10 := OwnP.k0 o8 D6.stp; have o11 := OwnP.k0 o9 D6.stp; refine tn (wp_ret ?_)
  exact retL1 rfl ok8 (F9.step0 D6.stp) (cvb (by (simp)) (D6.dn 8 rfl rfl))


end Go.Proofs.YtdjihbjikpbhgaaDoor
