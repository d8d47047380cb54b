/- The functions that the law PlaceSays reaches, each by its contract. Part 2. -/
import Derived.Test.YtdjihbjikpbhgaaPlaceSaysW1
namespace Go.Proofs.Ytdjihbjikpbhgaa
open Go.KL
theorem Try.inf29 : Info Try.prog 29 (.slice none 0 0) 1 24 := by unfold Info; kernel_rfl
set_option maxHeartbeats 4000000 in
set_option maxRecDepth 100000 in
theorem plText_fn (l : List (List Int)) (σ : GW)  (v0 : Value) (hv0 : Ty.has (Ty.lst Ty.ints l) σ v0)  (hl : l.length ≤ 200) (hp : ∀ x ∈ l, x.length ≤ 12 ∧ ∀ p ∈ x, 1 ≤ p ∧ p ≤ 12) :
    FnC Try.prog 37 #[v0] σ (Ty.val (Value.string (bsL (txB false l)))) := by
 obtain ⟨T, hT⟩ : ∃ T, T = txB false l := ⟨_, rfl⟩
 have hTl : T.length ≤ 2600 := by rw [hT]; have h_ := tx_len (fun x hx => (hp x hx).1) false; omega
 refine fn_intro0 Try.func37 rfl Try.ntmps37 (Nat.le_of_ble_eq_true rfl) (fun s0 a0 hle F0 ok0 hargs => ?_)
 have p0 := pA hle (hargs 0 _ rfl) hv0
 have b1 := sl_le p0
 clear hargs; refine wp_seq ?_
 refine gI a0 s0 ok0 (gC (Ty.val (Value.string (ByteArray.mk #[]))) (gE ok0 fun a1 s1 ok1 D1 => ?_)); refine tn (wp_seq ?_)
 refine gI a1 s1 ok1 (gR (Pr.ownpt 80 5 [(Ty.val (Value.pointer none)), (Ty.val (Value.slice none 0 0))]) rfl (by intro G H I J O; exact rP (y_alloct Try.inf80 rfl (alloc_vals (vs := [.pointer none, .slice none 0 0]) rfl))) (gE ok1 fun a2 s2 ok2 D2 => ?_)); have q2 := D2.kt (D1.kt p0 rfl) rfl
 obtain ⟨x1, hx1⟩ : ∃ x, a2.eval (.tmp 3) = x := ⟨_, rfl⟩
 have q3 : At (Ty.val x1) s2 a2 (.tmp 3) := hx1
 have o1 := al2 (R := (Pr.ownpt 80 5 [(Ty.val (Value.pointer none)), (Ty.val (Value.slice none 0 0))])) hx1 (D2.done 0)
 refine tn (wp_seq (wp_seq ?_))
 refine gI a2 s2 ok2 (gM q2 (gS rfl (fun G H I J O d0 => rP (y_len Try.underlying22 (ed d0 rfl rfl rfl))) (gT (Ty.int (0 : Int)) rfl (fun G H I J O => rP (y_move rfl)) (gE ok2 fun a3 s3 ok3 D3 => ?_)))); have o2 := OwnPT.k0 o1 D3.stp; refine tn (wp_block ?_)
 have o3 : Own s3 6 5 1 (Value.slice none 0 0) 0 (List.map Ty.byte ([] : List UInt8)) := Own.nil _ _ _ _
 refine loop (fun n1 a4 w1 => ∃ (t1 : GW) (i : Nat) (out : List UInt8) (nz : Bool) (bf : Value), t1.w = w1 ∧ FromL [] s0 t1 ∧ Ok 45 [] a4 ∧ At (Ty.nat i) t1 a4 (.tmp 10) ∧ At (Ty.lst Ty.ints l) t1 a4 (.tmp 0) ∧ At (Ty.val x1) t1 a4 (.tmp 3) ∧ At (Ty.lst Ty.ints l) t1 a4 (.tmp 8) ∧ At (Ty.nat (List.length l)) t1 a4 (.tmp 9) ∧ OwnPT 80 t1 5 x1 [(Ty.val (bAddr nz x1)), (Ty.val bf)] ∧ Own t1 6 5 1 bf (List.length out) (List.map Ty.byte out) ∧ (out ++ txB (prv l i) (l.drop i) = T) ∧ (i ≤ l.length) ∧ n1 = l.length - i) (l.length - (0)) ?_ ?_
 ·
  exact ⟨s3, 0, ([] : List UInt8), true, (Value.slice none 0 0), rfl, (((F0.step0 D1.stp).step0 D2.stp).step0 D3.stp), ok3, (cvi (by (rfl)) (D3.dn 2 rfl rfl)), (D3.kt q2 rfl), (D3.kt q3 rfl), (D3.dn 0 rfl rfl), (D3.dn 1 rfl rfl), (ownpt_cell 0 (Ty.val (bAddr (true) x1)) o2 rfl (fun _ _ h => (cvt (by (first | rfl | omega | (simp_all; done) | (simp_all; omega))) h))), (cvo (by (simp)) (by (simp)) o3), by rw [hT]; exact tx_0, by omega, rfl⟩
 ·
  rintro n2 a5 w2 ⟨t2, i, out, nz, bf, rfl, F4, ok4, q9, q10, q11, q12, q13, o4, o5, I, hi, rfl⟩
  have hpi : i < l.length → (l.getD i []).length ≤ 12 ∧ ∀ p ∈ (l.getD i []), 1 ≤ p ∧ p ≤ 12 := fun h_ => hp _ (mem_getDD [] h_)
  have hol : out.length ≤ 2600 := by have h_ := congrArg List.length I; rw [List.length_append] at h_; omega
  refine wp_seq ?_
  refine gI a5 t2 ok4 (gS rfl (fun G H I J O => rP (y_lss (kp (O 10 rfl) I q9) (kp (O 9 rfl) I q13))) (gE ok4 fun a6 s4 ok5 D4 => ?_)); have F5 := F4.step0 D4.stp; have q14 := D4.kt q9 rfl; have q16 := D4.kt q11 rfl; have q17 := D4.kt q12 rfl; have o6 := OwnPT.k0 o4 D4.stp; have o7 := Own.k0 o5 D4.stp; refine tn (wp_seq ?_)
  refine cond_p (p := (((i : Nat) : Int) < (((List.length l) : Nat) : Int))) (D4.dn 0 rfl rfl) (fun c1 => ?_) (fun c1 => ?_)
  ·
   have hpi2 := hpi (by omega)
   refine wp_skip (tn (wp_seq (wp_block (wp_seq ?_))))
   refine gI a6 s4 ok5 (gM q14 (gT (Ty.ref [(Ty.lst Ty.int (l.getD i []))]) rfl (fun G H I J O => rP (y_index1 Try.underlying22 Try.inf29 (kp (O 8 rfl) I q17) (kp (O 10 rfl) I q14) (by omega) (lst_get Ty.ints l [] i (by omega)))) (gS rfl (fun G H I J O d0 => rP (y_load Try.underlying29 rfl (ed d0 rfl rfl rfl) rfl)) (gB 0 (gB 0 (gE ok5 fun a7 s5 ok6 D5 => ?_)))))); have o8 := OwnPT.k0 o6 D5.stp; have o9 := Own.k0 o7 D5.stp; have q26 := D5.dn 4 rfl rfl; refine tn (wp_seq (wp_seq ?_))
   refine gI a7 s5 ok6 (gM q26 (gS rfl (fun G H I J O d0 => rP (y_len Try.underlying29 (ed d0 rfl rfl rfl))) (gS rfl (fun G H I J O d0 => rP (y_eql (ed d0 rfl rfl rfl) rfl)) (gE ok6 fun a8 s6 ok7 D6 => ?_)))); have F7 := (F5.step0 D5.stp).step0 D6.stp; have q27 := D6.kt (D5.kt q14 rfl) rfl; have q28 := D6.kt (D5.kt (D4.kt q10 rfl) rfl) rfl; have q29 := D6.kt (D5.kt q16 rfl) rfl; have q30 := D6.kt (D5.kt q17 rfl) rfl; have q31 := D6.kt (D5.kt (D4.kt q13 rfl) rfl) rfl; have q32 := D6.kt (D5.dn 3 rfl rfl) rfl; have o10 := OwnPT.k0 o8 D6.stp; have o11 := Own.k0 o9 D6.stp; refine tn ?_
   refine cond_p (p := ((((List.length (l.getD i [])) : Nat) : Int) = (0 : Int))) (D6.dn 2 rfl rfl) (fun c2 => ?_) (fun c2 => ?_)
   ·
    have hxe : (l.getD i []) = [] := List.eq_nil_of_length_eq_zero (by omega)
    refine wp_seq ?_
    refine gI a8 s6 ok7 (gE2 ok7 fun a9 s7 ok8 D7 => ?_); have q37 := D7.kt q29 rfl; have o12 := OwnPT.k0 o10 D7.stp; have o13 := Own.k0 o11 D7.stp
    refine tL ok8 (y_callL (L := [40, 41]) [(5, 40), (6, 41)] [(40, 5), (41, 6)] #[a9.eval (.tmp 3), a9.eval ((Operand.const (Value.int IntKind.u8 120)))] rfl (by decide) Try.func59 rfl rfl my2 (writeByte_fn (x1) (bf) (nz) (out) ((120 : UInt8)) _ (GW.low_lend _ (by decide)) _ _ (Ty.up _ (GW.le_lend _ _) q37) (Ty.up _ (GW.le_lend _ _) rfl) (OwnPT.ren (ownpt_cell 0 (Ty.val (bAddr (nz) (x1))) o12 rfl (fun _ _ h => (cvt (by (first | rfl | omega | (simp_all; done) | (simp_all; omega))) h))) (GW.ren_lend _ _ (by decide) rfl)) (Own.ren (cvo (by (simp)) (by (simp)) o13) (GW.ren_lend _ _ (by decide) rfl)) (by omega))) fun a10 s8 hs1 ok9 r1 sm1 => ?_
    have F9 := (F7.step0 D7.stp).stepL hs1 (by decide); have q40 := kpL hs1 (by decide) (sm1 10 (by decide)) (D7.kt q27 rfl); have q41 := kpL hs1 (by decide) (sm1 0 (by decide)) (D7.kt q28 rfl); have q42 := kpL hs1 (by decide) (sm1 3 (by decide)) q37; have q43 := kpL hs1 (by decide) (sm1 8 (by decide)) (D7.kt q30 rfl); have q44 := kpL hs1 (by decide) (sm1 9 (by decide)) (D7.kt q31 rfl)
    obtain ⟨t3, ⟨x2, hT1, o14, o15⟩, B1⟩ := r1
    have q45 : At (Ty.val Value.nilIface) s8 a10 (.tmp 18) := Ty.up _ B1.le hT1
    have o16 : OwnPT 80 s8 5 x1 [(Ty.val (bAddr false (x1))), (Ty.val x2)] := OwnPT.ren o14 (B1.ren (by decide) rfl)
    have o17 : Own s8 6 5 1 x2 (List.length ((out) ++ [((120 : UInt8))])) (List.map Ty.byte ((out) ++ [((120 : UInt8))])) := Own.ren o15 (B1.ren (by decide) rfl)
    refine wpList_nil (tn (wp_exit (tx (bx (tn ?_)))))
    refine gI a10 s8 ok9 (gT (Ty.nat (i + 1)) rfl (fun G H I J O => rP ((y_add (kp (O 10 rfl) I q40) rfl (w64 (by omega) (by omega))).mono (fun τ _ h => cvi (σ := τ) (by first | omega | exact (Int.natCast_mul _ _).symm) h))) (gS rfl (fun G H I J O d0 => rP (y_move (ed d0 rfl rfl rfl))) (gE ok9 fun a11 s9 ok10 D8 => ?_))); have o18 := OwnPT.k0 o16 D8.stp; have o19 := Own.k0 o17 D8.stp
    exact tn ⟨l.length - ((i + 1)), by omega, s9, (i + 1), (out ++ [120]), false, x2, rfl, (F9.step0 D8.stp), ok10, (cvi (by (first | rfl | omega | (simp_all; done) | (simp_all; omega))) (D8.dn 1 rfl rfl)), (D8.kt q41 rfl), (D8.kt q42 rfl), (D8.kt q43 rfl), (D8.kt q44 rfl), (ownpt_cell 0 (Ty.val (bAddr (false) x1)) o18 rfl (fun _ _ h => (cvt (by (first | rfl | omega | (simp_all; done) | (simp_all; omega))) h))), (cvo (by (simp)) (by (simp)) o19), tx_e I (by omega) hxe, by omega, rfl⟩
   ·
    have hxn : (l.getD i []) ≠ [] := fun e_ => c2 (by rw [e_]; rfl)
    refine wp_skip (tn (wp_seq (wp_seq ?_)))
    refine gI a8 s6 ok7 (gM q32 (gS rfl (fun G H I J O d0 => rP (y_gtr (ed d0 rfl rfl rfl) rfl)) (gS rfl (fun G H I J O d0 => rP (y_move (ed d0 rfl rfl rfl))) (gS rfl (fun G H I J O d0 => gu J (ed d0 rfl rfl rfl) fun hg => y_move (kp (O 0 rfl) I q28)) (gS rfl (fun G H I J O d0 => gu J (ed d0 rfl rfl rfl) fun hg => y_move (kp (O 4 rfl) I q32)) (gT (Ty.grd ((decide ((0 : Int) < ((i : Nat) : Int))) = true) (Ty.int (((i : Nat) : Int) - (1 : Int)))) rfl (fun G H I J O d0 d1 => gut J (ed d1 rfl rfl rfl) fun hg hp => y_sub ((ed d0 rfl rfl rfl).1 hg) rfl (w64 (by omega) (by omega))) (gT (Ty.grd ((decide ((0 : Int) < ((i : Nat) : Int))) = true) (Ty.ref [(Ty.lst Ty.int (l.getD ((((i : Nat) : Int) - (1 : Int))).toNat []))])) rfl (fun G H I J O d0 d1 d2 => gut J (ed d2 rfl rfl rfl) fun hg hp => y_index1 Try.underlying22 Try.inf29 ((ed d0 rfl rfl rfl).1 hg) ((ed d1 rfl rfl rfl).1 hg) (by omega) (lst_get Ty.ints l [] ((((i : Nat) : Int) - (1 : Int))).toNat (by omega))) (gS rfl (fun G H I J O d0 d1 => gu J (ed d1 rfl rfl rfl) fun hg => y_load Try.underlying29 rfl ((ed d0 rfl rfl rfl).1 hg) rfl) (gS rfl (fun G H I J O d0 d1 => gu J (ed d1 rfl rfl rfl) fun hg => y_len Try.underlying29 ((ed d0 rfl rfl rfl).1 hg)) (gS rfl (fun G H I J O d0 d1 => gu J (ed d1 rfl rfl rfl) fun hg => y_gtr ((ed d0 rfl rfl rfl).1 hg) rfl) (gS rfl (fun G H I J O d0 d1 => rP (y_pick_and (ed d0 rfl rfl rfl) (ed d1 rfl rfl rfl) rfl)) (gE ok7 fun a12 s10 ok11 D9 => ?_)))))))))))); have F11 := F7.step0 D9.stp; have q51 := D9.kt q27 rfl; have q52 := D9.kt q28 rfl; have q53 := D9.kt q29 rfl; have q54 := D9.kt q30 rfl; have q55 := D9.kt q31 rfl; have q56 := D9.kt (D6.kt q26 rfl) rfl; have o20 := OwnPT.k0 o10 D9.stp; have o21 := Own.k0 o11 D9.stp; refine tn ?_
    refine Go.KL.join_then (Q' := fun a13 w3 => ∃ (t4 : GW) (ou : List UInt8) (nw : Bool) (bw : Value), t4.w = w3 ∧ FromL [] s0 t4 ∧ Ok 45 [] a13 ∧ At (Ty.nat i) t4 a13 (.tmp 10) ∧ At (Ty.lst Ty.ints l) t4 a13 (.tmp 0) ∧ At (Ty.val x1) t4 a13 (.tmp 3) ∧ At (Ty.lst Ty.ints l) t4 a13 (.tmp 8) ∧ At (Ty.nat (List.length l)) t4 a13 (.tmp 9) ∧ At (Ty.lst Ty.int (l.getD i [])) t4 a13 (.tmp 5) ∧ OwnPT 80 t4 5 x1 [(Ty.val (bAddr nw x1)), (Ty.val bw)] ∧ Own t4 6 5 1 bw (List.length ou) (List.map Ty.byte ou) ∧ (ou ++ wdB ((l.getD i []).drop 0) ++ txB true (l.drop (i + 1)) = T) ∧ True) ?_ ?_
    ·
     refine cond_t (D9.dn 10 rfl rfl) (fun c3 => ?_) (fun c3 => ?_)
     ·
      obtain ⟨d1, d2⟩ := Bool.and_eq_true_iff.mp c3
      replace d1 := of_decide_eq_true d1
      replace d2 := of_decide_eq_true d2
      have hb : prv l i = true := prv_c.symm.trans c3
      refine gI a12 s10 ok11 (gE2 ok11 fun a14 s11 ok12 D10 => ?_); have q60 := D10.kt q53 rfl; have o22 := OwnPT.k0 o20 D10.stp; have o23 := Own.k0 o21 D10.stp
      refine tL ok12 (y_callL (L := [40, 41]) [(5, 40), (6, 41)] [(40, 5), (41, 6)] #[a14.eval (.tmp 3), a14.eval ((Operand.const (Value.int IntKind.u8 46)))] rfl (by decide) Try.func59 rfl rfl my2 (writeByte_fn (x1) (bf) (nz) (out) ((46 : UInt8)) _ (GW.low_lend _ (by decide)) _ _ (Ty.up _ (GW.le_lend _ _) q60) (Ty.up _ (GW.le_lend _ _) rfl) (OwnPT.ren (ownpt_cell 0 (Ty.val (bAddr (nz) (x1))) o22 rfl (fun _ _ h => (cvt (by (first | rfl | omega | (simp_all; done) | (simp_all; omega))) h))) (GW.ren_lend _ _ (by decide) rfl)) (Own.ren (cvo (by (simp)) (by (simp)) o23) (GW.ren_lend _ _ (by decide) rfl)) (by omega))) fun a15 s12 hs2 ok13 r2 sm2 => ?_
      have F13 := (F11.step0 D10.stp).stepL hs2 (by decide); have q64 := kpL hs2 (by decide) (sm2 10 (by decide)) (D10.kt q51 rfl); have q65 := kpL hs2 (by decide) (sm2 0 (by decide)) (D10.kt q52 rfl); have q66 := kpL hs2 (by decide) (sm2 3 (by decide)) q60; have q67 := kpL hs2 (by decide) (sm2 8 (by decide)) (D10.kt q54 rfl); have q68 := kpL hs2 (by decide) (sm2 9 (by decide)) (D10.kt q55 rfl); have q69 := kpL hs2 (by decide) (sm2 5 (by decide)) (D10.kt q56 rfl)
      obtain ⟨t5, ⟨x3, hT2, o24, o25⟩, B2⟩ := r2
      have q70 : At (Ty.val Value.nilIface) s12 a15 (.tmp 30) := Ty.up _ B2.le hT2
      have o26 : OwnPT 80 s12 5 x1 [(Ty.val (bAddr false (x1))), (Ty.val x3)] := OwnPT.ren o24 (B2.ren (by decide) rfl)
      have o27 : Own s12 6 5 1 x3 (List.length ((out) ++ [((46 : UInt8))])) (List.map Ty.byte ((out) ++ [((46 : UInt8))])) := Own.ren o25 (B2.ren (by decide) rfl)
      refine wpList_nil ?_
      exact tn ⟨s12, (out ++ [46]), false, x3, rfl, F13, ok13, q64, q65, q66, q67, q68, q69, (ownpt_cell 0 (Ty.val (bAddr (false) x1)) o26 rfl (fun _ _ h => (cvt (by (first | rfl | omega | (simp_all; done) | (simp_all; omega))) h))), (cvo (by (simp)) (by (simp)) o27), tx_d I (by omega) hxn hb, trivial⟩
     ·
      have hb : prv l i = false := prv_c.symm.trans c3
      refine wp_skip ?_
      exact tn ⟨s10, out, nz, bf, rfl, F11, ok11, q51, q52, q53, q54, q55, q56, (ownpt_cell 0 (Ty.val (bAddr (nz) x1)) o20 rfl (fun _ _ h => (cvt (by (first | rfl | omega | (simp_all; done) | (simp_all; omega))) h))), (cvo (by (simp)) (by (simp)) o21), tx_n I (by omega) hxn hb, trivial⟩
    ·
     rintro a16 w4 ⟨t6, ou, nw, bw, rfl, F14, ok14, q71, q72, q73, q74, q75, q76, o28, o29, hz, -⟩
     refine wp_seq ?_
     refine gI a16 t6 ok14 (gM q76 (gS rfl (fun G H I J O d0 => rP (y_len Try.underlying29 (ed d0 rfl rfl rfl))) (gT (Ty.int (0 : Int)) rfl (fun G H I J O => rP (y_move rfl)) (gE ok14 fun a17 s13 ok15 D11 => ?_)))); have o30 := OwnPT.k0 o28 D11.stp; have o31 := Own.k0 o29 D11.stp; refine tn (wp_block ?_)
     refine loop (fun n3 a18 w5 => ∃ (t7 : GW) (j : Nat) (ov : List UInt8) (ny : Bool) (bv : Value), t7.w = w5 ∧ FromL [] s0 t7 ∧ Ok 45 [] a18 ∧ At (Ty.nat j) t7 a18 (.tmp 33) ∧ At (Ty.nat i) t7 a18 (.tmp 10) ∧ At (Ty.lst Ty.ints l) t7 a18 (.tmp 0) ∧ At (Ty.val x1) t7 a18 (.tmp 3) ∧ At (Ty.lst Ty.ints l) t7 a18 (.tmp 8) ∧ At (Ty.nat (List.length l)) t7 a18 (.tmp 9) ∧ At (Ty.lst Ty.int (l.getD i [])) t7 a18 (.tmp 31) ∧ At (Ty.nat (List.length (l.getD i []))) t7 a18 (.tmp 32) ∧ OwnPT 80 t7 5 x1 [(Ty.val (bAddr ny x1)), (Ty.val bv)] ∧ Own t7 6 5 1 bv (List.length ov) (List.map Ty.byte ov) ∧ (ov ++ wdB ((l.getD i []).drop j) ++ txB true (l.drop (i + 1)) = T) ∧ (j ≤ (l.getD i []).length) ∧ n3 = (l.getD i []).length - j) ((l.getD i []).length - (0)) ?_ ?_
     ·
      exact ⟨s13, 0, ou, nw, bw, rfl, (F14.step0 D11.stp), ok15, (cvi (by (rfl)) (D11.dn 2 rfl rfl)), (D11.kt q71 rfl), (D11.kt q72 rfl), (D11.kt q73 rfl), (D11.kt q74 rfl), (D11.kt q75 rfl), (D11.dn 0 rfl rfl), (D11.dn 1 rfl rfl), (ownpt_cell 0 (Ty.val (bAddr (nw) x1)) o30 rfl (fun _ _ h => (cvt (by (first | rfl | omega | (simp_all; done) | (simp_all; omega))) h))), (cvo (by (simp)) (by (simp)) o31), hz, by omega, rfl⟩
     ·
      rintro n4 a19 w6 ⟨t8, j, ov, ny, bv, rfl, F16, ok16, q85, q86, q87, q88, q89, q90, q91, q92, o32, o33, hq, hj, rfl⟩
      have hvl : ov.length ≤ 2600 := by have h_ := congrArg List.length hq; rw [List.length_append, List.length_append] at h_; omega
      have hpj : j < (l.getD i []).length → 1 ≤ (l.getD i []).getD j 0 ∧ (l.getD i []).getD j 0 ≤ 12 := fun h_ => hpi2.2 _ (mem_getDD 0 h_)
      have hs1 := sg_size (p := (l.getD i []).getD j 0 - 1)
      refine wp_seq ?_
      refine gI a19 t8 ok16 (gS rfl (fun G H I J O => rP (y_lss (kp (O 33 rfl) I q85) (kp (O 32 rfl) I q92))) (gE ok16 fun a20 s14 ok17 D12 => ?_)); have F17 := F16.step0 D12.stp; have q93 := D12.kt q85 rfl; have q94 := D12.kt q86 rfl; have q95 := D12.kt q87 rfl; have q96 := D12.kt q88 rfl; have q97 := D12.kt q89 rfl; have q98 := D12.kt q90 rfl; have q99 := D12.kt q91 rfl; have o34 := OwnPT.k0 o32 D12.stp; have o35 := Own.k0 o33 D12.stp; refine tn (wp_seq ?_)
      refine cond_p (p := (((j : Nat) : Int) < (((List.length (l.getD i [])) : Nat) : Int))) (D12.dn 0 rfl rfl) (fun c4 => ?_) (fun c4 => ?_)
      ·
       have hpj2 := hpj (by omega)
       refine wp_skip (tn (wp_seq (wp_block (wp_seq ?_))))
       refine gI a20 s14 ok17 (gT (Ty.ref [(Ty.int ((l.getD i []).getD j 0))]) rfl (fun G H I J O => rP (y_index1 Try.underlying29 Try.inf3 (kp (O 31 rfl) I q99) (kp (O 33 rfl) I q93) (by omega) (lst_get Ty.int (l.getD i []) 0 j (by omega)))) (gS rfl (fun G H I J O d0 => rP (y_load Try.underlying3 rfl (ed d0 rfl rfl rfl) rfl)) (gB 0 (gE ok17 fun a21 s15 ok18 D13 => ?_)))); have o36 := OwnPT.k0 o34 D13.stp; have o37 := Own.k0 o35 D13.stp; refine tn ?_
       refine gI a21 s15 ok18 (gM (D13.dn 2 rfl rfl) (gT (Ty.int (((l.getD i []).getD j 0) - (1 : Int))) rfl (fun G H I J O d0 => rP (y_sub (ed d0 rfl rfl rfl) rfl (w64 (by omega) (by omega)))) (gT (Ty.sl 1 1 [(Ty.int (((l.getD i []).getD j 0) - (1 : Int)))]) rfl (fun G H I J O d0 => rP (y_build1o Try.underlying29 Try.inf3 rfl (one_val rfl) (ed d0 rfl rfl rfl))) (gS rfl (fun G H I J O d0 => rP (y_call _ Try.func60 rfl rfl my1 (signs1_fn ([(((l.getD i []).getD j 0) - (1 : Int))]) _ _ (ed d0 rfl rfl rfl) (by first | omega | exact sg_in (by omega) | (simp; done)) (by first | omega | exact sg_in (by omega) | (simp; done))))) (gE2 ok18 fun a22 s16 ok19 D14 => ?_))))); have q114 := D14.kt (D13.kt q96 rfl) rfl; have o38 := OwnPT.k0 o36 D14.stp; have o39 := Own.k0 o37 D14.stp
       refine tL ok19 (y_callL (L := [40, 41]) [(5, 40), (6, 41)] [(40, 5), (41, 6)] #[a22.eval (.tmp 3), a22.eval (.tmp 40)] rfl (by decide) Try.func45 rfl rfl my2 (writeString_fn (x1) (bv) (ny) (ov) ((bsL (signsB ([(((l.getD i []).getD j 0) - (1 : Int))])))) _ (GW.low_lend _ (by decide)) _ _ (Ty.up _ (GW.le_lend _ _) q114) (Ty.up _ (GW.le_lend _ _) (D14.dn 3 (by decide) rfl rfl)) (OwnPT.ren (ownpt_cell 0 (Ty.val (bAddr (ny) (x1))) o38 rfl (fun _ _ h => (cvt (by (first | rfl | omega | (simp_all; done) | (simp_all; omega))) h))) (GW.ren_lend _ _ (by decide) rfl)) (Own.ren (cvo (by (simp)) (by (simp)) o39) (GW.ren_lend _ _ (by decide) rfl)) (by omega) (by omega))) fun a23 s17 hs3 ok20 r3 sm3 => ?_
       have F20 := ((F17.step0 D13.stp).step0 D14.stp).stepL hs3 (by decide); have q120 := kpL hs3 (by decide) (sm3 33 (by decide)) (D14.kt (D13.kt q93 rfl) rfl); have q121 := kpL hs3 (by decide) (sm3 10 (by decide)) (D14.kt (D13.kt q94 rfl) rfl); have q122 := kpL hs3 (by decide) (sm3 0 (by decide)) (D14.kt (D13.kt q95 rfl) rfl); have q123 := kpL hs3 (by decide) (sm3 3 (by decide)) q114; have q124 := kpL hs3 (by decide) (sm3 8 (by decide)) (D14.kt (D13.kt q97 rfl) rfl); have q125 := kpL hs3 (by decide) (sm3 9 (by decide)) (D14.kt (D13.kt q98 rfl) rfl); have q126 := kpL hs3 (by decide) (sm3 31 (by decide)) (D14.kt (D13.kt q99 rfl) rfl); have q127 := kpL hs3 (by decide) (sm3 32 (by decide)) (D14.kt (D13.kt (D12.kt q92 rfl) rfl) rfl)
       obtain ⟨t9, ⟨x4, hT3, o40, o41⟩, B3⟩ := r3
       have q128 : At (Ty.tup2 (Ty.nat (ByteArray.size ((bsL (signsB ([(((l.getD i []).getD j 0) - (1 : Int))])))))) (Ty.val Value.nilIface)) s17 a23 (.tmp 41) := Ty.up _ B3.le hT3
       have o42 : OwnPT 80 s17 5 x1 [(Ty.val (bAddr false (x1))), (Ty.val x4)] := OwnPT.ren o40 (B3.ren (by decide) rfl)
       have o43 : Own s17 6 5 1 x4 (List.length ((ov) ++ (ByteArray.data ((bsL (signsB ([(((l.getD i []).getD j 0) - (1 : Int))]))))).toList)) (List.map Ty.byte ((ov) ++ (ByteArray.data ((bsL (signsB ([(((l.getD i []).getD j 0) - (1 : Int))]))))).toList)) := Own.ren o41 (B3.ren (by decide) rfl)
       refine wpList_nil (bn (tn ?_))
       refine gI a23 s17 ok20 (gT (Ty.nat (j + 1)) rfl (fun G H I J O => rP ((y_add (kp (O 33 rfl) I q120) rfl (w64 (by omega) (by omega))).mono (fun τ _ h => cvi (σ := τ) (by first | omega | exact (Int.natCast_mul _ _).symm) h))) (gS rfl (fun G H I J O d0 => rP (y_move (ed d0 rfl rfl rfl))) (gE ok20 fun a24 s18 ok21 D15 => ?_))); have o44 := OwnPT.k0 o42 D15.stp; have o45 := Own.k0 o43 D15.stp
       exact tn ⟨(l.getD i []).length - ((j + 1)), by omega, s18, (j + 1), (ov ++ [SIGNS.get! ((l.getD i []).getD j 0 - 1).toNat]), false, x4, rfl, (F20.step0 D15.stp), ok21, (cvi (by (first | rfl | omega | (simp_all; done) | (simp_all; omega))) (D15.dn 1 rfl rfl)), (D15.kt q121 rfl), (D15.kt q122 rfl), (D15.kt q123 rfl), (D15.kt q124 rfl), (D15.kt q125 rfl), (D15.kt q126 rfl), (D15.kt q127 rfl), (ownpt_cell 0 (Ty.val (bAddr (false) x1)) o44 rfl (fun _ _ h => (cvt (by (first | rfl | omega | (simp_all; done) | (simp_all; omega))) h))), (cvo (by (rw [sg_one])) (by (rw [sg_one])) o45), tx_s hq (by omega), by omega, rfl⟩
      ·
       refine wp_exit (tx (tx (bx (bn (tn ?_)))))
       refine gI a20 s14 ok17 (gT (Ty.nat (i + 1)) rfl (fun G H I J O => rP ((y_add (kp (O 10 rfl) I q94) rfl (w64 (by omega) (by omega))).mono (fun τ _ h => cvi (σ := τ) (by first | omega | exact (Int.natCast_mul _ _).symm) h))) (gS rfl (fun G H I J O d0 => rP (y_move (ed d0 rfl rfl rfl))) (gE ok17 fun a25 s19 ok22 D16 => ?_))); have o46 := OwnPT.k0 o34 D16.stp; have o47 := Own.k0 o35 D16.stp
       exact tn ⟨l.length - ((i + 1)), by omega, s19, (i + 1), ov, ny, bv, rfl, (F17.step0 D16.stp), ok22, (cvi (by (first | rfl | omega | (simp_all; done) | (simp_all; omega))) (D16.dn 1 rfl rfl)), (D16.kt q95 rfl), (D16.kt q96 rfl), (D16.kt q97 rfl), (D16.kt q98 rfl), (ownpt_cell 0 (Ty.val (bAddr (ny) x1)) o46 rfl (fun _ _ h => (cvt (by (first | rfl | omega | (simp_all; done) | (simp_all; omega))) h))), (cvo (by (simp)) (by (simp)) o47), tx_o hq (by omega) (by omega) hxn, by omega, rfl⟩
  ·
   have hfin := tx_end I (by omega)
   refine wp_exit (tx (tx (bx (tn (wp_seq ?_)))))
   refine gI a6 s4 ok5 (gE2 ok5 fun a26 s20 ok23 D17 => ?_); have o48 := OwnPT.k0 o6 D17.stp; have o49 := Own.k0 o7 D17.stp
   refine tL ok23 (y_callL (L := [40, 41]) [(5, 40), (6, 41)] [(40, 5), (41, 6)] #[a26.eval (.tmp 3)] rfl (by decide) Try.func46 rfl rfl my1 (bString_fn (x1) (bf) (nz) (out) _ (GW.low_lend _ (by decide)) _ (Ty.up _ (GW.le_lend _ _) (D17.kt q16 rfl)) (OwnPT.ren (ownpt_cell 0 (Ty.val (bAddr (nz) (x1))) o48 rfl (fun _ _ h => (cvt (by (first | rfl | omega | (simp_all; done) | (simp_all; omega))) h))) (GW.ren_lend _ _ (by decide) rfl)) (Own.ren (cvo (by (simp)) (by (simp)) o49) (GW.ren_lend _ _ (by decide) rfl)) )) fun a27 s21 hs4 ok24 r4 sm4 => ?_
   have F24 := (F5.step0 D17.stp).stepL hs4 (by decide)
   obtain ⟨t10, hT4, B4⟩ := r4
   have q143 : At (Ty.val (Value.string (bsL (out)))) s21 a27 (.tmp 44) := Ty.up _ B4.le hT4
   refine tL ok24 (Yld.toL (y_as q143)) fun a28 s22 hs5 ok25 r5 sm5 => ?_
   have F25 := F24.stepL hs5 (by decide)
   have q144 : At (Ty.val (Value.string (bsL (out)))) s22 a28 (.tmp 2) := r5
   clear r5; refine wpList_nil (tn (wp_ret ?_))
   exact retL1 rfl ok25 F25 (cvt (by (rw [← hT, ← hfin])) q144)


set_option maxHeartbeats 4000000 in
set_option maxRecDepth 100000 in
theorem plPrint_fn (n : Int) (l : List (List Int)) (σ : GW)  (v0 v1 : Value) (hv0 : Ty.has (Ty.int n) σ v0) (hv1 : Ty.has (Ty.lst Ty.ints l) σ v1)  (hn : -9223372036854775808 ≤ n ∧ n ≤ 9223372036854775807) :
    FnC Try.prog 15 #[v0, v1] σ (Ty.tup2 (Ty.val (Value.string (if plwE n l = 0 then bsL (txB false l) else ByteArray.empty))) (Ty.int (plwE n l))) := by
 refine fn_intro0 Try.func15 rfl Try.ntmps15 (Nat.le_of_ble_eq_true rfl) (fun s0 a0 hle F0 ok0 hargs => ?_)
 have p0 := pA hle (hargs 0 _ rfl) hv0
 have p1 := pA hle (hargs 1 _ rfl) hv1
 have b1 := sl_le p1
 clear hargs; refine wp_seq ?_
 refine gI a0 s0 ok0 (gC (Ty.val (Value.string (ByteArray.mk #[]))) (gC (Ty.int (0 : Int)) (gE ok0 fun a1 s1 ok1 D1 => ?_))); have q2 := D1.kt p1 rfl; refine tn (wp_seq (wp_seq ?_))
 refine gI a1 s1 ok1 (gM q2 (gS rfl (fun G H I J O d0 => rP (y_len Try.underlying22 (ed d0 rfl rfl rfl))) (gS rfl (fun G H I J O d0 => rP (y_lss (ed d0 rfl rfl rfl) rfl)) (gS rfl (fun G H I J O d0 => rP (y_move (ed d0 rfl rfl rfl))) (gS rfl (fun G H I J O d0 => gu J (ed d0 rfl rfl rfl) fun hg => y_move (kp (O 1 rfl) I q2)) (gS rfl (fun G H I J O d0 d1 => gu J (ed d1 rfl rfl rfl) fun hg => y_len Try.underlying22 ((ed d0 rfl rfl rfl).1 hg)) (gS rfl (fun G H I J O d0 d1 => gu J (ed d1 rfl rfl rfl) fun hg => y_gtr ((ed d0 rfl rfl rfl).1 hg) rfl) (gS rfl (fun G H I J O d0 d1 => rP (y_pick_or (ed d0 rfl rfl rfl) rfl (ed d1 rfl rfl rfl))) (gE ok1 fun a2 s2 ok2 D2 => ?_))))))))); have F2 := (F0.step0 D1.stp).step0 D2.stp; have q4 := D2.kt q2 rfl; refine tn ?_
 refine cond_t (D2.dn 7 rfl rfl) (fun c1 => ?_) (fun c1 => ?_)
 ·
  have hn1 : l.length < 1 ∨ 200 < l.length := (by simp only [Bool.or_eq_true, decide_eq_true_eq] at c1; omega)
  refine wp_seq ?_
  refine gI a2 s2 ok2 (gC (Ty.val (Value.string (ByteArray.mk #[]))) (gC (Ty.int (1 : Int)) (gE ok2 fun a3 s3 ok3 D3 => ?_))); refine tn (wp_ret (tr ?_))
  exact retL2 rfl ok3 (F2.step0 D3.stp) (hasT2 (cvt (by (rw [plw_1 hn1]; rfl)) (D3.dn 0 rfl rfl)) (cvi (by (rw [plw_1 hn1])) (D3.dn 1 rfl rfl)))
 ·
  obtain ⟨d1, d2⟩ := Bool.or_eq_false_iff.mp c1
  replace d1 := of_decide_eq_false d1
  replace d2 := of_decide_eq_false d2
  have hn0 : ¬ (l.length < 1 ∨ 200 < l.length) := (by simp only [Bool.or_eq_false_iff, decide_eq_false_iff_not] at c1; omega)
  refine wp_skip (tn (wp_seq (wp_seq ?_)))
  refine gI a2 s2 ok2 (gM q4 (gS rfl (fun G H I J O d0 => rP (y_len Try.underlying22 (ed d0 rfl rfl rfl))) (gT (Ty.int (0 : Int)) rfl (fun G H I J O => rP (y_move rfl)) (gE ok2 fun a4 s4 ok4 D4 => ?_)))); refine tn (wp_block ?_)
  refine loop (fun n1 a5 w1 => ∃ (t1 : GW) (i : Nat), t1.w = w1 ∧ FromL [] s0 t1 ∧ Ok 32 [] a5 ∧ At (Ty.nat i) t1 a5 (.tmp 19) ∧ At (Ty.int n) t1 a5 (.tmp 0) ∧ At (Ty.lst Ty.ints l) t1 a5 (.tmp 1) ∧ At (Ty.lst Ty.ints l) t1 a5 (.tmp 17) ∧ At (Ty.nat (List.length l)) t1 a5 (.tmp 18) ∧ (firstE n (l.drop i) = plwE n l) ∧ (i ≤ l.length) ∧ n1 = l.length - i) (l.length - (0)) ?_ ?_
  ·
   exact ⟨s4, 0, rfl, (F2.step0 D4.stp), ok4, (cvi (by (rfl)) (D4.dn 2 rfl rfl)), (D4.kt (D2.kt (D1.kt p0 rfl) rfl) rfl), (D4.kt q4 rfl), (D4.dn 0 rfl rfl), (D4.dn 1 rfl rfl), plw_0 hn0, by omega, rfl⟩
  ·
   rintro n2 a6 w2 ⟨t2, i, rfl, F5, ok5, q13, q14, q15, q16, q17, hf, hi, rfl⟩
   refine wp_seq ?_
   refine gI a6 t2 ok5 (gS rfl (fun G H I J O => rP (y_lss (kp (O 19 rfl) I q13) (kp (O 18 rfl) I q17))) (gE ok5 fun a7 s5 ok6 D5 => ?_)); have F6 := F5.step0 D5.stp; have q18 := D5.kt q13 rfl; have q20 := D5.kt q15 rfl; have q21 := D5.kt q16 rfl; refine tn (wp_seq ?_)
   refine cond_p (p := (((i : Nat) : Int) < (((List.length l) : Nat) : Int))) (D5.dn 0 rfl rfl) (fun c2 => ?_) (fun c2 => ?_)
   ·
    refine wp_skip (tn (wp_seq (wp_block (wp_seq ?_))))
    refine gI a7 s5 ok6 (gT (Ty.ref [(Ty.lst Ty.int (l.getD i []))]) rfl (fun G H I J O => rP (y_index1 Try.underlying22 Try.inf29 (kp (O 17 rfl) I q21) (kp (O 19 rfl) I q18) (by omega) (lst_get Ty.ints l [] i (by omega)))) (gS rfl (fun G H I J O d0 => rP (y_load Try.underlying29 rfl (ed d0 rfl rfl rfl) rfl)) (gB 0 (gE ok6 fun a8 s6 ok7 D6 => ?_)))); have q25 := D6.kt (D5.kt q14 rfl) rfl; refine tn (wp_seq ?_)
    refine gI a8 s6 ok7 (gM q25 (gM (D6.dn 2 rfl rfl) (gS rfl (fun G H I J O d0 d1 => rP (y_call _ Try.func11 rfl rfl my2 (pCheck_fn (n) ((l.getD i [])) _ _ _ (ed d0 rfl rfl rfl) (ed d1 rfl rfl rfl) (by omega)))) (gB 0 (gE ok7 fun a9 s7 ok8 D7 => ?_))))); have q35 := D7.dn 3 rfl rfl; refine tn (wp_seq ?_)
    refine gI a9 s7 ok8 (gM q35 (gS rfl (fun G H I J O d0 => rP (y_neq (ed d0 rfl rfl rfl) rfl)) (gE ok8 fun a10 s8 ok9 D8 => ?_))); have F9 := ((F6.step0 D6.stp).step0 D7.stp).step0 D8.stp; refine tn ?_
    refine cond_p (p := ((chgMay n ((l.getD i []))) ≠ (0 : Int))) (D8.dn 1 rfl rfl) (fun c3 => ?_) (fun c3 => ?_)
    ·
     have hbd := fE_bad hf (by omega) c3
     refine wp_seq ?_
     refine gI a10 s8 ok9 (gM (D8.kt q35 rfl) (gC (Ty.val (Value.string (ByteArray.mk #[]))) (gB 0 (gE ok9 fun a11 s9 ok10 D9 => ?_)))); refine tn (wp_ret (br (tr (tr (br (tr ?_))))))
     exact retL2 rfl ok10 (F9.step0 D9.stp) (hasT2 (cvt (by (rw [hbd, if_neg c3]; rfl)) (D9.dn 1 rfl rfl)) (cvi (by (rw [hbd])) (D9.dn 2 rfl rfl)))
    ·
     refine wp_skip (bn (tn ?_))
     refine gI a10 s8 ok9 (gT (Ty.nat (i + 1)) rfl (fun G H I J O => rP ((y_add (kp (O 19 rfl) I (D8.kt (D7.kt (D6.kt q18 rfl) rfl) rfl)) rfl (w64 (by omega) (by omega))).mono (fun τ _ h => cvi (σ := τ) (by first | omega | exact (Int.natCast_mul _ _).symm) h))) (gS rfl (fun G H I J O d0 => rP (y_move (ed d0 rfl rfl rfl))) (gE ok9 fun a12 s10 ok11 D10 => ?_)))
     exact tn ⟨l.length - ((i + 1)), by omega, s10, (i + 1), rfl, (F9.step0 D10.stp), ok11, (cvi (by (first | rfl | omega | (simp_all; done) | (simp_all; omega))) (D10.dn 1 rfl rfl)), (D10.kt (D8.kt (D7.kt q25 rfl) rfl) rfl), (D10.kt (D8.kt (D7.kt (D6.kt q20 rfl) rfl) rfl) rfl), (D10.kt (D8.kt (D7.kt (D6.kt q21 rfl) rfl) rfl) rfl), (D10.kt (D8.kt (D7.kt (D6.kt (D5.kt q17 rfl) rfl) rfl) rfl) rfl), fE_go hf (by omega) (by omega), by omega, rfl⟩
   ·
    have hE : plwE n l = 0 := fE_end hf (by omega)
    refine wp_exit (tx (tx (bx (tn (wp_seq ?_)))))
    refine gI a7 s5 ok6 (gM q20 (gS rfl (fun G H I J O d0 => rP (y_call _ Try.func37 rfl rfl my1 (plText_fn (l) _ _ (ed d0 rfl rfl rfl) (by first | omega | assumption | exact (pl_pre hE).1 | exact (pl_pre hE).2) (by first | omega | assumption | exact (pl_pre hE).1 | exact (pl_pre hE).2)))) (gB 0 (gC (Ty.int (0 : Int)) (gE ok6 fun a13 s11 ok12 D11 => ?_))))); refine tn (wp_ret ?_)
    exact retL2 rfl ok12 (F6.step0 D11.stp) (hasT2 (cvt (by (rw [if_pos hE])) (D11.dn 2 rfl rfl)) (cvi (by (rw [hE])) (D11.dn 3 rfl rfl)))

theorem Try.inf22 : Info Try.prog 22 (.slice none 0 0) 1 24 := by unfold Info; kernel_rfl
theorem Try.inf23 : Info Try.prog 23 (.int .i64 0) 1 8 := by unfold Info; kernel_rfl
section
set_option maxHeartbeats 4000000
open Go.RowKit
theorem ta_nil (w : World) : (Instr.typeAssert Value.nilIface 20 60 true).run Try.prog w = .ok (.tuple #[.int .i64 0, .bool false]) w := by kernel_rfl
theorem ta_flt (e : Int) (w : World) : (Instr.typeAssert (Value.iface 60 (.int .i64 e)) 20 60 true).run Try.prog w = .ok (.tuple #[.int .i64 e, .bool true]) w := by kernel_rfl
theorem catch_run (p q : Value) (w : World) : (invoke (.fn (.func 29) #[p, q]) #[]).run Try.prog w = .ok (.enter 29 #[p, q]) w := by kernel_rfl
theorem catch_idle (p q : Addr) (w : World) : CallsD Try.prog 29 #[.pointer (some p), .pointer (some q)] .returning w fun e u' w' => e = .returned (.tuple #[]) ∧ u' = .returning ∧ w' = w := by
  refine callsD_of_wpS Try.func29 rfl fun c₀ cs hu => ?_
  apply wpS_seq
  apply wpS_region
  simp [wpOpsS, go_sem, recoverD, hu, Try.ntmps29, Exit.thenS, ta_nil]
  apply wpS_seq
  apply wpS_region
  simp [wpOpsS, go_sem, Exit.thenS]
  refine wpS_cond (t := false) (by simp [Act.eval, Array.replicate]) ?_
  simp
  refine wpS_of_wp (wp_skip ?_)
  cases c₀
  simp_all [bodyPostS, results, Try.results29, Exit.thenS]
theorem catch_hit (p q : Value) (k l : Nat) (U1 U2 : Ty) (e : Int) (σ : GW) (hk : 2 ≤ k) (hl : 2 ≤ l) (hkl : k ≠ l) (h1 : OwnP σ k p [U1]) (h2 : OwnP σ l q [U2]) :
    CallsD Try.prog 29 #[p, q] (.panicking (fltC 60 e)) σ.w fun x u' w' => x = .returned (.tuple #[]) ∧ u' = .panicking [{ v := .iface 60 (.int .i64 e), recovered := true }] ∧ ∃ τ : GW, τ.w = w' ∧ StpL [k, l] σ τ ∧ OwnP τ k p [Ty.val (.slice none 0 0)] ∧ OwnP τ l q [Ty.int e] := by
  refine callsD_of_wpS Try.func29 rfl fun c₀ cs hu => ?_
  obtain ⟨cs', hcs⟩ : ∃ cs', cs' = { c₀ with mode := .panicking [{ v := .iface 60 (.int .i64 e), recovered := true }] } :: cs := ⟨_, rfl⟩
  have hrec : recoverD (c₀ :: cs) = some (.iface 60 (.int .i64 e), cs') := by
    rw [hcs]; simp only [recoverD, hu, fltC]
  generalize hQ : bodyPostS Try.prog Try.f29 c₀ cs _ = Q0
  apply wpS_seq
  apply wpS_region
  simp [wpOpsS, go_sem, hrec, Try.ntmps29, Exit.thenS, ta_flt]
  generalize hA : Act.mk _ _ = A
  have e0 : A.eval (.tmp 0) = p := by rw [← hA]; simp [Act.eval, Array.replicate]
  have e1 : A.eval (.tmp 1) = q := by rw [← hA]; simp [Act.eval, Array.replicate]
  have e2 : A.eval (.tmp 2) = .int .i64 e := by rw [← hA]; simp [Act.eval, Array.replicate]
  have e3 : A.eval (.tmp 3) = .bool true := by rw [← hA]; simp [Act.eval, Array.replicate]
  have okA : Ok 11 [] A := ⟨by rw [← hA]; simp [Array.replicate], by rw [← hA]⟩
  clear hA
  apply wpS_seq
  apply wpS_region
  show wpOpsS _ _ _ [0] _ _ _
  refine wpS_op rfl rfl (y_move (R := (Ty.bool true).pr) (σ := σ) e3 _ _ fun v0 s0 hs0 r0 => ?_)
  obtain rfl : v0 = .bool true := r0
  have okB := okA.put (some 9) (.bool true)
  have f9 := eval_put_same okA (d := 9) (by decide) (.bool true)
  have f0 := (eval_put_ne (a := A) (d := some 9) (t := 0) (by decide) (.bool true)).trans e0
  have f1 := (eval_put_ne (a := A) (d := some 9) (t := 1) (by decide) (.bool true)).trans e1
  have f2 := (eval_put_ne (a := A) (d := some 9) (t := 2) (by decide) (.bool true)).trans e2
  generalize A.put (some 9) (.bool true) = B at okB f9 f0 f1 f2 ⊢
  show Code.wpS _ _ _ _ _ _
  refine wpS_cond (t := true) f9 ?_
  rw [if_pos rfl]
  apply wpS_region
  show wpOpsS _ _ _ [0, 1, 2] _ _ _
  refine wpS_op rfl rfl (y_move (R := (Ty.int e).pr) (σ := s0) f2 _ _ fun v1 s1 hs1 r1 => ?_)
  obtain rfl : v1 = .int .i64 e := r1
  have okC := okB.put (some 10) (.int .i64 e)
  have g10 := eval_put_same okB (d := 10) (by decide) (.int .i64 e)
  have g0 := (eval_put_ne (a := B) (d := some 10) (t := 0) (by decide) (.int .i64 e)).trans f0
  have g1 := (eval_put_ne (a := B) (d := some 10) (t := 1) (by decide) (.int .i64 e)).trans f1
  generalize B.put (some 10) (.int .i64 e) = C at okC g10 g0 g1 ⊢
  have o1 := (h1.k0 hs0).k0 hs1; have o2 := (h2.k0 hs0).k0 hs1
  refine wpS_op rfl rfl (m_storep (k := k) (v := p) (T := Ty.val (.slice none 0 0)) Try.inf22 hk o1 (ptr0 o1 g0) Nat.one_pos (by exact rfl) (one_val rfl) _ _ fun v2 s2 hs2 o3 => ?_)
  have o4 := o2.keep hs2 (by omega) (.inr (fun e_ => hkl e_.symm))
  refine wpS_op rfl rfl (m_storep (k := l) (v := q) (T := Ty.int e) Try.inf23 hl o4 (ptr0 o4 g1) Nat.one_pos g10 (one_val rfl) _ _ fun v3 s3 hs3 o5 => ?_)
  have o6 := o3.keep hs3 (by omega) (.inr hkl)
  subst hQ
  refine ⟨okC.defers, _, hcs, .tuple #[], by simp [results, Try.results29], rfl, rfl, s3, rfl, ?_, o6, o5⟩
  exact (hs0.toL0.trans hs1.toL0).trans ((hs2.toL (by simp)).trans (hs3.toL (by simp)))
theorem catch_fn : Catch Try.prog 29 60 := ⟨catch_run, catch_idle, catch_hit⟩
end


set_option maxHeartbeats 4000000 in
set_option maxRecDepth 100000 in
theorem isNaN_fn (x : Int) (σ : GW)  (v0 : Value) (hv0 : Ty.has (Ty.int x) σ v0)   :
    FnC Try.prog 101 #[v0] σ (Ty.bool false) := by
 refine fn_intro0 Try.func101 rfl Try.ntmps101 (Nat.le_of_ble_eq_true rfl) (fun s0 a0 hle F0 ok0 hargs => ?_)
 have p0 := pA hle (hargs 0 _ rfl) hv0
 clear hargs; refine wp_seq ?_
 refine gI a0 s0 ok0 (gC (Ty.bool false) (gE ok0 fun a1 s1 ok1 D1 => ?_)); have q1 := D1.kt p0 rfl; refine tn (wp_seq ?_)
 refine gI a1 s1 ok1 (gM q1 (gM q1 (gS rfl (fun G H I J O d0 d1 => rP (y_neq (ed d0 rfl rfl rfl) (ed d1 rfl rfl rfl))) (gB 0 (gE ok1 fun a2 s2 ok2 D2 => ?_))))); refine tn (wp_ret ?_)
 exact retL1 rfl ok2 ((F0.step0 D1.stp).step0 D2.stp) (cvb (by (simp)) (D2.dn 3 rfl rfl))


set_option maxHeartbeats 4000000 in
set_option maxRecDepth 100000 in
theorem lessInt_fn (x : Int) (y : Int) (σ : GW)  (v0 v1 : Value) (hv0 : Ty.has (Ty.int x) σ v0) (hv1 : Ty.has (Ty.int y) σ v1)   :
    FnC Try.prog 87 #[v0, v1] σ (Ty.bool (decide (x < y))) := by
 refine fn_intro0 Try.func87 rfl Try.ntmps87 (Nat.le_of_ble_eq_true rfl) (fun s0 a0 hle F0 ok0 hargs => ?_)
 have p0 := pA hle (hargs 0 _ rfl) hv0
 have p1 := pA hle (hargs 1 _ rfl) hv1
 clear hargs; refine wp_seq ?_
 refine gI a0 s0 ok0 (gC (Ty.bool false) (gE ok0 fun a1 s1 ok1 D1 => ?_)); have q1 := D1.kt p0 rfl; have q2 := D1.kt p1 rfl; refine tn (wp_seq ?_)
 refine gI a1 s1 ok1 (gM q1 (gS rfl (fun G H I J O d0 => rP (y_call _ Try.func101 rfl rfl my1 (isNaN_fn (x) _ _ (ed d0 rfl rfl rfl) ))) (gS rfl (fun G H I J O d0 d1 => rP (y_move (ed d0 rfl rfl rfl))) (gS rfl (fun G H I J O d0 => gu J (ed d0 rfl rfl rfl) fun hg => y_move (kp (O 1 rfl) I q2)) (gS rfl (fun G H I J O d0 d1 d2 => gu J (ed d1 rfl rfl rfl) fun hg => y_call _ Try.func101 rfl rfl my1 (isNaN_fn (y) _ _ (cvi (σ := H) (by omega) ((ed d0 rfl rfl rfl).1 hg)) )) (gS rfl (fun G H I J O d0 d1 => gu J (ed d1 rfl rfl rfl) fun hg => y_not ((ed d0 rfl rfl rfl).1 hg)) (gT (Ty.bool false) rfl (fun G H I J O d0 d1 => rP (y_pickF (ed d0 rfl rfl rfl) rfl)) (gS rfl (fun G H I J O d0 d1 => rP (y_move (ed d0 rfl rfl rfl))) (gS rfl (fun G H I J O d0 => gu J (ed d0 rfl rfl rfl) fun hg => y_move (kp (O 0 rfl) I q1)) (gS rfl (fun G H I J O d0 => gu J (ed d0 rfl rfl rfl) fun hg => y_move (kp (O 1 rfl) I q2)) (gS rfl (fun G H I J O d0 d1 d2 => gu J (ed d2 rfl rfl rfl) fun hg => y_lss ((ed d0 rfl rfl rfl).1 hg) ((ed d1 rfl rfl rfl).1 hg)) (gS rfl (fun G H I J O d0 d1 => rP (y_pick_or (ed d0 rfl rfl rfl) rfl (ed d1 rfl rfl rfl))) (gB 0 (gE ok1 fun a2 s2 ok2 D2 => ?_)))))))))))))); refine tn (wp_ret ?_)
 exact retL1 rfl ok2 ((F0.step0 D1.stp).step0 D2.stp) (cvb (by (simp)) (D2.dn 12 rfl rfl))


set_option maxHeartbeats 4000000 in
set_option maxRecDepth 100000 in
theorem isSortedO_fn (x : Value) (xs : List Int) (σ : GW) (hlow : Low [40] σ) (v0 : Value) (hv0 : Ty.has (Ty.val x) σ v0) (ho_x : Own σ 40 3 1 x (List.length xs) (List.map Ty.int xs)) (hx : 1 ≤ xs.length) (hx2 : xs.length ≤ 1000000) :
    FnL Try.prog 67 #[v0] σ [40] (fun v τ => (Ty.has (Ty.bool (sortB xs)) τ v) ∧ (Own τ 40 3 1 x (List.length xs) (List.map Ty.int xs))) := by
 refine fn_introL hlow Try.func67 rfl Try.ntmps67 (Nat.le_of_ble_eq_true rfl) (fun a0 F0 ok0 hargs => ?_)
 have p0 := pB (hargs 0 _ rfl) hv0
 clear hargs; refine wp_seq ?_
 refine gI a0 σ ok0 (gC (Ty.bool false) (gE ok0 fun a1 s1 ok1 D1 => ?_)); have q1 := D1.kt p0 rfl; have o1 := Own.k0 ho_x D1.stp; refine tn (wp_seq (wp_seq ?_))
 refine gI a1 s1 ok1 (gM q1 (gT (Ty.nat (List.length xs)) rfl (fun G H I J O d0 => rP (own_len Try.underlying29 (al (R := (Pr.own 40 3 1 (List.length xs) (List.map Ty.int xs))) (ed d0 rfl rfl rfl) (Own.k0 o1 I)))) (gT (Ty.nat ((List.length xs) - 1)) rfl (fun G H I J O d0 => rP ((y_sub (ed d0 rfl rfl rfl) rfl (w64 (by omega) (by omega))).mono (fun τ _ h => cvi (σ := τ) (by omega) h))) (gB 0 (gE ok1 fun a2 s2 ok2 D2 => ?_))))); have o2 := Own.k0 o1 D2.stp; refine tn (wp_block ?_)
 refine loop (fun n1 a3 w1 => ∃ (t1 : GW) (i : Nat), t1.w = w1 ∧ FromL [40] σ t1 ∧ Ok 21 [] a3 ∧ At (Ty.nat i) t1 a3 (.tmp 3) ∧ At (Ty.val x) t1 a3 (.tmp 0) ∧ Own t1 40 3 1 x (List.length xs) (List.map Ty.int xs) ∧ (i + 1 ≤ xs.length) ∧ (∀ k, i ≤ k → k + 1 < xs.length → xs.getD k 0 ≤ xs.getD (k + 1) 0) ∧ n1 = i + 1) (((xs.length - 1)) + 1) ?_ ?_
 ·
  exact ⟨s2, (xs.length - 1), rfl, ((F0.step0 D1.stp).step0 D2.stp), ok2, (cvi (by (first | rfl | omega | (simp_all; done) | (simp_all; omega))) (D2.dn 3 rfl rfl)), (D2.kt q1 rfl), o2, by omega, fun k h1 h2 => by omega, rfl⟩
 ·
  rintro n2 a4 w2 ⟨t2, i, rfl, F3, ok3, q4, q5, o3, hi, I, rfl⟩
  refine wp_seq (wp_seq ?_)
  refine gI a4 t2 ok3 (gM q4 (gS rfl (fun G H I J O d0 => rP (y_gtr (ed d0 rfl rfl rfl) rfl)) (gE ok3 fun a5 s3 ok4 D3 => ?_))); have F4 := F3.step0 D3.stp; have q6 := D3.kt q4 rfl; have q7 := D3.kt q5 rfl; have o4 := Own.k0 o3 D3.stp; refine tn ?_
  refine cond_p (p := ((0 : Int) < ((i : Nat) : Int))) (D3.dn 1 rfl rfl) (fun c1 => ?_) (fun c1 => ?_)
  ·
   refine wp_skip (tn (wp_seq (wp_block (wp_seq ?_))))
   refine gI a5 s3 ok4 (gM q7 (gM q6 (gT (Ty.val (cellPtr x i)) rfl (fun G H I J O d0 d1 => rP (own_index1 (i := ((i : Nat) : Int)) Try.underlying29 Try.inf3 (Own.k0 o4 I) (ed d0 rfl rfl rfl) (ed d1 rfl rfl rfl) (by omega) (by omega))) (gS rfl (fun G H I J O d0 => rP (own_load Try.underlying3 rfl (Own.k0 o4 I) (ed d0 rfl rfl rfl) (lst_get Ty.int xs 0 i (by omega)))) (gM q7 (gM q6 (gT (Ty.nat (i - 1)) rfl (fun G H I J O d0 => rP ((y_sub (ed d0 rfl rfl rfl) rfl (w64 (by omega) (by omega))).mono (fun τ _ h => cvi (σ := τ) (by omega) h))) (gT (Ty.val (cellPtr x (i - 1))) rfl (fun G H I J O d0 d1 => rP (own_index1 (i := (((i - 1) : Nat) : Int)) Try.underlying29 Try.inf3 (Own.k0 o4 I) (ed d0 rfl rfl rfl) (ed d1 rfl rfl rfl) (by omega) (by omega))) (gS rfl (fun G H I J O d0 => rP (own_load Try.underlying3 rfl (Own.k0 o4 I) (ed d0 rfl rfl rfl) (lst_get Ty.int xs 0 (i - 1) (by omega)))) (gS rfl (fun G H I J O d0 d1 => rP (y_call _ Try.func87 rfl rfl my2 (lessInt_fn ((xs.getD i 0)) ((xs.getD (i - 1) 0)) _ _ _ (cvi (σ := H) (by omega) (ed d0 rfl rfl rfl)) (cvi (σ := H) (by omega) (ed d1 rfl rfl rfl)) ))) (gE ok4 fun a6 s4 ok5 D4 => ?_))))))))))); have F5 := F4.step0 D4.stp; have o5 := Own.k0 o4 D4.stp; refine tn ?_
   refine cond_t (D4.dn 9 rfl rfl) (fun c2 => ?_) (fun c2 => ?_)
   ·
    have c2_ := of_decide_eq_true c2
    refine wp_seq ?_
    refine gI a6 s4 ok5 (gC (Ty.bool false) (gE ok5 fun a7 s5 ok6 D5 => ?_)); have o6 := Own.k0 o5 D5.stp; refine tn (wp_ret (br (tr (tr (br (tr ?_))))))
    exact retL1 rfl ok6 (F5.step0 D5.stp) ⟨(cvb (by (exact (sortB_no (k := i - 1) (by omega) (by rw [show i - 1 + 1 = i by omega]; omega)).symm)) (D5.dn 0 rfl rfl)), o6⟩
   ·
    have c2_ := of_decide_eq_false c2
    refine wp_skip (bn (tn ?_))
    refine gI a6 s4 ok5 (gM (D4.kt q6 rfl) (gT (Ty.nat (i - 1)) rfl (fun G H I J O d0 => rP ((y_sub (ed d0 rfl rfl rfl) rfl (w64 (by omega) (by omega))).mono (fun τ _ h => cvi (σ := τ) (by omega) h))) (gB 0 (gE ok5 fun a8 s6 ok7 D6 => ?_)))); have o7 := Own.k0 o5 D6.stp
    exact tn ⟨((i - 1)) + 1, by omega, s6, (i - 1), rfl, (F5.step0 D6.stp), ok7, (cvi (by (first | rfl | omega | (simp_all; done) | (simp_all; omega))) (D6.dn 2 rfl rfl)), (D6.kt (D4.kt q7 rfl) rfl), o7, by omega, fun k h1 h2 => by (by_cases e : k = i - 1; (subst e; rw [show i - 1 + 1 = i by omega]; omega); exact I k (by omega) h2), rfl⟩
  ·
   refine wp_exit (tx (tx (bx (tn (wp_seq ?_)))))
   refine gI a5 s3 ok4 (gC (Ty.bool true) (gE ok4 fun a9 s7 ok8 D7 => ?_)); have o8 := Own.k0 o4 D7.stp; refine tn (wp_ret ?_)
   exact retL1 rfl ok8 (F4.step0 D7.stp) ⟨(cvb (by (exact ((sortB_iff xs).2 fun k h2 => I k (by omega) h2).symm)) (D7.dn 0 rfl rfl)), o8⟩


set_option maxHeartbeats 4000000 in
set_option maxRecDepth 100000 in
theorem cloneO_fn (x : Value) (xs : List Int) (σ : GW) (hlow : Low [40] σ) (v0 : Value) (hv0 : Ty.has (Ty.val x) σ v0) (ho_x : Own σ 40 3 1 x (List.length xs) (List.map Ty.int xs)) (hx1 : 1 ≤ xs.length) (hx2 : xs.length ≤ 1000000) :
    FnL Try.prog 55 #[v0] σ [40] (fun v τ => ∃ (z : Value), (Ty.has (Ty.val z) τ v) ∧ (Own τ 40 3 1 x (List.length xs) (List.map Ty.int xs)) ∧ (Own τ 41 3 1 z (List.length xs) (List.map Ty.int xs))) := by
 refine fn_introL hlow Try.func55 rfl Try.ntmps55 (Nat.le_of_ble_eq_true rfl) (fun a0 F0 ok0 hargs => ?_)
 have p0 := pB (hargs 0 _ rfl) hv0
 clear hargs; refine wp_seq ?_
 refine gI a0 σ ok0 (gC (Ty.val (Value.slice none 0 0)) (gE ok0 fun a1 s1 ok1 D1 => ?_)); have q1 := D1.kt p0 rfl; have o1 := Own.k0 ho_x D1.stp; refine tn (wp_seq (wp_seq ?_))
 refine gI a1 s1 ok1 (gM q1 (gT (Ty.bool false) rfl (fun G H I J O d0 => rP (y_ownnil Try.underlying29 (Own.k0 o1 I) (by omega) (ed d0 rfl rfl rfl) rfl)) (gE ok1 fun a2 s2 ok2 D2 => ?_))); have o2 := Own.k0 o1 D2.stp; refine tn ?_
 refine cond_t (D2.dn 1 rfl rfl) (fun c1 => (by cases c1)) (fun _ => ?_)
 refine wp_skip (tn (wp_seq ?_))
 refine gI a2 s2 ok2 (gR (Pr.own 41 3 1 0 (List.map Ty.int ([] : List Int))) rfl (by intro G H I J O; exact rP ((y_lit0 (k := 41) Try.underlying29 Try.inf3).mono (fun _ _ h => cvo (by simp) (by simp) h))) (gM (D2.kt q1 rfl) (gE2 ok2 fun a3 s3 ok3 D3 => ?_))); have o3 := Own.k0 o2 D3.stp
 obtain ⟨x1, hx1⟩ : ∃ x, a3.eval (.tmp 5) = x := ⟨_, rfl⟩
 have q4 : At (Ty.val x1) s3 a3 (.tmp 5) := hx1
 have o4 := al2 (R := (Pr.own 41 3 1 0 (List.map Ty.int ([] : List Int)))) hx1 (D3.done 0 (by decide))
 have q5 : At (Ty.val x) s3 a3 (.tmp 6) := D3.done 1 (by decide)
 refine tL (R := (fun v τ => Own τ 41 3 1 v (0 + (List.length xs)) ((List.map Ty.int ([] : List Int)) ++ (List.map Ty.int xs)))) ok3 (YldM.toL (m_appendo Try.underlying29 Try.inf3 (by decide) rfl (by decide) (al (R := (Pr.own 41 3 1 0 (List.map Ty.int ([] : List Int)))) q4 o4) (al (R := (Pr.own 40 3 1 (List.length xs) (List.map Ty.int xs))) q5 o3) (one_map (fun _ => one_val rfl)) (by omega) (by omega))) fun a4 s4 hs1 ok4 r1 sm1 => ?_
 have F4 := (((F0.step0 D1.stp).step0 D2.stp).step0 D3.stp).stepL hs1 (by decide); have o6 := Own.keepL o3 hs1 (by decide) (by decide)
 obtain ⟨x2, hx2⟩ : ∃ x, a4.eval (.tmp 7) = x := ⟨_, rfl⟩
 have q6 : At (Ty.val x2) s4 a4 (.tmp 7) := hx2
 have o5 := al2 (R := (Pr.own 41 3 1 (List.length xs) (List.map Ty.int xs))) hx2 (cvo (by simp) (by first | (rw [List.map_append]; rfl) | simp) r1)
 clear r1
 refine tL ok4 (Yld.toL (y_as q6)) fun a5 s5 hs2 ok5 r2 sm2 => ?_
 have F5 := F4.stepL hs2 (by decide); have o7 := Own.keepL o6 hs2 (by decide) (by decide); have o8 := Own.keepL o5 hs2 (by decide) (by decide)
 have q7 : At (Ty.val x2) s5 a5 (.tmp 2) := r2
 clear r2; refine wpList_nil (tn (wp_ret ?_))
 exact retL1 rfl ok5 F5 ⟨x2, q7, o7, o8⟩


set_option maxHeartbeats 4000000 in
set_option maxRecDepth 100000 in
theorem compact_fn (x : Value) (xs : List Int) (σ : GW) (hlow : Low [40] σ) (v0 : Value) (hv0 : Ty.has (Ty.val x) σ v0) (ho_x : Own σ 40 3 1 x (List.length xs) (List.map Ty.int xs)) (hx : xs.length ≤ 1000000) (hx1 : 1 ≤ xs.length) :
    FnL Try.prog 68 #[v0] σ [40] (fun v τ => ∃ (zs : List Int), ∃ (z : Value), (Ty.has (Ty.val z) τ v) ∧ (Own τ 40 3 1 z (List.length zs) (List.map Ty.int zs)) ∧ ((dupB xs = false → zs.length = xs.length) ∧ (dupB xs = true → zs.length < xs.length))) := by
 refine fn_introL hlow Try.func68 rfl Try.ntmps68 (Nat.le_of_ble_eq_true rfl) (fun a0 F0 ok0 hargs => ?_)
 have p0 := pB (hargs 0 _ rfl) hv0
 clear hargs; refine wp_seq ?_
 refine gI a0 σ ok0 (gC (Ty.val (Value.slice none 0 0)) (gE ok0 fun a1 s1 ok1 D1 => ?_)); have q1 := D1.kt p0 rfl; have o1 := Own.k0 ho_x D1.stp; refine tn (wp_seq (wp_seq ?_))
 refine gI a1 s1 ok1 (gM q1 (gT (Ty.nat (List.length xs)) rfl (fun G H I J O d0 => rP (own_len Try.underlying29 (al (R := (Pr.own 40 3 1 (List.length xs) (List.map Ty.int xs))) (ed d0 rfl rfl rfl) (Own.k0 o1 I)))) (gS rfl (fun G H I J O d0 => rP (y_lss (ed d0 rfl rfl rfl) rfl)) (gE ok1 fun a2 s2 ok2 D2 => ?_)))); have F2 := (F0.step0 D1.stp).step0 D2.stp; have q2 := D2.kt q1 rfl; have o2 := Own.k0 o1 D2.stp; refine tn ?_
 refine cond_p (p := ((((List.length xs) : Nat) : Int) < (2 : Int))) (D2.dn 2 rfl rfl) (fun c1 => ?_) (fun c1 => ?_)
 ·
  refine wp_seq ?_
  refine gI a2 s2 ok2 (gM q2 (gB 0 (gE ok2 fun a3 s3 ok3 D3 => ?_))); have o3 := Own.k0 o2 D3.stp
  have q4 : At (Ty.val x) s3 a3 (.tmp 2) := D3.done 1
  refine tn (wp_ret (tr ?_))
  exact retL1 rfl ok3 (F2.step0 D3.stp) ⟨xs, x, q4, (cvo (by (simp)) (by (simp)) o3), (by exact ⟨fun _ => rfl, fun h_ => by (rw [(dupB_iff xs).2 fun k h => by omega] at h_; cases h_)⟩)⟩
 ·
  refine wp_skip (tn (wp_seq (wp_seq ?_)))
  refine gI a2 s2 ok2 (gC (Ty.int (1 : Int)) (gE ok2 fun a4 s4 ok4 D4 => ?_)); have o4 := Own.k0 o2 D4.stp; refine tn (wp_block ?_)
  refine loop (fun n1 a5 w1 => ∃ (t1 : GW) (i : Nat), t1.w = w1 ∧ FromL [40] σ t1 ∧ Ok 61 [] a5 ∧ At (Ty.nat i) t1 a5 (.tmp 3) ∧ At (Ty.val x) t1 a5 (.tmp 0) ∧ Own t1 40 3 1 x (List.length xs) (List.map Ty.int xs) ∧ (1 ≤ i ∧ i ≤ xs.length) ∧ (∀ k, k + 1 < i → xs.getD k 0 ≠ xs.getD (k + 1) 0) ∧ n1 = xs.length - i) (xs.length - (1)) ?_ ?_
  ·
   exact ⟨s4, 1, rfl, (F2.step0 D4.stp), ok4, (cvi (by (rfl)) (D4.dn 0 rfl rfl)), (D4.kt q2 rfl), o4, by omega, fun k h => by omega, rfl⟩
  ·
   rintro n2 a6 w2 ⟨t2, i, rfl, F5, ok5, q7, q8, o5, hi, I, rfl⟩
   refine wp_seq (wp_seq ?_)
   refine gI a6 t2 ok5 (gM q7 (gM q8 (gT (Ty.nat (List.length xs)) rfl (fun G H I J O d0 => rP (own_len Try.underlying29 (al (R := (Pr.own 40 3 1 (List.length xs) (List.map Ty.int xs))) (ed d0 rfl rfl rfl) (Own.k0 o5 I)))) (gS rfl (fun G H I J O d0 d1 => rP (y_lss (ed d0 rfl rfl rfl) (ed d1 rfl rfl rfl))) (gE ok5 fun a7 s5 ok6 D5 => ?_))))); have F6 := F5.step0 D5.stp; have q9 := D5.kt q7 rfl; have q10 := D5.kt q8 rfl; have o6 := Own.k0 o5 D5.stp; refine tn ?_
   refine cond_p (p := (((i : Nat) : Int) < (((List.length xs) : Nat) : Int))) (D5.dn 3 rfl rfl) (fun c2 => ?_) (fun c2 => ?_)
   ·
    refine wp_skip (tn (wp_seq (wp_block (wp_seq ?_))))
    refine gI a7 s5 ok6 (gM q10 (gM q9 (gT (Ty.val (cellPtr x i)) rfl (fun G H I J O d0 d1 => rP (own_index1 (i := ((i : Nat) : Int)) Try.underlying29 Try.inf3 (Own.k0 o6 I) (ed d0 rfl rfl rfl) (ed d1 rfl rfl rfl) (by omega) (by omega))) (gS rfl (fun G H I J O d0 => rP (own_load Try.underlying3 rfl (Own.k0 o6 I) (ed d0 rfl rfl rfl) (lst_get Ty.int xs 0 i (by omega)))) (gM q10 (gM q9 (gT (Ty.nat (i - 1)) rfl (fun G H I J O d0 => rP ((y_sub (ed d0 rfl rfl rfl) rfl (w64 (by omega) (by omega))).mono (fun τ _ h => cvi (σ := τ) (by omega) h))) (gT (Ty.val (cellPtr x (i - 1))) rfl (fun G H I J O d0 d1 => rP (own_index1 (i := (((i - 1) : Nat) : Int)) Try.underlying29 Try.inf3 (Own.k0 o6 I) (ed d0 rfl rfl rfl) (ed d1 rfl rfl rfl) (by omega) (by omega))) (gS rfl (fun G H I J O d0 => rP (own_load Try.underlying3 rfl (Own.k0 o6 I) (ed d0 rfl rfl rfl) (lst_get Ty.int xs 0 (i - 1) (by omega)))) (gS rfl (fun G H I J O d0 d1 => rP (y_eql (ed d0 rfl rfl rfl) (ed d1 rfl rfl rfl))) (gE ok6 fun a8 s6 ok7 D6 => ?_))))))))))); have F7 := F6.step0 D6.stp; have q12 := D6.kt q9 rfl; have q13 := D6.kt q10 rfl; have o7 := Own.k0 o6 D6.stp; refine tn ?_
    refine cond_p (p := ((xs.getD i 0) = (xs.getD (i - 1) 0))) (D6.dn 9 rfl rfl) (fun c3 => ?_) (fun c3 => ?_)
    ·
     refine wp_seq ?_
     refine gI a8 s6 ok7 (gM q13 (gM q12 (gT (Ty.val (sufOf x i)) rfl (fun G H I J O d0 d1 => rP (y_suf (j := i) Try.underlying29 Try.inf3 (Own.k0 o7 I) (ed d0 rfl rfl rfl) (ed d1 rfl rfl rfl) (by omega))) (gB 0 (gE ok7 fun a9 s7 ok8 D7 => ?_))))); have o8 := Own.k0 o7 D7.stp; refine tn (wp_seq (wp_seq ?_))
     refine gI a9 s7 ok8 (gC (Ty.int (1 : Int)) (gE ok8 fun a10 s8 ok9 D8 => ?_)); have o9 := Own.k0 o8 D8.stp; refine tn (wp_block ?_)
     refine loop (fun n3 a11 w3 => ∃ (t3 : GW) (ys : List Int) (j : Nat) (q : Nat), t3.w = w3 ∧ FromL [40] σ t3 ∧ Ok 61 [] a11 ∧ At (Ty.nat j) t3 a11 (.tmp 3) ∧ At (Ty.nat q) t3 a11 (.tmp 5) ∧ At (Ty.val x) t3 a11 (.tmp 0) ∧ At (Ty.val (sufOf x i)) t3 a11 (.tmp 4) ∧ Own t3 40 3 1 x (List.length ys) (List.map Ty.int ys) ∧ (ys.length = xs.length) ∧ (1 ≤ q ∧ q ≤ xs.length - i) ∧ (j + 1 ≤ i + q) ∧ n3 = xs.length - q) (xs.length - (1)) ?_ ?_
     ·
      exact ⟨s8, xs, i, 1, rfl, ((F7.step0 D7.stp).step0 D8.stp), ok9, (cvi (by (first | rfl | omega | (simp_all; done) | (simp_all; omega))) (D8.kt (D7.kt q12 rfl) rfl)), (cvi (by (rfl)) (D8.dn 0 rfl rfl)), (D8.kt (D7.kt q13 rfl) rfl), (D8.kt (D7.dn 3 rfl rfl) rfl), (cvo (by (simp)) (by (simp)) o9), rfl, by omega, by omega, rfl⟩
     ·
      rintro n4 a12 w4 ⟨t4, ys, j, q, rfl, F10, ok10, q22, q23, q24, q25, o10, hy, hq, hj, rfl⟩
      refine wp_seq (wp_seq ?_)
      refine gI a12 t4 ok10 (gM q23 (gM q25 (gT (Ty.nat ((List.length ys) - i)) rfl (fun G H I J O d0 => rP (y_sufLen Try.underlying29 (Own.form (Own.k0 o10 I)) (ed d0 rfl rfl rfl))) (gS rfl (fun G H I J O d0 d1 => rP (y_lss (ed d0 rfl rfl rfl) (ed d1 rfl rfl rfl))) (gE ok10 fun a13 s9 ok11 D9 => ?_))))); have F11 := F10.step0 D9.stp; have q26 := D9.kt q22 rfl; have q27 := D9.kt q23 rfl; have q28 := D9.kt q24 rfl; have q29 := D9.kt q25 rfl; have o11 := Own.k0 o10 D9.stp; refine tn ?_
      refine cond_p (p := (((q : Nat) : Int) < ((((List.length ys) - i) : Nat) : Int))) (D9.dn 3 rfl rfl) (fun c4 => ?_) (fun c4 => ?_)
      ·
       refine wp_skip (tn (wp_seq (wp_block (wp_seq ?_))))
       refine gI a13 s9 ok11 (gM q29 (gM q27 (gT (Ty.val (cellPtr x (i + q))) rfl (fun G H I J O d0 d1 => rP (y_sufIdx Try.underlying29 Try.inf3 (Own.k0 o11 I) (ed d0 rfl rfl rfl) (ed d1 rfl rfl rfl) (by omega))) (gS rfl (fun G H I J O d0 => rP (own_load Try.underlying3 rfl (Own.k0 o11 I) (ed d0 rfl rfl rfl) (lst_get Ty.int ys 0 (i + q) (by omega)))) (gM q29 (gM q27 (gT (Ty.nat (q - 1)) rfl (fun G H I J O d0 => rP ((y_sub (ed d0 rfl rfl rfl) rfl (w64 (by omega) (by omega))).mono (fun τ _ h => cvi (σ := τ) (by omega) h))) (gT (Ty.val (cellPtr x (i + (q - 1)))) rfl (fun G H I J O d0 d1 => rP (y_sufIdx Try.underlying29 Try.inf3 (Own.k0 o11 I) (ed d0 rfl rfl rfl) (ed d1 rfl rfl rfl) (by omega))) (gS rfl (fun G H I J O d0 => rP (own_load Try.underlying3 rfl (Own.k0 o11 I) (ed d0 rfl rfl rfl) (lst_get Ty.int ys 0 (i + (q - 1)) (by omega)))) (gS rfl (fun G H I J O d0 d1 => rP (y_neq (ed d0 rfl rfl rfl) (ed d1 rfl rfl rfl))) (gE ok11 fun a14 s10 ok12 D10 => ?_))))))))))); have F12 := F11.step0 D10.stp; have q31 := D10.kt q26 rfl; have q32 := D10.kt q27 rfl; have q33 := D10.kt q28 rfl; have q34 := D10.kt q29 rfl; have o12 := Own.k0 o11 D10.stp; refine tn ?_
       refine cond_p (p := ((ys.getD (i + q) 0) ≠ (ys.getD (i + (q - 1)) 0))) (D10.dn 9 rfl rfl) (fun c5 => ?_) (fun c5 => ?_)
       ·
        refine wp_seq ?_
        refine gI a14 s10 ok12 (gM q33 (gM q31 (gM q34 (gM q32 (gT (Ty.val (cellPtr x (i + q))) rfl (fun G H I J O d0 d1 => rP (y_sufIdx Try.underlying29 Try.inf3 (Own.k0 o12 I) (ed d0 rfl rfl rfl) (ed d1 rfl rfl rfl) (by omega))) (gS rfl (fun G H I J O d0 => rP (own_load Try.underlying3 rfl (Own.k0 o12 I) (ed d0 rfl rfl rfl) (lst_get Ty.int ys 0 (i + q) (by omega)))) (gT (Ty.val (cellPtr x j)) rfl (fun G H I J O d0 d1 d2 d3 d4 d5 d6 d7 => rP (own_index1 (i := ((j : Nat) : Int)) Try.underlying29 Try.inf3 (Own.k0 o12 I) (ed d0 rfl rfl rfl) (ed d1 rfl rfl rfl) (by omega) (by omega))) (gE2 ok12 fun a15 s11 ok13 D11 => ?_)))))))); have o13 := Own.k0 o12 D11.stp
        refine tailL0 (L := [40]) (R := (fun _ τ => Own τ 40 3 1 x (List.length ys) ((List.map Ty.int ys).set j (Ty.int (ys.getD (i + q) 0))))) rfl rfl (YldM.toL (m_store Try.inf3 (by decide) o13 (D11.dn 6 (by decide) rfl rfl) (by simp only [List.length_map, List.length_set]; omega) (D11.dn 5 (by decide) rfl rfl) (one_val rfl))) (fun v1 s12 hs1 r1 => ?_)
        have F14 := (F12.step0 D11.stp).stepL hs1 (by decide); have q42 := kpL hs1 (by decide) rfl (D11.kt q31 rfl); have q43 := kpL hs1 (by decide) rfl (D11.kt q32 rfl); have q44 := kpL hs1 (by decide) rfl (D11.kt q33 rfl); have q45 := kpL hs1 (by decide) rfl (D11.kt q34 rfl)
        have o14 : Own s12 40 3 1 x (List.length (ys.set j (ys.getD (i + q) 0))) (List.map Ty.int (ys.set j (ys.getD (i + q) 0))) := (cvo (by simp) (by simp) r1)
        clear r1; refine wpList_nil (tn ?_)
        refine gI a15 s12 ok13 (gM q42 (gT (Ty.nat (j + 1)) rfl (fun G H I J O d0 => rP ((y_add (ed d0 rfl rfl rfl) rfl (w64 (by omega) (by omega))).mono (fun τ _ h => cvi (σ := τ) (by first | omega | exact (Int.natCast_mul _ _).symm) h))) (gB 0 (gE ok13 fun a16 s13 ok14 D12 => ?_)))); have o15 := Own.k0 o14 D12.stp; refine bn (tn ?_)
        refine gI a16 s13 ok14 (gM (D12.kt q43 rfl) (gT (Ty.nat (q + 1)) rfl (fun G H I J O d0 => rP ((y_add (ed d0 rfl rfl rfl) rfl (w64 (by omega) (by omega))).mono (fun τ _ h => cvi (σ := τ) (by first | omega | exact (Int.natCast_mul _ _).symm) h))) (gB 0 (gE ok14 fun a17 s14 ok15 D13 => ?_)))); have o16 := Own.k0 o15 D13.stp
        exact tn ⟨xs.length - ((q + 1)), by omega, s14, (ys.set j (ys.getD (i + q) 0)), (j + 1), (q + 1), rfl, ((F14.step0 D12.stp).step0 D13.stp), ok15, (cvi (by (first | rfl | omega | (simp_all; done) | (simp_all; omega))) (D13.kt (D12.dn 2 rfl rfl) rfl)), (cvi (by (first | rfl | omega | (simp_all; done) | (simp_all; omega))) (D13.dn 2 rfl rfl)), (D13.kt (D12.kt q44 rfl) rfl), (D13.kt (D12.kt q45 rfl) rfl), (cvo (by (simp)) (by (simp)) o16), by rw [List.length_set]; exact hy, by omega, by omega, rfl⟩
       ·
        refine wp_skip (bn (tn ?_))
        refine gI a14 s10 ok12 (gM q32 (gT (Ty.nat (q + 1)) rfl (fun G H I J O d0 => rP ((y_add (ed d0 rfl rfl rfl) rfl (w64 (by omega) (by omega))).mono (fun τ _ h => cvi (σ := τ) (by first | omega | exact (Int.natCast_mul _ _).symm) h))) (gB 0 (gE ok12 fun a18 s15 ok16 D14 => ?_)))); have o17 := Own.k0 o12 D14.stp
        exact tn ⟨xs.length - ((q + 1)), by omega, s15, ys, j, (q + 1), rfl, (F12.step0 D14.stp), ok16, (D14.kt q31 rfl), (cvi (by (first | rfl | omega | (simp_all; done) | (simp_all; omega))) (D14.dn 2 rfl rfl)), (D14.kt q33 rfl), (D14.kt q34 rfl), o17, by omega, by omega, by omega, rfl⟩
      ·
       refine wp_exit (tx (tx (bx (tn (wp_seq ?_)))))
       have hfm := Own.form o11
       refine gI a13 s9 ok11 (gM q28 (gM q26 (gT (Ty.val (sufOf x j)) rfl (fun G H I J O d0 d1 => rP (y_suf (j := j) Try.underlying29 Try.inf3 (Own.k0 o11 I) (ed d0 rfl rfl rfl) (ed d1 rfl rfl rfl) (by omega))) (gE2 ok11 fun a19 s16 ok17 D15 => ?_)))); have o18 := Own.k0 o11 D15.stp
       refine tailL0 (L := [40]) (R := (fun _ τ => Own τ 40 3 1 (preOf x j) j ((List.map Ty.int ys).take j))) rfl rfl (YldM.toL (m_clrS Try.underlying29 Try.inf3 rfl rfl (by decide) o18 (D15.dn 2 (by decide) rfl rfl) (by omega))) (fun v2 s17 hs2 r2 => ?_)
       have F19 := (F11.step0 D15.stp).stepL hs2 (by decide); have q62 := kpL hs2 (by decide) rfl (D15.kt q26 rfl); have q63 := kpL hs2 (by decide) rfl (D15.kt q28 rfl)
       have o19 : Own s17 40 3 1 (preOf x j) j (List.map Ty.int (ys.take j)) := cvo rfl (by rw [List.map_take]) (r2)
       clear r2; refine wpList_nil (tn (wp_seq ?_))
       refine gI a19 s17 ok17 (gM q63 (gM q62 (gT (Ty.val (preOf x j)) rfl (fun G H I J O d0 d1 => rP (y_preF (i := j) Try.underlying29 Try.inf3 hfm (ed d0 rfl rfl rfl) (ed d1 rfl rfl rfl) (by omega))) (gB 0 (gE ok17 fun a20 s18 ok18 D16 => ?_))))); have o20 := Own.k0 o19 D16.stp; refine tn (wp_ret (br (tr (tr (br (tr ?_))))))
       exact retL1 rfl ok18 (F19.step0 D16.stp) ⟨(ys.take j), (preOf x j), (D16.dn 3 rfl rfl), (cvo (by (first | rfl | (rw [List.length_take]; omega))) (by (first | rfl | (rw [List.length_take]; omega))) o20), (by rw [List.length_take]; exact ⟨fun h_ => absurd (dupB_yes (l := xs) (k := i - 1) (by omega) (by rw [show i - 1 + 1 = i by omega]; omega)) (by rw [h_]; simp), fun _ => by omega⟩)⟩
    ·
     refine wp_skip (bn (tn ?_))
     refine gI a8 s6 ok7 (gM q12 (gT (Ty.nat (i + 1)) rfl (fun G H I J O d0 => rP ((y_add (ed d0 rfl rfl rfl) rfl (w64 (by omega) (by omega))).mono (fun τ _ h => cvi (σ := τ) (by first | omega | exact (Int.natCast_mul _ _).symm) h))) (gB 0 (gE ok7 fun a21 s19 ok19 D17 => ?_)))); have o21 := Own.k0 o7 D17.stp
     exact tn ⟨xs.length - ((i + 1)), by omega, s19, (i + 1), rfl, (F7.step0 D17.stp), ok19, (cvi (by (first | rfl | omega | (simp_all; done) | (simp_all; omega))) (D17.dn 2 rfl rfl)), (D17.kt q13 rfl), o21, by omega, fun k h => by (by_cases e : k = i - 1; (subst e; rw [show i - 1 + 1 = i by omega]; omega); exact I k (by omega)), rfl⟩
   ·
    refine wp_exit (tx (tx (bx (tn (wp_seq ?_)))))
    refine gI a7 s5 ok6 (gM q10 (gB 0 (gE ok6 fun a22 s20 ok20 D18 => ?_))); have o22 := Own.k0 o6 D18.stp
    have q68 : At (Ty.val x) s20 a22 (.tmp 2) := D18.done 1
    refine tn (wp_ret ?_)
    exact retL1 rfl ok20 (F6.step0 D18.stp) ⟨xs, x, q68, (cvo (by (simp)) (by (simp)) o22), (by exact ⟨fun _ => rfl, fun h_ => by (rw [(dupB_iff xs).2 fun k h => I k (by omega)] at h_; cases h_)⟩)⟩


set_option maxHeartbeats 4000000 in
set_option maxRecDepth 100000 in
theorem fail_fn (e : Int) (σ : GW) (hlow : Low [] σ) (v0 : Value) (hv0 : Ty.has (Ty.int e) σ v0)  (hne : e ≠ 0) :
    FnP Try.prog 53 #[v0] σ [] (fun v τ => True ∧ (e = 0)) (fun c_ => c_ = fltC 60 e ∧ e ≠ 0) := by
 refine fn_introP hlow Try.func53 rfl Try.ntmps53 (Nat.le_of_ble_eq_true rfl) (fun a0 F0 ok0 hargs => ?_)
 have p0 := pB (hargs 0 _ rfl) hv0
 clear hargs
 refine gI a0 σ ok0 (gM p0 (gT (Ty.val (Value.iface 60 (Value.int .i64 e))) rfl (fun G H I J O d0 => rP (y_mkif Try.underlying60 rfl (ed d0 rfl rfl rfl))) (gE2 ok0 fun a1 s1 ok1 D1 => ?_)))
 exact tail_pan (D1.dn 1 (by decide) rfl rfl) (panB ok1 (F0.step0 D1.stp) ⟨rfl, by assumption⟩)


set_option maxHeartbeats 4000000 in
set_option maxRecDepth 100000 in
theorem insert_fn (x : Value) (xs : List Int) (y : Value) (ys : List Int) (σ : GW) (hlow : Low [40, 41] σ) (v0 v1 v2 : Value) (hv0 : Ty.has (Ty.val x) σ v0) (hv1 : Ty.has (Ty.nat 0) σ v1) (hv2 : Ty.has (Ty.val y) σ v2) (ho_x : Own σ 40 3 1 x (List.length xs) (List.map Ty.int xs)) (ho_y : Own σ 41 3 1 y 1 (List.map Ty.int ys)) (hx : xs.length ≤ 1000000) (hx1 : 1 ≤ xs.length) (hys : ∃ c, ys = [c]) :
    FnL Try.prog 69 #[v0, v1, v2] σ [40, 41] (fun v τ => ∃ (z : Value), (Ty.has (Ty.val z) τ v) ∧ (Own τ 40 3 1 z (List.length (ys ++ xs)) (List.map Ty.int (ys ++ xs)))) := by
 refine fn_introL hlow Try.func69 rfl Try.ntmps69 (Nat.le_of_ble_eq_true rfl) (fun a0 F0 ok0 hargs => ?_)
 have p0 := pB (hargs 0 _ rfl) hv0
 have p1 := pB (hargs 1 _ rfl) hv1
 have p2 := pB (hargs 2 _ rfl) hv2
 clear hargs; refine wp_seq ?_
 refine gI a0 σ ok0 (gC (Ty.val (Value.slice none 0 0)) (gE ok0 fun a1 s1 ok1 D1 => ?_)); have q1 := D1.kt p0 rfl; have q2 := D1.kt p1 rfl; have o1 := Own.k0 ho_x D1.stp; have o2 := Own.k0 ho_y D1.stp; refine tn (wp_seq ?_)
 refine gI a1 s1 ok1 (gM q1 (gM q2 (gT (Ty.val (sufOf x 0)) rfl (fun G H I J O d0 d1 => rP (y_suf (j := 0) Try.underlying29 Try.inf3 (Own.k0 o1 I) (ed d0 rfl rfl rfl) (ed d1 rfl rfl rfl) (by omega))) (gE ok1 fun a2 s2 ok2 D2 => ?_)))); have q6 := D2.kt (D1.kt p2 rfl) rfl; have o3 := Own.k0 o1 D2.stp; have o4 := Own.k0 o2 D2.stp; refine tn (wp_seq ?_)
 refine gI a2 s2 ok2 (gM q6 (gT (Ty.nat 1) rfl (fun G H I J O d0 => rP (own_len Try.underlying29 (al (R := (Pr.own 41 3 1 1 (List.map Ty.int ys))) (ed d0 rfl rfl rfl) (Own.k0 o4 I)))) (gB 0 (gE ok2 fun a3 s3 ok3 D3 => ?_)))); have o5 := Own.k0 o3 D3.stp; have o6 := Own.k0 o4 D3.stp; have q10 := D3.dn 2 rfl rfl; refine tn (wp_seq (wp_seq ?_))
 refine gI a3 s3 ok3 (gM q10 (gS rfl (fun G H I J O d0 => rP (y_eql (ed d0 rfl rfl rfl) rfl)) (gE ok3 fun a4 s4 ok4 D4 => ?_))); have q11 := D4.kt (D3.kt (D2.kt q1 rfl) rfl) rfl; have o7 := Own.k0 o5 D4.stp; have o8 := Own.k0 o6 D4.stp; refine tn ?_
 refine cond_p (p := (((1 : Nat) : Int) = (0 : Int))) (D4.dn 1 rfl rfl) (fun c1 => ?_) (fun c1 => ?_)
 ·
  exfalso
  omega
 ·
  refine wp_skip (tn (wp_seq ?_))
  refine gI a4 s4 ok4 (gM q11 (gT (Ty.nat (List.length xs)) rfl (fun G H I J O d0 => rP (own_len Try.underlying29 (al (R := (Pr.own 40 3 1 (List.length xs) (List.map Ty.int xs))) (ed d0 rfl rfl rfl) (Own.k0 o7 I)))) (gB 0 (gE ok4 fun a5 s5 ok5 D5 => ?_)))); have q17 := D5.kt (D4.kt (D3.kt (D2.kt q2 rfl) rfl) rfl) rfl; have o9 := Own.k0 o7 D5.stp; have o10 := Own.k0 o8 D5.stp; have q20 := D5.dn 2 rfl rfl; refine tn (wp_seq (wp_seq ?_))
  refine gI a5 s5 ok5 (gM q17 (gM q20 (gS rfl (fun G H I J O d0 d1 => rP (y_eql (ed d0 rfl rfl rfl) (ed d1 rfl rfl rfl))) (gE ok5 fun a6 s6 ok6 D6 => ?_)))); have q21 := D6.kt (D5.kt q11 rfl) rfl; have q24 := D6.kt (D5.kt (D4.kt q10 rfl) rfl) rfl; have q25 := D6.kt q20 rfl; have o11 := Own.k0 o9 D6.stp; have o12 := Own.k0 o10 D6.stp; refine tn ?_
  refine cond_p (p := (((0 : Nat) : Int) = (((List.length xs) : Nat) : Int))) (D6.dn 2 rfl rfl) (fun c2 => ?_) (fun c2 => ?_)
  ·
   exfalso
   omega
  ·
   refine wp_skip (tn (wp_seq (wp_seq ?_)))
   refine gI a6 s6 ok6 (gM q25 (gM q24 (gT (Ty.nat ((List.length xs) + 1)) rfl (fun G H I J O d0 d1 => rP ((y_add (ed d0 rfl rfl rfl) (ed d1 rfl rfl rfl) (w64 (by omega) (by omega))).mono (fun τ _ h => cvi (σ := τ) (by first | omega | exact (Int.natCast_mul _ _).symm) h))) (gM q21 (gT (Ty.nat (capOf x)) rfl (fun G H I J O d0 => rP (y_capO Try.underlying29 (Own.k0 o11 I) (ed d0 rfl rfl rfl))) (gS rfl (fun G H I J O d0 d1 => rP (y_gtr (ed d0 rfl rfl rfl) (ed d1 rfl rfl rfl))) (gE ok6 fun a7 s7 ok7 D7 => ?_))))))); have F7 := ((((((F0.step0 D1.stp).step0 D2.stp).step0 D3.stp).step0 D4.stp).step0 D5.stp).step0 D6.stp).step0 D7.stp; have q27 := D7.kt q21 rfl; have q28 := D7.kt (D6.kt q17 rfl) rfl; have q29 := D7.kt (D6.kt (D5.kt (D4.kt (D3.kt q6 rfl) rfl) rfl) rfl) rfl; have q30 := D7.kt q24 rfl; have q31 := D7.kt q25 rfl; have o13 := Own.k0 o11 D7.stp; have o14 := Own.k0 o12 D7.stp; refine tn ?_
   refine cond_p (p := ((((capOf x) : Nat) : Int) < ((((List.length xs) + 1) : Nat) : Int))) (D7.dn 5 rfl rfl) (fun c3 => ?_) (fun c3 => ?_)
   ·
    refine wp_seq ?_
    refine gI a7 s7 ok7 (gM q27 (gM q28 (gT (Ty.val (preOf x 0)) rfl (fun G H I J O d0 d1 => rP (y_pre (i := 0) Try.underlying29 Try.inf3 (Own.k0 o13 I) (ed d0 rfl rfl rfl) (ed d1 rfl rfl rfl) (by omega))) (gM q31 (gM q30 (gT (Ty.nat ((List.length xs) + 1)) rfl (fun G H I J O d0 d1 => rP ((y_add (ed d0 rfl rfl rfl) (ed d1 rfl rfl rfl) (w64 (by omega) (by omega))).mono (fun τ _ h => cvi (σ := τ) (by first | omega | exact (Int.natCast_mul _ _).symm) h))) (gM q28 (gT (Ty.nat (((List.length xs) + 1) - 0)) rfl (fun G H I J O d0 d1 => rP ((y_sub (ed d0 rfl rfl rfl) (ed d1 rfl rfl rfl) (w64 (by omega) (by omega))).mono (fun τ _ h => cvi (σ := τ) (by omega) h))) (gE2 ok7 fun a8 s8 ok8 D8 => ?_))))))))); have o15 := Own.k0 o13 D8.stp; have o16 := Own.k0 o14 D8.stp
    refine tL (R := (fun v τ => Own τ 61 3 1 v (((List.length xs) + 1) - 0) (List.replicate (((List.length xs) + 1) - 0) (Ty.int 0)))) ok8 (YldM.toL (m_appn0 (k := 61) (T := Ty.int 0) Try.underlying29 Try.underlying3 Try.inf3 rfl (fun _ => rfl) o15 (D8.dn 2 (by decide) rfl rfl) (D8.dn 7 (by decide) rfl rfl) (by omega) (by omega) (by omega))) fun a9 s9 hs1 ok9 r1 sm1 => ?_
    have F9 := (F7.step0 D8.stp).stepL hs1 (by decide); have q39 := kpL hs1 (by decide) (sm1 0 (by decide)) (D8.kt q27 rfl); have q40 := kpL hs1 (by decide) (sm1 1 (by decide)) (D8.kt q28 rfl); have q41 := kpL hs1 (by decide) (sm1 2 (by decide)) (D8.kt q29 rfl); have q42 := kpL hs1 (by decide) (sm1 7 (by decide)) (D8.kt q30 rfl); have o18 := Own.keepL o15 hs1 (by decide) (by decide); have o19 := Own.keepL o16 hs1 (by decide) (by decide)
    obtain ⟨x1, hx1⟩ : ∃ x, a9.eval (.tmp 40) = x := ⟨_, rfl⟩
    have q43 : At (Ty.val x1) s9 a9 (.tmp 40) := hx1
    have o17 := al2 (R := (Pr.own 61 3 1 (((List.length xs) + 1) - 0) (List.map Ty.int (List.replicate (((List.length xs) + 1) - 0) 0)))) hx1 (cvo rfl (by simp) r1)
    clear r1
    refine tL ok9 (Yld.toL (y_as q43)) fun a10 s10 hs2 ok10 r2 sm2 => ?_
    have F10 := F9.stepL hs2 (by decide); have q44 := kpL hs2 (by decide) (sm2 0 (by decide)) q39; have q45 := kpL hs2 (by decide) (sm2 1 (by decide)) q40; have q46 := kpL hs2 (by decide) (sm2 2 (by decide)) q41; have q47 := kpL hs2 (by decide) (sm2 7 (by decide)) q42; have o20 := Own.keepL o18 hs2 (by decide) (by decide); have o21 := Own.keepL o19 hs2 (by decide) (by decide); have o22 := Own.keepL o17 hs2 (by decide) (by decide)
    have q48 : At (Ty.val x1) s10 a10 (.tmp 9) := r2
    clear r2; refine wpList_nil (tn (wp_seq ?_))
    refine gI a10 s10 ok10 (gM q48 (gM q45 (gT (Ty.val (sufOf x1 0)) rfl (fun G H I J O d0 d1 => rP (y_suf (j := 0) Try.underlying29 Try.inf3 (Own.k0 o22 I) (ed d0 rfl rfl rfl) (ed d1 rfl rfl rfl) (by omega))) (gM q46 (gE2 ok10 fun a11 s11 ok11 D9 => ?_))))); have o23 := Own.k0 o20 D9.stp; have o24 := Own.k0 o21 D9.stp; have o25 := Own.k0 o22 D9.stp
    refine tL (R := (fun v τ => Pr.has (Pr.cpd 61 3 (((List.length xs) + 1) - 0) x1 (1 - 0) ((List.map Ty.int (List.replicate (((List.length xs) + 1) - 0) 0)).take 0 ++ (List.map Ty.int ys).drop 0 ++ (List.map Ty.int (List.replicate (((List.length xs) + 1) - 0) 0)).drop (0 + (1 - 0)))) τ v)) ok11 (YldM.toL (m_copyO (i := 0) (j := 0) Try.underlying29 Try.inf3 (by decide) o25 o24 (D9.dn 2 (by decide) rfl rfl) (((D9.dn 3 (by decide) rfl rfl) : _ = _).trans (Own.suf0 o24 (by omega)).symm) (one_map (fun _ => one_val rfl)) (by omega) (by omega) (by omega))) fun a12 s12 hs3 ok12 r3 sm3 => ?_
    have F12 := (F10.step0 D9.stp).stepL hs3 (by decide); have q55 := kpL hs3 (by decide) (sm3 0 (by decide)) (D9.kt q44 rfl); have q56 := kpL hs3 (by decide) (sm3 1 (by decide)) (D9.kt q45 rfl); have q57 := kpL hs3 (by decide) (sm3 7 (by decide)) (D9.kt q47 rfl); have q58 := kpL hs3 (by decide) (sm3 9 (by decide)) (D9.kt q48 rfl); have o27 := Own.keepL o23 hs3 (by decide) (by decide); have o28 := Own.keepL o24 hs3 (by decide) (by decide)
    have q59 : At (Ty.nat (1 - 0)) s12 a12 (.tmp 45) := (r3).1
    have o26 : Own s12 61 3 1 x1 (((List.length xs) + 1) - 0) (List.map Ty.int ((List.replicate (((List.length xs) + 1) - 0) 0).take 0 ++ ys.drop 0 ++ (List.replicate (((List.length xs) + 1) - 0) 0).drop (0 + (1 - 0)))) := cvo rfl (by simp only [List.map_append, List.map_take, List.map_drop]) (r3).2
    clear r3; refine wpList_nil (tn (wp_seq ?_))
    refine gI a12 s12 ok12 (gM q58 (gM q56 (gM q57 (gT (Ty.nat (0 + 1)) rfl (fun G H I J O d0 d1 => rP ((y_add (ed d0 rfl rfl rfl) (ed d1 rfl rfl rfl) (w64 (by omega) (by omega))).mono (fun τ _ h => cvi (σ := τ) (by first | omega | exact (Int.natCast_mul _ _).symm) h))) (gT (Ty.val (sufOf x1 (0 + 1))) rfl (fun G H I J O d0 d1 => rP (y_suf (j := (0 + 1)) Try.underlying29 Try.inf3 (Own.k0 o26 I) (ed d0 rfl rfl rfl) (ed d1 rfl rfl rfl) (by omega))) (gM q55 (gM q56 (gT (Ty.val (sufOf x 0)) rfl (fun G H I J O d0 d1 => rP (y_suf (j := 0) Try.underlying29 Try.inf3 (Own.k0 o27 I) (ed d0 rfl rfl rfl) (ed d1 rfl rfl rfl) (by omega))) (gE2 ok12 fun a13 s13 ok13 D10 => ?_))))))))); have o29 := Own.k0 o27 D10.stp; have o30 := Own.k0 o28 D10.stp; have o31 := Own.k0 o26 D10.stp
    refine tL (R := (fun v τ => Pr.has (Pr.cpd 61 3 (((List.length xs) + 1) - 0) x1 ((List.length xs) - 0) ((List.map Ty.int ((List.replicate (((List.length xs) + 1) - 0) 0).take 0 ++ ys.drop 0 ++ (List.replicate (((List.length xs) + 1) - 0) 0).drop (0 + (1 - 0)))).take (0 + 1) ++ (List.map Ty.int xs).drop 0 ++ (List.map Ty.int ((List.replicate (((List.length xs) + 1) - 0) 0).take 0 ++ ys.drop 0 ++ (List.replicate (((List.length xs) + 1) - 0) 0).drop (0 + (1 - 0)))).drop ((0 + 1) + ((List.length xs) - 0)))) τ v)) ok13 (YldM.toL (m_copyO (i := 0) (j := (0 + 1)) Try.underlying29 Try.inf3 (by decide) o31 o29 (D10.dn 4 (by decide) rfl rfl) (D10.dn 7 (by decide) rfl rfl) (one_map (fun _ => one_val rfl)) (by omega) (by omega) (by omega))) fun a14 s14 hs4 ok14 r4 sm4 => ?_
    have F14 := (F12.step0 D10.stp).stepL hs4 (by decide); have q63 := kpL hs4 (by decide) (sm4 9 (by decide)) (D10.kt q58 rfl); have o33 := Own.keepL o29 hs4 (by decide) (by decide); have o34 := Own.keepL o30 hs4 (by decide) (by decide)
    have q64 : At (Ty.nat ((List.length xs) - 0)) s14 a14 (.tmp 54) := (r4).1
    have o32 : Own s14 61 3 1 x1 (((List.length xs) + 1) - 0) (List.map Ty.int (((List.replicate (((List.length xs) + 1) - 0) 0).take 0 ++ ys.drop 0 ++ (List.replicate (((List.length xs) + 1) - 0) 0).drop (0 + (1 - 0))).take (0 + 1) ++ xs.drop 0 ++ ((List.replicate (((List.length xs) + 1) - 0) 0).take 0 ++ ys.drop 0 ++ (List.replicate (((List.length xs) + 1) - 0) 0).drop (0 + (1 - 0))).drop ((0 + 1) + ((List.length xs) - 0)))) := cvo rfl (by simp only [List.map_append, List.map_take, List.map_drop]) (r4).2
    clear r4; refine wpList_nil (tn (wp_seq ?_))
    refine gI a14 s14 ok14 (gM q63 (gB 0 (gE ok14 fun a15 s15 ok15 D11 => ?_))); have o35 := Own.k0 o33 D11.stp; have o36 := Own.k0 o34 D11.stp; have o37 := Own.k0 o32 D11.stp
    have q65 : At (Ty.val x1) s15 a15 (.tmp 6) := D11.done 1
    refine tn (wp_ret (tr ?_))
    obtain ⟨t1, e1, h1, o38⟩ := Own.retag (k' := 40) o37 (by decide) (by decide)
    rw [← e1]
    have F16 := (F14.step0 D11.stp).step h1 (by decide); have o39 := Own.keepL o35 (h1.toL (L := [61]) (by simp)) (by decide) (by decide); have o40 := Own.keepL o36 (h1.toL (L := [61]) (by simp)) (by decide) (by decide); have q66 := Ty.up (Ty.val x1) (h1.le (by decide)) q65
    exact retL1 rfl ok15 F16 ⟨x1, q66, (cvo (by (obtain ⟨c, rfl⟩ := hys; first | (simp; done) | (simp; omega) | exact ins_tail hx1)) (by (obtain ⟨c, rfl⟩ := hys; first | (simp; done) | (simp; omega) | exact ins_tail hx1)) o38)⟩
   ·
    refine wp_skip (tn (wp_seq ?_))
    refine gI a7 s7 ok7 (gM q27 (gM q31 (gM q30 (gT (Ty.nat ((List.length xs) + 1)) rfl (fun G H I J O d0 d1 => rP ((y_add (ed d0 rfl rfl rfl) (ed d1 rfl rfl rfl) (w64 (by omega) (by omega))).mono (fun τ _ h => cvi (σ := τ) (by first | omega | exact (Int.natCast_mul _ _).symm) h))) (gT (Ty.val (preOf x ((List.length xs) + 1))) rfl (fun G H I J O d0 d1 => rP (y_preX (h := ((List.length xs) + 1)) Try.underlying29 Try.inf3 (Own.k0 o13 I) (ed d0 rfl rfl rfl) (ed d1 rfl rfl rfl) (by omega))) (gB 0 (gE ok7 fun a16 s16 ok16 D12 => ?_))))))); have q67 := D12.kt q28 rfl; have q68 := D12.kt q29 rfl; have q69 := D12.kt q30 rfl; have o41 := Own.k0 o13 D12.stp; have o42 := Own.k0 o14 D12.stp; have q71 := D12.dn 5 rfl rfl; refine tn (wp_seq (wp_seq ?_))
    have hfx : SlForm (preOf x ((List.length xs) + 1)) ((List.length xs) + 1) := SlForm.pre (Own.form o41) (by omega)
    refine gI a16 s16 ok16 (gM q68 (gM q71 (gM q67 (gM q69 (gT (Ty.nat (0 + 1)) rfl (fun G H I J O d0 d1 => rP ((y_add (ed d0 rfl rfl rfl) (ed d1 rfl rfl rfl) (w64 (by omega) (by omega))).mono (fun τ _ h => cvi (σ := τ) (by first | omega | exact (Int.natCast_mul _ _).symm) h))) (gT (Ty.val (sufOf (preOf x ((List.length xs) + 1)) (0 + 1))) rfl (fun G H I J O d0 d1 => rP (y_sufF (j := (0 + 1)) Try.underlying29 Try.inf3 hfx (ed d0 rfl rfl rfl) (ed d1 rfl rfl rfl) (by omega))) (gT (Ty.bool false) rfl (fun G H I J O d0 d1 => rP (y_ovl (tr := 4) (h := ((List.length xs) + 1)) (j := (0 + 1)) Try.underlying29 Try.inf3 (Own.k0 o42 I) (Own.k0 o41 I) (by decide) (by omega) (by omega) (ed d0 rfl rfl rfl) (ed d1 rfl rfl rfl) (by omega) (fun args_ w_ => run_callFunc_extern Try.func88 (by kernel_rfl) (by kernel_rfl) (by kernel_rfl) (by kernel_rfl) args_ w_) Try.func88)) (gS rfl (fun G H I J O d0 => rP (y_not (ed d0 rfl rfl rfl))) (gE ok16 fun a17 s17 ok17 D13 => ?_))))))))); have q72 := D13.kt q67 rfl; have q76 := D13.kt q71 rfl; have o43 := Own.k0 o41 D13.stp; have o44 := Own.k0 o42 D13.stp; refine tn ?_
    refine cond_t (D13.dn 7 rfl rfl) (fun c4 => ?_) (fun c4 => ?_)
    ·
     refine wp_seq ?_
     refine gI a17 s17 ok17 (gM q76 (gM q72 (gM (D13.kt q69 rfl) (gT (Ty.nat (0 + 1)) rfl (fun G H I J O d0 d1 => rP ((y_add (ed d0 rfl rfl rfl) (ed d1 rfl rfl rfl) (w64 (by omega) (by omega))).mono (fun τ _ h => cvi (σ := τ) (by first | omega | exact (Int.natCast_mul _ _).symm) h))) (gT (Ty.val (sufOf (preOf x ((List.length xs) + 1)) (0 + 1))) rfl (fun G H I J O d0 d1 => rP (y_sufF (j := (0 + 1)) Try.underlying29 Try.inf3 hfx (ed d0 rfl rfl rfl) (ed d1 rfl rfl rfl) (by omega))) (gM q76 (gM q72 (gT (Ty.val (sufOf (preOf x ((List.length xs) + 1)) 0)) rfl (fun G H I J O d0 d1 => rP (y_sufF (j := 0) Try.underlying29 Try.inf3 hfx (ed d0 rfl rfl rfl) (ed d1 rfl rfl rfl) (by omega))) (gE2 ok17 fun a18 s18 ok18 D14 => ?_))))))))); have o45 := Own.k0 o43 D14.stp; have o46 := Own.k0 o44 D14.stp
     refine tL (R := (fun v τ => Pr.has (Pr.cpd 40 3 ((List.length xs) + 1) (preOf x ((List.length xs) + 1)) (List.length xs) ((List.map Ty.int xs).take 1 ++ (List.map Ty.int xs))) τ v)) ok18 (YldM.toL (m_copyX Try.underlying29 Try.inf3 (by decide) o45 (by omega) (by omega) (D14.dn 4 (by decide) rfl rfl) (D14.dn 7 (by decide) rfl rfl) (one_map (fun _ => one_val rfl)))) fun a19 s19 hs5 ok19 r5 sm5 => ?_
     have F20 := (((F7.step0 D12.stp).step0 D13.stp).step0 D14.stp).stepL hs5 (by decide); have q83 := kpL hs5 (by decide) (sm5 1 (by decide)) (D14.kt q72 rfl); have q84 := kpL hs5 (by decide) (sm5 2 (by decide)) (D14.kt (D13.kt q68 rfl) rfl); have q85 := kpL hs5 (by decide) (sm5 0 (by decide)) (D14.kt q76 rfl); have o48 := Own.keepL o46 hs5 (by decide) (by decide)
     have q86 : At (Ty.nat (List.length xs)) s19 a19 (.tmp 77) := (r5).1
     have o47 : Own s19 40 3 1 (preOf x ((List.length xs) + 1)) ((List.length xs) + 1) (List.map Ty.int (xs.take 1 ++ xs)) := cvo rfl (by simp only [List.map_append, List.map_take]) (r5).2
     clear r5; refine wpList_nil (tn (wp_seq ?_))
     refine gI a19 s19 ok19 (gM q85 (gM q83 (gT (Ty.val (sufOf (preOf x ((List.length xs) + 1)) 0)) rfl (fun G H I J O d0 d1 => rP (y_suf (j := 0) Try.underlying29 Try.inf3 (Own.k0 o47 I) (ed d0 rfl rfl rfl) (ed d1 rfl rfl rfl) (by omega))) (gM q84 (gE2 ok19 fun a20 s20 ok20 D15 => ?_))))); have o49 := Own.k0 o48 D15.stp; have o50 := Own.k0 o47 D15.stp
     refine tL (R := (fun v τ => Pr.has (Pr.cpd 40 3 ((List.length xs) + 1) (preOf x ((List.length xs) + 1)) (1 - 0) ((List.map Ty.int (xs.take 1 ++ xs)).take 0 ++ (List.map Ty.int ys).drop 0 ++ (List.map Ty.int (xs.take 1 ++ xs)).drop (0 + (1 - 0)))) τ v)) ok20 (YldM.toL (m_copyO (i := 0) (j := 0) Try.underlying29 Try.inf3 (by decide) o50 o49 (D15.dn 2 (by decide) rfl rfl) (((D15.dn 3 (by decide) rfl rfl) : _ = _).trans (Own.suf0 o49 (by omega)).symm) (one_map (fun _ => one_val rfl)) (by omega) (by omega) (by omega))) fun a21 s21 hs6 ok21 r6 sm6 => ?_
     have F22 := (F20.step0 D15.stp).stepL hs6 (by decide); have q90 := kpL hs6 (by decide) (sm6 0 (by decide)) (D15.kt q85 rfl); have o52 := Own.keepL o49 hs6 (by decide) (by decide)
     have q91 : At (Ty.nat (1 - 0)) s21 a21 (.tmp 82) := (r6).1
     have o51 : Own s21 40 3 1 (preOf x ((List.length xs) + 1)) ((List.length xs) + 1) (List.map Ty.int ((xs.take 1 ++ xs).take 0 ++ ys.drop 0 ++ (xs.take 1 ++ xs).drop (0 + (1 - 0)))) := cvo rfl (by simp only [List.map_append, List.map_take, List.map_drop]) (r6).2
     clear r6; refine wpList_nil (tn (wp_seq ?_))
     refine gI a21 s21 ok21 (gM q90 (gB 0 (gE ok21 fun a22 s22 ok22 D16 => ?_))); have o53 := Own.k0 o52 D16.stp; have o54 := Own.k0 o51 D16.stp; refine tn (wp_ret (tr ?_))
     exact retL1 rfl ok22 (F22.step0 D16.stp) ⟨(preOf x ((List.length xs) + 1)), (D16.dn 1 rfl rfl), (cvo (by (obtain ⟨c, rfl⟩ := hys; first | (simp; done) | (simp; omega) | exact ins_tail hx1)) (by (obtain ⟨c, rfl⟩ := hys; first | (simp; done) | (simp; omega) | exact ins_tail hx1)) o54)⟩
    ·
     exfalso
     simp at c4

theorem Try.inf4 : Info Try.prog 4 (.bool false) 1 1 := by unfold Info; kernel_rfl
theorem Try.fld64_0 : fieldOf Try.prog 64 0 = some (3, 0) := by kernel_rfl
theorem Try.fld64_2 : fieldOf Try.prog 64 2 = some (22, 2) := by kernel_rfl
theorem Try.fld64_6 : fieldOf Try.prog 64 6 = some (4, 6) := by kernel_rfl
set_option maxHeartbeats 4000000 in
set_option maxRecDepth 100000 in
theorem put_fn (r av bv sv : Value) (n : Int) (blk : List (List Int)) (mir : Bool) (opn : Bool) (dot : Bool) (l : List Int) (σ : GW) (hlow : Low [40, 42] σ) (v0 v1 : Value) (hv0 : Ty.has (Ty.val r) σ v0) (hv1 : Ty.has (Ty.lst Ty.int l) σ v1) (ho_r : OwnP σ 40 r [(Ty.int n), (Ty.val av), (Ty.val bv), (Ty.bool mir), (Ty.val sv), (Ty.bool opn), (Ty.bool dot)]) (ho_bv : Own σ 42 29 1 bv (List.length blk) (List.map Ty.ints blk)) (hb : blk.length ≤ 1000) (hn : -1000 ≤ n ∧ n ≤ 1000) :
    FnP Try.prog 52 #[v0, v1] σ [40, 42] (fun v τ => ∃ (bz : Value), True ∧ (OwnP τ 40 r [(Ty.int n), (Ty.val av), (Ty.val bz), (Ty.bool mir), (Ty.val sv), (Ty.bool opn), (Ty.bool true)]) ∧ (Own τ 42 29 1 bz (List.length (blk ++ [l])) (List.map Ty.ints (blk ++ [l]))) ∧ ((plPutE n blk.length l) = 0)) (fun c_ => c_ = fltC 60 (plPutE n blk.length l) ∧ (plPutE n blk.length l) ≠ 0) := by
 refine fn_introP hlow Try.func52 rfl Try.ntmps52 (Nat.le_of_ble_eq_true rfl) (fun a0 F0 ok0 hargs => ?_)
 have p0 := pB (hargs 0 _ rfl) hv0
 have p1 := pB (hargs 1 _ rfl) hv1
 have b1 := sl_le p1
 clear hargs; refine wp_seq (wp_seq ?_)
 refine gI a0 σ ok0 (gM p0 (gT (Ty.val r) rfl (fun G H I J O d0 => rP (y_nilp (OwnP.k0 ho_r I) (ed d0 rfl rfl rfl))) (gT (Ty.val (ptrAt r 0)) rfl (fun G H I J O d0 => rP (ownp_field Try.fld64_0 Try.inf3 (by decide) (OwnP.k0 ho_r I) (ed d0 rfl rfl rfl))) (gS rfl (fun G H I J O d0 => rP (ownp_load Try.underlying3 rfl (OwnP.k0 ho_r I) (ed d0 rfl rfl rfl) rfl)) (gM p1 (gS rfl (fun G H I J O d0 d1 => rP (y_call _ Try.func11 rfl rfl my2 (pCheck_fn (n) (l) _ _ _ (ed d0 rfl rfl rfl) (ed d1 rfl rfl rfl) (by omega)))) (gB 0 (gE ok0 fun a1 s1 ok1 D1 => ?_)))))))); have o1 := OwnP.k0 ho_r D1.stp; have o2 := Own.k0 ho_bv D1.stp; have q3 := D1.dn 6 rfl rfl; refine tn (wp_seq ?_)
 refine gI a1 s1 ok1 (gM q3 (gS rfl (fun G H I J O d0 => rP (y_neq (ed d0 rfl rfl rfl) rfl)) (gE ok1 fun a2 s2 ok2 D2 => ?_))); have F2 := (F0.step0 D1.stp).step0 D2.stp; have q4 := D2.kt (D1.kt p0 rfl) rfl; have q5 := D2.kt (D1.kt p1 rfl) rfl; have o3 := OwnP.k0 o1 D2.stp; have o4 := Own.k0 o2 D2.stp; refine tn ?_
 refine cond_p (p := ((chgMay n l) ≠ (0 : Int))) (D2.dn 1 rfl rfl) (fun c1 => ?_) (fun c1 => ?_)
 ·
  refine gI a2 s2 ok2 (gM (D2.kt q3 rfl) (gE2 ok2 fun a3 s3 ok3 D3 => ?_)); have F3 := F2.step0 D3.stp; have o5 := OwnP.k0 o3 D3.stp; have o6 := Own.k0 o4 D3.stp
  refine tailP (L := []) (R := (fun v τ' => ∃ τ, (fun v τ => True ∧ (((chgMay n l)) = 0)) v τ ∧ Back [] τ τ')) (E := (fun c_ => c_ = fltC 60 ((chgMay n l)) ∧ ((chgMay n l)) ≠ 0)) rfl rfl (by decide) ok3 (y_callP (L := []) [] [] #[a3.eval (.tmp 13)] rfl (by decide) Try.func53 rfl rfl (by simp only [List.map_toArray, List.map_cons, List.map_nil]) (fail_fn ((chgMay n l)) _ (GW.low_lend _ (by decide)) _ (Ty.up _ (GW.le_lend _ _) (cvi (σ := s3) (by omega) (D3.dn 0 (by decide) rfl rfl)))  (by omega))) (fun c_ t_ hs_ he_ => panB ok3 (F3.stepL hs_ (by decide)) (fltTo (fun h_ => by exact putE_1 c1) he_)) (fun a4 s4 hs1 ok4 r1 sm1 => ?_)
  have F4 := F3.stepL hs1 (by decide); have q11 := kpL hs1 (by decide) (sm1 0 (by decide)) (D3.kt q4 rfl); have q12 := kpL hs1 (by decide) (sm1 1 (by decide)) (D3.kt q5 rfl); have o7 := OwnP.keepL o5 hs1 (by decide) (by decide); have o8 := Own.keepL o6 hs1 (by decide) (by decide)
  obtain ⟨t1, ⟨hT1, hp1⟩, B1⟩ := r1
  exact absurd hp1 (by first | decide | assumption | omega)
 ·
  refine wp_skip (tn (wp_seq ?_))
  refine gI a2 s2 ok2 (gM q4 (gM q4 (gT (Ty.val r) rfl (fun G H I J O d0 => rP (y_nilp (OwnP.k0 o3 I) (ed d0 rfl rfl rfl))) (gT (Ty.val (ptrAt r 2)) rfl (fun G H I J O d0 => rP (ownp_field Try.fld64_2 Try.inf22 (by decide) (OwnP.k0 o3 I) (ed d0 rfl rfl rfl))) (gS rfl (fun G H I J O d0 => rP (ownp_load Try.underlying22 rfl (OwnP.k0 o3 I) (ed d0 rfl rfl rfl) rfl)) (gM q5 (gT (Ty.sl 1 1 [(Ty.lst Ty.int l)]) rfl (fun G H I J O d0 => rP (y_build1o Try.underlying22 Try.inf29 rfl (one_sl) (ed d0 rfl rfl rfl))) (gE2 ok2 fun a5 s5 ok5 D4 => ?_)))))))); have o9 := OwnP.k0 o3 D4.stp; have o10 := Own.k0 o4 D4.stp; have q17 := D4.dn 6 (by decide) rfl rfl
  have b2 := sl_le q17
  refine tL ok5 (YldM.toL (m_append Try.underlying22 Try.inf29 (by decide) rfl (by decide) (al (R := (Pr.own 42 29 1 (List.length blk) (List.map Ty.ints blk))) (D4.dn 4 (by decide) rfl rfl) o10) q17 (by intro U hU; simp at hU; subst hU; exact one_sl) (by omega) (by omega))) fun a6 s6 hs2 ok6 r2 sm2 => ?_
  have F6 := (F2.step0 D4.stp).stepL hs2 (by decide); have q18 := kpL hs2 (by decide) (sm2 0 (by decide)) (D4.kt q4 rfl); have q19 := kpL hs2 (by decide) (sm2 15 (by decide)) (D4.dn 0 (by decide) rfl rfl); have o12 := OwnP.keepL o9 hs2 (by decide) (by decide)
  obtain ⟨x1, hx1⟩ : ∃ x, a6.eval (.tmp 22) = x := ⟨_, rfl⟩
  have q20 : At (Ty.val x1) s6 a6 (.tmp 22) := hx1
  have o11 := al2 (R := (Pr.own 42 29 1 (List.length (blk ++ [l])) (List.map Ty.ints (blk ++ [l])))) hx1 (cvo (by simp) (by first | (rw [List.map_append]; rfl) | simp) r2)
  clear r2
  refine tL (R := (fun v τ => Pr.has (Ty.pr (Ty.val r)) τ v)) ok6 (Yld.toL (y_nilp o12 q19)) fun a7 s7 hs3 ok7 r3 sm3 => ?_
  have F7 := F6.stepL hs3 (by decide); have q21 := kpL hs3 (by decide) (sm3 0 (by decide)) q18; have q22 := kpL hs3 (by decide) (sm3 22 (by decide)) q20; have o13 := OwnP.keepL o12 hs3 (by decide) (by decide); have o14 := Own.keepL o11 hs3 (by decide) (by decide)
  have q23 : At (Ty.val r) s7 a7 (.tmp 23) := r3
  clear r3
  refine tL (R := (fun v τ => Pr.has (Ty.pr (Ty.val (ptrAt r 2))) τ v)) ok7 (Yld.toL (ownp_field Try.fld64_2 Try.inf22 (by decide) o13 q23)) fun a8 s8 hs4 ok8 r4 sm4 => ?_
  have F8 := F7.stepL hs4 (by decide); have q24 := kpL hs4 (by decide) (sm4 0 (by decide)) q21; have q25 := kpL hs4 (by decide) (sm4 22 (by decide)) q22; have o15 := OwnP.keepL o13 hs4 (by decide) (by decide); have o16 := Own.keepL o14 hs4 (by decide) (by decide)
  have q26 : At (Ty.val (ptrAt r 2)) s8 a8 (.tmp 24) := r4
  clear r4
  refine tailL0 (L := [40]) (R := (fun _ τ => OwnP τ 40 r ([(Ty.int n), (Ty.val av), (Ty.val bv), (Ty.bool mir), (Ty.val sv), (Ty.bool opn), (Ty.bool dot)].set 2 (Ty.val x1)))) rfl rfl (YldM.toL (m_storep Try.inf22 (by decide) o15 q26 (Nat.le_of_ble_eq_true rfl) q25 (one_val (Own.one o16)))) (fun v1 s9 hs5 r5 => ?_)
  have F9 := F8.stepL hs5 (by decide); have q27 := kpL hs5 (by decide) rfl q24; have o18 := Own.keepL o16 hs5 (by decide) (by decide)
  have o17 : OwnP s9 40 r [(Ty.int n), (Ty.val av), (Ty.val x1), (Ty.bool mir), (Ty.val sv), (Ty.bool opn), (Ty.bool dot)] := r5
  clear r5; refine wpList_nil (tn (wp_seq ?_))
  refine gI a8 s9 ok8 (gM q27 (gT (Ty.val r) rfl (fun G H I J O d0 d1 => rP (y_nilp (OwnP.k0 o17 I) (ed d0 rfl rfl rfl))) (gT (Ty.val (ptrAt r 6)) rfl (fun G H I J O d0 d1 => rP (ownp_field Try.fld64_6 Try.inf4 (by decide) (OwnP.k0 o17 I) (ed d0 rfl rfl rfl))) (gE2 ok8 fun a9 s10 ok9 D5 => ?_)))); have o19 := Own.k0 o18 D5.stp; have o20 := OwnP.k0 o17 D5.stp
  refine tailL0 (L := [40]) (R := (fun _ τ => OwnP τ 40 r ([(Ty.int n), (Ty.val av), (Ty.val x1), (Ty.bool mir), (Ty.val sv), (Ty.bool opn), (Ty.bool dot)].set 6 (Ty.bool true)))) rfl rfl (YldM.toL (m_storep Try.inf4 (by decide) o20 (D5.dn 2 (by decide) rfl rfl) (Nat.le_of_ble_eq_true rfl) rfl (one_val rfl))) (fun v2 s11 hs6 r6 => ?_)
  have F11 := (F9.step0 D5.stp).stepL hs6 (by decide); have q31 := kpL hs6 (by decide) rfl (D5.kt q27 rfl); have o22 := Own.keepL o19 hs6 (by decide) (by decide)
  have o21 : OwnP s11 40 r [(Ty.int n), (Ty.val av), (Ty.val x1), (Ty.bool mir), (Ty.val sv), (Ty.bool opn), (Ty.bool true)] := r6
  clear r6; refine wpList_nil (tn (wp_seq ?_))
  refine gI a9 s11 ok9 (gM q31 (gT (Ty.val r) rfl (fun G H I J O d0 => rP (y_nilp (OwnP.k0 o21 I) (ed d0 rfl rfl rfl))) (gT (Ty.val (ptrAt r 2)) rfl (fun G H I J O d0 => rP (ownp_field Try.fld64_2 Try.inf22 (by decide) (OwnP.k0 o21 I) (ed d0 rfl rfl rfl))) (gS rfl (fun G H I J O d0 => rP (ownp_load Try.underlying22 rfl (OwnP.k0 o21 I) (ed d0 rfl rfl rfl) rfl)) (gT (Ty.nat (List.length (blk ++ [l]))) rfl (fun G H I J O d0 => rP (own_len Try.underlying22 (al (R := (Pr.own 42 29 1 (List.length (blk ++ [l])) (List.map Ty.ints (blk ++ [l])))) (ed d0 rfl rfl rfl) (Own.k0 o22 I)))) (gS rfl (fun G H I J O d0 => rP (y_gtr (ed d0 rfl rfl rfl) rfl)) (gE ok9 fun a10 s12 ok10 D6 => ?_))))))); have F12 := F11.step0 D6.stp; have o23 := Own.k0 o22 D6.stp; have o24 := OwnP.k0 o21 D6.stp; refine tn ?_
  refine cond_p (p := ((200 : Int) < (((List.length (blk ++ [l])) : Nat) : Int))) (D6.dn 5 rfl rfl) (fun c2 => ?_) (fun c2 => ?_)
  ·
   refine gI a10 s12 ok10 (gE2 ok10 fun a11 s13 ok11 D7 => ?_); have F13 := F12.step0 D7.stp; have o25 := Own.k0 o23 D7.stp; have o26 := OwnP.k0 o24 D7.stp
   refine tailP (L := []) (R := (fun v τ' => ∃ τ, (fun v τ => True ∧ (((3 : Int)) = 0)) v τ ∧ Back [] τ τ')) (E := (fun c_ => c_ = fltC 60 ((3 : Int)) ∧ ((3 : Int)) ≠ 0)) rfl rfl (by decide) ok11 (y_callP (L := []) [] [] #[a11.eval ((Operand.const (Value.int IntKind.i64 3)))] rfl (by decide) Try.func53 rfl rfl (by simp only [List.map_toArray, List.map_cons, List.map_nil]) (fail_fn ((3 : Int)) _ (GW.low_lend _ (by decide)) _ (Ty.up _ (GW.le_lend _ _) (cvi (σ := s13) (by omega) rfl))  (by omega))) (fun c_ t_ hs_ he_ => panB ok11 (F13.stepL hs_ (by decide)) (fltTo (fun h_ => by exact putE_2 c1 (by rw [List.length_append, List.length_singleton] at c2; omega)) he_)) (fun a12 s14 hs7 ok12 r7 sm5 => ?_)
   have F14 := F13.stepL hs7 (by decide); have o27 := Own.keepL o25 hs7 (by decide) (by decide); have o28 := OwnP.keepL o26 hs7 (by decide) (by decide)
   obtain ⟨t2, ⟨hT2, hp2⟩, B2⟩ := r7
   exact absurd hp2 (by first | decide | assumption | omega)
  ·
   refine wp_skip ?_
   refine toPn ?_
   exact nL0 rfl ok10 F12 ⟨x1, trivial, o24, o23, (by exact putE_0 c1 (by rw [List.length_append, List.length_singleton] at c2; omega))⟩


end Go.Proofs.Ytdjihbjikpbhgaa
