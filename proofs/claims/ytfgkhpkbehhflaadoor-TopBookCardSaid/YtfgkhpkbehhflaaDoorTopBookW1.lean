/- The functions that the law TopBook reaches, each by its contract. Part 1. -/
import Derived.Test.YtfgkhpkbehhflaaDoorTopBookK1
import Derived.Test.YtfgkhpkbehhflaaDoorTopBookK2
import Derived.Test.YtfgkhpkbehhflaaDoorTopBookK3
import Derived.Test.YtfgkhpkbehhflaaDoorTopBookFmtKD
import Derived.Test.YtfgkhpkbehhflaaDoorTopBookLayJD
import Derived.Test.YtfgkhpkbehhflaaDoorProg
namespace Go.Proofs.YtfgkhpkbehhflaaDoor
open Go.KL

set_option maxRecDepth 100000 in
theorem pick_fn (c : Int) (n : Nat) (σ : GW) (v0 v1 : Value) (hv0 : Ty.has (Ty.int c) σ v0) (hv1 : Ty.has (Ty.nat n) σ v1) (hc : -9223372036854775808 ≤ c ∧ c ≤ 9223372036854775807) (hn : 0 < n) :
    FnC Tryd.prog 13 #[v0, v1] σ (Ty.nat (pick c n)) := by
 refine fn_intro Tryd.func13 rfl Tryd.ntmps13 (Nat.le_of_ble_eq_true rfl) (fun s0 a0 hle F0 ok0 hargs => ?_)
 have p0 := pA hle (hargs 0 _ rfl) hv0
 have p1 := pA hle (hargs 1 _ rfl) hv1
 clear hargs; refine wp_seq ?_
 refine gI a0 s0 ok0 (gC (Ty.int (0 : Int)) (gE ok0 fun a1 s1 ok1 D1 => ?_)); have q1 := D1.k p0; refine tn (wp_seq (wp_seq ?_))
 refine gI a1 s1 ok1 (gM q1 (gS rfl (fun A B E G H d0 => rP (y_lss (eI d0) rfl)) (gE ok1 fun a2 s2 ok2 D2 => ?_))); have F2 := (F0.step0 D1.stp).step0 D2.stp; have q3 := D2.k q1; have q4 := D2.k (D1.k p1); refine tn ?_
 refine cond_p (p := (c < (0 : Int))) (D2.m 1 rfl) (fun c1 => ?_) (fun c1 => ?_)
 ·
  refine gI a2 s2 ok2 (gM q3 (gT (Ty.int (c + (1 : Int))) rfl (fun A B E G H d0 => rP (y_add (eI d0) rfl wX)) (gT (Ty.int (-(c + (1 : Int)))) rfl (fun A B E G H d0 => rP (y_neg (eI d0) wX)) (gB 0 (gE ok2 fun a3 s3 ok3 D3 => ?_))))); refine tn (wp_seq ?_)
  refine gI a3 s3 ok3 (gM (D3.m 3 rfl) (gM (D3.k q4) (gT (Ty.nat (((-(c + (1 : Int)))).toNat % n)) rfl (fun A B E G H d0 d1 => rP (y_remN (toN (σ := B) (eI d0) oM) (eI d1) oM)) (gB 0 (gE ok3 fun a4 s4 ok4 D4 => ?_))))); refine tn (wp_ret ?_)
  exact ret1 rfl ok4 ((F2.step0 D3.stp).step0 D4.stp) (cvi (by (unfold pick; rw [if_pos (by assumption)])) (D4.m 3 rfl))
 ·
  refine wp_skip (tn (wp_seq ?_))
  refine gI a2 s2 ok2 (gM q3 (gM q4 (gT (Ty.nat ((c).toNat % n)) rfl (fun A B E G H d0 d1 => rP (y_remN (toN (σ := B) (eI d0) oM) (eI d1) oM)) (gB 0 (gE ok2 fun a5 s5 ok5 D5 => ?_))))); refine tn (wp_ret ?_)
  exact ret1 rfl ok5 (F2.step0 D5.stp) (cvi (by (unfold pick; rw [if_neg (by assumption)])) (D5.m 3 rfl))

theorem Tryd.inf9 : Info Tryd.prog 9 (.string ByteArray.empty) 1 16 := by unfold Info; kernel_rfl
theorem Tryd.inf40 : Info Tryd.prog 40 (.slice none 0 0) 1 24 := by unfold Info; kernel_rfl
theorem Tryd.inf42 : Info Tryd.prog 42 (.agg #[.int .i64 0, .int .i64 0, .string ByteArray.empty, .slice none 0 0]) 4 56 := by unfold Info; kernel_rfl
theorem Tryd.fld42_3 : fieldOf Tryd.prog 42 3 = some (40, 3) := by kernel_rfl
set_option maxHeartbeats 4000000 in
set_option maxRecDepth 100000 in
theorem rRecOf_fn (n : Int) (σ : GW) (hlow : Low [] σ) (v0 : Value) (hv0 : Ty.has (Ty.int n) σ v0)  (hc : -9223372036854775808 ≤ n ∧ n ≤ 9223372036854775807) :
    FnL Tryd.prog 12 #[v0] σ [] (fun v τ => ∃ (dy2 : Int), ∃ (ch2 : Int), ∃ (mt2 : ByteArray), ∃ (rg2 : List ByteArray), (Ty.has (Ty.agg [(Ty.int dy2), (Ty.int ch2), (Ty.val (Value.string mt2)), (Ty.lst Ty.str rg2)]) τ v) ∧ (RecG (dy2, ch2, mt2, rg2))) := by
 obtain ⟨m, hm⟩ : ∃ m, m = pick n 1099511627776 := ⟨_, rfl⟩
 have hml_ : m < 1099511627776 := by rw [hm]; exact pick_lt n oM
 have h5_ : nm5.length = 5 := rfl
 refine fn_introL hlow Tryd.func12 rfl Tryd.ntmps12 (Nat.le_of_ble_eq_true rfl) (fun a0 F0 ok0 hargs => ?_)
 have p0 := pB (hargs 0 _ rfl) hv0
 clear hargs; refine wp_seq ?_
 refine gI a0 σ ok0 (gR (Pr.ownp 61 [(Ty.int (0 : Int)), (Ty.int (0 : Int)), (Ty.val (Value.string ByteArray.empty)), (Ty.val (Value.slice none 0 0))]) rfl (by intro A B E G H; exact rP (y_alloc Tryd.inf42 rfl (alloc_vals (vs := [.int .i64 0, .int .i64 0, .string ByteArray.empty, .slice none 0 0]) rfl))) (gE ok0 fun a1 s1 ok1 D1 => ?_))
 obtain ⟨x1, hx1⟩ : ∃ x, a1.eval (.tmp 2) = x := ⟨_, rfl⟩
 have q2 : At (Ty.val x1) s1 a1 (.tmp 2) := hx1
 have o1 := al2 (R := (Pr.ownp 61 [(Ty.int (0 : Int)), (Ty.int (0 : Int)), (Ty.val (Value.string ByteArray.empty)), (Ty.val (Value.slice none 0 0))])) hx1 (D1.done 0)
 refine tn (wp_seq ?_)
 refine gI a1 s1 ok1 (gM (D1.k p0) (gT (Ty.nat m) rfl (fun A B E G H d0 => rP ((y_call #[A.eval (.tmp 6), A.eval ((Operand.const (Value.int IntKind.i64 1099511627776)))] Tryd.func13 rfl rfl my2 (pick_fn (n) (1099511627776) _ _ _ (cvi (σ := B) oM (ef d0 rfl)) (cvi (σ := B) oM rfl) oM oM)).mono (fun τ _ h => cvt (σ := τ) (T := (Ty.nat (pick (n) (1099511627776)))) (U := (Ty.nat m)) (by rw [hm]) h))) (gB 0 (gE ok1 fun a2 s2 ok2 D2 => ?_)))); have o2 := OwnP.k0 o1 D2.stp; refine tn (wp_seq ?_)
 refine gI a2 s2 ok2 (gT (Ty.lst Ty.str [(ByteArray.mk #[65, 100, 97]), (ByteArray.mk #[66, 111]), (ByteArray.mk #[67, 121, 32, 195, 150, 122]), (ByteArray.mk #[68, 101, 101]), (ByteArray.mk #[69, 55])]) rfl (fun A B E G H => rP (y_build5s Tryd.underlying40 Tryd.inf9 rfl rfl rfl rfl rfl rfl)) (gB 0 (gE ok2 fun a3 s3 ok3 D3 => ?_))); have q6 := D3.k (D2.m 2 rfl); have o3 := OwnP.k0 o2 D3.stp
 have q8 : At (Ty.lst Ty.str nm5) s3 a3 (.tmp 3) := (cvt (by (rfl)) (D3.m 1 rfl))
 refine tn (wp_seq ?_)
 refine gI a3 s3 ok3 (gM q6 (gT (Ty.nat (m % 50)) rfl (fun A B E G H d0 => rP (y_remN (eI d0) (toN (σ := B) rfl oM) oM)) (gM q6 (gT (Ty.nat (m % 5040)) rfl (fun A B E G H d0 => rP (y_remN (eI d0) (toN (σ := B) rfl oM) oM)) (gT (Ty.nat (1 + (m % 5040))) rfl (fun A B E G H d0 => rP ((y_add rfl (eI d0) wX).mono (fun τ _ h => cN (σ := τ) h))) (gT (Ty.agg [(Ty.nat (m % 50)), (Ty.nat (1 + (m % 5040))), (Ty.val (Value.string (ByteArray.mk #[80, 108, 97, 105, 110, 32, 66, 111, 98]))), (Ty.val (Value.slice none 0 0))]) rfl (fun A B E G H d0 d1 => rP (y_bld [(0, (.tmp 10), (Ty.nat (m % 50))), (1, (.tmp 13), (Ty.nat (1 + (m % 5040)))), (2, ((Operand.const (Value.string (ByteArray.mk #[80, 108, 97, 105, 110, 32, 66, 111, 98])))), (Ty.val (Value.string (ByteArray.mk #[80, 108, 97, 105, 110, 32, 66, 111, 98]))))] [(Ty.int (0 : Int)), (Ty.int (0 : Int)), (Ty.val (Value.string ByteArray.empty)), (Ty.val (Value.slice none 0 0))] (l := [(0, 1), (1, 1), (2, 1), (3, 1)]) rfl Tryd.inf42 rfl (alloc_vals (vs := [.int .i64 0, .int .i64 0, .string ByteArray.empty, .slice none 0 0]) rfl) rfl (by intro p hp; simp only [List.mem_cons, List.not_mem_nil, or_false] at hp; rcases hp with rfl | rfl | rfl; exact ⟨one_val rfl, (eI d0)⟩; exact ⟨one_val rfl, (eI d1)⟩; exact ⟨one_val rfl, rfl⟩))) (gR (Pr.ownp 41 [(Ty.int (0 : Int)), (Ty.int (0 : Int)), (Ty.val (Value.string ByteArray.empty)), (Ty.val (Value.slice none 0 0))]) rfl (by intro A B E G H; exact rP (y_alloc Tryd.inf42 rfl (alloc_vals (vs := [.int .i64 0, .int .i64 0, .string ByteArray.empty, .slice none 0 0]) rfl))) (gE2 ok3 fun a4 s4 ok4 D4 => ?_)))))))); have o4 := OwnP.k0 o3 D4.stp
 obtain ⟨x2, hx2⟩ : ∃ x, a4.eval (.tmp 4) = x := ⟨_, rfl⟩
 have q13 : At (Ty.val x2) s4 a4 (.tmp 4) := hx2
 have o5 := al2 (R := (Pr.ownp 41 [(Ty.int (0 : Int)), (Ty.int (0 : Int)), (Ty.val (Value.string ByteArray.empty)), (Ty.val (Value.slice none 0 0))])) hx2 (D4.done 6 dE)
 refine tailL0 (L := [41]) (R := (fun _ τ => OwnP τ 41 x2 [(Ty.nat (m % 50)), (Ty.nat (1 + (m % 5040))), (Ty.val (Value.string (ByteArray.mk #[80, 108, 97, 105, 110, 32, 66, 111, 98]))), (Ty.val (Value.slice none 0 0))])) rfl rfl (YldM.toL (m_storeagg Tryd.inf42 dE o5 q13 rfl (D4.m 5 rfl) (by intro U hU; simp only [List.mem_cons, List.not_mem_nil, or_false] at hU; rcases hU with rfl | rfl | rfl | rfl <;> first | exact one_val rfl | exact one_sl | exact one_flt | exact one_cx | exact one_ref))) (fun v1 s5 hs1 r1 => ?_)
 have q14 := kpL hs1 dE rfl (D4.k (D3.k (D2.k q2))); have q15 := kpL hs1 dE rfl (D4.k q6); have q16 := kpL hs1 dE rfl (D4.k q8); have q17 := kpL hs1 dE rfl q13
 have o6 : OwnP s5 41 x2 [(Ty.nat (m % 50)), (Ty.nat (1 + (m % 5040))), (Ty.val (Value.string (ByteArray.mk #[80, 108, 97, 105, 110, 32, 66, 111, 98]))), (Ty.val (Value.slice none 0 0))] := r1
 clear r1; refine wpList_nil (tn (wp_seq (wp_seq ?_)))
 refine gI a4 s5 ok4 (gC (Ty.int (0 : Int)) (gE ok4 fun a5 s6 ok5 D5 => ?_)); have o8 := OwnP.k0 (OwnP.kl o4 hs1) D5.stp; have o9 := OwnP.k0 o6 D5.stp; refine tn (wp_block ?_)
 have o10 : Own s6 42 9 1 (Value.slice none 0 0) 0 (List.map Ty.str ([] : List ByteArray)) := Own.nil _ _ _ _
 refine loop (fun n1 a6 w1 => ∃ (t1 : GW) (k : Nat) (rg : List ByteArray) (x4_0 rv : Value), t1.w = w1 ∧ FromL [] σ t1 ∧ Ok 44 [] a6 ∧ At (Ty.nat k) t1 a6 (.tmp 5) ∧ At (Ty.val x4_0) t1 a6 (.tmp 4) ∧ At (Ty.val x1) t1 a6 (.tmp 2) ∧ At (Ty.nat m) t1 a6 (.tmp 0) ∧ At (Ty.lst Ty.str nm5) t1 a6 (.tmp 3) ∧ OwnP t1 41 x4_0 [(Ty.int (((m % 50 : Nat)) : Int)), (Ty.int (((1 + (m % 5040) : Nat)) : Int)), (Ty.val (Value.string plB)), (Ty.val rv)] ∧ Own t1 42 9 1 rv (List.length rg) (List.map Ty.str rg) ∧ OwnP t1 61 x1 [(Ty.int (0 : Int)), (Ty.int (0 : Int)), (Ty.val (Value.string ByteArray.empty)), (Ty.val (Value.slice none 0 0))] ∧ (k ≤ 5) ∧ (rg ∈ sub5 k) ∧ (k = 5 → rg ≠ []) ∧ n1 = 5 - k) (5 - (0)) ?_ ?_
 ·
  exact ⟨s6, 0, ([] : List ByteArray), x2, (Value.slice none 0 0), rfl, ((((((F0.step0 D1.stp).step0 D2.stp).step0 D3.stp).step0 D4.stp).sl hs1).step0 D5.stp), ok5, (cJ (D5.m 0 rfl)), (D5.k q17), (D5.k q14), (D5.k q15), (D5.k q16), (ownp_cell 2 (Ty.val (Value.string plB)) (ownp_cell 1 (Ty.int (((1 + (m % 5040) : Nat)) : Int)) (ownp_cell 0 (Ty.int (((m % 50 : Nat)) : Int)) o9 rfl (fun _ _ h => (cJ h))) rfl (fun _ _ h => (cJ h))) rfl (fun _ _ h => (cvt (by (first | rfl | omega | (simp_all; done) | (simp_all; omega))) h))), (cvo (by (simp)) (by (simp)) o10), o8, by omega, by simp [sub5], fun h => by omega, rfl⟩
 ·
  rintro n2 a7 w2 ⟨t2, k, rg, x4_0, rv, rfl, F7, ok6, q24, q25, q26, q27, q28, o11, o12, o13, hk, hsb, hne, rfl⟩
  have hsl_ := sub_len hsb
  refine wp_seq (wp_seq ?_)
  refine gI a7 t2 ok6 (gM q24 (gS rfl (fun A B E G H d0 => rP (y_lss (eI d0) rfl)) (gE ok6 fun a8 s7 ok7 D6 => ?_))); have F8 := F7.step0 D6.stp; have q29 := D6.k q24; have q30 := D6.k q25; have q31 := D6.k q26; have q32 := D6.k q27; have o14 := OwnP.k0 o11 D6.stp; have o15 := Own.k0 o12 D6.stp; have o16 := OwnP.k0 o13 D6.stp; refine tn ?_
  refine cond_p (p := (((k : Nat) : Int) < (5 : Int))) (D6.m 1 rfl) (fun c1 => ?_) (fun c1 => ?_)
  ·
   refine wp_skip (tn (wp_seq (wp_block (wp_seq ?_))))
   refine gI a8 s7 ok7 (gM q32 (gM q29 (gT (Ty.nat (m / 2 ^ k)) rfl (fun A B E G H d0 d1 => rP (y_shrN (n := m) (k := k) (eI d0) (eI d1) oM)) (gT (Ty.nat ((m / 2 ^ k) % 2)) rfl (fun A B E G H d0 => rP (y_remN (eI d0) (toN (σ := B) rfl oM) oM)) (gS rfl (fun A B E G H d0 => rP (y_eql (eI d0) rfl)) (gS rfl (fun A B E G H d0 => rP (y_move (eI d0))) (gS rfl (fun A B E G H d0 => gu G (eI d0) fun hg => y_move (kp (H 5 rfl) E q29)) (gS rfl (fun A B E G H d0 d1 => gu G (eI d1) fun hg => y_eql ((ef d0 rfl).1 hg) rfl) (gS rfl (fun A B E G H d0 d1 d2 => gu G (eI d1) fun hg => y_mv ((ef d0 rfl).1 hg)) (gT (Ty.grd (((decide (((((m / 2 ^ k) % 2) : Nat) : Int) = (1 : Int))) = false) ∧ (decide (((k : Nat) : Int) = (4 : Int))) = true) (Ty.val (ptrAt x4_0 3))) rfl (by intro A B E G H d0; refine run_guard2 G rfl rfl dE (eI d0) (fun hg => ?_); have hp := of_decide_eq_true hg.2; exact ownp_field Tryd.fld42_3 Tryd.inf40 dE (OwnP.k0 o14 E) (kp (H 4 rfl) E q30)) (gS rfl (fun A B E G H d0 d1 => gu2 G (eI d1) fun hg => ownp_load Tryd.underlying40 rfl (OwnP.k0 o14 E) ((ef d0 rfl).1 hg) rfl) (gT (Ty.grd (((decide (((((m / 2 ^ k) % 2) : Nat) : Int) = (1 : Int))) = false) ∧ (decide (((k : Nat) : Int) = (4 : Int))) = true) (Ty.nat (List.length rg))) rfl (fun A B E G H d0 d1 => gu2 G (eI d1) fun hg => own_len Tryd.underlying40 (al (R := (Pr.own 42 9 1 (List.length rg) (List.map Ty.str rg))) ((ef d0 rfl).1 hg) (Own.k0 o15 E))) (gS rfl (fun A B E G H d0 d1 => gu2 G (eI d1) fun hg => y_eql ((ef d0 rfl).1 hg) rfl) ?_)))))))))))))
   refine gS rfl (fun A B E G H d0 d1 d2 => gu G (eI d2) fun hg => y_pick_and ((ef d0 rfl).1 hg) (grd_part hg (eI d1)) rfl) (gS rfl (fun A B E G H d0 d1 => rP (y_pick_or (eI d0) rfl (eI d1))) (gE ok7 fun a9 s8 ok8 D7 => ?_)); have F9 := F8.step0 D7.stp; have q35 := D7.k q29; have q36 := D7.k q30; have q37 := D7.k q31; have q38 := D7.k q32; have q39 := D7.k (D6.k q28); have o17 := OwnP.k0 o14 D7.stp; have o18 := Own.k0 o15 D7.stp; have o19 := OwnP.k0 o16 D7.stp; refine tn ?_
   refine cond_t (D7.m 14 rfl) (fun c2 => ?_) (fun c2 => ?_)
   ·
    refine gI a9 s8 ok8 (gT (Ty.val (ptrAt x4_0 3)) rfl (fun A B E G H => rP (ownp_field Tryd.fld42_3 Tryd.inf40 dE (OwnP.k0 o17 E) (kp (H 4 rfl) E q36))) (gS rfl (fun A B E G H d0 => rP (ownp_load Tryd.underlying40 rfl (OwnP.k0 o17 E) (eI d0) rfl)) (gM q39 (gM q35 (gT (Ty.ref [(Ty.val (Value.string (nm5.getD k ByteArray.empty)))]) rfl (fun A B E G H d0 d1 => rP (y_index1 Tryd.underlying40 Tryd.inf9 (eI d0) (eI d1) oM (lst_get Ty.str nm5 ByteArray.empty k oM))) (gS rfl (fun A B E G H d0 => rP (y_load Tryd.underlying9 rfl (eI d0) rfl)) (gT (Ty.sl 1 1 [(Ty.val (Value.string (nm5.getD k ByteArray.empty)))]) rfl (fun A B E G H d0 => rP (y_build1o Tryd.underlying40 Tryd.inf9 rfl (one_val rfl) (eI d0))) (gE2 ok8 fun a10 s9 ok9 D8 => ?_)))))))); have o20 := OwnP.k0 o17 D8.stp; have o21 := Own.k0 o18 D8.stp; have o22 := OwnP.k0 o19 D8.stp; have q47 := D8.m 6 rfl
    have b1 := sl_le q47
    refine tL ok9 (YldM.toL (m_append Tryd.underlying40 Tryd.inf9 dE rfl dE (al (R := (Pr.own 42 9 1 (List.length rg) (List.map Ty.str rg))) (D8.m 1 rfl) o21) q47 (by intro U hU; simp at hU; subst hU; exact one_val rfl) (by (try simp only [List.length_append, List.length_singleton]); omega) (by (try simp only [List.length_append, List.length_singleton]); omega))) fun a11 s10 hs2 ok10 r2 sm1 => ?_
    have q49 := kq hs2 sm1 4 (D8.k q36); have o24 := OwnP.kl o20 hs2
    obtain ⟨x3, hx3⟩ : ∃ x, a11.eval (.tmp 41) = x := ⟨_, rfl⟩
    have q53 : At (Ty.val x3) s10 a11 (.tmp 41) := hx3
    have o23 := al2 (R := (Pr.own 42 9 1 (List.length (rg ++ [(nm5.getD k ByteArray.empty)])) (List.map Ty.str (rg ++ [(nm5.getD k ByteArray.empty)])))) hx3 (cvo (by simp) (by first | (rw [List.map_append]; rfl) | simp) r2)
    clear r2
    refine tL (R := (fun v τ => Pr.has (Ty.pr (Ty.val (ptrAt x4_0 3))) τ v)) ok10 (Yld.toL (ownp_field Tryd.fld42_3 Tryd.inf40 dE o24 q49)) fun a12 s11 hs3 ok11 r3 sm2 => ?_
    have o28 := Own.kl o23 hs3
    have q60 : At (Ty.val (ptrAt x4_0 3)) s11 a12 (.tmp 42) := r3
    clear r3
    refine tailL0 (L := [41]) (R := (fun _ τ => OwnP τ 41 x4_0 ([(Ty.int (((m % 50 : Nat)) : Int)), (Ty.int (((1 + (m % 5040) : Nat)) : Int)), (Ty.val (Value.string plB)), (Ty.val rv)].set 3 (Ty.val x3)))) rfl rfl (YldM.toL (m_storep Tryd.inf40 dE (OwnP.kl o24 hs3) q60 (Nat.le_of_ble_eq_true rfl) (kq hs3 sm2 41 q53) (one_val (Own.one o28)))) (fun v2 s12 hs4 r4 => ?_)
    have q61 := kpL hs4 dE rfl (kq hs3 sm2 5 (kq hs2 sm1 5 (D8.k q35))); have q62 := kpL hs4 dE rfl (kq hs3 sm2 4 q49); have q63 := kpL hs4 dE rfl (kq hs3 sm2 2 (kq hs2 sm1 2 (D8.k q37))); have q64 := kpL hs4 dE rfl (kq hs3 sm2 0 (kq hs2 sm1 0 (D8.k q38))); have q65 := kpL hs4 dE rfl (kq hs3 sm2 3 (kq hs2 sm1 3 (D8.k q39)))
    have o29 : OwnP s12 41 x4_0 [(Ty.int (((m % 50 : Nat)) : Int)), (Ty.int (((1 + (m % 5040) : Nat)) : Int)), (Ty.val (Value.string plB)), (Ty.val x3)] := r4
    clear r4; refine wpList_nil (bn (tn ?_))
    refine gI a12 s12 ok11 (gM q61 (gT (Ty.nat (k + 1)) rfl (fun A B E G H d0 => rP ((y_add (eI d0) rfl wX).mono (fun τ _ h => cN (σ := τ) h))) (gB 0 (gE ok11 fun a13 s13 ok12 D9 => ?_)))); have o32 := OwnP.k0 (OwnP.kl (OwnP.kl (OwnP.kl o22 hs2) hs3) hs4) D9.stp; have o33 := Own.k0 (Own.kl o28 hs4) D9.stp; have o34 := OwnP.k0 o29 D9.stp
    exact tn ⟨5 - ((k + 1)), by omega, s13, (k + 1), (rg ++ [(nm5.getD k ByteArray.empty)]), x4_0, x3, rfl, (((((F9.step0 D8.stp).sl hs2).sl hs3).sl hs4).step0 D9.stp), ok12, (cJ (D9.m 2 rfl)), (D9.k q62), (D9.k q63), (D9.k q64), (D9.k q65), o34, (cvo (by (simp)) (by (simp)) o33), o32, by omega, sub_yes hsb, fun _ => by simp, rfl⟩
   ·
    obtain ⟨d1, d2⟩ := Bool.or_eq_false_iff.mp c2
    replace d1 := of_decide_eq_false d1
    have hnn : k + 1 = 5 → rg ≠ [] := (fun h_ e_ => by subst e_; rw [show k = 4 by omega] at c2; simp at c2)
    refine wp_skip (bn (tn ?_))
    refine gI a9 s8 ok8 (gM q35 (gT (Ty.nat (k + 1)) rfl (fun A B E G H d0 => rP ((y_add (eI d0) rfl wX).mono (fun τ _ h => cN (σ := τ) h))) (gB 0 (gE ok8 fun a14 s14 ok13 D10 => ?_)))); have o35 := OwnP.k0 o17 D10.stp; have o36 := Own.k0 o18 D10.stp; have o37 := OwnP.k0 o19 D10.stp
    exact tn ⟨5 - ((k + 1)), by omega, s14, (k + 1), rg, x4_0, rv, rfl, (F9.step0 D10.stp), ok13, (cJ (D10.m 2 rfl)), (D10.k q36), (D10.k q37), (D10.k q38), (D10.k q39), o35, o36, o37, by omega, sub_no hsb, hnn, rfl⟩
  ·
   have hk5 : k = 5 := oM; subst hk5
   refine wp_exit (tx (tx (bx (tn (wp_seq ?_)))))
   refine gI a8 s7 ok7 (gT (Ty.agg [(Ty.int (((m % 50 : Nat)) : Int)), (Ty.int (((1 + (m % 5040) : Nat)) : Int)), (Ty.val (Value.string plB)), (Ty.val rv)]) rfl (fun A B E G H => rP (ownp_loadagg Tryd.underlying42 Tryd.inf42 (OwnP.k0 o14 E) (kp (H 4 rfl) E q30))) (gE2 ok7 fun a15 s15 ok14 D11 => ?_)); have q77 := D11.k q31; have o38 := OwnP.k0 o14 D11.stp; have o39 := Own.k0 o15 D11.stp; have o40 := OwnP.k0 o16 D11.stp
   refine tailL0 (L := [61]) (R := (fun _ τ => OwnP τ 61 x1 [(Ty.int (((m % 50 : Nat)) : Int)), (Ty.int (((1 + (m % 5040) : Nat)) : Int)), (Ty.val (Value.string plB)), (Ty.val rv)])) rfl rfl (YldM.toL (m_storeagg Tryd.inf42 dE o40 q77 rfl (D11.m 0 rfl) (by intro U hU; simp only [List.mem_cons, List.not_mem_nil, or_false] at hU; rcases hU with rfl | rfl | rfl | rfl <;> first | exact one_val rfl | exact one_sl | exact one_flt | exact one_cx | exact one_ref | exact one_val (Own.one o39)))) (fun v3 s16 hs5 r5 => ?_)
   have q79 := kpL hs5 dE rfl q77; have o42 := OwnP.kl o38 hs5
   have o41 : OwnP s16 61 x1 [(Ty.int (((m % 50 : Nat)) : Int)), (Ty.int (((1 + (m % 5040) : Nat)) : Int)), (Ty.val (Value.string plB)), (Ty.val rv)] := r5
   clear r5; refine wpList_nil (tn (wp_ret ?_))
   obtain ⟨t3, e1, h1, q81⟩ := Own.seal (Own.kl o39 hs5) dE
   rw [← e1]
   have F18 := ((F8.step0 D11.stp).sl hs5).step h1 dE; have o44 := OwnP.keepL o41 (h1.toL (L := [42]) (by simp)) dE dE; have q82 := Ty.up (Ty.val x1) (h1.le dE) q79; have o45 := ownp_cellq 3 (Ty.lst Ty.str rg) o44 rfl q81
   have o46 : OwnP t3 61 x1 [(Ty.int (((m % 50 : Nat)) : Int)), (Ty.int (((1 + (m % 5040) : Nat)) : Int)), (Ty.val (Value.string plB)), (Ty.lst Ty.str rg)] := o45
   have o47 : OwnP t3 61 x1 [(Ty.int ((((m % 50 : Nat)) : Int))), (Ty.int (((1 + (m % 5040) : Nat)) : Int)), (Ty.val (Value.string plB)), (Ty.lst Ty.str rg)] := cvop (by rw [show (Ty.int (((m % 50 : Nat)) : Int)) = (Ty.int ((((m % 50 : Nat)) : Int))) from by (first | rfl | omega | (simp_all; done))]) o46
   have o48 : OwnP t3 61 x1 [(Ty.int ((((m % 50 : Nat)) : Int))), (Ty.int ((((1 + (m % 5040) : Nat)) : Int))), (Ty.val (Value.string plB)), (Ty.lst Ty.str rg)] := cvop (by rw [show (Ty.int (((1 + (m % 5040) : Nat)) : Int)) = (Ty.int ((((1 + (m % 5040) : Nat)) : Int))) from by (first | rfl | omega | (simp_all; done))]) o47
   have o49 : OwnP t3 61 x1 [(Ty.int ((((m % 50 : Nat)) : Int))), (Ty.int ((((1 + (m % 5040) : Nat)) : Int))), (Ty.val (Value.string (plB))), (Ty.lst Ty.str rg)] := cvop (by rw [show (Ty.val (Value.string plB)) = (Ty.val (Value.string (plB))) from by (first | rfl | omega | (simp_all; done))]) o48
   have o50 : OwnP t3 61 x1 [(Ty.int ((((m % 50 : Nat)) : Int))), (Ty.int ((((1 + (m % 5040) : Nat)) : Int))), (Ty.val (Value.string (plB))), (Ty.lst Ty.str (rg))] := cvop (by rw [show (Ty.lst Ty.str rg) = (Ty.lst Ty.str (rg)) from by (first | rfl | omega | (simp_all; done))]) o49
   exact retL1c (k := 61) (ts := [(Ty.int ((((m % 50 : Nat)) : Int))), (Ty.int ((((1 + (m % 5040) : Nat)) : Int))), (Ty.val (Value.string (plB))), (Ty.lst Ty.str (rg))]) rfl ok14 F18 Tryd.underlying42 Tryd.inf42 (al (R := (Pr.ownp 61 [(Ty.int ((((m % 50 : Nat)) : Int))), (Ty.int ((((1 + (m % 5040) : Nat)) : Int))), (Ty.val (Value.string (plB))), (Ty.lst Ty.str (rg))])) q82 o50) (fun v_ hv_ => ⟨(((m % 50 : Nat)) : Int), (((1 + (m % 5040) : Nat)) : Int), plB, rg, hv_, (by exact rec_ok hsb (hne rfl) oM oM)⟩)


set_option maxRecDepth 100000 in
theorem letter_fn (c : Int) (σ : GW) (v0 : Value) (hv0 : Ty.has (Ty.val (Value.int .i32 c)) σ v0)  :
    FnC Tryd.prog 48 #[v0] σ (Ty.bool (letterB c)) := by
 refine fn_intro Tryd.func48 rfl Tryd.ntmps48 (Nat.le_of_ble_eq_true rfl) (fun s0 a0 hle F0 ok0 hargs => ?_)
 have p0 := pA hle (hargs 0 _ rfl) hv0
 clear hargs; refine wp_seq ?_
 refine gI a0 s0 ok0 (gC (Ty.bool false) (gE ok0 fun a1 s1 ok1 D1 => ?_)); have q1 := D1.k p0; refine tn (wp_seq ?_)
 refine gI a1 s1 ok1 (gM q1 (gS rfl (fun A B E G H d0 => rP (y_geq (eI d0) rfl)) (gS rfl (fun A B E G H d0 => rP (y_move (eI d0))) (gS rfl (fun A B E G H d0 => gu G (eI d0) fun hg => y_move (kp (H 0 rfl) E q1)) (gS rfl (fun A B E G H d0 d1 => gu G (eI d1) fun hg => y_leq ((ef d0 rfl).1 hg) rfl) (gS rfl (fun A B E G H d0 d1 => rP (y_pick_and (eI d0) (eI d1) rfl)) (gS rfl (fun A B E G H d0 d1 => rP (y_move (eI d0))) (gS rfl (fun A B E G H d0 => gu G (eI d0) fun hg => y_move (kp (H 0 rfl) E q1)) (gS rfl (fun A B E G H d0 d1 => gu G (eI d1) fun hg => y_geq ((ef d0 rfl).1 hg) rfl) (gS rfl (fun A B E G H d0 d1 d2 => gu G (eI d1) fun hg => y_mv ((ef d0 rfl).1 hg)) (gS rfl (fun A B E G H d0 => gu2 G (eI d0) fun hg => y_move (kp (H 0 rfl) E q1)) (gS rfl (fun A B E G H d0 d1 => gu2 G (eI d1) fun hg => y_leq ((ef d0 rfl).1 hg) rfl) (gS rfl (fun A B E G H d0 d1 d2 => gu G (eI d2) fun hg => y_pick_and ((ef d0 rfl).1 hg) (grd_part hg (eI d1)) rfl) (gS rfl (fun A B E G H d0 d1 => rP (y_pick_or (eI d0) rfl (eI d1))) (gS rfl (fun A B E G H d0 d1 => rP (y_move (eI d0))) (gT (Ty.grd ((((decide ((65 : Int) ≤ c)) && (decide (c ≤ (90 : Int)))) || ((decide ((97 : Int) ≤ c)) && (decide (c ≤ (122 : Int))))) = false) (Ty.val (Value.int .i32 c))) rfl (by intro A B E G H d0; refine run_guard G rfl rfl dE (eI d0) (fun hg => ?_); obtain ⟨d1, d2⟩ := Bool.or_eq_false_iff.mp hg; exact y_move (kp (H 0 rfl) E q1)) ?_))))))))))))))))
 refine gT (Ty.grd ((((decide ((65 : Int) ≤ c)) && (decide (c ≤ (90 : Int)))) || ((decide ((97 : Int) ≤ c)) && (decide (c ≤ (122 : Int))))) = false) (Ty.bool (decide ((48 : Int) ≤ c)))) rfl (by intro A B E G H d0 d1; refine run_guard G rfl rfl dE (eI d1) (fun hg => ?_); obtain ⟨d3, d4⟩ := Bool.or_eq_false_iff.mp hg; exact y_geq ((ef d0 rfl).1 hg) rfl) (gT (Ty.grd ((((decide ((65 : Int) ≤ c)) && (decide (c ≤ (90 : Int)))) || ((decide ((97 : Int) ≤ c)) && (decide (c ≤ (122 : Int))))) = false) (Ty.bool (decide ((48 : Int) ≤ c)))) rfl (by intro A B E G H d0 d1 d2; refine run_guard G rfl rfl dE (eI d1) (fun hg => ?_); obtain ⟨d5, d6⟩ := Bool.or_eq_false_iff.mp hg; exact y_move ((ef d0 rfl).1 hg)) (gS rfl (fun A B E G H d0 => gu2 G (eI d0) fun hg => y_move (kp (H 0 rfl) E q1)) (gS rfl (fun A B E G H d0 d1 => gu2 G (eI d1) fun hg => y_leq ((ef d0 rfl).1 hg) rfl) (gT (Ty.grd ((((decide ((65 : Int) ≤ c)) && (decide (c ≤ (90 : Int)))) || ((decide ((97 : Int) ≤ c)) && (decide (c ≤ (122 : Int))))) = false) (Ty.bool ((decide ((48 : Int) ≤ c)) && (decide (c ≤ (57 : Int)))))) rfl (by intro A B E G H d0 d1 d2; refine run_guard G rfl rfl dE (eI d2) (fun hg => ?_); obtain ⟨d7, d8⟩ := Bool.or_eq_false_iff.mp hg; exact y_pick_and ((ef d0 rfl).1 hg) (grd_part hg (eI d1)) rfl) (gS rfl (fun A B E G H d0 d1 => rP (y_pick_or (eI d0) rfl (eI d1))) (gS rfl (fun A B E G H d0 d1 => rP (y_move (eI d0))) ?_))))))
 refine gT (Ty.grd (((((decide ((65 : Int) ≤ c)) && (decide (c ≤ (90 : Int)))) || ((decide ((97 : Int) ≤ c)) && (decide (c ≤ (122 : Int))))) || ((decide ((48 : Int) ≤ c)) && (decide (c ≤ (57 : Int))))) = false) (Ty.val (Value.int .i32 c))) rfl (by intro A B E G H d0; refine run_guard G rfl rfl dE (eI d0) (fun hg => ?_); obtain ⟨d9, d10⟩ := Bool.or_eq_false_iff.mp hg; obtain ⟨d11, d12⟩ := Bool.or_eq_false_iff.mp d9; exact y_move (kp (H 0 rfl) E q1)) (gT (Ty.grd (((((decide ((65 : Int) ≤ c)) && (decide (c ≤ (90 : Int)))) || ((decide ((97 : Int) ≤ c)) && (decide (c ≤ (122 : Int))))) || ((decide ((48 : Int) ≤ c)) && (decide (c ≤ (57 : Int))))) = false) (Ty.bool (decide (c = (32 : Int))))) rfl (by intro A B E G H d0 d1; refine run_guard G rfl rfl dE (eI d1) (fun hg => ?_); obtain ⟨d13, d14⟩ := Bool.or_eq_false_iff.mp hg; obtain ⟨d15, d16⟩ := Bool.or_eq_false_iff.mp d13; exact y_eql ((ef d0 rfl).1 hg) rfl) (gS rfl (fun A B E G H d0 d1 => rP (y_pick_or (eI d0) rfl (eI d1))) (gS rfl (fun A B E G H d0 d1 => rP (y_move (eI d0))) (gT (Ty.grd ((((((decide ((65 : Int) ≤ c)) && (decide (c ≤ (90 : Int)))) || ((decide ((97 : Int) ≤ c)) && (decide (c ≤ (122 : Int))))) || ((decide ((48 : Int) ≤ c)) && (decide (c ≤ (57 : Int))))) || (decide (c = (32 : Int)))) = false) (Ty.val (Value.int .i32 c))) rfl (by intro A B E G H d0; refine run_guard G rfl rfl dE (eI d0) (fun hg => ?_); obtain ⟨d17, d18⟩ := Bool.or_eq_false_iff.mp hg; obtain ⟨d19, d20⟩ := Bool.or_eq_false_iff.mp d17; obtain ⟨d21, d22⟩ := Bool.or_eq_false_iff.mp d19; have d18 := of_decide_eq_false d18; exact y_move (kp (H 0 rfl) E q1)) ?_))))
 refine gT (Ty.grd ((((((decide ((65 : Int) ≤ c)) && (decide (c ≤ (90 : Int)))) || ((decide ((97 : Int) ≤ c)) && (decide (c ≤ (122 : Int))))) || ((decide ((48 : Int) ≤ c)) && (decide (c ≤ (57 : Int))))) || (decide (c = (32 : Int)))) = false) (Ty.bool (decide ((192 : Int) ≤ c)))) rfl (by intro A B E G H d0 d1; refine run_guard G rfl rfl dE (eI d1) (fun hg => ?_); obtain ⟨d23, d24⟩ := Bool.or_eq_false_iff.mp hg; obtain ⟨d25, d26⟩ := Bool.or_eq_false_iff.mp d23; obtain ⟨d27, d28⟩ := Bool.or_eq_false_iff.mp d25; have d24 := of_decide_eq_false d24; exact y_geq ((ef d0 rfl).1 hg) rfl) (gT (Ty.grd ((((((decide ((65 : Int) ≤ c)) && (decide (c ≤ (90 : Int)))) || ((decide ((97 : Int) ≤ c)) && (decide (c ≤ (122 : Int))))) || ((decide ((48 : Int) ≤ c)) && (decide (c ≤ (57 : Int))))) || (decide (c = (32 : Int)))) = false) (Ty.bool (decide ((192 : Int) ≤ c)))) rfl (by intro A B E G H d0 d1 d2; refine run_guard G rfl rfl dE (eI d1) (fun hg => ?_); obtain ⟨d29, d30⟩ := Bool.or_eq_false_iff.mp hg; obtain ⟨d31, d32⟩ := Bool.or_eq_false_iff.mp d29; obtain ⟨d33, d34⟩ := Bool.or_eq_false_iff.mp d31; have d30 := of_decide_eq_false d30; exact y_move ((ef d0 rfl).1 hg)) (gS rfl (fun A B E G H d0 => gu2 G (eI d0) fun hg => y_move (kp (H 0 rfl) E q1)) (gS rfl (fun A B E G H d0 d1 => gu2 G (eI d1) fun hg => y_leq ((ef d0 rfl).1 hg) rfl) ?_)))
 refine gT (Ty.grd ((((((decide ((65 : Int) ≤ c)) && (decide (c ≤ (90 : Int)))) || ((decide ((97 : Int) ≤ c)) && (decide (c ≤ (122 : Int))))) || ((decide ((48 : Int) ≤ c)) && (decide (c ≤ (57 : Int))))) || (decide (c = (32 : Int)))) = false) (Ty.bool ((decide ((192 : Int) ≤ c)) && (decide (c ≤ (382 : Int)))))) rfl (by intro A B E G H d0 d1 d2; refine run_guard G rfl rfl dE (eI d2) (fun hg => ?_); obtain ⟨d35, d36⟩ := Bool.or_eq_false_iff.mp hg; obtain ⟨d37, d38⟩ := Bool.or_eq_false_iff.mp d35; obtain ⟨d39, d40⟩ := Bool.or_eq_false_iff.mp d37; have d36 := of_decide_eq_false d36; exact y_pick_and ((ef d0 rfl).1 hg) (grd_part hg (eI d1)) rfl) (gT (Ty.grd ((((((decide ((65 : Int) ≤ c)) && (decide (c ≤ (90 : Int)))) || ((decide ((97 : Int) ≤ c)) && (decide (c ≤ (122 : Int))))) || ((decide ((48 : Int) ≤ c)) && (decide (c ≤ (57 : Int))))) || (decide (c = (32 : Int)))) = false) (Ty.bool ((decide ((192 : Int) ≤ c)) && (decide (c ≤ (382 : Int)))))) rfl (by intro A B E G H d0 d1 d2; refine run_guard G rfl rfl dE (eI d2) (fun hg => ?_); obtain ⟨d41, d42⟩ := Bool.or_eq_false_iff.mp hg; obtain ⟨d43, d44⟩ := Bool.or_eq_false_iff.mp d41; obtain ⟨d45, d46⟩ := Bool.or_eq_false_iff.mp d43; have d42 := of_decide_eq_false d42; exact y_move ((ef d0 rfl).1 hg)) (gT (Ty.grd (((((((decide ((65 : Int) ≤ c)) && (decide (c ≤ (90 : Int)))) || ((decide ((97 : Int) ≤ c)) && (decide (c ≤ (122 : Int))))) || ((decide ((48 : Int) ≤ c)) && (decide (c ≤ (57 : Int))))) || (decide (c = (32 : Int)))) = false) ∧ ((decide ((192 : Int) ≤ c)) && (decide (c ≤ (382 : Int)))) = true) (Ty.val (Value.int .i32 c))) rfl (by intro A B E G H d0; refine run_guard2 G rfl rfl dE (eI d0) (fun hg => ?_); obtain ⟨d47, d48⟩ := Bool.and_eq_true_iff.mp hg.2; have d47 := of_decide_eq_true d47; have d48 := of_decide_eq_true d48; exact y_move (kp (H 0 rfl) E q1)) ?_))
 refine gT (Ty.grd (((((((decide ((65 : Int) ≤ c)) && (decide (c ≤ (90 : Int)))) || ((decide ((97 : Int) ≤ c)) && (decide (c ≤ (122 : Int))))) || ((decide ((48 : Int) ≤ c)) && (decide (c ≤ (57 : Int))))) || (decide (c = (32 : Int)))) = false) ∧ ((decide ((192 : Int) ≤ c)) && (decide (c ≤ (382 : Int)))) = true) (Ty.bool (decide (c ≠ (215 : Int))))) rfl (by intro A B E G H d0 d1; refine run_guard2 G rfl rfl dE (eI d1) (fun hg => ?_); obtain ⟨d49, d50⟩ := Bool.and_eq_true_iff.mp hg.2; have d49 := of_decide_eq_true d49; have d50 := of_decide_eq_true d50; exact y_neq ((ef d0 rfl).1 hg) rfl) (gT (Ty.grd ((((((decide ((65 : Int) ≤ c)) && (decide (c ≤ (90 : Int)))) || ((decide ((97 : Int) ≤ c)) && (decide (c ≤ (122 : Int))))) || ((decide ((48 : Int) ≤ c)) && (decide (c ≤ (57 : Int))))) || (decide (c = (32 : Int)))) = false) (Ty.bool (((decide ((192 : Int) ≤ c)) && (decide (c ≤ (382 : Int)))) && (decide (c ≠ (215 : Int)))))) rfl (by intro A B E G H d0 d1 d2; refine run_guard G rfl rfl dE (eI d2) (fun hg => ?_); obtain ⟨d51, d52⟩ := Bool.or_eq_false_iff.mp hg; obtain ⟨d53, d54⟩ := Bool.or_eq_false_iff.mp d51; obtain ⟨d55, d56⟩ := Bool.or_eq_false_iff.mp d53; have d52 := of_decide_eq_false d52; exact y_pick_and ((ef d0 rfl).1 hg) (grd_part hg (eI d1)) rfl) ?_)
 refine gT (Ty.grd ((((((decide ((65 : Int) ≤ c)) && (decide (c ≤ (90 : Int)))) || ((decide ((97 : Int) ≤ c)) && (decide (c ≤ (122 : Int))))) || ((decide ((48 : Int) ≤ c)) && (decide (c ≤ (57 : Int))))) || (decide (c = (32 : Int)))) = false) (Ty.bool (((decide ((192 : Int) ≤ c)) && (decide (c ≤ (382 : Int)))) && (decide (c ≠ (215 : Int)))))) rfl (by intro A B E G H d0 d1 d2; refine run_guard G rfl rfl dE (eI d2) (fun hg => ?_); obtain ⟨d57, d58⟩ := Bool.or_eq_false_iff.mp hg; obtain ⟨d59, d60⟩ := Bool.or_eq_false_iff.mp d57; obtain ⟨d61, d62⟩ := Bool.or_eq_false_iff.mp d59; have d58 := of_decide_eq_false d58; exact y_move ((ef d0 rfl).1 hg)) (gT (Ty.grd (((((((decide ((65 : Int) ≤ c)) && (decide (c ≤ (90 : Int)))) || ((decide ((97 : Int) ≤ c)) && (decide (c ≤ (122 : Int))))) || ((decide ((48 : Int) ≤ c)) && (decide (c ≤ (57 : Int))))) || (decide (c = (32 : Int)))) = false) ∧ (((decide ((192 : Int) ≤ c)) && (decide (c ≤ (382 : Int)))) && (decide (c ≠ (215 : Int)))) = true) (Ty.val (Value.int .i32 c))) rfl (by intro A B E G H d0; refine run_guard2 G rfl rfl dE (eI d0) (fun hg => ?_); obtain ⟨d63, d64⟩ := Bool.and_eq_true_iff.mp hg.2; obtain ⟨d65, d66⟩ := Bool.and_eq_true_iff.mp d63; have d65 := of_decide_eq_true d65; have d66 := of_decide_eq_true d66; have d64 := of_decide_eq_true d64; exact y_move (kp (H 0 rfl) E q1)) ?_)
 refine gT (Ty.grd (((((((decide ((65 : Int) ≤ c)) && (decide (c ≤ (90 : Int)))) || ((decide ((97 : Int) ≤ c)) && (decide (c ≤ (122 : Int))))) || ((decide ((48 : Int) ≤ c)) && (decide (c ≤ (57 : Int))))) || (decide (c = (32 : Int)))) = false) ∧ (((decide ((192 : Int) ≤ c)) && (decide (c ≤ (382 : Int)))) && (decide (c ≠ (215 : Int)))) = true) (Ty.bool (decide (c ≠ (247 : Int))))) rfl (by intro A B E G H d0 d1; refine run_guard2 G rfl rfl dE (eI d1) (fun hg => ?_); obtain ⟨d67, d68⟩ := Bool.and_eq_true_iff.mp hg.2; obtain ⟨d69, d70⟩ := Bool.and_eq_true_iff.mp d67; have d69 := of_decide_eq_true d69; have d70 := of_decide_eq_true d70; have d68 := of_decide_eq_true d68; exact y_neq ((ef d0 rfl).1 hg) rfl) (gT (Ty.grd ((((((decide ((65 : Int) ≤ c)) && (decide (c ≤ (90 : Int)))) || ((decide ((97 : Int) ≤ c)) && (decide (c ≤ (122 : Int))))) || ((decide ((48 : Int) ≤ c)) && (decide (c ≤ (57 : Int))))) || (decide (c = (32 : Int)))) = false) (Ty.bool ((((decide ((192 : Int) ≤ c)) && (decide (c ≤ (382 : Int)))) && (decide (c ≠ (215 : Int)))) && (decide (c ≠ (247 : Int)))))) rfl (by intro A B E G H d0 d1 d2; refine run_guard G rfl rfl dE (eI d2) (fun hg => ?_); obtain ⟨d71, d72⟩ := Bool.or_eq_false_iff.mp hg; obtain ⟨d73, d74⟩ := Bool.or_eq_false_iff.mp d71; obtain ⟨d75, d76⟩ := Bool.or_eq_false_iff.mp d73; have d72 := of_decide_eq_false d72; exact y_pick_and ((ef d0 rfl).1 hg) (grd_part hg (eI d1)) rfl) (gS rfl (fun A B E G H d0 d1 => rP (y_pick_or (eI d0) rfl (eI d1))) (gB 0 (gE ok1 fun a2 s2 ok2 D2 => ?_)))); refine tn (wp_ret ?_)
 exact ret1 rfl ok2 ((F0.step0 D1.stp).step0 D2.stp) (cvb (by (rfl)) (D2.m 42 rfl))


set_option maxRecDepth 100000 in
theorem mName_fn (s : ByteArray) (σ : GW) (v0 : Value) (hv0 : Ty.has (Ty.val (Value.string s)) σ v0) (E : s.size ≤ 1099511627776) :
    FnC Tryd.prog 36 #[v0] σ (Ty.bool (nameL s)) := by
 refine fn_intro Tryd.func36 rfl Tryd.ntmps36 (Nat.le_of_ble_eq_true rfl) (fun s0 a0 hle F0 ok0 hargs => ?_)
 have p0 := pA hle (hargs 0 _ rfl) hv0
 clear hargs; refine wp_seq ?_
 refine gI a0 s0 ok0 (gC (Ty.bool false) (gE ok0 fun a1 s1 ok1 D1 => ?_)); refine tn (wp_seq ?_)
 refine gI a1 s1 ok1 (gC (Ty.int (0 : Int)) (gE ok1 fun a2 s2 ok2 D2 => ?_)); have q2 := D2.k (D1.k p0); refine tn (wp_seq (wp_seq ?_))
 refine gI a2 s2 ok2 (gM q2 (gR (Pr.iter 7 s 0) rfl (by intro A B E G H d0; exact rP (y_range 7 Tryd.underlying9 (eI d0))) (gE ok2 fun a3 s3 ok3 D3 => ?_)))
 have q6 : (Pr.iter 7 s 0).has s3 (a3.eval (.tmp 7)) := D3.done 1
 refine tn (wp_block ?_)
 refine loop (fun n1 a4 w1 => ∃ (t1 : GW) (xs : List Nat) (p : Nat) (f : Nat), t1.w = w1 ∧ From s0 t1 ∧ Ok 35 [] a4 ∧ (Pr.iter 7 s p).has t1 (a4.eval (.tmp 7)) ∧ At (Ty.nat xs.length) t1 a4 (.tmp 3) ∧ At (Ty.val (Value.string s)) t1 a4 (.tmp 0) ∧ (∀ c ∈ xs, letterB ((c : Nat) : Int) = true) ∧ (xs ++ runesF s f p = runesL s) ∧ (s.size ≤ f + p) ∧ (p ≤ s.size + 4) ∧ (xs.length ≤ p) ∧ (xs.length = 0 ∨ 0 < s.size) ∧ n1 = s.size + 8 - p) (s.size + 8 - (0)) ?_ ?_
 ·
  exact ⟨s3, ([] : List Nat), 0, s.size, rfl, (((F0.step0 D1.stp).step0 D2.stp).step0 D3.stp), ok3, (cvit oM q6), (cJ (D3.k (D2.m 0 rfl))), (D3.k q2), fun c hc => by simp at hc, rfl, by omega, by omega, by simp, .inl rfl, rfl⟩
 ·
  rintro n2 a5 w2 ⟨t2, xs, p, f, rfl, F4, ok4, q7, q8, q9, hall, heq, hf, hp, hx, hz, rfl⟩
  have hw := wid_pos s p
  have hw2 := wid_le s p
  refine wp_seq ?_
  refine gI a5 t2 ok4 (gE2 ok4 fun a6 s4 ok5 D4 => ?_); have q10 := (Pr.iter 7 s p).up D4.stp q7
  have q11 : a6.eval (.tmp 7) = a5.eval (.tmp 7) := D4.same 7 rfl
  refine tail_step (m := 7) (R := (fun v τ => (Ty.nxt (decide (p < s.size)) p (run1 s p)).has τ v ∧ Iter τ 7 (a5.eval (.tmp 7)) s (stepTo s p))) rfl rfl dE ok5 (m_next dE q10 q11) (fun a7 s5 hs1 ok6 r1 sm1 => ?_)
  have F6 := (F4.step0 D4.stp).step hs1 dE
  have q14 : (Pr.iter 7 s (stepTo s p)).has s5 (a5.eval (.tmp 7)) := (r1).2
  have q15 := (sm1 7 dE).trans q11
  have q16 : At (Ty.nat xs.length) s5 a7 (.tmp 3) := kpm hs1 dE (sm1 3 dE) (D4.k q8)
  have q17 : At (Ty.val (Value.string s)) s5 a7 (.tmp 0) := kpm hs1 dE (sm1 0 dE) (D4.k q9)
  have q18 : At (Ty.nxt (decide (p < s.size)) p (run1 s p)) s5 a7 (.tmp 8) := (r1).1
  refine tail_step (m := 0) (R := (fun v τ => Pr.has (Ty.pr (Ty.bool (decide (p < s.size)))) τ v)) rfl rfl dE ok6 (Yld.toM (y_ext_n0 q18)) (fun a8 s6 hs2 ok7 r2 sm2 => ?_)
  have F7 := F6.step hs2 dE; have q19 := Iter.keep q14 hs2 dE (.inl rfl); have q20 := (sm2 7 dE).trans q15
  have q21 : At (Ty.nat xs.length) s6 a8 (.tmp 3) := kpm hs2 dE (sm2 3 dE) q16
  have q22 : At (Ty.val (Value.string s)) s6 a8 (.tmp 0) := kpm hs2 dE (sm2 0 dE) q17
  have q23 : At (Ty.nxt (decide (p < s.size)) p (run1 s p)) s6 a8 (.tmp 8) := kpm hs2 dE (sm2 8 dE) q18
  have q24 : At (Ty.bool (decide (p < s.size))) s6 a8 (.tmp 9) := r2
  refine wpList_nil ?_
  have q25 : (Pr.iter 7 s (stepTo s p)).has s6 (a8.eval (.tmp 7)) := al q20 q19
  refine tn (wp_seq ?_)
  refine cond_p (p := (p < s.size)) q24 (fun c1 => ?_) (fun c1 => ?_)
  ·
   refine wp_skip (tn (wp_block (wp_seq ?_)))
   refine gI a8 s6 ok7 (gT (Ty.val (Value.int .i32 ((run1 s p : Nat) : Int))) rfl (fun A B E G H => rP (y_ext_n2 (kp (H 8 rfl) E q23) (decide_eq_true oM))) (gB 0 (gE ok7 fun a9 s7 ok8 D5 => ?_)))
   have q26 : (Pr.iter 7 s (stepTo s p)).has s7 (a9.eval (.tmp 7)) := D5.ko q25 rfl
   refine tn (wp_seq (wp_seq ?_))
   refine gI a9 s7 ok8 (gM (D5.m 1 rfl) (gS rfl (fun A B E G H d0 => rP (y_call _ Tryd.func48 rfl rfl my1 (letter_fn (((run1 s p : Nat) : Int)) _ _ (eI d0) ))) (gS rfl (fun A B E G H d0 => rP (y_not (eI d0))) (gE ok8 fun a10 s8 ok9 D6 => ?_)))); have F9 := (F7.step0 D5.stp).step0 D6.stp
   have q30 : (Pr.iter 7 s (stepTo s p)).has s8 (a10.eval (.tmp 7)) := D6.ko q26 rfl
   refine tn ?_
   refine cond_t (D6.m 2 rfl) (fun c2 => ?_) (fun c2 => ?_)
   ·
    have hlet : letterB (run1 s p : Nat) = false := (by simpa using c2)
    refine wp_seq ?_
    refine gI a10 s8 ok9 (gC (Ty.bool false) (gE ok9 fun a11 s9 ok10 D7 => ?_)); refine tn (wp_ret (tr (br (tr (br (tr ?_))))))
    exact ret1 rfl ok10 (F9.step0 D7.stp) (cvb (by (exact (nameL_no heq oM oM hlet).symm)) (D7.m 0 rfl))
   ·
    have hlet : letterB (run1 s p : Nat) = true := (by simpa using c2)
    refine wp_skip (tn ?_)
    refine gI a10 s8 ok9 (gM (D6.k (D5.k q21)) (gT (Ty.int (((xs.length : Nat) : Int) + (1 : Int))) rfl (fun A B E G H d0 => rP (y_add (eI d0) rfl wX)) (gB 0 (gE ok9 fun a12 s10 ok11 D8 => ?_))))
    have q35 : (Pr.iter 7 s (stepTo s p)).has s10 (a12.eval (.tmp 7)) := D8.ko q30 rfl
    refine bn ?_
    exact tn ⟨s.size + 8 - ((p + wid s p)), by omega, s10, (xs ++ [run1 s p]), (p + wid s p), (f - 1), rfl, (F9.step0 D8.stp), ok11, (cvit (by unfold stepTo; rw [if_pos oM]) q35), (cvi (by (simp)) (D8.m 2 rfl)), (D8.k (D6.k (D5.k q22))), fun c hc => by (rcases List.mem_append.1 hc with h | h; exact hall c h; simp at h; subst h; exact hlet), runesF_step heq oM oM, by omega, by omega, by simp; omega, .inr oM, rfl⟩
  ·
   refine wp_exit (tx (tx (bx (tn (wp_seq ?_)))))
   refine gI a8 s6 ok7 (gM q21 (gS rfl (fun A B E G H d0 => rP (y_geq (eI d0) rfl)) (gS rfl (fun A B E G H d0 => rP (y_move (eI d0))) (gS rfl (fun A B E G H d0 => gu G (eI d0) fun hg => y_move (kp (H 3 rfl) E q21)) (gS rfl (fun A B E G H d0 d1 => gu G (eI d1) fun hg => y_leq ((ef d0 rfl).1 hg) rfl) (gS rfl (fun A B E G H d0 d1 => rP (y_pick_and (eI d0) (eI d1) rfl)) (gS rfl (fun A B E G H d0 d1 => rP (y_move (eI d0))) (gT (Ty.grd (((decide ((1 : Int) ≤ ((xs.length : Nat) : Int))) && (decide (((xs.length : Nat) : Int) ≤ (20 : Int)))) = true) (Ty.val (Value.string s))) rfl (by intro A B E G H d0; refine run_guard G rfl rfl dE (eI d0) (fun hg => ?_); obtain ⟨d1, d2⟩ := Bool.and_eq_true_iff.mp hg; have d1 := of_decide_eq_true d1; have d2 := of_decide_eq_true d2; exact y_move (kp (H 0 rfl) E q22)) (gT (Ty.grd (((decide ((1 : Int) ≤ ((xs.length : Nat) : Int))) && (decide (((xs.length : Nat) : Int) ≤ (20 : Int)))) = true) (Ty.val (Value.int .u8 (((s.get! ((0 : Int)).toNat).toNat : Nat) : Int)))) rfl (by intro A B E G H d0 d1; refine run_guard G rfl rfl dE (eI d1) (fun hg => ?_); obtain ⟨d3, d4⟩ := Bool.and_eq_true_iff.mp hg; have d3 := of_decide_eq_true d3; have d4 := of_decide_eq_true d4; exact y_sindex Tryd.underlying9 ((ef d0 rfl).1 hg) rfl oM oM) (gT (Ty.grd (((decide ((1 : Int) ≤ ((xs.length : Nat) : Int))) && (decide (((xs.length : Nat) : Int) ≤ (20 : Int)))) = true) (Ty.bool (decide ((((s.get! ((0 : Int)).toNat).toNat : Nat) : Int) ≠ (32 : Int))))) rfl (by intro A B E G H d0 d1; refine run_guard G rfl rfl dE (eI d1) (fun hg => ?_); obtain ⟨d5, d6⟩ := Bool.and_eq_true_iff.mp hg; have d5 := of_decide_eq_true d5; have d6 := of_decide_eq_true d6; exact y_neq ((ef d0 rfl).1 hg) rfl) ?_))))))))))
   refine gS rfl (fun A B E G H d0 d1 => rP (y_pick_and (eI d0) (eI d1) rfl)) (gS rfl (fun A B E G H d0 d1 => rP (y_move (eI d0))) (gT (Ty.grd ((((decide ((1 : Int) ≤ ((xs.length : Nat) : Int))) && (decide (((xs.length : Nat) : Int) ≤ (20 : Int)))) && (decide ((((s.get! ((0 : Int)).toNat).toNat : Nat) : Int) ≠ (32 : Int)))) = true) (Ty.val (Value.string s))) rfl (by intro A B E G H d0; refine run_guard G rfl rfl dE (eI d0) (fun hg => ?_); obtain ⟨d7, d8⟩ := Bool.and_eq_true_iff.mp hg; obtain ⟨d9, d10⟩ := Bool.and_eq_true_iff.mp d7; have d9 := of_decide_eq_true d9; have d10 := of_decide_eq_true d10; have d8 := of_decide_eq_true d8; exact y_move (kp (H 0 rfl) E q22)) (gT (Ty.grd ((((decide ((1 : Int) ≤ ((xs.length : Nat) : Int))) && (decide (((xs.length : Nat) : Int) ≤ (20 : Int)))) && (decide ((((s.get! ((0 : Int)).toNat).toNat : Nat) : Int) ≠ (32 : Int)))) = true) (Ty.val (Value.string s))) rfl (by intro A B E G H d0; refine run_guard G rfl rfl dE (eI d0) (fun hg => ?_); obtain ⟨d11, d12⟩ := Bool.and_eq_true_iff.mp hg; obtain ⟨d13, d14⟩ := Bool.and_eq_true_iff.mp d11; have d13 := of_decide_eq_true d13; have d14 := of_decide_eq_true d14; have d12 := of_decide_eq_true d12; exact y_move (kp (H 0 rfl) E q22)) (gT (Ty.grd ((((decide ((1 : Int) ≤ ((xs.length : Nat) : Int))) && (decide (((xs.length : Nat) : Int) ≤ (20 : Int)))) && (decide ((((s.get! ((0 : Int)).toNat).toNat : Nat) : Int) ≠ (32 : Int)))) = true) (Ty.nat (ByteArray.size s))) rfl (by intro A B E G H d0 d1; refine run_guard G rfl rfl dE (eI d1) (fun hg => ?_); obtain ⟨d15, d16⟩ := Bool.and_eq_true_iff.mp hg; obtain ⟨d17, d18⟩ := Bool.and_eq_true_iff.mp d15; have d17 := of_decide_eq_true d17; have d18 := of_decide_eq_true d18; have d16 := of_decide_eq_true d16; exact y_len_str Tryd.underlying9 ((ef d0 rfl).1 hg)) ?_))))
   refine gT (Ty.grd ((((decide ((1 : Int) ≤ ((xs.length : Nat) : Int))) && (decide (((xs.length : Nat) : Int) ≤ (20 : Int)))) && (decide ((((s.get! ((0 : Int)).toNat).toNat : Nat) : Int) ≠ (32 : Int)))) = true) (Ty.int ((((ByteArray.size s) : Nat) : Int) - (1 : Int)))) rfl (by intro A B E G H d0 d1; refine run_guard G rfl rfl dE (eI d1) (fun hg => ?_); obtain ⟨d19, d20⟩ := Bool.and_eq_true_iff.mp hg; obtain ⟨d21, d22⟩ := Bool.and_eq_true_iff.mp d19; have d21 := of_decide_eq_true d21; have d22 := of_decide_eq_true d22; have d20 := of_decide_eq_true d20; exact y_sub ((ef d0 rfl).1 hg) rfl wX) (gT (Ty.grd ((((decide ((1 : Int) ≤ ((xs.length : Nat) : Int))) && (decide (((xs.length : Nat) : Int) ≤ (20 : Int)))) && (decide ((((s.get! ((0 : Int)).toNat).toNat : Nat) : Int) ≠ (32 : Int)))) = true) (Ty.val (Value.int .u8 (((s.get! (((((ByteArray.size s) : Nat) : Int) - (1 : Int))).toNat).toNat : Nat) : Int)))) rfl (by intro A B E G H d0 d1 d2; refine run_guard G rfl rfl dE (eI d2) (fun hg => ?_); obtain ⟨d23, d24⟩ := Bool.and_eq_true_iff.mp hg; obtain ⟨d25, d26⟩ := Bool.and_eq_true_iff.mp d23; have d25 := of_decide_eq_true d25; have d26 := of_decide_eq_true d26; have d24 := of_decide_eq_true d24; exact y_sindex Tryd.underlying9 ((ef d0 rfl).1 hg) ((ef d1 rfl).1 hg) oM oM) ?_)
   refine gT (Ty.grd ((((decide ((1 : Int) ≤ ((xs.length : Nat) : Int))) && (decide (((xs.length : Nat) : Int) ≤ (20 : Int)))) && (decide ((((s.get! ((0 : Int)).toNat).toNat : Nat) : Int) ≠ (32 : Int)))) = true) (Ty.bool (decide ((((s.get! (((((ByteArray.size s) : Nat) : Int) - (1 : Int))).toNat).toNat : Nat) : Int) ≠ (32 : Int))))) rfl (by intro A B E G H d0 d1; refine run_guard G rfl rfl dE (eI d1) (fun hg => ?_); obtain ⟨d27, d28⟩ := Bool.and_eq_true_iff.mp hg; obtain ⟨d29, d30⟩ := Bool.and_eq_true_iff.mp d27; have d29 := of_decide_eq_true d29; have d30 := of_decide_eq_true d30; have d28 := of_decide_eq_true d28; exact y_neq ((ef d0 rfl).1 hg) rfl) (gS rfl (fun A B E G H d0 d1 => rP (y_pick_and (eI d0) (eI d1) rfl)) (gB 0 (gE ok7 fun a13 s11 ok12 D9 => ?_))); refine tn (wp_ret ?_)
   exact ret1 rfl ok12 (F7.step0 D9.stp) (cvb (by (rw [runesF_end oM, List.append_nil] at heq; rw [nameL_all (by rw [← heq]; exact hall), heq]; simp)) (D9.m 19 rfl))


set_option maxHeartbeats 4000000 in
set_option maxRecDepth 100000 in
theorem indexS_fn (xs : List ByteArray) (x : ByteArray) (σ : GW)  (v0 v1 : Value) (hv0 : Ty.has (Ty.lst Ty.str xs) σ v0) (hv1 : Ty.has (Ty.val (Value.string x)) σ v1)  (hx : xs.length ≤ 1099511627776) :
    FnC Tryd.prog 49 #[v0, v1] σ (Ty.int (idxB xs x)) := by
 refine fn_intro0 Tryd.func49 rfl Tryd.ntmps49 (Nat.le_of_ble_eq_true rfl) (fun s0 a0 hle F0 ok0 hargs => ?_)
 have p0 := pA hle (hargs 0 _ rfl) hv0
 have b1 := sl_le p0
 have p1 := pA hle (hargs 1 _ rfl) hv1
 clear hargs; refine wp_seq ?_
 refine gI a0 s0 ok0 (gC (Ty.int (0 : Int)) (gE ok0 fun a1 s1 ok1 D1 => ?_)); have q1 := D1.k p0; refine tn (wp_seq (wp_seq ?_))
 refine gI a1 s1 ok1 (gM q1 (gS rfl (fun A B E G H d0 => rP (y_len Tryd.underlying40 (eI d0))) (gT (Ty.int (0 : Int)) rfl (fun A B E G H => rP (y_move rfl)) (gE ok1 fun a2 s2 ok2 D2 => ?_)))); refine tn (wp_block ?_)
 refine loop (fun n1 a3 w1 => ∃ (t1 : GW) (k : Nat), t1.w = w1 ∧ FromL [] s0 t1 ∧ Ok 19 [] a3 ∧ At (Ty.nat k) t1 a3 (.tmp 8) ∧ At (Ty.lst Ty.str xs) t1 a3 (.tmp 0) ∧ At (Ty.val (Value.string x)) t1 a3 (.tmp 1) ∧ At (Ty.nat (List.length xs)) t1 a3 (.tmp 7) ∧ (k ≤ xs.length) ∧ (∀ j, j < k → xs.getD j ByteArray.empty ≠ x) ∧ n1 = xs.length - k) (xs.length - (0)) ?_ ?_
 ·
  exact ⟨s2, 0, rfl, ((F0.step0 D1.stp).step0 D2.stp), ok2, (cJ (D2.m 2 rfl)), (D2.k q1), (D2.k (D1.k p1)), (D2.m 1 rfl), by omega, fun j hj => absurd hj (Nat.not_lt_zero j), rfl⟩
 ·
  rintro n2 a4 w2 ⟨t2, k, rfl, F3, ok3, q7, q8, q9, q10, hk, hno, rfl⟩
  refine wp_seq ?_
  refine gI a4 t2 ok3 (gS rfl (fun A B E G H => rP (y_lss (kp (H 8 rfl) E q7) (kp (H 7 rfl) E q10))) (gE ok3 fun a5 s3 ok4 D3 => ?_)); have F4 := F3.step0 D3.stp; have q11 := D3.k q7; refine tn (wp_seq ?_)
  refine cond_p (p := (((k : Nat) : Int) < (((List.length xs) : Nat) : Int))) (D3.m 0 rfl) (fun c1 => ?_) (fun c1 => ?_)
  ·
   refine wp_skip (tn (wp_seq (wp_block (wp_seq ?_))))
   refine gI a5 s3 ok4 (gM q11 (gB 0 (gE ok4 fun a6 s4 ok5 D4 => ?_))); have q17 := D4.k (D3.k q8); have q18 := D4.k (D3.k q9); have q20 := D4.m 1 rfl; refine tn (wp_seq ?_)
   refine gI a6 s4 ok5 (gM q18 (gM q17 (gM q20 (gT (Ty.ref [(Ty.val (Value.string (xs.getD k ByteArray.empty)))]) rfl (fun A B E G H d0 d1 => rP (y_index1 Tryd.underlying40 Tryd.inf9 (eI d0) (eI d1) oM (lst_get Ty.str xs ByteArray.empty k oM))) (gS rfl (fun A B E G H d0 => rP (y_load Tryd.underlying9 rfl (eI d0) rfl)) (gT (Ty.bool (decide (x = (xs.getD k ByteArray.empty)))) rfl (fun A B E G H d0 d1 => rP (y_seql Tryd.underlying9 (eI d0) (eI d1))) (gE ok5 fun a7 s5 ok6 D5 => ?_))))))); have F6 := (F4.step0 D4.stp).step0 D5.stp; refine tn ?_
   refine cond_p (p := (x = (xs.getD k ByteArray.empty))) (D5.m 5 rfl) (fun c2 => ?_) (fun c2 => ?_)
   ·
    refine wp_seq ?_
    refine gI a7 s5 ok6 (gM (D5.k q20) (gB 0 (gE ok6 fun a8 s6 ok7 D6 => ?_))); refine tn (wp_ret (br (tr (tr (br (tr ?_))))))
    exact retL1 rfl ok7 (F6.step0 D6.stp) (cvi (by (exact (idxB_yes oM (by assumption) hno).symm)) (D6.m 1 rfl))
   ·
    refine wp_skip (bn (tn ?_))
    refine gI a7 s5 ok6 (gT (Ty.int (((k : Nat) : Int) + (1 : Int))) rfl (fun A B E G H => rP (y_add (kp (H 8 rfl) E (D5.k (D4.k q11))) rfl wX)) (gS rfl (fun A B E G H d0 => rP (y_move (eI d0))) (gE ok6 fun a9 s7 ok8 D7 => ?_)))
    exact tn ⟨xs.length - ((k+1)), by omega, s7, (k+1), rfl, (F6.step0 D7.stp), ok8, (cJ (D7.m 1 rfl)), (D7.k (D5.k q17)), (D7.k (D5.k q18)), (D7.k (D5.k (D4.k (D3.k q10)))), by omega, fun j hj => by (by_cases e : j = k; subst e; exact fun h => c2 h.symm; exact hno j oM), rfl⟩
  ·
   refine wp_exit (tx (tx (bx (tn (wp_seq ?_)))))
   refine gI a5 s3 ok4 (gC (Ty.int (-1 : Int)) (gE ok4 fun a10 s8 ok9 D8 => ?_)); refine tn (wp_ret ?_)
   exact retL1 rfl ok9 (F4.step0 D8.stp) (cvi (by (exact (idxB_no (fun j hj => hno j oM)).symm)) (D8.m 0 rfl))


set_option maxHeartbeats 4000000 in
set_option maxRecDepth 100000 in
theorem containsS_fn (xs : List ByteArray) (x : ByteArray) (σ : GW)  (v0 v1 : Value) (hv0 : Ty.has (Ty.lst Ty.str xs) σ v0) (hv1 : Ty.has (Ty.val (Value.string x)) σ v1)  (hx : xs.length ≤ 1099511627776) :
    FnC Tryd.prog 37 #[v0, v1] σ (Ty.bool (hasSt xs x)) := by
 refine fn_intro0 Tryd.func37 rfl Tryd.ntmps37 (Nat.le_of_ble_eq_true rfl) (fun s0 a0 hle F0 ok0 hargs => ?_)
 have p0 := pA hle (hargs 0 _ rfl) hv0
 have b1 := sl_le p0
 have p1 := pA hle (hargs 1 _ rfl) hv1
 clear hargs; refine wp_seq ?_
 refine gI a0 s0 ok0 (gC (Ty.bool false) (gE ok0 fun a1 s1 ok1 D1 => ?_)); refine tn (wp_seq ?_)
 refine gI a1 s1 ok1 (gM (D1.k p0) (gM (D1.k p1) (gS rfl (fun A B E G H d0 d1 => rP (y_call _ Tryd.func49 rfl rfl my2 (indexS_fn (xs) (x) _ _ _ (eI d0) (eI d1) oM))) (gS rfl (fun A B E G H d0 => rP (y_geq (eI d0) rfl)) (gB 0 (gE ok1 fun a2 s2 ok2 D2 => ?_)))))); refine tn (wp_ret ?_)
 exact retL1 rfl ok2 ((F0.step0 D1.stp).step0 D2.stp) (cvb (by (exact idxB_has)) (D2.m 4 rfl))

theorem Tryd.inf3 : Info Tryd.prog 3 (.int .i64 0) 1 8 := by unfold Info; kernel_rfl
theorem Tryd.fld42_0 : fieldOf Tryd.prog 42 0 = some (3, 0) := by kernel_rfl
theorem Tryd.fld42_1 : fieldOf Tryd.prog 42 1 = some (3, 1) := by kernel_rfl
theorem Tryd.fld42_2 : fieldOf Tryd.prog 42 2 = some (9, 2) := by kernel_rfl
theorem Tryd.fld66_0 : fieldOf Tryd.prog 66 0 = some (42, 0) := by kernel_rfl
set_option maxHeartbeats 4000000 in
set_option maxRecDepth 100000 in
theorem pMay_fn (dy : Int) (ch : Int) (mt : ByteArray) (rg : List ByteArray) (σ : GW)  (v0 : Value) (hv0 : Ty.has (Ty.agg [(Ty.int dy), (Ty.int ch), (Ty.val (Value.string mt)), (Ty.lst Ty.str rg)]) σ v0)  (hzm : mt.size ≤ 1099511627776) (hzr : ∀ x ∈ rg, x.size ≤ 1099511627776) (hzl : rg.length ≤ 1099511627776) :
    FnC Tryd.prog 23 #[v0] σ (Ty.int (mayR (dy, ch, mt, rg))) := by
 refine fn_intro0 Tryd.func23 rfl Tryd.ntmps23 (Nat.le_of_ble_eq_true rfl) (fun s0 a0 hle F0 ok0 hargs => ?_)
 have p0 := pA hle (hargs 0 _ rfl) hv0
 clear hargs; refine wp_seq ?_
 refine gI a0 s0 ok0 (gS rfl (fun A B E G H => rP (y_boxagg (kp (H 0 rfl) E p0))) (gC (Ty.int (0 : Int)) (gE ok0 fun a1 s1 ok1 D1 => ?_))); have q1 := D1.m 0 rfl; refine tn (wp_seq (wp_block (wp_seq ?_)))
 refine gI a1 s1 ok1 (gS rfl (fun A B E G H => rP (y_field Tryd.fld66_0 Tryd.inf42 dE (kp (H 1 rfl) E q1) rfl)) (gS rfl (fun A B E G H d0 => rP (y_field Tryd.fld42_0 Tryd.inf3 dE (eI d0) rfl)) (gS rfl (fun A B E G H d0 => rP (y_load Tryd.underlying3 rfl (eI d0) rfl)) (gS rfl (fun A B E G H d0 => rP (y_lss (eI d0) rfl)) (gS rfl (fun A B E G H d0 => rP (y_move (eI d0))) (gS rfl (fun A B E G H d0 => guf G (eI d0) fun hg hp => y_field Tryd.fld66_0 Tryd.inf42 dE (kp (H 1 rfl) E q1) rfl) (gS rfl (fun A B E G H d0 d1 => guf G (eI d1) fun hg hp => y_field Tryd.fld42_0 Tryd.inf3 dE ((ef d0 rfl).1 hg) rfl) (gS rfl (fun A B E G H d0 d1 => gu G (eI d1) fun hg => y_load Tryd.underlying3 rfl ((ef d0 rfl).1 hg) rfl) (gS rfl (fun A B E G H d0 d1 => gu G (eI d1) fun hg => y_gtr ((ef d0 rfl).1 hg) rfl) (gS rfl (fun A B E G H d0 d1 => rP (y_pick_or (eI d0) rfl (eI d1))) (gS rfl (fun A B E G H d0 d1 => rP (y_move (eI d0))) (gT (Ty.grd (((decide (dy < (0 : Int))) || (decide ((1000000 : Int) < dy))) = false) (Ty.ref [(Ty.int dy), (Ty.int ch), (Ty.val (Value.string mt)), (Ty.lst Ty.str rg)])) rfl (by intro A B E G H d0; refine run_guard G rfl rfl dE (eI d0) (fun hg => ?_); obtain ⟨d1, d2⟩ := Bool.or_eq_false_iff.mp hg; have d1 := of_decide_eq_false d1; have d2 := of_decide_eq_false d2; exact y_field Tryd.fld66_0 Tryd.inf42 dE (kp (H 1 rfl) E q1) rfl) ?_))))))))))))
 refine gT (Ty.grd (((decide (dy < (0 : Int))) || (decide ((1000000 : Int) < dy))) = false) (Ty.ref [(Ty.int ch), (Ty.val (Value.string mt)), (Ty.lst Ty.str rg)])) rfl (by intro A B E G H d0 d1; refine run_guard G rfl rfl dE (eI d1) (fun hg => ?_); obtain ⟨d3, d4⟩ := Bool.or_eq_false_iff.mp hg; have d3 := of_decide_eq_false d3; have d4 := of_decide_eq_false d4; exact y_field Tryd.fld42_1 Tryd.inf3 dE ((ef d0 rfl).1 hg) rfl) (gT (Ty.grd (((decide (dy < (0 : Int))) || (decide ((1000000 : Int) < dy))) = false) (Ty.int ch)) rfl (by intro A B E G H d0 d1; refine run_guard G rfl rfl dE (eI d1) (fun hg => ?_); obtain ⟨d5, d6⟩ := Bool.or_eq_false_iff.mp hg; have d5 := of_decide_eq_false d5; have d6 := of_decide_eq_false d6; exact y_load Tryd.underlying3 rfl ((ef d0 rfl).1 hg) rfl) (gT (Ty.grd (((decide (dy < (0 : Int))) || (decide ((1000000 : Int) < dy))) = false) (Ty.bool (decide (ch < (1 : Int))))) rfl (by intro A B E G H d0 d1; refine run_guard G rfl rfl dE (eI d1) (fun hg => ?_); obtain ⟨d7, d8⟩ := Bool.or_eq_false_iff.mp hg; have d7 := of_decide_eq_false d7; have d8 := of_decide_eq_false d8; exact y_lss ((ef d0 rfl).1 hg) rfl) (gS rfl (fun A B E G H d0 d1 => rP (y_pick_or (eI d0) rfl (eI d1))) (gS rfl (fun A B E G H d0 d1 => rP (y_move (eI d0))) ?_))))
 refine gT (Ty.grd ((((decide (dy < (0 : Int))) || (decide ((1000000 : Int) < dy))) || (decide (ch < (1 : Int)))) = false) (Ty.ref [(Ty.int dy), (Ty.int ch), (Ty.val (Value.string mt)), (Ty.lst Ty.str rg)])) rfl (by intro A B E G H d0; refine run_guard G rfl rfl dE (eI d0) (fun hg => ?_); obtain ⟨d9, d10⟩ := Bool.or_eq_false_iff.mp hg; obtain ⟨d11, d12⟩ := Bool.or_eq_false_iff.mp d9; have d11 := of_decide_eq_false d11; have d12 := of_decide_eq_false d12; have d10 := of_decide_eq_false d10; exact y_field Tryd.fld66_0 Tryd.inf42 dE (kp (H 1 rfl) E q1) rfl) (gT (Ty.grd ((((decide (dy < (0 : Int))) || (decide ((1000000 : Int) < dy))) || (decide (ch < (1 : Int)))) = false) (Ty.ref [(Ty.int ch), (Ty.val (Value.string mt)), (Ty.lst Ty.str rg)])) rfl (by intro A B E G H d0 d1; refine run_guard G rfl rfl dE (eI d1) (fun hg => ?_); obtain ⟨d13, d14⟩ := Bool.or_eq_false_iff.mp hg; obtain ⟨d15, d16⟩ := Bool.or_eq_false_iff.mp d13; have d15 := of_decide_eq_false d15; have d16 := of_decide_eq_false d16; have d14 := of_decide_eq_false d14; exact y_field Tryd.fld42_1 Tryd.inf3 dE ((ef d0 rfl).1 hg) rfl) (gT (Ty.grd ((((decide (dy < (0 : Int))) || (decide ((1000000 : Int) < dy))) || (decide (ch < (1 : Int)))) = false) (Ty.int ch)) rfl (by intro A B E G H d0 d1; refine run_guard G rfl rfl dE (eI d1) (fun hg => ?_); obtain ⟨d17, d18⟩ := Bool.or_eq_false_iff.mp hg; obtain ⟨d19, d20⟩ := Bool.or_eq_false_iff.mp d17; have d19 := of_decide_eq_false d19; have d20 := of_decide_eq_false d20; have d18 := of_decide_eq_false d18; exact y_load Tryd.underlying3 rfl ((ef d0 rfl).1 hg) rfl) ?_))
 refine gT (Ty.grd ((((decide (dy < (0 : Int))) || (decide ((1000000 : Int) < dy))) || (decide (ch < (1 : Int)))) = false) (Ty.bool (decide ((1000000 : Int) < ch)))) rfl (by intro A B E G H d0 d1; refine run_guard G rfl rfl dE (eI d1) (fun hg => ?_); obtain ⟨d21, d22⟩ := Bool.or_eq_false_iff.mp hg; obtain ⟨d23, d24⟩ := Bool.or_eq_false_iff.mp d21; have d23 := of_decide_eq_false d23; have d24 := of_decide_eq_false d24; have d22 := of_decide_eq_false d22; exact y_gtr ((ef d0 rfl).1 hg) rfl) (gS rfl (fun A B E G H d0 d1 => rP (y_pick_or (eI d0) rfl (eI d1))) (gB 0 (gE ok1 fun a2 s2 ok2 D2 => ?_))); have F2 := (F0.step0 D1.stp).step0 D2.stp; have q2 := D2.k q1; refine tn ?_
 refine cond_t (D2.m 22 rfl) (fun c1 => ?_) (fun c1 => ?_)
 ·
  have hv : (dy < 0 ∨ 1000000 < dy ∨ ch < 1 ∨ 1000000 < ch) := (by simp only [Bool.or_eq_true, decide_eq_true_eq] at c1; omega)
  refine wp_seq ?_
  refine gI a2 s2 ok2 (gC (Ty.int (12 : Int)) (gE ok2 fun a3 s3 ok3 D3 => ?_)); refine tn (wp_ret (br (tr ?_)))
  exact retL1 rfl ok3 (F2.step0 D3.stp) (cvi (by (rw [may_val hv])) (D3.m 0 rfl))
 ·
  obtain ⟨d25, d26⟩ := Bool.or_eq_false_iff.mp c1
  obtain ⟨d27, d28⟩ := Bool.or_eq_false_iff.mp d25
  obtain ⟨d29, d30⟩ := Bool.or_eq_false_iff.mp d27
  replace d29 := of_decide_eq_false d29
  replace d30 := of_decide_eq_false d30
  replace d28 := of_decide_eq_false d28
  replace d26 := of_decide_eq_false d26
  have hv : ¬ (dy < 0 ∨ 1000000 < dy ∨ ch < 1 ∨ 1000000 < ch) := (by simp only [Bool.or_eq_false_iff, decide_eq_false_iff_not] at c1; omega)
  refine wp_seq ?_
  refine gI a2 s2 ok2 (gS rfl (fun A B E G H => rP (y_field Tryd.fld66_0 Tryd.inf42 dE (kp (H 1 rfl) E q2) rfl)) (gS rfl (fun A B E G H d0 => rP (y_field Tryd.fld42_2 Tryd.inf9 dE (eI d0) rfl)) (gS rfl (fun A B E G H d0 => rP (y_load Tryd.underlying9 rfl (eI d0) rfl)) (gS rfl (fun A B E G H d0 => rP (y_call _ Tryd.func36 rfl rfl my1 (mName_fn (mt) _ _ (eI d0) oX))) (gS rfl (fun A B E G H d0 => rP (y_not (eI d0))) (gB 0 (gE ok2 fun a4 s4 ok4 D4 => ?_))))))); have F4 := F2.step0 D4.stp; have q5 := D4.k q2; refine tn ?_
  refine cond_t (D4.m 5 rfl) (fun c2 => ?_) (fun c2 => ?_)
  ·
   have hn : nameL mt = false := (by simpa using c2)
   refine wp_seq ?_
   refine gI a4 s4 ok4 (gC (Ty.int (7 : Int)) (gE ok4 fun a5 s5 ok5 D5 => ?_)); refine tn (wp_ret (br (tr ?_)))
   exact retL1 rfl ok5 (F4.step0 D5.stp) (cvi (by (rw [may_name hv hn])) (D5.m 0 rfl))
  ·
   have hn : nameL mt = true := (by simpa using c2)
   refine wp_seq ?_
   refine gI a4 s4 ok4 (gS rfl (fun A B E G H => rP (y_field Tryd.fld66_0 Tryd.inf42 dE (kp (H 1 rfl) E q5) rfl)) (gS rfl (fun A B E G H d0 => rP (y_field Tryd.fld42_3 Tryd.inf40 dE (eI d0) rfl)) (gS rfl (fun A B E G H d0 => rP (y_load Tryd.underlying40 rfl (eI d0) rfl)) (gS rfl (fun A B E G H d0 => rP (y_len Tryd.underlying40 (eI d0))) (gS rfl (fun A B E G H d0 => rP (y_lss (eI d0) rfl)) (gS rfl (fun A B E G H d0 => rP (y_move (eI d0))) (gS rfl (fun A B E G H d0 => guf G (eI d0) fun hg hp => y_field Tryd.fld66_0 Tryd.inf42 dE (kp (H 1 rfl) E q5) rfl) (gS rfl (fun A B E G H d0 d1 => guf G (eI d1) fun hg hp => y_field Tryd.fld42_3 Tryd.inf40 dE ((ef d0 rfl).1 hg) rfl) (gS rfl (fun A B E G H d0 d1 => gu G (eI d1) fun hg => y_load Tryd.underlying40 rfl ((ef d0 rfl).1 hg) rfl) (gS rfl (fun A B E G H d0 d1 => gu G (eI d1) fun hg => y_len Tryd.underlying40 ((ef d0 rfl).1 hg)) (gS rfl (fun A B E G H d0 d1 => gu G (eI d1) fun hg => y_gtr ((ef d0 rfl).1 hg) rfl) (gS rfl (fun A B E G H d0 d1 => rP (y_pick_or (eI d0) rfl (eI d1))) (gB 0 (gE ok4 fun a6 s6 ok6 D6 => ?_)))))))))))))); have F6 := F4.step0 D6.stp; have q8 := D6.k q5; refine tn ?_
   refine cond_t (D6.m 12 rfl) (fun c3 => ?_) (fun c3 => ?_)
   ·
    have hl : rg.length < 1 ∨ 12 < rg.length := (by simp only [Bool.or_eq_true, decide_eq_true_eq] at c3; omega)
    refine wp_seq ?_
    refine gI a6 s6 ok6 (gC (Ty.int (1 : Int)) (gE ok6 fun a7 s7 ok7 D7 => ?_)); refine tn (wp_ret (br (tr ?_)))
    exact retL1 rfl ok7 (F6.step0 D7.stp) (cvi (by (rw [may_cnt hv hn hl])) (D7.m 0 rfl))
   ·
    obtain ⟨d31, d32⟩ := Bool.or_eq_false_iff.mp c3
    replace d31 := of_decide_eq_false d31
    replace d32 := of_decide_eq_false d32
    have hl : ¬ (rg.length < 1 ∨ 12 < rg.length) := (by simp only [Bool.or_eq_false_iff, decide_eq_false_iff_not] at c3; omega)
    refine wp_skip (bn (tn (wp_seq (wp_seq ?_))))
    refine gI a6 s6 ok6 (gS rfl (fun A B E G H => rP (y_field Tryd.fld66_0 Tryd.inf42 dE (kp (H 1 rfl) E q8) rfl)) (gS rfl (fun A B E G H d0 => rP (y_field Tryd.fld42_3 Tryd.inf40 dE (eI d0) rfl)) (gS rfl (fun A B E G H d0 => rP (y_load Tryd.underlying40 rfl (eI d0) rfl)) (gS rfl (fun A B E G H d0 => rP (y_len Tryd.underlying40 (eI d0))) (gT (Ty.int (0 : Int)) rfl (fun A B E G H => rP (y_move rfl)) (gE ok6 fun a8 s8 ok8 D8 => ?_)))))); have q12 := D8.m 2 rfl
    have b1 := sl_le q12
    refine tn (wp_block ?_)
    refine loop (fun n1 a9 w1 => ∃ (t1 : GW) (k : Nat), t1.w = w1 ∧ FromL [] s0 t1 ∧ Ok 67 [] a9 ∧ At (Ty.nat k) t1 a9 (.tmp 51) ∧ At (Ty.ref [(Ty.int dy), (Ty.int ch), (Ty.val (Value.string mt)), (Ty.lst Ty.str rg)]) t1 a9 (.tmp 1) ∧ At (Ty.lst Ty.str rg) t1 a9 (.tmp 49) ∧ At (Ty.nat (List.length rg)) t1 a9 (.tmp 50) ∧ (k ≤ rg.length) ∧ (rgM (rg.take k) (rg.drop k) = mayR (dy, ch, mt, rg)) ∧ n1 = rg.length - k) (rg.length - (0)) ?_ ?_
    ·
     exact ⟨s8, 0, rfl, (F6.step0 D8.stp), ok8, (cJ (D8.m 4 rfl)), (D8.k q8), q12, (D8.m 3 rfl), by omega, may_run hv hn hl, rfl⟩
    ·
     rintro n2 a10 w2 ⟨t2, k, rfl, F9, ok9, q15, q16, q17, q18, hk, hq, rfl⟩
     refine wp_seq ?_
     refine gI a10 t2 ok9 (gS rfl (fun A B E G H => rP (y_lss (kp (H 51 rfl) E q15) (kp (H 50 rfl) E q18))) (gE ok9 fun a11 s9 ok10 D9 => ?_)); have F10 := F9.step0 D9.stp; have q19 := D9.k q15; have q21 := D9.k q17; refine tn (wp_seq ?_)
     refine cond_p (p := (((k : Nat) : Int) < (((List.length rg) : Nat) : Int))) (D9.m 0 rfl) (fun c4 => ?_) (fun c4 => ?_)
     ·
      have hgk : (rg.getD k ByteArray.empty).size ≤ 1099511627776 := hzr _ (getD_memS oM); have htk : (List.take k rg).length ≤ 1099511627776 := (by rw [List.length_take]; omega)
      refine wp_skip (tn (wp_seq (wp_block (wp_seq ?_))))
      refine gI a11 s9 ok10 (gM q19 (gT (Ty.ref [(Ty.val (Value.string (rg.getD k ByteArray.empty)))]) rfl (fun A B E G H => rP (y_index1 Tryd.underlying40 Tryd.inf9 (kp (H 49 rfl) E q21) (kp (H 51 rfl) E q19) oM (lst_get Ty.str rg ByteArray.empty k oM))) (gS rfl (fun A B E G H d0 => rP (y_load Tryd.underlying9 rfl (eI d0) rfl)) (gB 0 (gB 0 (gE ok10 fun a12 s10 ok11 D10 => ?_)))))); have q29 := D10.m 4 rfl; refine tn (wp_seq (wp_seq ?_))
      refine gI a12 s10 ok11 (gM q29 (gS rfl (fun A B E G H d0 => rP (y_call _ Tryd.func36 rfl rfl my1 (mName_fn ((rg.getD k ByteArray.empty)) _ _ (eI d0) oX))) (gS rfl (fun A B E G H d0 => rP (y_not (eI d0))) (gE ok11 fun a13 s11 ok12 D11 => ?_)))); have F12 := (F10.step0 D10.stp).step0 D11.stp; have q31 := D11.k (D10.k (D9.k q16)); refine tn ?_
      refine cond_t (D11.m 2 rfl) (fun c5 => ?_) (fun c5 => ?_)
      ·
       have hn2 : nameL (rg.getD k ByteArray.empty) = false := (by simpa using c5)
       refine wp_seq ?_
       refine gI a13 s11 ok12 (gC (Ty.int (7 : Int)) (gE ok12 fun a14 s12 ok13 D12 => ?_)); refine tn (wp_ret (tr (br (tr (tr (br (tr ?_)))))))
       exact retL1 rfl ok13 (F12.step0 D12.stp) (cvi (by (rw [rg_name oM hq hn2])) (D12.m 0 rfl))
      ·
       have hn2 : nameL (rg.getD k ByteArray.empty) = true := (by simpa using c5)
       refine wp_skip (tn (wp_seq ?_))
       refine gI a13 s11 ok12 (gS rfl (fun A B E G H => rP (y_field Tryd.fld66_0 Tryd.inf42 dE (kp (H 1 rfl) E q31) rfl)) (gS rfl (fun A B E G H d0 => rP (y_field Tryd.fld42_3 Tryd.inf40 dE (eI d0) rfl)) (gS rfl (fun A B E G H d0 => rP (y_load Tryd.underlying40 rfl (eI d0) rfl)) (gM (D11.k (D10.m 3 rfl)) (gT (Ty.lst Ty.str (rg.take k)) rfl (fun A B E G H d0 d1 => rP (y_take Tryd.underlying40 Tryd.inf9 (eI d0) (eI d1) oM)) (gM (D11.k q29) (gS rfl (fun A B E G H d0 d1 => rP (y_call _ Tryd.func37 rfl rfl my2 (containsS_fn ((rg.take k)) ((rg.getD k ByteArray.empty)) _ _ _ (eI d0) (eI d1) oM))) (gE ok12 fun a15 s13 ok14 D13 => ?_)))))))); have F14 := F12.step0 D13.stp; refine tn ?_
       refine cond_t (D13.m 6 rfl) (fun c6 => ?_) (fun c6 => ?_)
       ·
        refine wp_seq ?_
        refine gI a15 s13 ok14 (gC (Ty.int (8 : Int)) (gE ok14 fun a16 s14 ok15 D14 => ?_)); refine tn (wp_ret (br (tr (tr (br (tr ?_))))))
        exact retL1 rfl ok15 (F14.step0 D14.stp) (cvi (by (rw [rg_dbl oM hq hn2 c6])) (D14.m 0 rfl))
       ·
        refine wp_skip (bn (tn ?_))
        refine gI a15 s13 ok14 (gT (Ty.nat (k + 1)) rfl (fun A B E G H => rP ((y_add (kp (H 51 rfl) E (D13.k (D11.k (D10.k q19)))) rfl wX).mono (fun τ _ h => cN (σ := τ) h))) (gS rfl (fun A B E G H d0 => rP (y_move (eI d0))) (gE ok14 fun a17 s15 ok16 D15 => ?_)))
        exact tn ⟨rg.length - ((k+1)), by omega, s15, (k+1), rfl, (F14.step0 D15.stp), ok16, (cJ (D15.m 1 rfl)), (D15.k (D13.k q31)), (D15.k (D13.k (D11.k (D10.k q21)))), (D15.k (D13.k (D11.k (D10.k (D9.k q18))))), by omega, rg_step oM hq hn2 (by simpa using c6), rfl⟩
     ·
      refine wp_exit (tx (tx (bx (tn (wp_seq ?_)))))
      refine gI a11 s9 ok10 (gC (Ty.int (0 : Int)) (gE ok10 fun a18 s16 ok17 D16 => ?_)); refine tn (wp_ret ?_)
      exact retL1 rfl ok17 (F10.step0 D16.stp) (cvi (by (rw [rg_end oM hq])) (D16.m 0 rfl))


set_option maxHeartbeats 4000000 in
set_option maxRecDepth 100000 in
theorem cloneS_fn (xs : List ByteArray) (σ : GW)  (v0 : Value) (hv0 : Ty.has (Ty.lst Ty.str xs) σ v0)  (hx1 : 1 ≤ xs.length) (hx2 : xs.length ≤ 1000000) :
    FnC Tryd.prog 24 #[v0] σ (Ty.lst Ty.str xs) := by
 refine fn_intro0 Tryd.func24 rfl Tryd.ntmps24 (Nat.le_of_ble_eq_true rfl) (fun s0 a0 hle F0 ok0 hargs => ?_)
 have p0 := pA hle (hargs 0 _ rfl) hv0
 have b1 := sl_le p0
 clear hargs; refine wp_seq ?_
 refine gI a0 s0 ok0 (gC (Ty.val (Value.slice none 0 0)) (gE ok0 fun a1 s1 ok1 D1 => ?_)); have q1 := D1.k p0; refine tn (wp_seq (wp_seq ?_))
 refine gI a1 s1 ok1 (gM q1 (gT (Ty.bool false) rfl (fun A B E G H d0 => rP (y_slnil Tryd.underlying40 (eI d0) (by intro e_; have e2_ := congrArg List.length e_; simp only [List.length_map, List.length_nil] at e2_; omega) rfl)) (gE ok1 fun a2 s2 ok2 D2 => ?_))); refine tn ?_
 refine cond_t (D2.m 1 rfl) (fun c1 => (by cases c1)) (fun _ => ?_)
 refine wp_skip (tn (wp_seq ?_))
 refine gI a2 s2 ok2 (gR (Pr.own 61 9 1 0 (List.map Ty.str ([] : List ByteArray))) rfl (by intro A B E G H; exact rP ((y_lit0 (k := 61) Tryd.underlying40 Tryd.inf9).mono (fun _ _ h => cvo (by simp) (by simp) h))) (gM (D2.k q1) (gE2 ok2 fun a3 s3 ok3 D3 => ?_)))
 obtain ⟨x1, hx1⟩ : ∃ x, a3.eval (.tmp 5) = x := ⟨_, rfl⟩
 have q4 : At (Ty.val x1) s3 a3 (.tmp 5) := hx1
 have o1 := al2 (R := (Pr.own 61 9 1 0 (List.map Ty.str ([] : List ByteArray)))) hx1 (D3.done 0 dE)
 refine tL ok3 (YldM.toL (m_append Tryd.underlying40 Tryd.inf9 dE rfl dE (al (R := (Pr.own 61 9 1 0 (List.map Ty.str ([] : List ByteArray)))) q4 o1) (D3.m 1 rfl) (one_map (fun _ => one_val rfl)) oM oM)) fun a4 s4 hs1 ok4 r1 sm1 => ?_
 obtain ⟨x2, hx2⟩ : ∃ x, a4.eval (.tmp 7) = x := ⟨_, rfl⟩
 have q6 : At (Ty.val x2) s4 a4 (.tmp 7) := hx2
 have o2 := al2 (R := (Pr.own 61 9 1 (List.length xs) (List.map Ty.str xs))) hx2 (cvo (by first | (simp; done) | (simp; omega)) (by first | (rw [List.map_append]; rfl) | simp) r1)
 clear r1
 refine tL ok4 (Yld.toL (y_as q6)) fun a5 s5 hs2 ok5 r2 sm2 => ?_
 have q7 : At (Ty.val x2) s5 a5 (.tmp 2) := r2
 clear r2; refine wpList_nil (tn (wp_ret ?_))
 obtain ⟨t1, e1, h1, q8⟩ := Own.seal (Own.kl o2 hs2) dE
 rw [← e1]
 have F6 := (((((F0.step0 D1.stp).step0 D2.stp).step0 D3.stp).sl hs1).sl hs2).step h1 dE
 have q9 : At (Ty.lst Ty.str xs) t1 a5 (.tmp 2) := by have e : a5.eval (.tmp 2) = x2 := q7; show Ty.has _ _ _; rw [e]; exact q8
 exact retL1 rfl ok5 F6 q9

theorem Tryd.inf35 : Info Tryd.prog 35 (.slice none 0 0) 1 24 := by unfold Info; kernel_rfl
theorem Tryd.inf49 : Info Tryd.prog 49 (.nilIface) 1 16 := by unfold Info; kernel_rfl
theorem Tryd.inf66 : Info Tryd.prog 66 (.agg #[.int .i64 0, .int .i64 0, .string ByteArray.empty, .slice none 0 0]) 4 56 := by unfold Info; kernel_rfl
theorem Tryd.fld37_0 : fieldOf Tryd.prog 37 0 = some (35, 0) := by kernel_rfl
set_option maxHeartbeats 4000000 in
set_option maxRecDepth 100000 in
theorem bAdd_fn (b : Value) (bl : Value) (xs : List Rec) (dy : Int) (ch : Int) (mt : ByteArray) (rg : List ByteArray) (σ : GW) (hlow : Low [40, 41] σ) (v0 v1 : Value) (hv0 : Ty.has (Ty.val b) σ v0) (hv1 : Ty.has (Ty.agg [(Ty.int dy), (Ty.int ch), (Ty.val (Value.string mt)), (Ty.lst Ty.str rg)]) σ v1) (ho_b : OwnP σ 40 b [(Ty.val bl)]) (ho_bl : Own σ 41 49 1 bl (List.length xs) (List.map (Ty.ent 66) xs)) (hok : mayR (dy, ch, mt, rg) = 0) (hzm : mt.size ≤ 1000000) (hzr : ∀ x ∈ rg, x.size ≤ 1000000) (hxl : xs.length < 1000) :
    FnL Tryd.prog 11 #[v0, v1] σ [40, 41] (fun v τ => ∃ (bl2 : Value), (Ty.has (Ty.int (0 : Int)) τ v) ∧ (OwnP τ 40 b [(Ty.val bl2)]) ∧ (Own τ 41 49 1 bl2 (List.length (xs ++ [(dy, ch, mt, rg)])) (List.map (Ty.ent 66) (xs ++ [(dy, ch, mt, rg)])))) := by
 have hro := mayR_ok hok
 have hn1_ : 1 ≤ rg.length := hro.n1
 have hn2_ : rg.length ≤ 12 := hro.n2
 have hzr_ : ∀ x ∈ rg, x.size ≤ 1099511627776 := fun x hx => Nat.le_trans (hzr x hx) dE
 refine fn_introL hlow Tryd.func11 rfl Tryd.ntmps11 (Nat.le_of_ble_eq_true rfl) (fun a0 F0 ok0 hargs => ?_)
 have p0 := pB (hargs 0 _ rfl) hv0
 have p1 := pB (hargs 1 _ rfl) hv1
 clear hargs; refine wp_seq ?_
 refine gI a0 σ ok0 (gS rfl (fun A B E G H => rP (y_boxagg (kp (H 1 rfl) E p1))) (gC (Ty.int (0 : Int)) (gE ok0 fun a1 s1 ok1 D1 => ?_))); have o1 := OwnP.k0 ho_b D1.stp; have o2 := Own.k0 ho_bl D1.stp; have q2 := D1.m 0 rfl; refine tn (wp_seq ?_)
 refine gI a1 s1 ok1 (gS rfl (fun A B E G H => rP (y_loadagg Tryd.underlying42 Tryd.inf42 (kp (H 3 rfl) E q2))) (gT (Ty.agg [(Ty.int dy), (Ty.int ch), (Ty.val (Value.string mt)), (Ty.lst Ty.str rg)]) rfl (fun A B E G H d0 => rP (y_bld2 [(0, (.tmp 7), [(Ty.int dy), (Ty.int ch), (Ty.val (Value.string mt)), (Ty.lst Ty.str rg)])] [(Ty.int (0 : Int)), (Ty.int (0 : Int)), (Ty.val (Value.string ByteArray.empty)), (Ty.val (Value.slice none 0 0))] (l := [(0, 4)]) rfl Tryd.inf66 rfl (alloc_vals (vs := [.int .i64 0, .int .i64 0, .string ByteArray.empty, .slice none 0 0]) rfl) rfl (by intro p hp; simp only [List.mem_cons, List.not_mem_nil, or_false] at hp; rcases hp with rfl; exact fits_agg (eI d0)))) (gR (Pr.ownp 61 [(Ty.int (0 : Int)), (Ty.int (0 : Int)), (Ty.val (Value.string ByteArray.empty)), (Ty.val (Value.slice none 0 0))]) rfl (by intro A B E G H; exact rP (y_alloc Tryd.inf66 rfl (alloc_vals (vs := [.int .i64 0, .int .i64 0, .string ByteArray.empty, .slice none 0 0]) rfl))) (gE2 ok1 fun a2 s2 ok2 D2 => ?_)))); have o3 := OwnP.k0 o1 D2.stp; have o4 := Own.k0 o2 D2.stp
 obtain ⟨x1, hx1⟩ : ∃ x, a2.eval (.tmp 5) = x := ⟨_, rfl⟩
 have q6 : At (Ty.val x1) s2 a2 (.tmp 5) := hx1
 have o5 := al2 (R := (Pr.ownp 61 [(Ty.int (0 : Int)), (Ty.int (0 : Int)), (Ty.val (Value.string ByteArray.empty)), (Ty.val (Value.slice none 0 0))])) hx1 (D2.done 2 dE)
 refine tailL0 (L := [61]) (R := (fun _ τ => OwnP τ 61 x1 [(Ty.int dy), (Ty.int ch), (Ty.val (Value.string mt)), (Ty.lst Ty.str rg)])) rfl rfl (YldM.toL (m_storeagg Tryd.inf66 dE o5 q6 rfl (D2.m 1 rfl) (by intro U hU; simp only [List.mem_cons, List.not_mem_nil, or_false] at hU; rcases hU with rfl | rfl | rfl | rfl <;> first | exact one_val rfl | exact one_sl | exact one_flt | exact one_cx | exact one_ref))) (fun v1 s3 hs1 r1 => ?_)
 have q7 := kpL hs1 dE rfl (D2.k (D1.k p0)); have q8 := kpL hs1 dE rfl (D2.k q2); have q9 := kpL hs1 dE rfl q6
 have o6 : OwnP s3 61 x1 [(Ty.int dy), (Ty.int ch), (Ty.val (Value.string mt)), (Ty.lst Ty.str rg)] := r1
 clear r1; refine wpList_nil (tn (wp_seq (wp_seq ?_)))
 refine gI a2 s3 ok2 (gT (Ty.agg [(Ty.int dy), (Ty.int ch), (Ty.val (Value.string mt)), (Ty.lst Ty.str rg)]) rfl (fun A B E G H => rP (ownp_loadagg Tryd.underlying66 Tryd.inf66 (OwnP.k0 o6 E) (kp (H 5 rfl) E q9))) (gS rfl (fun A B E G H d0 => rP (y_call _ Tryd.func23 rfl rfl my1 (pMay_fn (dy) (ch) (mt) (rg) _ _ (eI d0) (by first | omega | assumption | (refine hzr _ ?_; rw [List.getD_eq_getElem?_getD, List.getElem?_eq_getElem oM]; exact List.getElem_mem _) | (have h_ := hzr _ (getD_memS (rg := rg) (k := k) oM); omega) | (rw [List.length_take]; omega)) (by first | omega | assumption | (refine hzr _ ?_; rw [List.getD_eq_getElem?_getD, List.getElem?_eq_getElem oM]; exact List.getElem_mem _) | (have h_ := hzr _ (getD_memS (rg := rg) (k := k) oM); omega) | (rw [List.length_take]; omega)) (by first | omega | assumption | (refine hzr _ ?_; rw [List.getD_eq_getElem?_getD, List.getElem?_eq_getElem oM]; exact List.getElem_mem _) | (have h_ := hzr _ (getD_memS (rg := rg) (k := k) oM); omega) | (rw [List.length_take]; omega))))) (gB 0 (gE ok2 fun a3 s4 ok3 D3 => ?_)))); have o9 := OwnP.k0 (OwnP.kl o3 hs1) D3.stp; have o10 := Own.k0 (Own.kl o4 hs1) D3.stp; have o11 := OwnP.k0 o6 D3.stp; refine tn (wp_seq ?_)
 refine gI a3 s4 ok3 (gM (D3.m 2 rfl) (gS rfl (fun A B E G H d0 => rP (y_neq (eI d0) rfl)) (gE ok3 fun a4 s5 ok4 D4 => ?_))); have q15 := D4.k (D3.k q7); have o12 := OwnP.k0 o9 D4.stp; have o13 := Own.k0 o10 D4.stp; have o14 := OwnP.k0 o11 D4.stp; refine tn ?_
 refine cond_p (p := ((mayR (dy, ch, mt, rg)) ≠ (0 : Int))) (D4.m 1 rfl) (fun c1 => ?_) (fun c1 => ?_)
 ·
  exfalso
  omega
 ·
  refine wp_skip (tn (wp_seq (wp_seq ?_)))
  refine gI a4 s5 ok4 (gM q15 (gT (Ty.val b) rfl (fun A B E G H d0 => rP (y_nilp (OwnP.k0 o12 E) (eI d0))) (gT (Ty.val (ptrAt b 0)) rfl (fun A B E G H d0 => rP (ownp_field Tryd.fld37_0 Tryd.inf35 dE (OwnP.k0 o12 E) (eI d0))) (gS rfl (fun A B E G H d0 => rP (ownp_load Tryd.underlying35 rfl (OwnP.k0 o12 E) (eI d0) rfl)) (gT (Ty.nat (List.length xs)) rfl (fun A B E G H d0 => rP (own_len Tryd.underlying35 (al (R := (Pr.own 41 49 1 (List.length xs) (List.map (Ty.ent 66) xs))) (eI d0) (Own.k0 o13 E)))) (gS rfl (fun A B E G H d0 => rP (y_eql (eI d0) rfl)) (gE ok4 fun a5 s6 ok5 D5 => ?_))))))); have q22 := D5.k (D4.k (D3.k q9)); have o15 := OwnP.k0 o12 D5.stp; have o16 := Own.k0 o13 D5.stp; have o17 := OwnP.k0 o14 D5.stp; refine tn ?_
  refine cond_p (p := ((((List.length xs) : Nat) : Int) = (1000 : Int))) (D5.m 5 rfl) (fun c2 => ?_) (fun c2 => ?_)
  ·
   exfalso
   omega
  ·
   refine wp_skip (tn (wp_seq ?_))
   refine gI a5 s6 ok5 (gS rfl (fun A B E G H => rP (y_field Tryd.fld42_3 Tryd.inf40 dE (kp (H 3 rfl) E (D5.k (D4.k (D3.k q8)))) rfl)) (gS rfl (fun A B E G H d0 => rP (y_load Tryd.underlying40 rfl (eI d0) rfl)) (gS rfl (fun A B E G H d0 => rP (y_call _ Tryd.func24 rfl rfl my1 (cloneS_fn (rg) _ _ (eI d0) oX oX))) (gT (Ty.val (ptrAt x1 0)) rfl (fun A B E G H d0 d1 d2 => rP (ownp_field Tryd.fld66_0 Tryd.inf42 dE (OwnP.k0 o17 E) (kp (H 5 rfl) E q22))) (gT (Ty.val (ptrAt x1 3)) rfl (fun A B E G H d0 d1 d2 d3 => rP (ownp_field2 0 Tryd.fld42_3 Tryd.inf40 dE (OwnP.k0 o17 E) (eI d0))) (gE2 ok5 fun a6 s7 ok6 D6 => ?_)))))); have o18 := OwnP.k0 o15 D6.stp; have o19 := Own.k0 o16 D6.stp; have o20 := OwnP.k0 o17 D6.stp; have q26 := D6.m 2 rfl
   have b1 := sl_le q26
   refine tailL0 (L := [61]) (R := (fun _ τ => OwnP τ 61 x1 ([(Ty.int dy), (Ty.int ch), (Ty.val (Value.string mt)), (Ty.lst Ty.str rg)].set 3 (Ty.lst Ty.str (rg))))) rfl rfl (YldM.toL (m_storep Tryd.inf40 dE o20 (D6.m 4 rfl) (Nat.le_of_ble_eq_true rfl) q26 (one_sl))) (fun v2 s8 hs2 r2 => ?_)
   have q28 := kpL hs2 dE rfl (D6.k (D5.k q15)); have q29 := kpL hs2 dE rfl (D6.k q22); have o22 := OwnP.kl o18 hs2
   have o21 : OwnP s8 61 x1 [(Ty.int dy), (Ty.int ch), (Ty.val (Value.string mt)), (Ty.lst Ty.str (rg))] := r2
   clear r2; refine wpList_nil (tn (wp_seq ?_))
   refine reg3 (a := a6) (σ := s8) rfl 9 8 33 [41] dE (Pr.own 41 49 1 ((List.length xs) + 1) ((List.map (Ty.ent 66) xs) ++ [(Ty.ent 66 (dy, ch, mt, (rg)))])) (fun i_ => List.getD [(Ty.val b), (Ty.val b), (Ty.val b), (Ty.val (ptrAt b 0)), (Ty.val bl), (Ty.agg [(Ty.int dy), (Ty.int ch), (Ty.val (Value.string mt)), (Ty.lst Ty.str (rg))]), (Ty.ent 66 (dy, ch, mt, (rg))), (Ty.sl 1 1 [(Ty.ent 66 (dy, ch, mt, (rg)))]), Ty.any] i_ Ty.any) ok6 rfl dE rfl dE rfl (fun _ _ => trivial) rfl ⟨?_, ?_, ?_, ?_, ?_, ?_, ?_, ?_, ?_, trivial⟩ ?_
   · refine obR3 dE ?_
     intro A B E G H
     exact rP (y_move (kpL E dE (H 0 rfl) q28))
   · refine obR3 dE ?_
     intro A B E G H
     exact rP (y_move (kpL E dE (H 0 rfl) q28))
   · refine obR3 dE ?_
     intro A B E G H d0
     have e1 : At (Ty.val b) B A (.tmp 26) := d0 rfl
     exact rP (y_nilp (OwnP.keepL o22 E dE dE) e1)
   · refine obR3 dE ?_
     intro A B E G H d0
     have e2 : At (Ty.val b) B A (.tmp 27) := d0 rfl
     exact rP (ownp_field Tryd.fld37_0 Tryd.inf35 dE (OwnP.keepL o22 E dE dE) e2)
   · refine obR3 dE ?_
     intro A B E G H d0
     have e3 : At (Ty.val (ptrAt b 0)) B A (.tmp 28) := d0 rfl
     exact rP (ownp_load Tryd.underlying35 rfl (OwnP.keepL o22 E dE dE) e3 rfl)
   · refine obR3 dE ?_
     intro A B E G H
     exact rP (ownp_loadagg Tryd.underlying66 Tryd.inf66 (OwnP.keepL o21 E dE dE) (kpL E dE (H 5 rfl) q29))
   · refine obR3 dE ?_
     intro A B E G H d0
     have e5 : At (Ty.agg [(Ty.int dy), (Ty.int ch), (Ty.val (Value.string mt)), (Ty.lst Ty.str (rg))]) B A (.tmp 30) := d0 rfl
     exact rP (y_mkent (r := (dy, ch, mt, (rg))) Tryd.underlying66 e5)
   · refine obR3 dE ?_
     intro A B E G H d0
     have e6 : At (Ty.ent 66 (dy, ch, mt, (rg))) B A (.tmp 31) := d0 rfl
     exact rP (y_build1o Tryd.underlying35 Tryd.inf49 rfl (one_ent) e6)
   · refine obR3w rfl ?_
     intro A B E G H d0 d1
     have e4 : At (Ty.val bl) B A (.tmp 29) := d0 rfl
     have e7 : At (Ty.sl 1 1 [(Ty.ent 66 (dy, ch, mt, (rg)))]) B A (.tmp 32) := d1 rfl
     exact YldM.toL (m_append Tryd.underlying35 Tryd.inf49 dE rfl dE (al (R := (Pr.own 41 49 1 (List.length xs) (List.map (Ty.ent 66) xs))) e4 (Own.k0 (Own.kl o19 hs2) E)) e7 (by intro U hU; simp at hU; subst hU; exact one_ent) (by (try simp only [List.length_append, List.length_singleton]); omega) (by (try simp only [List.length_append, List.length_singleton]); omega))
   intro a7 s9 D7; have ok7 := D7.ok; have F9 := ((((((((F0.step0 D1.stp).step0 D2.stp).sl hs1).step0 D3.stp).step0 D4.stp).step0 D5.stp).step0 D6.stp).sl hs2).stepL D7.stp dE; have o25 := OwnP.keepL o22 D7.stp dE dE; have o26 := OwnP.keepL o21 D7.stp dE dE
   have q31 : At (Ty.val b) s9 a7 (.tmp 25) := D7.done 0 dE
   obtain ⟨x2, hx2⟩ : ∃ x, a7.eval (.tmp 33) = x := ⟨_, rfl⟩
   have q32 : At (Ty.val x2) s9 a7 (.tmp 33) := hx2
   have o24 := al2 (R := (Pr.own 41 49 1 (List.length (xs ++ [(dy, ch, mt, (rg))])) (List.map (Ty.ent 66) (xs ++ [(dy, ch, mt, (rg))])))) hx2 (cvo (by simp) (by first | (rw [List.map_append]; rfl) | simp) D7.donep)
   refine tL (R := (fun v τ => Pr.has (Ty.pr (Ty.val b)) τ v)) ok7 (Yld.toL (y_nilp o25 q31)) fun a8 s10 hs3 ok8 r3 sm1 => ?_
   have o27 := OwnP.kl o25 hs3
   have q34 : At (Ty.val b) s10 a8 (.tmp 34) := r3
   clear r3
   refine tL (R := (fun v τ => Pr.has (Ty.pr (Ty.val (ptrAt b 0))) τ v)) ok8 (Yld.toL (ownp_field Tryd.fld37_0 Tryd.inf35 dE o27 q34)) fun a9 s11 hs4 ok9 r4 sm2 => ?_
   have o32 := Own.kl (Own.kl o24 hs3) hs4
   have q36 : At (Ty.val (ptrAt b 0)) s11 a9 (.tmp 35) := r4
   clear r4
   refine tailL0 (L := [40]) (R := (fun _ τ => OwnP τ 40 b ([(Ty.val bl)].set 0 (Ty.val x2)))) rfl rfl (YldM.toL (m_storep Tryd.inf35 dE (OwnP.kl o27 hs4) q36 (Nat.le_of_ble_eq_true rfl) (kq hs4 sm2 33 (kq hs3 sm1 33 q32)) (one_val (Own.one o32)))) (fun v3 s12 hs5 r5 => ?_)
   have o34 := OwnP.kl (OwnP.kl (OwnP.kl o26 hs3) hs4) hs5
   have o33 : OwnP s12 40 b [(Ty.val x2)] := r5
   clear r5; refine wpList_nil (tn (wp_seq ?_))
   refine gI a9 s12 ok9 (gC (Ty.int (0 : Int)) (gE ok9 fun a10 s13 ok10 D8 => ?_)); have o36 := Own.k0 (Own.kl o32 hs5) D8.stp; have o37 := OwnP.k0 o33 D8.stp; refine tn (wp_ret ?_)
   exact retL1 rfl ok10 ((((F9.sl hs3).sl hs4).sl hs5).step0 D8.stp) ⟨x2, (D8.m 0 rfl), o37, (cvo (by (simp)) (by (simp)) o36)⟩


end Go.Proofs.YtfgkhpkbehhflaaDoor
