/- The functions that the law TopTouch reaches, each by its contract. Part 2. -/
import Derived.Test.YtbilebfnanlgfaaDoorTopTouchW1
namespace Go.Proofs.YtbilebfnanlgfaaDoor
open Go.KL
theorem Tryd.inf21 : Info Tryd.prog 21 (.int .i32 0) 1 4 := by unfold Info; kernel_rfl
theorem Tryd.fld50_0 : fieldOf Tryd.prog 50 0 = some (21, 0) := by kernel_rfl
set_option maxHeartbeats 4000000 in
set_option maxRecDepth 100000 in
theorem print_fn (cs : List BCall) (l : List Int) (σ : GW)  (v0 v1 : Value) (hv0 : Ty.has (Ty.lstc 2 callC cs) σ v0) (hv1 : Ty.has (Ty.lst Ty.int l) σ v1)  (hasc : ∀ c ∈ cs, -2147483648 ≤ c.1 ∧ c.1 ≤ 2147483647) :
    FnC Tryd.prog 10 #[v0, v1] σ (Ty.tup2 (Ty.val (Value.string (ptT cs l))) (Ty.int (ptE cs l))) := by
 obtain ⟨T, hT⟩ : ∃ T, T = prR cs 0 l := ⟨_, rfl⟩
 have hTs := prt_size cs 0 l
 rw [← hT] at hTs
 refine fn_intro0 Tryd.func10 rfl Tryd.ntmps10 (Nat.le_of_ble_eq_true rfl) (fun s0 a0 hle F0 ok0 hargs => ?_)
 have p0 : At (Ty.lstc 2 callC cs) s0 a0 (.tmp 0) := by have e := hargs 0 _ rfl; show Ty.has _ _ _; rw [e]; exact Ty.up _ hle hv0
 have b1 := sl_le p0
 have p1 : At (Ty.lst Ty.int l) s0 a0 (.tmp 1) := by have e := hargs 1 _ rfl; show Ty.has _ _ _; rw [e]; exact Ty.up _ hle hv1
 have b2 := sl_le p1
 clear hargs; refine wp_seq ?_
 refine rg a0 s0 [(Ty.val (Value.string (ByteArray.mk #[]))), (Ty.int (0 : Int))] ok0 ⟨?_, ?_, trivial⟩ ?_
 · intro A B E G H; exact rP (y_assign rfl)
 · intro A B E G H d0; exact rP (y_assign rfl)
 intro a1 s1 D1; have ok1 := D1.ok; have F1 := F0.step0 D1.stp; have q1 := D1.kt p0 rfl; have q2 := D1.kt p1 rfl; clear D1; refine tn ?_; refine wp_seq ?_; refine wp_seq ?_
 refine rg a1 s1 [(Ty.lst Ty.int l), (Ty.nat (List.length l)), (Ty.bool (decide ((((List.length l) : Nat) : Int) < (1 : Int)))), (Ty.bool (decide ((((List.length l) : Nat) : Int) < (1 : Int)))), (Ty.grd ((decide ((((List.length l) : Nat) : Int) < (1 : Int))) = false) (Ty.lst Ty.int l)), (Ty.grd ((decide ((((List.length l) : Nat) : Int) < (1 : Int))) = false) (Ty.nat (List.length l))), (Ty.grd ((decide ((((List.length l) : Nat) : Int) < (1 : Int))) = false) (Ty.bool (decide ((400 : Int) < (((List.length l) : Nat) : Int))))), (Ty.bool ((decide ((((List.length l) : Nat) : Int) < (1 : Int))) || (decide ((400 : Int) < (((List.length l) : Nat) : Int)))))] ok1 ⟨?_, ?_, ?_, ?_, ?_, ?_, ?_, ?_, trivial⟩ ?_
 · intro A B E G H; exact rP (y_move (kp (H 1 rfl) E q2))
 · intro A B E G H d0; exact rP (y_len Tryd.underlying26 (ed d0 rfl rfl rfl))
 · intro A B E G H d0; exact rP (y_lss (ed d0 rfl rfl rfl) rfl)
 · intro A B E G H d0; exact rP (y_move (ed d0 rfl rfl rfl))
 · intro A B E G H d0
   refine run_guard G rfl rfl (by decide) (ed d0 rfl rfl rfl) (fun hg => ?_)
   have hp := of_decide_eq_false hg
   exact y_move (kp (H 1 rfl) E q2)
 · intro A B E G H d0 d1
   refine run_guard G rfl rfl (by decide) (ed d1 rfl rfl rfl) (fun hg => ?_)
   have hp := of_decide_eq_false hg
   exact y_len Tryd.underlying26 ((ed d0 rfl rfl rfl).1 hg)
 · intro A B E G H d0 d1
   refine run_guard G rfl rfl (by decide) (ed d1 rfl rfl rfl) (fun hg => ?_)
   have hp := of_decide_eq_false hg
   exact y_gtr ((ed d0 rfl rfl rfl).1 hg) rfl
 · intro A B E G H d0 d1; exact rP (y_pick_or (ed d0 rfl rfl rfl) rfl (ed d1 rfl rfl rfl))
 intro a2 s2 D2; have ok2 := D2.ok; have F2 := F1.step0 D2.stp; have q3 := D2.kt q1 rfl; have q4 := D2.kt q2 rfl; have q5 := D2.dn 7 rfl rfl; clear D2; refine tn ?_
 refine cond_t q5 (fun c1 => ?_) (fun c1 => ?_)
 ·
  simp only [Bool.or_eq_true, decide_eq_true_eq] at c1; have hcc : l.length < 1 ∨ 400 < l.length := (by omega)
  refine wp_seq ?_
  refine rg a2 s2 [(Ty.val (Value.string (ByteArray.mk #[]))), (Ty.int (1 : Int))] ok2 ⟨?_, ?_, trivial⟩ ?_
  · intro A B E G H; exact rP (y_assign rfl)
  · intro A B E G H d0 d1; exact rP (y_assign rfl)
  intro a3 s3 D3; have ok3 := D3.ok; have F3 := F2.step0 D3.stp; have q6 := D3.dn 0 rfl rfl; have q7 := D3.dn 1 rfl rfl; clear D3; refine tn ?_; refine wp_ret ?_; refine tr ?_
  exact retL2 rfl ok3 F3 (hasT2 (cvt (by (rw [(pt_cnt hcc).2]; rfl)) q6) (cvi (by (exact (pt_cnt hcc).1.symm)) q7))
 ·
  obtain ⟨d1, d2⟩ := Bool.or_eq_false_iff.mp c1
  replace d1 := of_decide_eq_false d1
  replace d2 := of_decide_eq_false d2
  have hcc : ¬ (l.length < 1 ∨ 400 < l.length) := (by simp only [Bool.or_eq_false_iff, decide_eq_false_iff_not] at c1; omega)
  refine wp_skip ?_; refine tn ?_; refine wp_seq ?_; refine wp_seq ?_
  refine rg a2 s2 [(Ty.lst Ty.int l), (Ty.nat (List.length l)), (Ty.int (0 : Int))] ok2 ⟨?_, ?_, ?_, trivial⟩ ?_
  · intro A B E G H; exact rP (y_move (kp (H 1 rfl) E q4))
  · intro A B E G H d0; exact rP (y_len Tryd.underlying26 (ed d0 rfl rfl rfl))
  · intro A B E G H; exact rP (y_move rfl)
  intro a4 s4 D4; have ok4 := D4.ok; have F4 := F2.step0 D4.stp; have q8 := D4.kt q3 rfl; have q9 := D4.kt q4 rfl; have q10 := D4.dn 0 rfl rfl; have q11 := D4.dn 1 rfl rfl; have q12 := D4.dn 2 rfl rfl; clear D4; refine tn ?_; refine wp_block ?_
  refine loop (fun n1 a5 w1 => ∃ (t1 : GW) (i : Nat), t1.w = w1 ∧ FromL [] s0 t1 ∧ Ok 73 a5 ∧ At (Ty.nat i) t1 a5 (.tmp 20) ∧ At (Ty.lstc 2 callC cs) t1 a5 (.tmp 0) ∧ At (Ty.lst Ty.int l) t1 a5 (.tmp 1) ∧ At (Ty.lst Ty.int l) t1 a5 (.tmp 18) ∧ At (Ty.nat (List.length l)) t1 a5 (.tmp 19) ∧ (i ≤ l.length) ∧ (∀ k, k < i → 0 ≤ l.getD k 0 ∧ l.getD k 0 < (cs.length : Int)) ∧ n1 = l.length - i) (l.length - (0)) ?_ ?_
  ·
   exact ⟨s4, 0, rfl, F4, ok4, (cvi (by (first | rfl | omega | (simp_all; done) | (simp_all; omega))) q12), q8, q9, q10, q11, by omega, fun j hj => absurd hj (Nat.not_lt_zero j), rfl⟩
  ·
   rintro n2 a6 w2 ⟨t2, i, rfl, F5, ok5, q13, q14, q15, q16, q17, hi, hin, rfl⟩
   refine wp_seq ?_
   refine reg (a := a6) (σ := t2) rfl (fun i_ => List.getD [(Ty.pr (Ty.bool (decide (((i : Nat) : Int) < (((List.length l) : Nat) : Int)))))] i_ Pr.any) ok5 rfl ⟨?_, trivial⟩ ?_
   · intro A B E G H; exact rP (y_lss (kp (H 20 rfl) E q13) (kp (H 19 rfl) E q17))
   intro a7 s5 D5; have ok6 := D5.ok; have F6 := F5.step0 D5.stp; have q18 := D5.kt q13 rfl; have q19 := D5.kt q14 rfl; have q20 := D5.kt q15 rfl; have q21 := D5.kt q16 rfl; have q22 := D5.kt q17 rfl; have q23 := D5.dn 0 rfl rfl; clear D5; refine tn ?_; refine wp_seq ?_
   refine cond_p (p := (((i : Nat) : Int) < (((List.length l) : Nat) : Int))) q23 (fun c2 => ?_) (fun c2 => ?_)
   ·
    refine wp_skip ?_; refine tn ?_; refine wp_seq ?_; refine wp_block ?_; refine wp_seq ?_
    refine rg a7 s5 [(Ty.ref [(Ty.int (l.getD i 0))]), (Ty.int (l.getD i 0)), (Ty.int (l.getD i 0))] ok6 ⟨?_, ?_, ?_, trivial⟩ ?_
    · intro A B E G H; exact rP (y_index1 Tryd.underlying26 Tryd.inf3 (kp (H 18 rfl) E q21) (kp (H 20 rfl) E q18) (by omega) (lst_get Ty.int l 0 i (by omega)))
    · intro A B E G H d0; exact rP (y_load Tryd.underlying3 rfl (ed d0 rfl rfl rfl) rfl)
    · intro A B E G H d0 d1 d2; exact rP (y_assign (ed d0 rfl rfl rfl))
    intro a8 s6 D6; have ok7 := D6.ok; have F7 := F6.step0 D6.stp; have q24 := D6.kt q18 rfl; have q25 := D6.kt q19 rfl; have q26 := D6.kt q20 rfl; have q27 := D6.kt q21 rfl; have q28 := D6.kt q22 rfl; have q29 := D6.dn 2 rfl rfl; clear D6; refine tn ?_; refine wp_seq ?_
    refine rg a8 s6 [(Ty.int (l.getD i 0)), (Ty.bool (decide ((l.getD i 0) < (0 : Int)))), (Ty.bool (decide ((l.getD i 0) < (0 : Int)))), (Ty.grd ((decide ((l.getD i 0) < (0 : Int))) = false) (Ty.int (l.getD i 0))), (Ty.grd ((decide ((l.getD i 0) < (0 : Int))) = false) (Ty.lstc 2 callC cs)), (Ty.grd ((decide ((l.getD i 0) < (0 : Int))) = false) (Ty.nat (List.length cs))), (Ty.grd ((decide ((l.getD i 0) < (0 : Int))) = false) (Ty.bool (decide ((((List.length cs) : Nat) : Int) ≤ (l.getD i 0))))), (Ty.bool ((decide ((l.getD i 0) < (0 : Int))) || (decide ((((List.length cs) : Nat) : Int) ≤ (l.getD i 0)))))] ok7 ⟨?_, ?_, ?_, ?_, ?_, ?_, ?_, ?_, trivial⟩ ?_
    · intro A B E G H; exact rP (y_move (kp (H 7 rfl) E q29))
    · intro A B E G H d0; exact rP (y_lss (ed d0 rfl rfl rfl) rfl)
    · intro A B E G H d0; exact rP (y_move (ed d0 rfl rfl rfl))
    · intro A B E G H d0
      refine run_guard G rfl rfl (by decide) (ed d0 rfl rfl rfl) (fun hg => ?_)
      have hp := of_decide_eq_false hg
      exact y_move (kp (H 7 rfl) E q29)
    · intro A B E G H d0
      refine run_guard G rfl rfl (by decide) (ed d0 rfl rfl rfl) (fun hg => ?_)
      have hp := of_decide_eq_false hg
      exact y_move (kp (H 0 rfl) E q25)
    · intro A B E G H d0 d1
      refine run_guard G rfl rfl (by decide) (ed d1 rfl rfl rfl) (fun hg => ?_)
      have hp := of_decide_eq_false hg
      exact y_len Tryd.underlying25 ((ed d0 rfl rfl rfl).1 hg)
    · intro A B E G H d0 d1 d2
      refine run_guard G rfl rfl (by decide) (ed d2 rfl rfl rfl) (fun hg => ?_)
      have hp := of_decide_eq_false hg
      exact y_geq ((ed d0 rfl rfl rfl).1 hg) ((ed d1 rfl rfl rfl).1 hg)
    · intro A B E G H d0 d1; exact rP (y_pick_or (ed d0 rfl rfl rfl) rfl (ed d1 rfl rfl rfl))
    intro a9 s7 D7; have ok8 := D7.ok; have F8 := F7.step0 D7.stp; have q30 := D7.kt q24 rfl; have q31 := D7.kt q25 rfl; have q32 := D7.kt q26 rfl; have q33 := D7.kt q27 rfl; have q34 := D7.kt q28 rfl; have q35 := D7.dn 7 rfl rfl; clear D7; refine tn ?_
    refine cond_t q35 (fun c3 => ?_) (fun c3 => ?_)
    ·
     simp only [Bool.or_eq_true, decide_eq_true_eq] at c3; have hbv : l.getD i 0 < 0 ∨ (cs.length : Int) ≤ l.getD i 0 := (by omega)
     refine wp_seq ?_
     refine rg a9 s7 [(Ty.val (Value.string (ByteArray.mk #[]))), (Ty.int (12 : Int))] ok8 ⟨?_, ?_, trivial⟩ ?_
     · intro A B E G H; exact rP (y_assign rfl)
     · intro A B E G H d0 d1; exact rP (y_assign rfl)
     intro a10 s8 D8; have ok9 := D8.ok; have F9 := F8.step0 D8.stp; have q36 := D8.dn 0 rfl rfl; have q37 := D8.dn 1 rfl rfl; clear D8; refine tn ?_; refine wp_ret ?_; refine br ?_; refine tr ?_; refine tr ?_; refine br ?_; refine tr ?_
     exact retL2 rfl ok9 F9 (hasT2 (cvt (by (rw [(pt_val hcc (k := i) (by omega) hbv).2]; rfl)) q36) (cvi (by (exact (pt_val hcc (k := i) (by omega) hbv).1.symm)) q37))
    ·
     obtain ⟨d3, d4⟩ := Bool.or_eq_false_iff.mp c3
     replace d3 := of_decide_eq_false d3
     replace d4 := of_decide_eq_false d4
     simp only [Bool.or_eq_false_iff, decide_eq_false_iff_not] at c3
     refine wp_skip ?_; refine bn ?_; refine tn ?_
     refine rg a9 s7 [(Ty.nat (i + 1)), (Ty.nat (i + 1))] ok8 ⟨?_, ?_, trivial⟩ ?_
     · intro A B E G H; exact rP ((y_add (kp (H 20 rfl) E q30) rfl (w64 (by omega) (by omega))).mono (fun τ _ h => cvi (σ := τ) (by first | omega | exact (Int.natCast_mul _ _).symm) h))
     · intro A B E G H d0; exact rP (y_move (ed d0 rfl rfl rfl))
     intro a11 s9 D9; have ok10 := D9.ok; have F10 := F8.step0 D9.stp; have q38 := D9.kt q31 rfl; have q39 := D9.kt q32 rfl; have q40 := D9.kt q33 rfl; have q41 := D9.kt q34 rfl; have q42 := D9.dn 1 rfl rfl; clear D9
     exact tn ⟨l.length - ((i+1)), by omega, s9, (i+1), rfl, F10, ok10, (cvi (by (first | rfl | omega | (simp_all; done) | (simp_all; omega))) q42), q38, q39, q40, q41, by omega, fun k hk => by (by_cases e : k = i; (subst e; omega); exact hin k (by omega)), rfl⟩
   ·
    have hin2 : ∀ k, k < l.length → 0 ≤ l.getD k 0 ∧ l.getD k 0 < (cs.length : Int) := fun k hk => hin k (by omega)
    refine wp_exit ?_; refine tx ?_; refine tx ?_; refine bx ?_; refine tn ?_; refine wp_seq ?_
    refine reg (a := a7) (σ := s5) rfl (fun i_ => List.getD [(Pr.ownpt 57 5 [(Ty.val (Value.pointer none)), (Ty.val (Value.slice none 0 0))])] i_ Pr.any) ok6 rfl ⟨?_, trivial⟩ ?_
    · intro A B E G H; exact rP (y_alloct Tryd.inf57 rfl (alloc_vals (vs := [.pointer none, .slice none 0 0]) rfl))
    intro a12 s10 D10; have ok11 := D10.ok; have F11 := F6.step0 D10.stp; have q43 := D10.kt q19 rfl; have q44 := D10.kt q20 rfl
    obtain ⟨x1, hx1⟩ : ∃ x, a12.eval (.tmp 8) = x := ⟨_, rfl⟩
    have q45 : At (Ty.val x1) s10 a12 (.tmp 8) := hx1
    have o1 : OwnPT 57 s10 5 x1 [(Ty.val (Value.pointer none)), (Ty.val (Value.slice none 0 0))] := al2 (R := (Pr.ownpt 57 5 [(Ty.val (Value.pointer none)), (Ty.val (Value.slice none 0 0))])) hx1 (D10.done 0)
    clear D10; refine tn ?_; refine wp_seq ?_; refine wp_block ?_
    have o2 : Own s10 6 5 1 (Value.slice none 0 0) 0 (List.map Ty.byte ([] : List UInt8)) := Own.nil _ _ _ _
    refine loop (fun n3 a13 w3 => ∃ (t3 : GW) (ll : List Int) (out : List UInt8) (nz : Bool) (bf : Value), t3.w = w3 ∧ FromL [] s0 t3 ∧ Ok 73 a13 ∧ At (Ty.lst Ty.int ll) t3 a13 (.tmp 1) ∧ At (Ty.lstc 2 callC cs) t3 a13 (.tmp 0) ∧ At (Ty.val x1) t3 a13 (.tmp 8) ∧ OwnPT 57 t3 5 x1 [(Ty.val (bAddr nz x1)), (Ty.val bf)] ∧ Own t3 6 5 1 bf (List.length out) (List.map Ty.byte out) ∧ (bsL out ++ prR cs 0 ll = T) ∧ (ll.length ≤ l.length) ∧ (∀ k, k < ll.length → 0 ≤ ll.getD k 0 ∧ ll.getD k 0 < (cs.length : Int)) ∧ n3 = ll.length) ((l).length) ?_ ?_
    ·
     exact ⟨s10, l, ([] : List UInt8), true, (Value.slice none 0 0), rfl, F11, ok11, (cvt (by (first | rfl | omega | (simp_all; done) | (simp_all; omega))) q44), q43, q45, (ownpt_cell 0 (Ty.val (bAddr (true) x1)) o1 rfl (fun _ _ h => (cvt (by (first | rfl | omega | (simp_all; done) | (simp_all; omega))) h))), (cvo (by (simp)) (by (simp)) o2), by rw [show bsL [] = ByteArray.empty from rfl, ba_nil', hT], by omega, hin2, rfl⟩
    ·
     rintro n4 a14 w4 ⟨t4, ll, out, nz, bf, rfl, F12, ok12, q46, q47, q48, o3, o4, E, hll, hil, rfl⟩
     have hos : out.length ≤ T.size := by rw [← E, ByteArray.size_append, bsL_size]; omega
     refine wp_seq ?_; refine wp_seq ?_
     refine reg (a := a14) (σ := t4) rfl (fun i_ => List.getD [(Ty.pr (Ty.lst Ty.int ll)), (Ty.pr (Ty.nat (List.length ll))), (Ty.pr (Ty.bool (decide ((0 : Int) < (((List.length ll) : Nat) : Int)))))] i_ Pr.any) ok12 rfl ⟨?_, ?_, ?_, trivial⟩ ?_
     · intro A B E G H; exact rP (y_move (kp (H 1 rfl) E q46))
     · intro A B E G H d0; exact rP (y_len Tryd.underlying26 (ed d0 rfl rfl rfl))
     · intro A B E G H d0; exact rP (y_gtr (ed d0 rfl rfl rfl) rfl)
     intro a15 s11 D11; have ok13 := D11.ok; have F13 := F12.step0 D11.stp; have q49 := D11.kt q46 rfl; have q50 := D11.kt q47 rfl; have q51 := D11.kt q48 rfl; have o5 := OwnPT.k0 o3 D11.stp; have o6 := Own.k0 o4 D11.stp; have q52 := D11.dn 2 rfl rfl; clear D11; refine tn ?_
     refine cond_p (p := ((0 : Int) < (((List.length ll) : Nat) : Int))) q52 (fun c4 => ?_) (fun c4 => ?_)
     ·
      have hl0 := hil 0 (by omega); have hl0b : 0 ≤ (ll.getD ((0 : Int)).toNat 0) ∧ (ll.getD ((0 : Int)).toNat 0) < (cs.length : Int) := hl0; have hca : -2147483648 ≤ (cs.getD (ll.getD ((0 : Int)).toNat 0).toNat D0).1 ∧ (cs.getD (ll.getD ((0 : Int)).toNat 0).toNat D0).1 ≤ 2147483647 := hasc _ (mem_getDD D0 (by omega))
      refine wp_skip ?_; refine tn ?_; refine wp_block ?_; refine wp_seq ?_
      refine rg a15 s11 [(Ty.int (1 : Int))] ok13 ⟨?_, trivial⟩ ?_
      · intro A B E G H; exact rP (y_assign rfl)
      intro a16 s12 D12; have ok14 := D12.ok; have F14 := F13.step0 D12.stp; have q53 := D12.kt q49 rfl; have q54 := D12.kt q50 rfl; have q55 := D12.kt q51 rfl; have o7 := OwnPT.k0 o5 D12.stp; have o8 := Own.k0 o6 D12.stp; have q56 := D12.dn 0 rfl rfl; clear D12; refine tn ?_; refine wp_seq ?_; refine wp_block ?_
      refine loop (fun n5 a17 w5 => ∃ (t5 : GW) (m : Nat), t5.w = w5 ∧ FromL [] s0 t5 ∧ Ok 73 a17 ∧ At (Ty.nat (m + 1)) t5 a17 (.tmp 9) ∧ At (Ty.lst Ty.int ll) t5 a17 (.tmp 1) ∧ At (Ty.lstc 2 callC cs) t5 a17 (.tmp 0) ∧ At (Ty.val x1) t5 a17 (.tmp 8) ∧ OwnPT 57 t5 5 x1 [(Ty.val (bAddr nz x1)), (Ty.val bf)] ∧ Own t5 6 5 1 bf (List.length out) (List.map Ty.byte out) ∧ (bsL out ++ prR cs m (List.drop m ll) = T) ∧ (m + 1 ≤ ll.length) ∧ (m + 1 ≤ 99) ∧ (ll.getD m 0 = ll.getD 0 0) ∧ n5 = ll.length - m) (ll.length - (0)) ?_ ?_
      ·
       exact ⟨s12, 0, rfl, F14, ok14, (cvi (by (rfl)) q56), q53, q54, q55, o7, o8, by rw [List.drop_zero]; exact E, by omega, by omega, rfl, rfl⟩
      ·
       rintro n6 a18 w6 ⟨t6, m, rfl, F15, ok15, q57, q58, q59, q60, o9, o10, hq, hm, hm9, hx0, rfl⟩
       refine wp_seq ?_; refine wp_seq ?_
       refine reg (a := a18) (σ := t6) rfl (fun i_ => List.getD [(Ty.pr (Ty.nat (m + 1))), (Ty.pr (Ty.lst Ty.int ll)), (Ty.pr (Ty.nat (List.length ll))), (Ty.pr (Ty.bool (decide ((((m + 1) : Nat) : Int) < (((List.length ll) : Nat) : Int))))), (Ty.pr (Ty.bool (decide ((((m + 1) : Nat) : Int) < (((List.length ll) : Nat) : Int))))), (Ty.pr (Ty.grd ((decide ((((m + 1) : Nat) : Int) < (((List.length ll) : Nat) : Int))) = true) (Ty.nat (m + 1)))), (Ty.pr (Ty.grd ((decide ((((m + 1) : Nat) : Int) < (((List.length ll) : Nat) : Int))) = true) (Ty.bool (decide ((((m + 1) : Nat) : Int) < (99 : Int)))))), (Ty.pr (Ty.bool ((decide ((((m + 1) : Nat) : Int) < (((List.length ll) : Nat) : Int))) && (decide ((((m + 1) : Nat) : Int) < (99 : Int)))))), (Ty.pr (Ty.bool ((decide ((((m + 1) : Nat) : Int) < (((List.length ll) : Nat) : Int))) && (decide ((((m + 1) : Nat) : Int) < (99 : Int)))))), (Ty.pr (Ty.grd (((decide ((((m + 1) : Nat) : Int) < (((List.length ll) : Nat) : Int))) && (decide ((((m + 1) : Nat) : Int) < (99 : Int)))) = true) (Ty.lst Ty.int ll))), (Ty.pr (Ty.grd (((decide ((((m + 1) : Nat) : Int) < (((List.length ll) : Nat) : Int))) && (decide ((((m + 1) : Nat) : Int) < (99 : Int)))) = true) (Ty.nat (m + 1)))), (Ty.pr (Ty.grd (((decide ((((m + 1) : Nat) : Int) < (((List.length ll) : Nat) : Int))) && (decide ((((m + 1) : Nat) : Int) < (99 : Int)))) = true) (Ty.ref [(Ty.int (ll.getD (m + 1) 0))]))), (Ty.pr (Ty.grd (((decide ((((m + 1) : Nat) : Int) < (((List.length ll) : Nat) : Int))) && (decide ((((m + 1) : Nat) : Int) < (99 : Int)))) = true) (Ty.int (ll.getD (m + 1) 0)))), (Ty.pr (Ty.grd (((decide ((((m + 1) : Nat) : Int) < (((List.length ll) : Nat) : Int))) && (decide ((((m + 1) : Nat) : Int) < (99 : Int)))) = true) (Ty.lst Ty.int ll))), (Ty.pr (Ty.grd (((decide ((((m + 1) : Nat) : Int) < (((List.length ll) : Nat) : Int))) && (decide ((((m + 1) : Nat) : Int) < (99 : Int)))) = true) (Ty.ref [(Ty.int (ll.getD ((0 : Int)).toNat 0))]))), (Ty.pr (Ty.grd (((decide ((((m + 1) : Nat) : Int) < (((List.length ll) : Nat) : Int))) && (decide ((((m + 1) : Nat) : Int) < (99 : Int)))) = true) (Ty.int (ll.getD ((0 : Int)).toNat 0)))), (Ty.pr (Ty.grd (((decide ((((m + 1) : Nat) : Int) < (((List.length ll) : Nat) : Int))) && (decide ((((m + 1) : Nat) : Int) < (99 : Int)))) = true) (Ty.bool (decide ((ll.getD (m + 1) 0) = (ll.getD ((0 : Int)).toNat 0)))))), (Ty.pr (Ty.bool (((decide ((((m + 1) : Nat) : Int) < (((List.length ll) : Nat) : Int))) && (decide ((((m + 1) : Nat) : Int) < (99 : Int)))) && (decide ((ll.getD (m + 1) 0) = (ll.getD ((0 : Int)).toNat 0))))))] i_ Pr.any) ok15 rfl ⟨?_, ?_, ?_, ?_, ?_, ?_, ?_, ?_, ?_, ?_, ?_, ?_, ?_, ?_, ?_, ?_, ?_, ?_, trivial⟩ ?_
       · intro A B E G H; exact rP (y_move (kp (H 9 rfl) E q57))
       · intro A B E G H; exact rP (y_move (kp (H 1 rfl) E q58))
       · intro A B E G H d0; exact rP (y_len Tryd.underlying26 (ed d0 rfl rfl rfl))
       · intro A B E G H d0 d1; exact rP (y_lss (ed d0 rfl rfl rfl) (ed d1 rfl rfl rfl))
       · intro A B E G H d0; exact rP (y_move (ed d0 rfl rfl rfl))
       · intro A B E G H d0
         refine run_guard G rfl rfl (by decide) (ed d0 rfl rfl rfl) (fun hg => ?_)
         have hp := of_decide_eq_true hg
         exact y_move (kp (H 9 rfl) E q57)
       · intro A B E G H d0 d1
         refine run_guard G rfl rfl (by decide) (ed d1 rfl rfl rfl) (fun hg => ?_)
         have hp := of_decide_eq_true hg
         exact y_lss ((ed d0 rfl rfl rfl).1 hg) rfl
       · intro A B E G H d0 d1; exact rP (y_pick_and (ed d0 rfl rfl rfl) (ed d1 rfl rfl rfl) rfl)
       · intro A B E G H d0 d1; exact rP (y_move (ed d0 rfl rfl rfl))
       · intro A B E G H d0
         refine run_guard G rfl rfl (by decide) (ed d0 rfl rfl rfl) (fun hg => ?_)
         obtain ⟨d5, d6⟩ := Bool.and_eq_true_iff.mp hg
         have d5 := of_decide_eq_true d5
         have d6 := of_decide_eq_true d6
         exact y_move (kp (H 1 rfl) E q58)
       · intro A B E G H d0
         refine run_guard G rfl rfl (by decide) (ed d0 rfl rfl rfl) (fun hg => ?_)
         obtain ⟨d7, d8⟩ := Bool.and_eq_true_iff.mp hg
         have d7 := of_decide_eq_true d7
         have d8 := of_decide_eq_true d8
         exact y_move (kp (H 9 rfl) E q57)
       · intro A B E G H d0 d1 d2
         refine run_guard G rfl rfl (by decide) (ed d2 rfl rfl rfl) (fun hg => ?_)
         obtain ⟨d9, d10⟩ := Bool.and_eq_true_iff.mp hg
         have d9 := of_decide_eq_true d9
         have d10 := of_decide_eq_true d10
         exact y_index1 Tryd.underlying26 Tryd.inf3 ((ed d0 rfl rfl rfl).1 hg) ((ed d1 rfl rfl rfl).1 hg) (by omega) (lst_get Ty.int ll 0 (m + 1) (by omega))
       · intro A B E G H d0 d1
         refine run_guard G rfl rfl (by decide) (ed d1 rfl rfl rfl) (fun hg => ?_)
         obtain ⟨d11, d12⟩ := Bool.and_eq_true_iff.mp hg
         have d11 := of_decide_eq_true d11
         have d12 := of_decide_eq_true d12
         exact y_load Tryd.underlying3 rfl ((ed d0 rfl rfl rfl).1 hg) rfl
       · intro A B E G H d0
         refine run_guard G rfl rfl (by decide) (ed d0 rfl rfl rfl) (fun hg => ?_)
         obtain ⟨d13, d14⟩ := Bool.and_eq_true_iff.mp hg
         have d13 := of_decide_eq_true d13
         have d14 := of_decide_eq_true d14
         exact y_move (kp (H 1 rfl) E q58)
       · intro A B E G H d0 d1
         refine run_guard G rfl rfl (by decide) (ed d1 rfl rfl rfl) (fun hg => ?_)
         obtain ⟨d15, d16⟩ := Bool.and_eq_true_iff.mp hg
         have d15 := of_decide_eq_true d15
         have d16 := of_decide_eq_true d16
         exact y_index1 Tryd.underlying26 Tryd.inf3 ((ed d0 rfl rfl rfl).1 hg) rfl (by omega) (lst_get Ty.int ll 0 ((0 : Int)).toNat (by omega))
       · intro A B E G H d0 d1
         refine run_guard G rfl rfl (by decide) (ed d1 rfl rfl rfl) (fun hg => ?_)
         obtain ⟨d17, d18⟩ := Bool.and_eq_true_iff.mp hg
         have d17 := of_decide_eq_true d17
         have d18 := of_decide_eq_true d18
         exact y_load Tryd.underlying3 rfl ((ed d0 rfl rfl rfl).1 hg) rfl
       · intro A B E G H d0 d1 d2
         refine run_guard G rfl rfl (by decide) (ed d2 rfl rfl rfl) (fun hg => ?_)
         obtain ⟨d19, d20⟩ := Bool.and_eq_true_iff.mp hg
         have d19 := of_decide_eq_true d19
         have d20 := of_decide_eq_true d20
         exact y_eql ((ed d0 rfl rfl rfl).1 hg) ((ed d1 rfl rfl rfl).1 hg)
       · intro A B E G H d0 d1; exact rP (y_pick_and (ed d0 rfl rfl rfl) (ed d1 rfl rfl rfl) rfl)
       intro a19 s13 D13; have ok16 := D13.ok; have F16 := F15.step0 D13.stp; have q61 := D13.kt q57 rfl; have q62 := D13.kt q58 rfl; have q63 := D13.kt q59 rfl; have q64 := D13.kt q60 rfl; have o11 := OwnPT.k0 o9 D13.stp; have o12 := Own.k0 o10 D13.stp; have q65 := D13.dn 17 rfl rfl; clear D13; refine tn ?_
       refine cond_t q65 (fun c5 => ?_) (fun c5 => ?_)
       ·
        obtain ⟨d21, d22⟩ := Bool.and_eq_true_iff.mp c5
        obtain ⟨d23, d24⟩ := Bool.and_eq_true_iff.mp d21
        replace d23 := of_decide_eq_true d23
        replace d24 := of_decide_eq_true d24
        replace d22 := of_decide_eq_true d22
        simp only [Bool.and_eq_true, decide_eq_true_eq] at c5; have hz_ : ll.getD (m + 1) 0 = ll.getD 0 0 := c5.2
        refine wp_skip ?_; refine tn ?_; refine wp_block ?_
        refine rg a19 s13 [(Ty.nat (m + 1)), (Ty.nat ((m + 1) + 1)), (Ty.nat ((m + 1) + 1))] ok16 ⟨?_, ?_, ?_, trivial⟩ ?_
        · intro A B E G H; exact rP (y_move (kp (H 9 rfl) E q61))
        · intro A B E G H d0; exact rP ((y_add (ed d0 rfl rfl rfl) rfl (w64 (by omega) (by omega))).mono (fun τ _ h => cvi (σ := τ) (by first | omega | exact (Int.natCast_mul _ _).symm) h))
        · intro A B E G H d0 d1 d2; exact rP (y_assign (ed d0 rfl rfl rfl))
        intro a20 s14 D14; have ok17 := D14.ok; have F17 := F16.step0 D14.stp; have q66 := D14.kt q62 rfl; have q67 := D14.kt q63 rfl; have q68 := D14.kt q64 rfl; have o13 := OwnPT.k0 o11 D14.stp; have o14 := Own.k0 o12 D14.stp; have q69 := D14.dn 2 rfl rfl; clear D14; refine bn ?_
        exact tn ⟨ll.length - ((m + 1)), by omega, s14, (m + 1), rfl, F17, ok17, (cvi (by (first | rfl | omega | (simp_all; done) | (simp_all; omega))) q69), q66, q67, q68, o13, o14, prt_cont hq (by omega) (by omega) (by omega), by omega, by omega, by omega, rfl⟩
       ·
        have hno : ¬ ((m + 1 < ll.length ∧ ll.getD (m + 1) 0 = ll.getD m 0) ∧ m + 1 < 99) := (by simp only [Bool.and_eq_false_iff, decide_eq_false_iff_not] at c5; rintro ⟨⟨h1_, h2_⟩, h3_⟩; rw [hx0] at h2_; rcases c5 with (h_ | h_) | h_; omega; omega; exact h_ h2_)
        refine wp_exit ?_; refine tx ?_; refine tx ?_; refine bx ?_; refine tn ?_; refine wp_seq ?_; refine wp_seq ?_
        refine rg a19 s13 [(Ty.nat (m + 1)), (Ty.bool (decide ((1 : Int) < (((m + 1) : Nat) : Int))))] ok16 ⟨?_, ?_, trivial⟩ ?_
        · intro A B E G H; exact rP (y_move (kp (H 9 rfl) E q61))
        · intro A B E G H d0; exact rP (y_gtr (ed d0 rfl rfl rfl) rfl)
        intro a21 s15 D15; have ok18 := D15.ok; have F18 := F16.step0 D15.stp; have q70 := D15.kt q61 rfl; have q71 := D15.kt q62 rfl; have q72 := D15.kt q63 rfl; have q73 := D15.kt q64 rfl; have o15 := OwnPT.k0 o11 D15.stp; have o16 := Own.k0 o12 D15.stp; have q74 := D15.dn 1 rfl rfl; clear D15; refine tn ?_
        refine cond_p (p := ((1 : Int) < (((m + 1) : Nat) : Int))) q74 (fun c6 => ?_) (fun c6 => ?_)
        ·
         have hds := dec_size (n := m + 1)
         refine reg2 (a := a21) (σ := s15) rfl 2 (fun i_ => List.getD [(Ty.pr (Ty.nat (m + 1))), (Ty.pr (Ty.val (Value.string (decB ((m + 1))))))] i_ Pr.any) ok18 rfl (by decide) rfl ⟨?_, ?_, trivial⟩ ?_
         · intro A B E G H; exact rP (y_move (kp (H 9 rfl) E q70))
         · intro A B E G H d0; exact rP (y_call #[A.eval (.tmp 58)] Tryd.func31 rfl rfl (by simp only [List.map_toArray, List.map_cons, List.map_nil]) (itoa_fn ((m + 1)) _ _ (cvi (σ := B) (by omega) (ed d0 rfl rfl rfl)) (by omega)))
         intro a22 s16 D16; have ok19 := D16.ok; have F19 := F18.step0 D16.stp; have q75 := D16.kt q70 rfl; have q76 := D16.kt q71 rfl; have q77 := D16.kt q72 rfl; have q78 := D16.kt q73 rfl; have o17 := OwnPT.k0 o15 D16.stp; have o18 := Own.k0 o16 D16.stp; have q79 := D16.dn 1 (by decide) rfl rfl; clear D16
         refine tailL (L := [5, 6]) (R := (fun v τ' => ∃ τ, (fun v τ => ∃ (bz : Value), (Ty.has (Ty.tup2 (Ty.nat (ByteArray.size ((decB ((m + 1)))))) (Ty.val Value.nilIface)) τ v) ∧ (OwnPT 57 τ 40 x1 [(Ty.val (bAddr false (x1))), (Ty.val bz)]) ∧ (Own τ 41 5 1 bz (List.length ((out) ++ (ByteArray.data ((decB ((m + 1))))).toList)) (List.map Ty.byte ((out) ++ (ByteArray.data ((decB ((m + 1))))).toList)))) v τ ∧ Back [(40, 5), (41, 6)] τ τ')) rfl rfl (by decide) ok19 (y_callL (L := [40, 41]) [(5, 40), (6, 41)] [(40, 5), (41, 6)] #[a22.eval (.tmp 8), a22.eval (.tmp 59)] rfl (by decide) Tryd.func30 rfl rfl (by simp only [List.map_toArray, List.map_cons, List.map_nil]) (writeString_fn (x1) (bf) (nz) (out) ((decB ((m + 1)))) _ (GW.low_lend _ (by decide)) _ _ (Ty.up _ (GW.le_lend _ _) q78) (Ty.up _ (GW.le_lend _ _) q79) (OwnPT.ren (ownpt_cell 0 (Ty.val (bAddr (nz) (x1))) o17 rfl (fun _ _ h => (cvt (by (first | rfl | omega | (simp_all; done) | (simp_all; omega))) h))) (GW.ren_lend _ _ (by decide) rfl)) (Own.ren (cvo (by (simp)) (by (simp)) o18) (GW.ren_lend _ _ (by decide) rfl)) (by omega) (by omega))) (fun a23 s17 hs1 ok20 r1 sm1 => ?_)
         have F20 := F19.stepL hs1 (by decide); have q80 := kpL hs1 (by decide) (sm1 9 (by decide)) q75; have q81 := kpL hs1 (by decide) (sm1 1 (by decide)) q76; have q82 := kpL hs1 (by decide) (sm1 0 (by decide)) q77; have q83 := kpL hs1 (by decide) (sm1 8 (by decide)) q78
         obtain ⟨t7, ⟨x2, hT1, o19, o20⟩, B1⟩ := r1
         have q84 : At (Ty.tup2 (Ty.nat (ByteArray.size ((decB ((m + 1)))))) (Ty.val Value.nilIface)) s17 a23 (.tmp 60) := Ty.up _ B1.le hT1
         have o21 : OwnPT 57 s17 5 x1 [(Ty.val (bAddr false (x1))), (Ty.val x2)] := OwnPT.ren o19 (B1.ren (by decide) rfl)
         have o22 : Own s17 6 5 1 x2 (List.length ((out) ++ (ByteArray.data ((decB ((m + 1))))).toList)) (List.map Ty.byte ((out) ++ (ByteArray.data ((decB ((m + 1))))).toList)) := Own.ren o20 (B1.ren (by decide) rfl)
         refine wpList_nil ?_; refine tn ?_; refine wp_seq ?_
         have hal : (out ++ (ByteArray.data (decB (m + 1))).toList).length = out.length + (decB (m + 1)).size := List.length_append
         have hds2 := dec_size (n := m + 1)
         refine reg2 (a := a23) (σ := s17) rfl 7 (fun i_ => List.getD [(Ty.pr (Ty.lstc 2 callC cs)), (Ty.pr (Ty.lst Ty.int ll)), (Ty.pr (Ty.ref [(Ty.int (ll.getD ((0 : Int)).toNat 0))])), (Ty.pr (Ty.int (ll.getD ((0 : Int)).toNat 0))), (Ty.pr (Ty.ref [(Ty.val (Value.int .i32 ((cs.getD ((ll.getD ((0 : Int)).toNat 0)).toNat D0)).1)), (Ty.lst Ty.ints ((cs.getD ((ll.getD ((0 : Int)).toNat 0)).toNat D0)).2)])), (Ty.pr (Ty.ref [(Ty.val (Value.int .i32 ((cs.getD ((ll.getD ((0 : Int)).toNat 0)).toNat D0)).1)), (Ty.lst Ty.ints ((cs.getD ((ll.getD ((0 : Int)).toNat 0)).toNat D0)).2)])), (Ty.pr (Ty.val (Value.int .i32 ((cs.getD ((ll.getD ((0 : Int)).toNat 0)).toNat D0)).1)))] i_ Pr.any) ok20 rfl (by decide) rfl ⟨?_, ?_, ?_, ?_, ?_, ?_, ?_, trivial⟩ ?_
         · intro A B E G H; exact rP (y_move (kp (H 0 rfl) E q82))
         · intro A B E G H; exact rP (y_move (kp (H 1 rfl) E q81))
         · intro A B E G H d0; exact rP (y_index1 Tryd.underlying26 Tryd.inf3 (ed d0 rfl rfl rfl) rfl (by omega) (lst_get Ty.int ll 0 ((0 : Int)).toNat (by omega)))
         · intro A B E G H d0; exact rP (y_load Tryd.underlying3 rfl (ed d0 rfl rfl rfl) rfl)
         · intro A B E G H d0 d1; exact rP (y_indexc (i := (ll.getD ((0 : Int)).toNat 0)) D0 Tryd.underlying25 Tryd.inf50 (ed d0 rfl rfl rfl) (ed d1 rfl rfl rfl) (by omega) (by omega) (by decide) (fun _ => rfl))
         · intro A B E G H d0; exact rP (y_field Tryd.fld50_0 Tryd.inf21 (by decide) (ed d0 rfl rfl rfl) rfl)
         · intro A B E G H d0; exact rP (y_load Tryd.underlying21 rfl (ed d0 rfl rfl rfl) rfl)
         intro a24 s18 D17; have ok21 := D17.ok; have F21 := F20.step0 D17.stp; have q85 := D17.kt q80 rfl; have q86 := D17.kt q81 rfl; have q87 := D17.kt q82 rfl; have q88 := D17.kt q83 rfl; have o23 := OwnPT.k0 o21 D17.stp; have o24 := Own.k0 o22 D17.stp; have q89 := D17.dn 6 (by decide) rfl rfl; clear D17
         refine tailL (L := [5, 6]) (R := (fun v τ' => ∃ τ, (fun v τ => ∃ (bz : Value), (Ty.has (Ty.tup2 (Ty.nat (ByteArray.size (Utf8.encode (((cs.getD ((ll.getD ((0 : Int)).toNat 0)).toNat D0)).1)))) (Ty.val Value.nilIface)) τ v) ∧ (OwnPT 57 τ 40 x1 [(Ty.val (bAddr false (x1))), (Ty.val bz)]) ∧ (Own τ 41 5 1 bz (List.length ((((out) ++ (ByteArray.data ((decB ((m + 1))))).toList)) ++ (ByteArray.data (Utf8.encode (((cs.getD ((ll.getD ((0 : Int)).toNat 0)).toNat D0)).1))).toList)) (List.map Ty.byte ((((out) ++ (ByteArray.data ((decB ((m + 1))))).toList)) ++ (ByteArray.data (Utf8.encode (((cs.getD ((ll.getD ((0 : Int)).toNat 0)).toNat D0)).1))).toList)))) v τ ∧ Back [(40, 5), (41, 6)] τ τ')) rfl rfl (by decide) ok21 (y_callL (L := [40, 41]) [(5, 40), (6, 41)] [(40, 5), (41, 6)] #[a24.eval (.tmp 8), a24.eval (.tmp 67)] rfl (by decide) Tryd.func32 rfl rfl (by simp only [List.map_toArray, List.map_cons, List.map_nil]) (writeRune_fn (x1) (x2) (false) (((out) ++ (ByteArray.data ((decB ((m + 1))))).toList)) (((cs.getD ((ll.getD ((0 : Int)).toNat 0)).toNat D0)).1) _ (GW.low_lend _ (by decide)) _ _ (Ty.up _ (GW.le_lend _ _) q88) (Ty.up _ (GW.le_lend _ _) (cvi (σ := s18) (by omega) q89)) (OwnPT.ren (ownpt_cell 0 (Ty.val (bAddr (false) (x1))) o23 rfl (fun _ _ h => (cvt (by (first | rfl | omega | (simp_all; done) | (simp_all; omega))) h))) (GW.ren_lend _ _ (by decide) rfl)) (Own.ren (cvo (by (simp)) (by (simp)) o24) (GW.ren_lend _ _ (by decide) rfl)) (by omega) (by omega))) (fun a25 s19 hs2 ok22 r2 sm2 => ?_)
         have F22 := F21.stepL hs2 (by decide); have q90 := kpL hs2 (by decide) (sm2 9 (by decide)) q85; have q91 := kpL hs2 (by decide) (sm2 1 (by decide)) q86; have q92 := kpL hs2 (by decide) (sm2 0 (by decide)) q87; have q93 := kpL hs2 (by decide) (sm2 8 (by decide)) q88
         obtain ⟨t8, ⟨x3, hT2, o25, o26⟩, B2⟩ := r2
         have q94 : At (Ty.tup2 (Ty.nat (ByteArray.size (Utf8.encode (((cs.getD ((ll.getD ((0 : Int)).toNat 0)).toNat D0)).1)))) (Ty.val Value.nilIface)) s19 a25 (.tmp 68) := Ty.up _ B2.le hT2
         have o27 : OwnPT 57 s19 5 x1 [(Ty.val (bAddr false (x1))), (Ty.val x3)] := OwnPT.ren o25 (B2.ren (by decide) rfl)
         have o28 : Own s19 6 5 1 x3 (List.length ((((out) ++ (ByteArray.data ((decB ((m + 1))))).toList)) ++ (ByteArray.data (Utf8.encode (((cs.getD ((ll.getD ((0 : Int)).toNat 0)).toNat D0)).1))).toList)) (List.map Ty.byte ((((out) ++ (ByteArray.data ((decB ((m + 1))))).toList)) ++ (ByteArray.data (Utf8.encode (((cs.getD ((ll.getD ((0 : Int)).toNat 0)).toNat D0)).1))).toList)) := Own.ren o26 (B2.ren (by decide) rfl)
         refine wpList_nil ?_; refine tn ?_
         refine rg a25 s19 [(Ty.lst Ty.int ll), (Ty.nat (m + 1)), (Ty.lst Ty.int (ll.drop (m + 1))), (Ty.lst Ty.int (ll.drop (m + 1)))] ok22 ⟨?_, ?_, ?_, ?_, trivial⟩ ?_
         · intro A B E G H; exact rP (y_move (kp (H 1 rfl) E q91))
         · intro A B E G H; exact rP (y_move (kp (H 9 rfl) E q90))
         · intro A B E G H d0 d1; exact rP (y_drop Tryd.underlying26 Tryd.inf3 (ed d0 rfl rfl rfl) (ed d1 rfl rfl rfl) (by omega))
         · intro A B E G H d0 d1 d2 d3; exact rP (y_assign (ed d0 rfl rfl rfl))
         intro a26 s20 D18; have ok23 := D18.ok; have F23 := F22.step0 D18.stp; have q95 := D18.kt q92 rfl; have q96 := D18.kt q93 rfl; have o29 := OwnPT.k0 o27 D18.stp; have o30 := Own.k0 o28 D18.stp; have q97 := D18.dn 3 rfl rfl; clear D18; refine bn ?_
         exact tn ⟨((ll.drop (m + 1))).length, by rw [List.length_drop]; omega, s20, (ll.drop (m + 1)), ((out ++ (ByteArray.data (decB (m + 1))).toList) ++ (ByteArray.data (Utf8.encode (cs.getD (ll.getD 0 0).toNat D0).1)).toList), false, x3, rfl, F23, ok23, (cvt (by (first | rfl | omega | (simp_all; done) | (simp_all; omega))) q97), q95, q96, (ownpt_cell 0 (Ty.val (bAddr (false) x1)) o29 rfl (fun _ _ h => (cvt (by (first | rfl | omega | (simp_all; done) | (simp_all; omega))) h))), (cvo (by (simp)) (by (simp)) o30), by rw [bsL_dat, bsL_dat, ← hx0]; exact prt_put1 hq (by omega) hno (by omega), by rw [List.length_drop]; omega, prt_in hil, rfl⟩
        ·
         refine wp_skip ?_; refine tn ?_; refine wp_seq ?_
         have hal : (out ++ (ByteArray.data (decB (m + 1))).toList).length = out.length + (decB (m + 1)).size := List.length_append
         have hds2 := dec_size (n := m + 1)
         refine reg2 (a := a21) (σ := s15) rfl 7 (fun i_ => List.getD [(Ty.pr (Ty.lstc 2 callC cs)), (Ty.pr (Ty.lst Ty.int ll)), (Ty.pr (Ty.ref [(Ty.int (ll.getD ((0 : Int)).toNat 0))])), (Ty.pr (Ty.int (ll.getD ((0 : Int)).toNat 0))), (Ty.pr (Ty.ref [(Ty.val (Value.int .i32 ((cs.getD ((ll.getD ((0 : Int)).toNat 0)).toNat D0)).1)), (Ty.lst Ty.ints ((cs.getD ((ll.getD ((0 : Int)).toNat 0)).toNat D0)).2)])), (Ty.pr (Ty.ref [(Ty.val (Value.int .i32 ((cs.getD ((ll.getD ((0 : Int)).toNat 0)).toNat D0)).1)), (Ty.lst Ty.ints ((cs.getD ((ll.getD ((0 : Int)).toNat 0)).toNat D0)).2)])), (Ty.pr (Ty.val (Value.int .i32 ((cs.getD ((ll.getD ((0 : Int)).toNat 0)).toNat D0)).1)))] i_ Pr.any) ok18 rfl (by decide) rfl ⟨?_, ?_, ?_, ?_, ?_, ?_, ?_, trivial⟩ ?_
         · intro A B E G H; exact rP (y_move (kp (H 0 rfl) E q72))
         · intro A B E G H; exact rP (y_move (kp (H 1 rfl) E q71))
         · intro A B E G H d0; exact rP (y_index1 Tryd.underlying26 Tryd.inf3 (ed d0 rfl rfl rfl) rfl (by omega) (lst_get Ty.int ll 0 ((0 : Int)).toNat (by omega)))
         · intro A B E G H d0; exact rP (y_load Tryd.underlying3 rfl (ed d0 rfl rfl rfl) rfl)
         · intro A B E G H d0 d1; exact rP (y_indexc (i := (ll.getD ((0 : Int)).toNat 0)) D0 Tryd.underlying25 Tryd.inf50 (ed d0 rfl rfl rfl) (ed d1 rfl rfl rfl) (by omega) (by omega) (by decide) (fun _ => rfl))
         · intro A B E G H d0; exact rP (y_field Tryd.fld50_0 Tryd.inf21 (by decide) (ed d0 rfl rfl rfl) rfl)
         · intro A B E G H d0; exact rP (y_load Tryd.underlying21 rfl (ed d0 rfl rfl rfl) rfl)
         intro a27 s21 D19; have ok24 := D19.ok; have F24 := F18.step0 D19.stp; have q98 := D19.kt q70 rfl; have q99 := D19.kt q71 rfl; have q100 := D19.kt q72 rfl; have q101 := D19.kt q73 rfl; have o31 := OwnPT.k0 o15 D19.stp; have o32 := Own.k0 o16 D19.stp; have q102 := D19.dn 6 (by decide) rfl rfl; clear D19
         refine tailL (L := [5, 6]) (R := (fun v τ' => ∃ τ, (fun v τ => ∃ (bz : Value), (Ty.has (Ty.tup2 (Ty.nat (ByteArray.size (Utf8.encode (((cs.getD ((ll.getD ((0 : Int)).toNat 0)).toNat D0)).1)))) (Ty.val Value.nilIface)) τ v) ∧ (OwnPT 57 τ 40 x1 [(Ty.val (bAddr false (x1))), (Ty.val bz)]) ∧ (Own τ 41 5 1 bz (List.length ((out) ++ (ByteArray.data (Utf8.encode (((cs.getD ((ll.getD ((0 : Int)).toNat 0)).toNat D0)).1))).toList)) (List.map Ty.byte ((out) ++ (ByteArray.data (Utf8.encode (((cs.getD ((ll.getD ((0 : Int)).toNat 0)).toNat D0)).1))).toList)))) v τ ∧ Back [(40, 5), (41, 6)] τ τ')) rfl rfl (by decide) ok24 (y_callL (L := [40, 41]) [(5, 40), (6, 41)] [(40, 5), (41, 6)] #[a27.eval (.tmp 8), a27.eval (.tmp 67)] rfl (by decide) Tryd.func32 rfl rfl (by simp only [List.map_toArray, List.map_cons, List.map_nil]) (writeRune_fn (x1) (bf) (nz) (out) (((cs.getD ((ll.getD ((0 : Int)).toNat 0)).toNat D0)).1) _ (GW.low_lend _ (by decide)) _ _ (Ty.up _ (GW.le_lend _ _) q101) (Ty.up _ (GW.le_lend _ _) (cvi (σ := s21) (by omega) q102)) (OwnPT.ren (ownpt_cell 0 (Ty.val (bAddr (nz) (x1))) o31 rfl (fun _ _ h => (cvt (by (first | rfl | omega | (simp_all; done) | (simp_all; omega))) h))) (GW.ren_lend _ _ (by decide) rfl)) (Own.ren (cvo (by (simp)) (by (simp)) o32) (GW.ren_lend _ _ (by decide) rfl)) (by omega) (by omega))) (fun a28 s22 hs3 ok25 r3 sm3 => ?_)
         have F25 := F24.stepL hs3 (by decide); have q103 := kpL hs3 (by decide) (sm3 9 (by decide)) q98; have q104 := kpL hs3 (by decide) (sm3 1 (by decide)) q99; have q105 := kpL hs3 (by decide) (sm3 0 (by decide)) q100; have q106 := kpL hs3 (by decide) (sm3 8 (by decide)) q101
         obtain ⟨t9, ⟨x4, hT3, o33, o34⟩, B3⟩ := r3
         have q107 : At (Ty.tup2 (Ty.nat (ByteArray.size (Utf8.encode (((cs.getD ((ll.getD ((0 : Int)).toNat 0)).toNat D0)).1)))) (Ty.val Value.nilIface)) s22 a28 (.tmp 68) := Ty.up _ B3.le hT3
         have o35 : OwnPT 57 s22 5 x1 [(Ty.val (bAddr false (x1))), (Ty.val x4)] := OwnPT.ren o33 (B3.ren (by decide) rfl)
         have o36 : Own s22 6 5 1 x4 (List.length ((out) ++ (ByteArray.data (Utf8.encode (((cs.getD ((ll.getD ((0 : Int)).toNat 0)).toNat D0)).1))).toList)) (List.map Ty.byte ((out) ++ (ByteArray.data (Utf8.encode (((cs.getD ((ll.getD ((0 : Int)).toNat 0)).toNat D0)).1))).toList)) := Own.ren o34 (B3.ren (by decide) rfl)
         refine wpList_nil ?_; refine tn ?_
         refine rg a28 s22 [(Ty.lst Ty.int ll), (Ty.nat (m + 1)), (Ty.lst Ty.int (ll.drop (m + 1))), (Ty.lst Ty.int (ll.drop (m + 1)))] ok25 ⟨?_, ?_, ?_, ?_, trivial⟩ ?_
         · intro A B E G H; exact rP (y_move (kp (H 1 rfl) E q104))
         · intro A B E G H; exact rP (y_move (kp (H 9 rfl) E q103))
         · intro A B E G H d0 d1; exact rP (y_drop Tryd.underlying26 Tryd.inf3 (ed d0 rfl rfl rfl) (ed d1 rfl rfl rfl) (by omega))
         · intro A B E G H d0 d1 d2 d3; exact rP (y_assign (ed d0 rfl rfl rfl))
         intro a29 s23 D20; have ok26 := D20.ok; have F26 := F25.step0 D20.stp; have q108 := D20.kt q105 rfl; have q109 := D20.kt q106 rfl; have o37 := OwnPT.k0 o35 D20.stp; have o38 := Own.k0 o36 D20.stp; have q110 := D20.dn 3 rfl rfl; clear D20; refine bn ?_
         exact tn ⟨((ll.drop (m + 1))).length, by rw [List.length_drop]; omega, s23, (ll.drop (m + 1)), (out ++ (ByteArray.data (Utf8.encode (cs.getD (ll.getD 0 0).toNat D0).1)).toList), false, x4, rfl, F26, ok26, (cvt (by (first | rfl | omega | (simp_all; done) | (simp_all; omega))) q110), q108, q109, (ownpt_cell 0 (Ty.val (bAddr (false) x1)) o37 rfl (fun _ _ h => (cvt (by (first | rfl | omega | (simp_all; done) | (simp_all; omega))) h))), (cvo (by (simp)) (by (simp)) o38), by rw [bsL_dat, ← hx0]; exact prt_put0 hq (by omega) hno (by omega), by rw [List.length_drop]; omega, prt_in hil, rfl⟩
     ·
      have hll0 : ll = [] := List.eq_nil_of_length_eq_zero (by omega); have hfin : bsL out = T := (by rw [hll0, prR, ba_nil] at E; exact E)
      refine wp_exit ?_; refine tx ?_; refine tx ?_; refine bx ?_; refine tn ?_; refine wp_seq ?_
      refine reg2 (a := a15) (σ := s11) rfl 0 (fun i_ => List.getD [] i_ Pr.any) ok13 rfl (by decide) rfl trivial ?_
      intro a30 s24 D21; have ok27 := D21.ok; have F27 := F13.step0 D21.stp; have q111 := D21.kt q51 rfl; have o39 := OwnPT.k0 o5 D21.stp; have o40 := Own.k0 o6 D21.stp; clear D21
      refine tailL (L := [5, 6]) (R := (fun v τ' => ∃ τ, (fun v τ => (Ty.has (Ty.val (Value.string (bsL (out)))) τ v)) v τ ∧ Back [(40, 5), (41, 6)] τ τ')) rfl rfl (by decide) ok27 (y_callL (L := [40, 41]) [(5, 40), (6, 41)] [(40, 5), (41, 6)] #[a30.eval (.tmp 8)] rfl (by decide) Tryd.func33 rfl rfl (by simp only [List.map_toArray, List.map_cons, List.map_nil]) (bString_fn (x1) (bf) (nz) (out) _ (GW.low_lend _ (by decide)) _ (Ty.up _ (GW.le_lend _ _) q111) (OwnPT.ren (ownpt_cell 0 (Ty.val (bAddr (nz) (x1))) o39 rfl (fun _ _ h => (cvt (by (first | rfl | omega | (simp_all; done) | (simp_all; omega))) h))) (GW.ren_lend _ _ (by decide) rfl)) (Own.ren (cvo (by (simp)) (by (simp)) o40) (GW.ren_lend _ _ (by decide) rfl)) )) (fun a31 s25 hs4 ok28 r4 sm4 => ?_)
      have F28 := F27.stepL hs4 (by decide)
      obtain ⟨t10, hT4, B4⟩ := r4
      have q112 : At (Ty.val (Value.string (bsL (out)))) s25 a31 (.tmp 72) := Ty.up _ B4.le hT4
      refine tailL (L := []) (R := (fun v τ => Pr.has (Ty.pr (Ty.val (Value.string (bsL (out))))) τ v)) rfl rfl (by decide) ok28 (Yld.toL (y_assign q112)) (fun a32 s26 hs5 ok29 r5 sm5 => ?_)
      have F29 := F28.stepL hs5 (by decide)
      have q113 : At (Ty.val (Value.string (bsL (out)))) s26 a32 (.tmp 4) := r5
      clear r5
      refine tailL (L := []) (R := (fun v τ => Pr.has (Ty.pr (Ty.int (0 : Int))) τ v)) rfl rfl (by decide) ok29 (Yld.toL (y_assign rfl)) (fun a33 s27 hs6 ok30 r6 sm6 => ?_)
      have F30 := F29.stepL hs6 (by decide); have q114 := kpL hs6 (by decide) (sm6 4 (by decide)) q113
      have q115 : At (Ty.int (0 : Int)) s27 a33 (.tmp 5) := r6
      clear r6; refine wpList_nil ?_; refine tn ?_; refine wp_ret ?_
      exact retL2 rfl ok30 F30 (hasT2 (cvt (by (rw [(pt_good hcc hin2).2, ← hT, hfin])) q114) (cvi (by (exact (pt_good hcc hin2).1.symm)) q115))


set_option maxHeartbeats 4000000 in
set_option maxRecDepth 100000 in
theorem hasPre0_fn (s : ByteArray) (t : ByteArray) (σ : GW)  (v0 v1 : Value) (hv0 : Ty.has (Ty.val (Value.string s)) σ v0) (hv1 : Ty.has (Ty.val (Value.string t)) σ v1)   :
    FnC Tryd.prog 67 #[v0, v1] σ (Ty.bool (hasPre s t)) := by
 refine fn_intro0 Tryd.func67 rfl Tryd.ntmps67 (Nat.le_of_ble_eq_true rfl) (fun s0 a0 hle F0 ok0 hargs => ?_)
 have p0 : At (Ty.val (Value.string s)) s0 a0 (.tmp 0) := by have e := hargs 0 _ rfl; show Ty.has _ _ _; rw [e]; exact Ty.up _ hle hv0
 have p1 : At (Ty.val (Value.string t)) s0 a0 (.tmp 1) := by have e := hargs 1 _ rfl; show Ty.has _ _ _; rw [e]; exact Ty.up _ hle hv1
 clear hargs; refine wp_seq ?_
 refine rg a0 s0 [(Ty.bool false)] ok0 ⟨?_, trivial⟩ ?_
 · intro A B E G H; exact rP (y_assign rfl)
 intro a1 s1 D1; have ok1 := D1.ok; have F1 := F0.step0 D1.stp; have q1 := D1.kt p0 rfl; have q2 := D1.kt p1 rfl; clear D1; refine tn ?_; refine wp_seq ?_
 refine rg a1 s1 [(Ty.val (Value.string s)), (Ty.nat (ByteArray.size s)), (Ty.val (Value.string t)), (Ty.nat (ByteArray.size t)), (Ty.bool (decide ((((ByteArray.size t) : Nat) : Int) ≤ (((ByteArray.size s) : Nat) : Int)))), (Ty.bool (decide ((((ByteArray.size t) : Nat) : Int) ≤ (((ByteArray.size s) : Nat) : Int)))), (Ty.grd ((decide ((((ByteArray.size t) : Nat) : Int) ≤ (((ByteArray.size s) : Nat) : Int))) = true) (Ty.val (Value.string s))), (Ty.grd ((decide ((((ByteArray.size t) : Nat) : Int) ≤ (((ByteArray.size s) : Nat) : Int))) = true) (Ty.val (Value.string t))), (Ty.grd ((decide ((((ByteArray.size t) : Nat) : Int) ≤ (((ByteArray.size s) : Nat) : Int))) = true) (Ty.nat (ByteArray.size t))), (Ty.grd ((decide ((((ByteArray.size t) : Nat) : Int) ≤ (((ByteArray.size s) : Nat) : Int))) = true) (Ty.val (Value.string (ByteArray.extract s 0 (ByteArray.size t))))), (Ty.grd ((decide ((((ByteArray.size t) : Nat) : Int) ≤ (((ByteArray.size s) : Nat) : Int))) = true) (Ty.val (Value.string t))), (Ty.grd ((decide ((((ByteArray.size t) : Nat) : Int) ≤ (((ByteArray.size s) : Nat) : Int))) = true) (Ty.bool (decide ((ByteArray.extract s 0 (ByteArray.size t)) = t)))), (Ty.bool ((decide ((((ByteArray.size t) : Nat) : Int) ≤ (((ByteArray.size s) : Nat) : Int))) && (decide ((ByteArray.extract s 0 (ByteArray.size t)) = t)))), (Ty.bool ((decide ((((ByteArray.size t) : Nat) : Int) ≤ (((ByteArray.size s) : Nat) : Int))) && (decide ((ByteArray.extract s 0 (ByteArray.size t)) = t))))] ok1 ⟨?_, ?_, ?_, ?_, ?_, ?_, ?_, ?_, ?_, ?_, ?_, ?_, ?_, ?_, trivial⟩ ?_
 · intro A B E G H; exact rP (y_move (kp (H 0 rfl) E q1))
 · intro A B E G H d0; exact rP (y_len_str Tryd.underlying9 (ed d0 rfl rfl rfl))
 · intro A B E G H; exact rP (y_move (kp (H 1 rfl) E q2))
 · intro A B E G H d0; exact rP (y_len_str Tryd.underlying9 (ed d0 rfl rfl rfl))
 · intro A B E G H d0 d1; exact rP (y_geq (ed d0 rfl rfl rfl) (ed d1 rfl rfl rfl))
 · intro A B E G H d0; exact rP (y_move (ed d0 rfl rfl rfl))
 · intro A B E G H d0
   refine run_guard G rfl rfl (by decide) (ed d0 rfl rfl rfl) (fun hg => ?_)
   have hp := of_decide_eq_true hg
   exact y_move (kp (H 0 rfl) E q1)
 · intro A B E G H d0
   refine run_guard G rfl rfl (by decide) (ed d0 rfl rfl rfl) (fun hg => ?_)
   have hp := of_decide_eq_true hg
   exact y_move (kp (H 1 rfl) E q2)
 · intro A B E G H d0 d1
   refine run_guard G rfl rfl (by decide) (ed d1 rfl rfl rfl) (fun hg => ?_)
   have hp := of_decide_eq_true hg
   exact y_len_str Tryd.underlying9 ((ed d0 rfl rfl rfl).1 hg)
 · intro A B E G H d0 d1 d2
   refine run_guard G rfl rfl (by decide) (ed d2 rfl rfl rfl) (fun hg => ?_)
   have hp := of_decide_eq_true hg
   exact y_sto (h := (ByteArray.size t)) Tryd.underlying9 ((ed d0 rfl rfl rfl).1 hg) ((ed d1 rfl rfl rfl).1 hg) (by omega)
 · intro A B E G H d0
   refine run_guard G rfl rfl (by decide) (ed d0 rfl rfl rfl) (fun hg => ?_)
   have hp := of_decide_eq_true hg
   exact y_move (kp (H 1 rfl) E q2)
 · intro A B E G H d0 d1 d2
   refine run_guard G rfl rfl (by decide) (ed d2 rfl rfl rfl) (fun hg => ?_)
   have hp := of_decide_eq_true hg
   exact y_seql Tryd.underlying9 ((ed d0 rfl rfl rfl).1 hg) ((ed d1 rfl rfl rfl).1 hg)
 · intro A B E G H d0 d1; exact rP (y_pick_and (ed d0 rfl rfl rfl) (ed d1 rfl rfl rfl) rfl)
 · intro A B E G H d0 d1 d2 d3 d4 d5 d6 d7 d8 d9 d10 d11 d12 d13 d14; exact rP (y_assign (ed d0 rfl rfl rfl))
 intro a2 s2 D2; have ok2 := D2.ok; have F2 := F1.step0 D2.stp; have q3 := D2.dn 13 rfl rfl; clear D2; refine tn ?_; refine wp_ret ?_
 exact retL1 rfl ok2 F2 (cvb (by (first | rfl | (unfold hasPre; first | rfl | (congr 1; simp) | simp))) q3)


set_option maxHeartbeats 4000000 in
set_option maxRecDepth 100000 in
theorem hasPre_fn (s : ByteArray) (t : ByteArray) (σ : GW)  (v0 v1 : Value) (hv0 : Ty.has (Ty.val (Value.string s)) σ v0) (hv1 : Ty.has (Ty.val (Value.string t)) σ v1)   :
    FnC Tryd.prog 57 #[v0, v1] σ (Ty.bool (hasPre s t)) := by
 refine fn_intro0 Tryd.func57 rfl Tryd.ntmps57 (Nat.le_of_ble_eq_true rfl) (fun s0 a0 hle F0 ok0 hargs => ?_)
 have p0 : At (Ty.val (Value.string s)) s0 a0 (.tmp 0) := by have e := hargs 0 _ rfl; show Ty.has _ _ _; rw [e]; exact Ty.up _ hle hv0
 have p1 : At (Ty.val (Value.string t)) s0 a0 (.tmp 1) := by have e := hargs 1 _ rfl; show Ty.has _ _ _; rw [e]; exact Ty.up _ hle hv1
 clear hargs; refine wp_seq ?_
 refine rg a0 s0 [(Ty.bool false)] ok0 ⟨?_, trivial⟩ ?_
 · intro A B E G H; exact rP (y_assign rfl)
 intro a1 s1 D1; have ok1 := D1.ok; have F1 := F0.step0 D1.stp; have q1 := D1.kt p0 rfl; have q2 := D1.kt p1 rfl; clear D1; refine tn ?_; refine wp_seq ?_
 refine rg a1 s1 [(Ty.val (Value.string s)), (Ty.val (Value.string t)), (Ty.bool (hasPre s t)), (Ty.bool (hasPre s t))] ok1 ⟨?_, ?_, ?_, ?_, trivial⟩ ?_
 · intro A B E G H; exact rP (y_move (kp (H 0 rfl) E q1))
 · intro A B E G H; exact rP (y_move (kp (H 1 rfl) E q2))
 · intro A B E G H d0 d1; exact rP (y_call #[A.eval (.tmp 5), A.eval (.tmp 6)] Tryd.func67 rfl rfl (by simp only [List.map_toArray, List.map_cons, List.map_nil]) (hasPre0_fn (s) (t) _ _ _ (ed d0 rfl rfl rfl) (ed d1 rfl rfl rfl) ))
 · intro A B E G H d0 d1 d2 d3 d4; exact rP (y_assign (ed d0 rfl rfl rfl))
 intro a2 s2 D2; have ok2 := D2.ok; have F2 := F1.step0 D2.stp; have q3 := D2.dn 3 rfl rfl; clear D2; refine tn ?_; refine wp_ret ?_
 exact retL1 rfl ok2 F2 q3


set_option maxHeartbeats 4000000 in
set_option maxRecDepth 100000 in
theorem cRunes_fn (s : ByteArray) (σ : GW)  (v0 : Value) (hv0 : Ty.has (Ty.val (Value.string s)) σ v0)  (E : s.size ≤ 17592186044416) :
    FnC Tryd.prog 42 #[v0] σ (Ty.lst Ty.rune (runsL s)) := by
 refine fn_intro0 Tryd.func42 rfl Tryd.ntmps42 (Nat.le_of_ble_eq_true rfl) (fun s0 a0 hle F0 ok0 hargs => ?_)
 have p0 : At (Ty.val (Value.string s)) s0 a0 (.tmp 0) := by have e := hargs 0 _ rfl; show Ty.has _ _ _; rw [e]; exact Ty.up _ hle hv0
 clear hargs; refine wp_seq ?_
 refine rg a0 s0 [(Ty.val (Value.slice none 0 0))] ok0 ⟨?_, trivial⟩ ?_
 · intro A B E G H; exact rP (y_assign rfl)
 intro a1 s1 D1; have ok1 := D1.ok; have F1 := F0.step0 D1.stp; have q1 := D1.kt p0 rfl; clear D1; refine tn ?_; refine wp_seq ?_
 refine rg a1 s1 [(Ty.val (Value.slice none 0 0))] ok1 ⟨?_, trivial⟩ ?_
 · intro A B E G H; exact rP (y_assign rfl)
 intro a2 s2 D2; have ok2 := D2.ok; have F2 := F1.step0 D2.stp; have q2 := D2.kt q1 rfl; have q3 := D2.dn 0 rfl rfl; clear D2; refine tn ?_; refine wp_seq ?_; refine wp_seq ?_
 refine reg (a := a2) (σ := s2) rfl (fun i_ => List.getD [(Ty.pr (Ty.val (Value.string s))), (Pr.iter 5 s 0)] i_ Pr.any) ok2 rfl ⟨?_, ?_, trivial⟩ ?_
 · intro A B E G H; exact rP (y_move (kp (H 0 rfl) E q2))
 · intro A B E G H d0; exact rP (y_range 5 Tryd.underlying9 (ed d0 rfl rfl rfl))
 intro a3 s3 D3; have ok3 := D3.ok; have F3 := F2.step0 D3.stp; have q4 := D3.kt q2 rfl; have q5 := D3.kt q3 rfl
 obtain ⟨x1, hx1⟩ : ∃ x, a3.eval (.tmp 7) = x := ⟨_, rfl⟩
 have q6 : At (Ty.val x1) s3 a3 (.tmp 7) := hx1
 have o1 : Iter s3 5 x1 s 0 := al2 (R := (Pr.iter 5 s 0)) hx1 (D3.done 1)
 clear D3; refine tn ?_; refine wp_block ?_
 have o2 : Own s3 6 21 1 (Value.slice none 0 0) 0 (List.map Ty.rune ([] : List Int)) := Own.nil _ _ _ _
 refine loop (fun n1 a4 w1 => ∃ (t1 : GW) (p : Nat) (f : Nat) (xs : List Int) (x3_0 : Value), t1.w = w1 ∧ FromL [] s0 t1 ∧ Ok 26 a4 ∧ At (Ty.val x3_0) t1 a4 (.tmp 3) ∧ At (Ty.val (Value.string s)) t1 a4 (.tmp 0) ∧ At (Ty.val x1) t1 a4 (.tmp 7) ∧ Own t1 6 21 1 x3_0 (List.length xs) (List.map Ty.rune xs) ∧ Iter t1 5 x1 s p ∧ (xs ++ runsF s f p = runsL s) ∧ (s.size ≤ f + p) ∧ (p ≤ s.size) ∧ (xs.length ≤ p) ∧ n1 = s.size + 1 - p) (s.size + 1 - (0)) ?_ ?_
 ·
  exact ⟨s3, 0, s.size, ([] : List Int), (Value.slice none 0 0), rfl, F3, ok3, q5, q4, q6, (cvo (by (simp)) (by (simp)) o2), (cvit (by omega) o1), rfl, by omega, by omega, by simp, rfl⟩
 ·
  rintro n2 a5 w2 ⟨t2, p, f, xs, x3_0, rfl, F4, ok4, q7, q8, q9, o3, o4, heq, hf, hp, hx, rfl⟩
  have hw := wid_pos s p
  refine wp_seq ?_
  refine reg2 (a := a5) (σ := t2) rfl 0 (fun i_ => List.getD [] i_ Pr.any) ok4 rfl (by decide) rfl trivial ?_
  intro a6 s4 D4; have ok5 := D4.ok; have F5 := F4.step0 D4.stp; have q10 := D4.kt q7 rfl; have q11 := D4.kt q8 rfl; have q12 := D4.kt q9 rfl; have o5 := Own.k0 o3 D4.stp; have o6 := Iter.k0 o4 D4.stp; clear D4
  refine tailL (L := [5]) (R := (fun v τ => (Ty.nxt (decide (p < s.size)) p (run1 s p)).has τ v ∧ Iter τ 5 x1 s (stepTo s p))) rfl rfl (by decide) ok5 (YldM.toL (m_next (by decide) o6 q12)) (fun a7 s5 hs1 ok6 r1 sm1 => ?_)
  have F6 := F5.stepL hs1 (by decide); have q13 := kpL hs1 (by decide) (sm1 3 (by decide)) q10; have q14 := kpL hs1 (by decide) (sm1 0 (by decide)) q11; have q15 := kpL hs1 (by decide) (sm1 7 (by decide)) q12; have o8 := Own.keepL o5 hs1 (by decide) (by decide)
  have q16 : At (Ty.nxt (decide (p < s.size)) p (run1 s p)) s5 a7 (.tmp 8) := (r1).1
  have o7 : Iter s5 5 x1 s (stepTo s p) := (r1).2
  clear r1
  refine tailL (L := []) (R := (fun v τ => Pr.has (Ty.pr (Ty.bool (decide (p < s.size)))) τ v)) rfl rfl (by decide) ok6 (Yld.toL (y_ext_n0 q16)) (fun a8 s6 hs2 ok7 r2 sm2 => ?_)
  have F7 := F6.stepL hs2 (by decide); have q17 := kpL hs2 (by decide) (sm2 3 (by decide)) q13; have q18 := kpL hs2 (by decide) (sm2 0 (by decide)) q14; have q19 := kpL hs2 (by decide) (sm2 7 (by decide)) q15; have q20 := kpL hs2 (by decide) (sm2 8 (by decide)) q16; have o9 := Own.keepL o8 hs2 (by decide) (by decide); have o10 := Iter.keepL o7 hs2 (by decide) (by decide)
  have q21 : At (Ty.bool (decide (p < s.size))) s6 a8 (.tmp 9) := r2
  clear r2; refine wpList_nil ?_; refine tn ?_; refine wp_seq ?_
  refine cond_p (p := (p < s.size)) q21 (fun c1 => ?_) (fun c1 => ?_)
  ·
   have hwi := wid_in (s := s) (p := p) (by omega)
   refine wp_skip ?_; refine tn ?_; refine wp_block ?_; refine wp_seq ?_
   refine rg a8 s6 [(Ty.nat p), (Ty.val (Value.int .i32 ((run1 s p : Nat) : Int))), (Ty.nat p), (Ty.val (Value.int .i32 ((run1 s p : Nat) : Int)))] ok7 ⟨?_, ?_, ?_, ?_, trivial⟩ ?_
   · intro A B E G H; exact rP (y_ext_n1 (kp (H 8 rfl) E q20) (decide_eq_true (by omega)))
   · intro A B E G H d0; exact rP (y_ext_n2 (kp (H 8 rfl) E q20) (decide_eq_true (by omega)))
   · intro A B E G H d0 d1 d2; exact rP (y_assign (ed d0 rfl rfl rfl))
   · intro A B E G H d0 d1 d2 d3 d4; exact rP (y_assign (ed d0 rfl rfl rfl))
   intro a9 s7 D5; have ok8 := D5.ok; have F8 := F7.step0 D5.stp; have q22 := D5.kt q17 rfl; have q23 := D5.kt q18 rfl; have q24 := D5.kt q19 rfl; have o11 := Own.k0 o9 D5.stp; have o12 := Iter.k0 o10 D5.stp; have q25 := D5.dn 2 rfl rfl; have q26 := D5.dn 3 rfl rfl; clear D5; refine tn ?_; refine wp_seq ?_; refine wp_seq ?_
   refine rg a9 s7 [(Ty.val (Value.int .i32 ((run1 s p : Nat) : Int))), (Ty.bool (decide (((run1 s p : Nat) : Int) = (65533 : Int)))), (Ty.bool (decide (((run1 s p : Nat) : Int) = (65533 : Int)))), (Ty.grd ((decide (((run1 s p : Nat) : Int) = (65533 : Int))) = true) (Ty.val (Value.string s))), (Ty.grd ((decide (((run1 s p : Nat) : Int) = (65533 : Int))) = true) (Ty.nat p)), (Ty.grd ((decide (((run1 s p : Nat) : Int) = (65533 : Int))) = true) (Ty.val (Value.string (ByteArray.extract s p (ByteArray.size s))))), (Ty.grd ((decide (((run1 s p : Nat) : Int) = (65533 : Int))) = true) (Ty.bool (hasPre ((ByteArray.extract s p (ByteArray.size s))) ((ByteArray.mk #[239, 191, 189]))))), (Ty.grd ((decide (((run1 s p : Nat) : Int) = (65533 : Int))) = true) (Ty.bool (!(hasPre ((ByteArray.extract s p (ByteArray.size s))) ((ByteArray.mk #[239, 191, 189])))))), (Ty.bool ((decide (((run1 s p : Nat) : Int) = (65533 : Int))) && (!(hasPre ((ByteArray.extract s p (ByteArray.size s))) ((ByteArray.mk #[239, 191, 189]))))))] ok8 ⟨?_, ?_, ?_, ?_, ?_, ?_, ?_, ?_, ?_, trivial⟩ ?_
   · intro A B E G H; exact rP (y_move (kp (H 5 rfl) E q26))
   · intro A B E G H d0; exact rP (y_eql (ed d0 rfl rfl rfl) rfl)
   · intro A B E G H d0; exact rP (y_move (ed d0 rfl rfl rfl))
   · intro A B E G H d0
     refine run_guard G rfl rfl (by decide) (ed d0 rfl rfl rfl) (fun hg => ?_)
     have hp := of_decide_eq_true hg
     exact y_move (kp (H 0 rfl) E q23)
   · intro A B E G H d0
     refine run_guard G rfl rfl (by decide) (ed d0 rfl rfl rfl) (fun hg => ?_)
     have hp := of_decide_eq_true hg
     exact y_move (kp (H 4 rfl) E q25)
   · intro A B E G H d0 d1 d2
     refine run_guard G rfl rfl (by decide) (ed d2 rfl rfl rfl) (fun hg => ?_)
     have hp := of_decide_eq_true hg
     exact y_sfrom (l := p) Tryd.underlying9 ((ed d0 rfl rfl rfl).1 hg) ((ed d1 rfl rfl rfl).1 hg) (by omega)
   · intro A B E G H d0 d1 d2
     refine run_guard G rfl rfl (by decide) (ed d1 rfl rfl rfl) (fun hg => ?_)
     have hp := of_decide_eq_true hg
     exact y_call #[A.eval (.tmp 17), A.eval ((Operand.const (Value.string (ByteArray.mk #[239, 191, 189]))))] Tryd.func57 rfl rfl (by simp only [List.map_toArray, List.map_cons, List.map_nil]) (hasPre_fn ((ByteArray.extract s p (ByteArray.size s))) ((ByteArray.mk #[239, 191, 189])) _ _ _ ((ed d0 rfl rfl rfl).1 hg) rfl )
   · intro A B E G H d0 d1
     refine run_guard G rfl rfl (by decide) (ed d1 rfl rfl rfl) (fun hg => ?_)
     have hp := of_decide_eq_true hg
     exact y_not ((ed d0 rfl rfl rfl).1 hg)
   · intro A B E G H d0 d1; exact rP (y_pick_and (ed d0 rfl rfl rfl) (ed d1 rfl rfl rfl) rfl)
   intro a10 s8 D6; have ok9 := D6.ok; have F9 := F8.step0 D6.stp; have q27 := D6.kt q22 rfl; have q28 := D6.kt q23 rfl; have q29 := D6.kt q24 rfl; have q30 := D6.kt q26 rfl; have o13 := Own.k0 o11 D6.stp; have o14 := Iter.k0 o12 D6.stp; have q31 := D6.dn 8 rfl rfl; clear D6; refine tn ?_
   refine Go.KL.join_then (Q' := fun a11 w3 => ∃ (t3 : GW), t3.w = w3 ∧ FromL [] s0 t3 ∧ Ok 26 a11 ∧ At (Ty.val (Value.int .i32 (runM s p))) t3 a11 (.tmp 5) ∧ At (Ty.val x3_0) t3 a11 (.tmp 3) ∧ At (Ty.val (Value.string s)) t3 a11 (.tmp 0) ∧ At (Ty.val x1) t3 a11 (.tmp 7) ∧ Own t3 6 21 1 x3_0 (List.length xs) (List.map Ty.rune xs) ∧ Iter t3 5 x1 s (stepTo s p) ∧ True) ?_ ?_
   ·
    refine cond_t q31 (fun c2 => ?_) (fun c2 => ?_)
    ·
     obtain ⟨d1, d2⟩ := Bool.and_eq_true_iff.mp c2
     replace d1 := of_decide_eq_true d1
     simp only [Bool.and_eq_true, decide_eq_true_eq, Bool.not_eq_true'] at c2; have hr1 : run1 s p = 65533 := (by omega); have hpf : (hasPre (ByteArray.extract s p (ByteArray.size s)) (ByteArray.mk #[239, 191, 189])) = decide (wid s p ≠ 1) := pre_fffd (by omega) hr1; have hw1 : wid s p = 1 := (by have h_ := hpf.symm.trans c2.2; simpa using h_); have hrm := runM_yes hr1 hw1
     refine rg a10 s8 [(Ty.val (Value.int .i32 (-1 : Int)))] ok9 ⟨?_, trivial⟩ ?_
     · intro A B E G H; exact rP (y_assign rfl)
     intro a12 s9 D7; have ok10 := D7.ok; have F10 := F9.step0 D7.stp; have q32 := D7.kt q27 rfl; have q33 := D7.kt q28 rfl; have q34 := D7.kt q29 rfl; have o15 := Own.k0 o13 D7.stp; have o16 := Iter.k0 o14 D7.stp; have q35 := D7.dn 0 rfl rfl; clear D7
     exact tn ⟨s9, rfl, F10, ok10, (cvi (by (rw [hrm])) q35), q32, q33, q34, o15, o16, trivial⟩
    ·
     have hrm : runM s p = ((run1 s p : Nat) : Int) := runM_not (by rintro ⟨h1_, h2_⟩; have hpf : (hasPre (ByteArray.extract s p (ByteArray.size s)) (ByteArray.mk #[239, 191, 189])) = false := (pre_fffd (by omega) h1_).trans (by simp [h2_]); rw [hpf] at c2; simp [h1_] at c2)
     refine wp_skip ?_
     exact tn ⟨s8, rfl, F9, ok9, (cvi (by (rw [hrm])) q30), q27, q28, q29, o13, o14, trivial⟩
   ·
    rintro a13 w4 ⟨t4, rfl, F11, ok11, q36, q37, q38, q39, o17, o18, -⟩
    refine reg2 (a := a13) (σ := t4) rfl 3 (fun i_ => List.getD [(Ty.pr (Ty.val x3_0)), (Ty.pr (Ty.val (Value.int .i32 (runM s p)))), (Ty.pr (Ty.sl 1 1 [(Ty.val (Value.int .i32 (runM s p)))]))] i_ Pr.any) ok11 rfl (by decide) rfl ⟨?_, ?_, ?_, trivial⟩ ?_
    · intro A B E G H; exact rP (y_move (kp (H 3 rfl) E q37))
    · intro A B E G H; exact rP (y_move (kp (H 5 rfl) E q36))
    · intro A B E G H d0; exact rP (y_build1o Tryd.underlying71 Tryd.inf21 rfl (one_val rfl) (ed d0 rfl rfl rfl))
    intro a14 s10 D8; have ok12 := D8.ok; have F12 := F11.step0 D8.stp; have q40 := D8.kt q37 rfl; have q41 := D8.kt q38 rfl; have q42 := D8.kt q39 rfl; have o19 := Own.k0 o17 D8.stp; have o20 := Iter.k0 o18 D8.stp
    have q43 : At (Ty.val x3_0) s10 a14 (.tmp 21) := D8.done 0 (by decide)
    have q44 := D8.dn 2 (by decide) rfl rfl
    have b1 := sl_le q44
    clear D8
    refine tailL (L := [6]) (R := (fun v τ => Own τ 6 21 1 v ((List.length xs) + 1) ((List.map Ty.rune xs) ++ [(Ty.val (Value.int .i32 (runM s p)))]))) rfl rfl (by decide) ok12 (YldM.toL (m_append Tryd.underlying71 Tryd.inf21 (by decide) rfl (by decide) (al (R := (Pr.own 6 21 1 (List.length xs) (List.map Ty.rune xs))) q43 o19) q44 (by intro U hU; simp at hU; subst hU; exact one_val rfl) (by omega) (by omega))) (fun a15 s11 hs3 ok13 r3 sm3 => ?_)
    have F13 := F12.stepL hs3 (by decide); have q45 := kpL hs3 (by decide) (sm3 3 (by decide)) q40; have q46 := kpL hs3 (by decide) (sm3 0 (by decide)) q41; have q47 := kpL hs3 (by decide) (sm3 7 (by decide)) q42; have o22 := Iter.keepL o20 hs3 (by decide) (by decide)
    obtain ⟨x2, hx2⟩ : ∃ x, a15.eval (.tmp 24) = x := ⟨_, rfl⟩
    have q48 : At (Ty.val x2) s11 a15 (.tmp 24) := hx2
    have o21 : Own s11 6 21 1 x2 (List.length (xs ++ [(runM s p)])) (List.map Ty.rune (xs ++ [(runM s p)])) := al2 (R := (Pr.own 6 21 1 (List.length (xs ++ [(runM s p)])) (List.map Ty.rune (xs ++ [(runM s p)])))) hx2 (cvo (by simp) (by first | (rw [List.map_append]; rfl) | simp) r3)
    clear r3
    refine tailL (L := []) (R := (fun v τ => Pr.has (Ty.pr (Ty.val x2)) τ v)) rfl rfl (by decide) ok13 (Yld.toL (y_assign q48)) (fun a16 s12 hs4 ok14 r4 sm4 => ?_)
    have F14 := F13.stepL hs4 (by decide); have q49 := kpL hs4 (by decide) (sm4 0 (by decide)) q46; have q50 := kpL hs4 (by decide) (sm4 7 (by decide)) q47; have o23 := Iter.keepL o22 hs4 (by decide) (by decide); have o24 := Own.keepL o21 hs4 (by decide) (by decide)
    have q51 : At (Ty.val x2) s12 a16 (.tmp 3) := r4
    clear r4; refine wpList_nil ?_; refine bn ?_
    exact tn ⟨s.size + 1 - ((p + wid s p)), by omega, s12, (p + wid s p), (f - 1), (xs ++ [runM s p]), x2, rfl, F14, ok14, q51, q49, q50, (cvo (by (simp)) (by (simp)) o24), (cvit (by unfold stepTo; rw [if_pos (by omega)]) o23), runsF_step heq (by omega) (by omega), by omega, by omega, by simp; omega, rfl⟩
  ·
   refine wp_exit ?_; refine tx ?_; refine tx ?_; refine bx ?_; refine tn ?_; refine wp_seq ?_
   refine rg a8 s6 [(Ty.val x3_0), (Ty.val x3_0)] ok7 ⟨?_, ?_, trivial⟩ ?_
   · intro A B E G H; exact rP (y_move (kp (H 3 rfl) E q17))
   · intro A B E G H d0 d1; exact rP (y_assign (ed d0 rfl rfl rfl))
   intro a17 s13 D9; have ok15 := D9.ok; have F15 := F7.step0 D9.stp; have o25 := Own.k0 o9 D9.stp; have o26 := Iter.k0 o10 D9.stp
   have q52 : At (Ty.val x3_0) s13 a17 (.tmp 2) := D9.done 1
   clear D9; refine tn ?_; refine wp_ret ?_
   obtain ⟨t5, e1, h1, q53⟩ := Own.seal o25 (by decide)
   rw [← e1]
   have F16 := F15.step h1 (by decide)
   have q54 : At (Ty.lst Ty.rune xs) t5 a17 (.tmp 2) := by have e : a17.eval (.tmp 2) = x3_0 := q52; show Ty.has _ _ _; rw [e]; exact q53
   exact retL1 rfl ok15 F16 (cvt (by (rw [runsF_end (by omega), List.append_nil] at heq; rw [heq])) q54)

theorem Tryd.inf71 : Info Tryd.prog 71 (.slice none 0 0) 1 24 := by unfold Info; kernel_rfl
theorem Tryd.fld74_1 : fieldOf Tryd.prog 74 1 = some (71, 1) := by kernel_rfl
set_option maxHeartbeats 4000000 in
set_option maxRecDepth 100000 in
theorem number_fn (r : Value) (cs : List BCall) (l : List Int) (σ : GW) (hlow : Low [40] σ) (v0 : Value) (hv0 : Ty.has (Ty.val r) σ v0) (ho_r : OwnP σ 40 r [(Ty.lstc 2 callC cs), (Ty.lst Ty.rune l)]) (hll : l.length ≤ 1000000) :
    FnL Tryd.prog 68 #[v0] σ [40] (fun v τ => ∃ (z : List Int), (Ty.has (Ty.tup2 (Ty.int (if (numR 0 false l).err = 0 then timesM (numR 0 false l) else 0)) (Ty.int (numR 0 false l).err)) τ v) ∧ (OwnP τ 40 r [(Ty.lstc 2 callC cs), (Ty.lst Ty.rune z)]) ∧ ((numR 0 false l).err = 0 → z = (numR 0 false l).rest)) := by
 obtain ⟨N, hN⟩ : ∃ N, N = (numR 0 false l) := ⟨_, rfl⟩
 refine fn_introL hlow Tryd.func68 rfl Tryd.ntmps68 (Nat.le_of_ble_eq_true rfl) (fun a0 F0 ok0 hargs => ?_)
 have p0 : At (Ty.val r) σ a0 (.tmp 0) := by have e := hargs 0 _ rfl; show Ty.has _ _ _; rw [e]; exact hv0
 clear hargs; refine wp_seq ?_
 refine reg (a := a0) (σ := σ) rfl (fun i_ => List.getD [(Ty.pr (Ty.int (0 : Int))), (Ty.pr (Ty.int (0 : Int)))] i_ Pr.any) ok0 rfl ⟨?_, ?_, trivial⟩ ?_
 · intro A B E G H; exact rP (y_assign rfl)
 · intro A B E G H d0; exact rP (y_assign rfl)
 intro a1 s1 D1; have ok1 := D1.ok; have F1 := F0.step0 D1.stp; have q1 := D1.kt p0 rfl; have o1 := OwnP.k0 ho_r D1.stp; clear D1; refine tn ?_; refine wp_seq ?_
 refine rg a1 s1 [(Ty.int (0 : Int)), (Ty.int (0 : Int))] ok1 ⟨?_, ?_, trivial⟩ ?_
 · intro A B E G H; exact rP (y_assign rfl)
 · intro A B E G H d0 d1; exact rP (y_assign rfl)
 intro a2 s2 D2; have ok2 := D2.ok; have F2 := F1.step0 D2.stp; have q2 := D2.kt q1 rfl; have o2 := OwnP.k0 o1 D2.stp; have q3 := D2.dn 0 rfl rfl; have q4 := D2.dn 1 rfl rfl; clear D2; refine tn ?_; refine wp_seq ?_; refine wp_block ?_
 refine loop (fun n1 a3 w1 => ∃ (t1 : GW) (k : Nat) (v : Int), t1.w = w1 ∧ FromL [40] σ t1 ∧ Ok 72 a3 ∧ At (Ty.nat k) t1 a3 (.tmp 5) ∧ At (Ty.int v) t1 a3 (.tmp 4) ∧ At (Ty.val r) t1 a3 (.tmp 0) ∧ OwnP t1 40 r [(Ty.lstc 2 callC cs), (Ty.lst Ty.rune l)] ∧ (numR v (decide (0 < k)) (List.drop k l) = N) ∧ (k ≤ l.length) ∧ (0 ≤ v ∧ v ≤ 99) ∧ (k = 0 → v = 0) ∧ (0 < k → 1 ≤ v) ∧ n1 = l.length - k) (l.length - (0)) ?_ ?_
 ·
  exact ⟨s2, 0, 0, rfl, F2, ok2, (cvi (by (rfl)) q4), (cvi (by (rfl)) q3), q2, o2, hN.symm, by omega, by omega, by omega, by omega, rfl⟩
 ·
  rintro n2 a4 w2 ⟨t2, k, v, rfl, F3, ok3, q5, q6, q7, o3, hn, hk, hv, hv0, hv1, rfl⟩
  refine wp_seq ?_; refine wp_seq ?_
  refine reg (a := a4) (σ := t2) rfl (fun i_ => List.getD [(Ty.pr (Ty.nat k)), (Ty.pr (Ty.val r)), (Ty.pr (Ty.val r)), (Ty.pr (Ty.val (ptrAt r 1))), (Ty.pr (Ty.lst Ty.rune l)), (Ty.pr (Ty.nat (List.length l))), (Ty.pr (Ty.bool (decide (((k : Nat) : Int) < (((List.length l) : Nat) : Int))))), (Ty.pr (Ty.bool (decide (((k : Nat) : Int) < (((List.length l) : Nat) : Int))))), (Ty.pr (Ty.grd ((decide (((k : Nat) : Int) < (((List.length l) : Nat) : Int))) = true) (Ty.val r))), (Ty.pr (Ty.grd ((decide (((k : Nat) : Int) < (((List.length l) : Nat) : Int))) = true) (Ty.val r))), (Ty.pr (Ty.grd ((decide (((k : Nat) : Int) < (((List.length l) : Nat) : Int))) = true) (Ty.val (ptrAt r 1)))), (Ty.pr (Ty.grd ((decide (((k : Nat) : Int) < (((List.length l) : Nat) : Int))) = true) (Ty.lst Ty.rune l))), (Ty.pr (Ty.grd ((decide (((k : Nat) : Int) < (((List.length l) : Nat) : Int))) = true) (Ty.nat k))), (Ty.pr (Ty.grd ((decide (((k : Nat) : Int) < (((List.length l) : Nat) : Int))) = true) (Ty.ref [(Ty.val (Value.int .i32 (l.getD k 0)))]))), (Ty.pr (Ty.grd ((decide (((k : Nat) : Int) < (((List.length l) : Nat) : Int))) = true) (Ty.val (Value.int .i32 (l.getD k 0))))), (Ty.pr (Ty.grd ((decide (((k : Nat) : Int) < (((List.length l) : Nat) : Int))) = true) (Ty.bool (decide ((48 : Int) ≤ (l.getD k 0)))))), (Ty.pr (Ty.bool ((decide (((k : Nat) : Int) < (((List.length l) : Nat) : Int))) && (decide ((48 : Int) ≤ (l.getD k 0)))))), (Ty.pr (Ty.bool ((decide (((k : Nat) : Int) < (((List.length l) : Nat) : Int))) && (decide ((48 : Int) ≤ (l.getD k 0)))))), (Ty.pr (Ty.grd (((decide (((k : Nat) : Int) < (((List.length l) : Nat) : Int))) && (decide ((48 : Int) ≤ (l.getD k 0)))) = true) (Ty.val r))), (Ty.pr (Ty.grd (((decide (((k : Nat) : Int) < (((List.length l) : Nat) : Int))) && (decide ((48 : Int) ≤ (l.getD k 0)))) = true) (Ty.val r))), (Ty.pr (Ty.grd (((decide (((k : Nat) : Int) < (((List.length l) : Nat) : Int))) && (decide ((48 : Int) ≤ (l.getD k 0)))) = true) (Ty.val (ptrAt r 1)))), (Ty.pr (Ty.grd (((decide (((k : Nat) : Int) < (((List.length l) : Nat) : Int))) && (decide ((48 : Int) ≤ (l.getD k 0)))) = true) (Ty.lst Ty.rune l))), (Ty.pr (Ty.grd (((decide (((k : Nat) : Int) < (((List.length l) : Nat) : Int))) && (decide ((48 : Int) ≤ (l.getD k 0)))) = true) (Ty.nat k))), (Ty.pr (Ty.grd (((decide (((k : Nat) : Int) < (((List.length l) : Nat) : Int))) && (decide ((48 : Int) ≤ (l.getD k 0)))) = true) (Ty.ref [(Ty.val (Value.int .i32 (l.getD k 0)))]))), (Ty.pr (Ty.grd (((decide (((k : Nat) : Int) < (((List.length l) : Nat) : Int))) && (decide ((48 : Int) ≤ (l.getD k 0)))) = true) (Ty.val (Value.int .i32 (l.getD k 0))))), (Ty.pr (Ty.grd (((decide (((k : Nat) : Int) < (((List.length l) : Nat) : Int))) && (decide ((48 : Int) ≤ (l.getD k 0)))) = true) (Ty.bool (decide ((l.getD k 0) ≤ (57 : Int)))))), (Ty.pr (Ty.bool (((decide (((k : Nat) : Int) < (((List.length l) : Nat) : Int))) && (decide ((48 : Int) ≤ (l.getD k 0)))) && (decide ((l.getD k 0) ≤ (57 : Int))))))] i_ Pr.any) ok3 rfl ⟨?_, ?_, ?_, ?_, ?_, ?_, ?_, ?_, ?_, ?_, ?_, ?_, ?_, ?_, ?_, ?_, ?_, ?_, ?_, ?_, ?_, ?_, ?_, ?_, ?_, ?_, ?_, trivial⟩ ?_
  · intro A B E G H; exact rP (y_move (kp (H 5 rfl) E q5))
  · intro A B E G H; exact rP (y_move (kp (H 0 rfl) E q7))
  · intro A B E G H d0; exact rP (y_nilp (OwnP.k0 o3 E) (ed d0 rfl rfl rfl))
  · intro A B E G H d0; exact rP (ownp_field Tryd.fld74_1 Tryd.inf71 (by decide) (OwnP.k0 o3 E) (ed d0 rfl rfl rfl))
  · intro A B E G H d0; exact rP (ownp_load Tryd.underlying71 rfl (OwnP.k0 o3 E) (ed d0 rfl rfl rfl) rfl)
  · intro A B E G H d0; exact rP (y_len Tryd.underlying71 (ed d0 rfl rfl rfl))
  · intro A B E G H d0 d1; exact rP (y_lss (ed d0 rfl rfl rfl) (ed d1 rfl rfl rfl))
  · intro A B E G H d0; exact rP (y_move (ed d0 rfl rfl rfl))
  · intro A B E G H d0
    refine run_guard G rfl rfl (by decide) (ed d0 rfl rfl rfl) (fun hg => ?_)
    have hp := of_decide_eq_true hg
    exact y_move (kp (H 0 rfl) E q7)
  · intro A B E G H d0 d1
    refine run_guard G rfl rfl (by decide) (ed d1 rfl rfl rfl) (fun hg => ?_)
    have hp := of_decide_eq_true hg
    exact y_nilp (OwnP.k0 o3 E) ((ed d0 rfl rfl rfl).1 hg)
  · intro A B E G H d0 d1
    refine run_guard G rfl rfl (by decide) (ed d1 rfl rfl rfl) (fun hg => ?_)
    have hp := of_decide_eq_true hg
    exact ownp_field Tryd.fld74_1 Tryd.inf71 (by decide) (OwnP.k0 o3 E) ((ed d0 rfl rfl rfl).1 hg)
  · intro A B E G H d0 d1
    refine run_guard G rfl rfl (by decide) (ed d1 rfl rfl rfl) (fun hg => ?_)
    have hp := of_decide_eq_true hg
    exact ownp_load Tryd.underlying71 rfl (OwnP.k0 o3 E) ((ed d0 rfl rfl rfl).1 hg) rfl
  · intro A B E G H d0
    refine run_guard G rfl rfl (by decide) (ed d0 rfl rfl rfl) (fun hg => ?_)
    have hp := of_decide_eq_true hg
    exact y_move (kp (H 5 rfl) E q5)
  · intro A B E G H d0 d1 d2
    refine run_guard G rfl rfl (by decide) (ed d2 rfl rfl rfl) (fun hg => ?_)
    have hp := of_decide_eq_true hg
    exact y_index1 Tryd.underlying71 Tryd.inf21 ((ed d0 rfl rfl rfl).1 hg) ((ed d1 rfl rfl rfl).1 hg) (by omega) (lst_get Ty.rune l 0 k (by omega))
  · intro A B E G H d0 d1
    refine run_guard G rfl rfl (by decide) (ed d1 rfl rfl rfl) (fun hg => ?_)
    have hp := of_decide_eq_true hg
    exact y_load Tryd.underlying21 rfl ((ed d0 rfl rfl rfl).1 hg) rfl
  · intro A B E G H d0 d1
    refine run_guard G rfl rfl (by decide) (ed d1 rfl rfl rfl) (fun hg => ?_)
    have hp := of_decide_eq_true hg
    exact y_geq ((ed d0 rfl rfl rfl).1 hg) rfl
  · intro A B E G H d0 d1; exact rP (y_pick_and (ed d0 rfl rfl rfl) (ed d1 rfl rfl rfl) rfl)
  · intro A B E G H d0 d1; exact rP (y_move (ed d0 rfl rfl rfl))
  · intro A B E G H d0
    refine run_guard G rfl rfl (by decide) (ed d0 rfl rfl rfl) (fun hg => ?_)
    obtain ⟨d1, d2⟩ := Bool.and_eq_true_iff.mp hg
    have d1 := of_decide_eq_true d1
    have d2 := of_decide_eq_true d2
    exact y_move (kp (H 0 rfl) E q7)
  · intro A B E G H d0 d1
    refine run_guard G rfl rfl (by decide) (ed d1 rfl rfl rfl) (fun hg => ?_)
    obtain ⟨d3, d4⟩ := Bool.and_eq_true_iff.mp hg
    have d3 := of_decide_eq_true d3
    have d4 := of_decide_eq_true d4
    exact y_nilp (OwnP.k0 o3 E) ((ed d0 rfl rfl rfl).1 hg)
  · intro A B E G H d0 d1
    refine run_guard G rfl rfl (by decide) (ed d1 rfl rfl rfl) (fun hg => ?_)
    obtain ⟨d5, d6⟩ := Bool.and_eq_true_iff.mp hg
    have d5 := of_decide_eq_true d5
    have d6 := of_decide_eq_true d6
    exact ownp_field Tryd.fld74_1 Tryd.inf71 (by decide) (OwnP.k0 o3 E) ((ed d0 rfl rfl rfl).1 hg)
  · intro A B E G H d0 d1
    refine run_guard G rfl rfl (by decide) (ed d1 rfl rfl rfl) (fun hg => ?_)
    obtain ⟨d7, d8⟩ := Bool.and_eq_true_iff.mp hg
    have d7 := of_decide_eq_true d7
    have d8 := of_decide_eq_true d8
    exact ownp_load Tryd.underlying71 rfl (OwnP.k0 o3 E) ((ed d0 rfl rfl rfl).1 hg) rfl
  · intro A B E G H d0
    refine run_guard G rfl rfl (by decide) (ed d0 rfl rfl rfl) (fun hg => ?_)
    obtain ⟨d9, d10⟩ := Bool.and_eq_true_iff.mp hg
    have d9 := of_decide_eq_true d9
    have d10 := of_decide_eq_true d10
    exact y_move (kp (H 5 rfl) E q5)
  · intro A B E G H d0 d1 d2
    refine run_guard G rfl rfl (by decide) (ed d2 rfl rfl rfl) (fun hg => ?_)
    obtain ⟨d11, d12⟩ := Bool.and_eq_true_iff.mp hg
    have d11 := of_decide_eq_true d11
    have d12 := of_decide_eq_true d12
    exact y_index1 Tryd.underlying71 Tryd.inf21 ((ed d0 rfl rfl rfl).1 hg) ((ed d1 rfl rfl rfl).1 hg) (by omega) (lst_get Ty.rune l 0 k (by omega))
  · intro A B E G H d0 d1
    refine run_guard G rfl rfl (by decide) (ed d1 rfl rfl rfl) (fun hg => ?_)
    obtain ⟨d13, d14⟩ := Bool.and_eq_true_iff.mp hg
    have d13 := of_decide_eq_true d13
    have d14 := of_decide_eq_true d14
    exact y_load Tryd.underlying21 rfl ((ed d0 rfl rfl rfl).1 hg) rfl
  · intro A B E G H d0 d1
    refine run_guard G rfl rfl (by decide) (ed d1 rfl rfl rfl) (fun hg => ?_)
    obtain ⟨d15, d16⟩ := Bool.and_eq_true_iff.mp hg
    have d15 := of_decide_eq_true d15
    have d16 := of_decide_eq_true d16
    exact y_leq ((ed d0 rfl rfl rfl).1 hg) rfl
  · intro A B E G H d0 d1; exact rP (y_pick_and (ed d0 rfl rfl rfl) (ed d1 rfl rfl rfl) rfl)
  intro a5 s3 D3; have ok4 := D3.ok; have F4 := F3.step0 D3.stp; have q8 := D3.kt q5 rfl; have q9 := D3.kt q6 rfl; have q10 := D3.kt q7 rfl; have o4 := OwnP.k0 o3 D3.stp; have q11 := D3.dn 26 rfl rfl; clear D3; refine tn ?_
  refine cond_t q11 (fun c1 => ?_) (fun c1 => ?_)
  ·
   obtain ⟨d17, d18⟩ := Bool.and_eq_true_iff.mp c1
   obtain ⟨d19, d20⟩ := Bool.and_eq_true_iff.mp d17
   replace d19 := of_decide_eq_true d19
   replace d20 := of_decide_eq_true d20
   replace d18 := of_decide_eq_true d18
   simp only [Bool.and_eq_true, decide_eq_true_eq] at c1; have hkl : k < l.length := (by omega)
   refine wp_skip ?_; refine tn ?_; refine wp_block ?_; refine wp_seq ?_; refine wp_seq ?_
   refine rg a5 s3 [(Ty.nat k), (Ty.bool (decide (((k : Nat) : Int) = (0 : Int)))), (Ty.bool (decide (((k : Nat) : Int) = (0 : Int)))), (Ty.grd ((decide (((k : Nat) : Int) = (0 : Int))) = true) (Ty.val r)), (Ty.grd ((decide (((k : Nat) : Int) = (0 : Int))) = true) (Ty.val r)), (Ty.grd ((decide (((k : Nat) : Int) = (0 : Int))) = true) (Ty.val (ptrAt r 1))), (Ty.grd ((decide (((k : Nat) : Int) = (0 : Int))) = true) (Ty.lst Ty.rune l)), (Ty.grd ((decide (((k : Nat) : Int) = (0 : Int))) = true) (Ty.ref [(Ty.val (Value.int .i32 (l.getD ((0 : Int)).toNat 0)))])), (Ty.grd ((decide (((k : Nat) : Int) = (0 : Int))) = true) (Ty.val (Value.int .i32 (l.getD ((0 : Int)).toNat 0)))), (Ty.grd ((decide (((k : Nat) : Int) = (0 : Int))) = true) (Ty.bool (decide ((l.getD ((0 : Int)).toNat 0) = (48 : Int))))), (Ty.bool ((decide (((k : Nat) : Int) = (0 : Int))) && (decide ((l.getD ((0 : Int)).toNat 0) = (48 : Int)))))] ok4 ⟨?_, ?_, ?_, ?_, ?_, ?_, ?_, ?_, ?_, ?_, ?_, trivial⟩ ?_
   · intro A B E G H; exact rP (y_move (kp (H 5 rfl) E q8))
   · intro A B E G H d0; exact rP (y_eql (ed d0 rfl rfl rfl) rfl)
   · intro A B E G H d0; exact rP (y_move (ed d0 rfl rfl rfl))
   · intro A B E G H d0
     refine run_guard G rfl rfl (by decide) (ed d0 rfl rfl rfl) (fun hg => ?_)
     have hp := of_decide_eq_true hg
     exact y_move (kp (H 0 rfl) E q10)
   · intro A B E G H d0 d1
     refine run_guard G rfl rfl (by decide) (ed d1 rfl rfl rfl) (fun hg => ?_)
     have hp := of_decide_eq_true hg
     exact y_nilp (OwnP.k0 o4 E) ((ed d0 rfl rfl rfl).1 hg)
   · intro A B E G H d0 d1
     refine run_guard G rfl rfl (by decide) (ed d1 rfl rfl rfl) (fun hg => ?_)
     have hp := of_decide_eq_true hg
     exact ownp_field Tryd.fld74_1 Tryd.inf71 (by decide) (OwnP.k0 o4 E) ((ed d0 rfl rfl rfl).1 hg)
   · intro A B E G H d0 d1
     refine run_guard G rfl rfl (by decide) (ed d1 rfl rfl rfl) (fun hg => ?_)
     have hp := of_decide_eq_true hg
     exact ownp_load Tryd.underlying71 rfl (OwnP.k0 o4 E) ((ed d0 rfl rfl rfl).1 hg) rfl
   · intro A B E G H d0 d1
     refine run_guard G rfl rfl (by decide) (ed d1 rfl rfl rfl) (fun hg => ?_)
     have hp := of_decide_eq_true hg
     exact y_index1 Tryd.underlying71 Tryd.inf21 ((ed d0 rfl rfl rfl).1 hg) rfl (by omega) (lst_get Ty.rune l 0 ((0 : Int)).toNat (by omega))
   · intro A B E G H d0 d1
     refine run_guard G rfl rfl (by decide) (ed d1 rfl rfl rfl) (fun hg => ?_)
     have hp := of_decide_eq_true hg
     exact y_load Tryd.underlying21 rfl ((ed d0 rfl rfl rfl).1 hg) rfl
   · intro A B E G H d0 d1
     refine run_guard G rfl rfl (by decide) (ed d1 rfl rfl rfl) (fun hg => ?_)
     have hp := of_decide_eq_true hg
     exact y_eql ((ed d0 rfl rfl rfl).1 hg) rfl
   · intro A B E G H d0 d1; exact rP (y_pick_and (ed d0 rfl rfl rfl) (ed d1 rfl rfl rfl) rfl)
   intro a6 s4 D4; have ok5 := D4.ok; have F5 := F4.step0 D4.stp; have q12 := D4.kt q8 rfl; have q13 := D4.kt q9 rfl; have q14 := D4.kt q10 rfl; have o5 := OwnP.k0 o4 D4.stp; have q15 := D4.dn 10 rfl rfl; clear D4; refine tn ?_
   refine cond_t q15 (fun c2 => ?_) (fun c2 => ?_)
   ·
    obtain ⟨d21, d22⟩ := Bool.and_eq_true_iff.mp c2
    replace d21 := of_decide_eq_true d21
    replace d22 := of_decide_eq_true d22
    simp only [Bool.and_eq_true, decide_eq_true_eq] at c2; have hk0 : k = 0 := (by omega); have hv00 := hv0 hk0; have h48 : l.getD k 0 = 48 := (by rw [hk0]; exact c2.2); have hne := num_bad hn hkl c1.1.2 c1.2 (by omega); have hNe : N = ⟨12, 0, true, List.drop (k + 1) l⟩ := num_badE hn hkl c1.1.2 c1.2 (by omega)
    refine wp_seq ?_
    refine rg a6 s4 [(Ty.int (0 : Int)), (Ty.int (12 : Int))] ok5 ⟨?_, ?_, trivial⟩ ?_
    · intro A B E G H; exact rP (y_assign rfl)
    · intro A B E G H d0 d1; exact rP (y_assign rfl)
    intro a7 s5 D5; have ok6 := D5.ok; have F6 := F5.step0 D5.stp; have o6 := OwnP.k0 o5 D5.stp; have q16 := D5.dn 0 rfl rfl; have q17 := D5.dn 1 rfl rfl; clear D5; refine tn ?_; refine wp_ret ?_; refine tr ?_; refine br ?_; refine tr ?_; refine br ?_; refine tr ?_
    exact retL2 rfl ok6 F6 ⟨l, (hasT2 (cvi (by (rw [← hN, hNe]; rfl)) q16) (cvi (by (rw [← hN, hNe])) q17)), (ownp_cell 1 (Ty.lst Ty.rune (l)) o6 rfl (fun _ _ h => (cvt (by (first | rfl | omega | (simp_all; done) | (simp_all; omega))) h))), (by rw [← hN, hNe]; exact fun h_ => absurd h_ (by simp))⟩
   ·
    have hg2 : k = 0 → l.getD k 0 ≠ 48 := (fun hk0 h_ => by simp only [Bool.and_eq_false_iff, decide_eq_false_iff_not] at c2; rcases c2 with h2_ | h2_; omega; (rw [hk0] at h_; exact h2_ h_)); have hnz : 1 ≤ 10 * v + (l.getD k 0 - 48) := (by by_cases hk0 : k = 0; (have := hv0 hk0; have := hg2 hk0; omega); (have := hv1 (by omega); omega))
    refine wp_skip ?_; refine tn ?_; refine wp_seq ?_; refine wp_seq ?_
    refine rg a6 s4 [(Ty.int v), (Ty.int ((10 : Int) * v)), (Ty.val r), (Ty.val r), (Ty.val (ptrAt r 1)), (Ty.lst Ty.rune l), (Ty.nat k), (Ty.ref [(Ty.val (Value.int .i32 (l.getD k 0)))]), (Ty.val (Value.int .i32 (l.getD k 0))), (Ty.val (Value.int .i32 ((l.getD k 0) - (48 : Int)))), (Ty.int ((l.getD k 0) - (48 : Int))), (Ty.int (((10 : Int) * v) + ((l.getD k 0) - (48 : Int)))), (Ty.int (((10 : Int) * v) + ((l.getD k 0) - (48 : Int))))] ok5 ⟨?_, ?_, ?_, ?_, ?_, ?_, ?_, ?_, ?_, ?_, ?_, ?_, ?_, trivial⟩ ?_
    · intro A B E G H; exact rP (y_move (kp (H 4 rfl) E q13))
    · intro A B E G H d0; exact rP (y_mul rfl (ed d0 rfl rfl rfl) (w64 (by omega) (by omega)))
    · intro A B E G H; exact rP (y_move (kp (H 0 rfl) E q14))
    · intro A B E G H d0; exact rP (y_nilp (OwnP.k0 o5 E) (ed d0 rfl rfl rfl))
    · intro A B E G H d0; exact rP (ownp_field Tryd.fld74_1 Tryd.inf71 (by decide) (OwnP.k0 o5 E) (ed d0 rfl rfl rfl))
    · intro A B E G H d0; exact rP (ownp_load Tryd.underlying71 rfl (OwnP.k0 o5 E) (ed d0 rfl rfl rfl) rfl)
    · intro A B E G H; exact rP (y_move (kp (H 5 rfl) E q12))
    · intro A B E G H d0 d1; exact rP (y_index1 Tryd.underlying71 Tryd.inf21 (ed d0 rfl rfl rfl) (ed d1 rfl rfl rfl) (by omega) (lst_get Ty.rune l 0 k (by omega)))
    · intro A B E G H d0; exact rP (y_load Tryd.underlying21 rfl (ed d0 rfl rfl rfl) rfl)
    · intro A B E G H d0; exact rP (y_sub (ed d0 rfl rfl rfl) rfl (wrap_i32 (by omega) (by omega)))
    · intro A B E G H d0; exact rP (y_conv Tryd.underlying3 (ed d0 rfl rfl rfl) (by exact w64 (by omega) (by omega)) (by rw [Tryd.underlying21]; rfl))
    · intro A B E G H d0 d1; exact rP (y_add (ed d0 rfl rfl rfl) (ed d1 rfl rfl rfl) (w64 (by omega) (by omega)))
    · intro A B E G H d0 d1 d2 d3 d4 d5 d6 d7 d8 d9 d10 d11 d12; exact rP (y_assign (ed d0 rfl rfl rfl))
    intro a8 s6 D6; have ok7 := D6.ok; have F7 := F5.step0 D6.stp; have q18 := D6.kt q12 rfl; have q19 := D6.kt q14 rfl; have o7 := OwnP.k0 o5 D6.stp; have q20 := D6.dn 12 rfl rfl; clear D6; refine tn ?_; refine wp_seq ?_
    refine rg a8 s6 [(Ty.int (((10 : Int) * v) + ((l.getD k 0) - (48 : Int)))), (Ty.bool (decide ((99 : Int) < (((10 : Int) * v) + ((l.getD k 0) - (48 : Int))))))] ok7 ⟨?_, ?_, trivial⟩ ?_
    · intro A B E G H; exact rP (y_move (kp (H 4 rfl) E q20))
    · intro A B E G H d0; exact rP (y_gtr (ed d0 rfl rfl rfl) rfl)
    intro a9 s7 D7; have ok8 := D7.ok; have F8 := F7.step0 D7.stp; have q21 := D7.kt q18 rfl; have q22 := D7.kt q19 rfl; have q23 := D7.kt q20 rfl; have o8 := OwnP.k0 o7 D7.stp; have q24 := D7.dn 1 rfl rfl; clear D7; refine tn ?_
    refine cond_p (p := ((99 : Int) < (((10 : Int) * v) + ((l.getD k 0) - (48 : Int))))) q24 (fun c3 => ?_) (fun c3 => ?_)
    ·
     have hNe : N = ⟨12, 0, true, List.drop (k + 1) l⟩ := num_badE hn hkl c1.1.2 c1.2 (by omega)
     refine wp_seq ?_
     refine rg a9 s7 [(Ty.int (0 : Int)), (Ty.int (12 : Int))] ok8 ⟨?_, ?_, trivial⟩ ?_
     · intro A B E G H; exact rP (y_assign rfl)
     · intro A B E G H d0 d1; exact rP (y_assign rfl)
     intro a10 s8 D8; have ok9 := D8.ok; have F9 := F8.step0 D8.stp; have o9 := OwnP.k0 o8 D8.stp; have q25 := D8.dn 0 rfl rfl; have q26 := D8.dn 1 rfl rfl; clear D8; refine tn ?_; refine wp_ret ?_; refine tr ?_; refine br ?_; refine tr ?_; refine br ?_; refine tr ?_
     exact retL2 rfl ok9 F9 ⟨l, (hasT2 (cvi (by (rw [← hN, hNe]; rfl)) q25) (cvi (by (rw [← hN, hNe])) q26)), (ownp_cell 1 (Ty.lst Ty.rune (l)) o9 rfl (fun _ _ h => (cvt (by (first | rfl | omega | (simp_all; done) | (simp_all; omega))) h))), (by rw [← hN, hNe]; exact fun h_ => absurd h_ (by simp))⟩
    ·
     have hnx : numR (10 * v + (l.getD k 0 - 48)) (decide (0 < k + 1)) (List.drop (k + 1) l) = N := (by have h_ := num_go hn hkl c1.1.2 c1.2 (by omega); rw [show v * 10 + l.getD k 0 - 48 = 10 * v + (l.getD k 0 - 48) by omega] at h_; rw [decide_eq_true (by omega)]; exact h_)
     refine wp_skip ?_; refine tn ?_
     refine rg a9 s7 [(Ty.nat k), (Ty.nat (k + 1)), (Ty.nat (k + 1))] ok8 ⟨?_, ?_, ?_, trivial⟩ ?_
     · intro A B E G H; exact rP (y_move (kp (H 5 rfl) E q21))
     · intro A B E G H d0; exact rP ((y_add (ed d0 rfl rfl rfl) rfl (w64 (by omega) (by omega))).mono (fun τ _ h => cvi (σ := τ) (by first | omega | exact (Int.natCast_mul _ _).symm) h))
     · intro A B E G H d0 d1 d2; exact rP (y_assign (ed d0 rfl rfl rfl))
     intro a11 s9 D9; have ok10 := D9.ok; have F10 := F8.step0 D9.stp; have q27 := D9.kt q22 rfl; have q28 := D9.kt q23 rfl; have o10 := OwnP.k0 o8 D9.stp; have q29 := D9.dn 2 rfl rfl; clear D9; refine bn ?_
     exact tn ⟨l.length - ((k + 1)), by omega, s9, (k + 1), (10 * v + (l.getD k 0 - 48)), rfl, F10, ok10, (cvi (by (first | rfl | omega | (simp_all; done) | (simp_all; omega))) q29), (cvi (by (first | rfl | omega | (simp_all; done) | (simp_all; omega))) q28), q27, o10, hnx, by omega, by omega, fun h_ => by omega, fun _ => by omega, rfl⟩
  ·
   have hN2 : N = ⟨0, v, decide (0 < k), List.drop k l⟩ := num_end hn (by simp only [Bool.and_eq_false_iff, decide_eq_false_iff_not] at c1; omega)
   refine wp_exit ?_; refine tx ?_; refine tx ?_; refine bx ?_; refine tn ?_; refine wp_seq ?_
   refine reg2 (a := a5) (σ := s3) rfl 9 (fun i_ => List.getD [(Ty.pr (Ty.val r)), (Ty.pr (Ty.val r)), (Ty.pr (Ty.val r)), (Ty.pr (Ty.val (ptrAt r 1))), (Ty.pr (Ty.lst Ty.rune l)), (Ty.pr (Ty.nat k)), (Ty.pr (Ty.lst Ty.rune (l.drop k))), (Ty.pr (Ty.val r)), (Ty.pr (Ty.val (ptrAt r 1)))] i_ Pr.any) ok4 rfl (by decide) rfl ⟨?_, ?_, ?_, ?_, ?_, ?_, ?_, ?_, ?_, trivial⟩ ?_
   · intro A B E G H; exact rP (y_move (kp (H 0 rfl) E q10))
   · intro A B E G H; exact rP (y_move (kp (H 0 rfl) E q10))
   · intro A B E G H d0; exact rP (y_nilp (OwnP.k0 o4 E) (ed d0 rfl rfl rfl))
   · intro A B E G H d0; exact rP (ownp_field Tryd.fld74_1 Tryd.inf71 (by decide) (OwnP.k0 o4 E) (ed d0 rfl rfl rfl))
   · intro A B E G H d0; exact rP (ownp_load Tryd.underlying71 rfl (OwnP.k0 o4 E) (ed d0 rfl rfl rfl) rfl)
   · intro A B E G H; exact rP (y_move (kp (H 5 rfl) E q8))
   · intro A B E G H d0 d1; exact rP (y_drop Tryd.underlying71 Tryd.inf21 (ed d0 rfl rfl rfl) (ed d1 rfl rfl rfl) (by omega))
   · intro A B E G H d0 d1 d2 d3 d4 d5 d6 d7; exact rP (y_nilp (OwnP.k0 o4 E) (ed d0 rfl rfl rfl))
   · intro A B E G H d0 d1 d2 d3 d4 d5 d6 d7; exact rP (ownp_field Tryd.fld74_1 Tryd.inf71 (by decide) (OwnP.k0 o4 E) (ed d0 rfl rfl rfl))
   intro a12 s10 D10; have ok11 := D10.ok; have F11 := F4.step0 D10.stp; have q30 := D10.kt q8 rfl; have q31 := D10.kt q9 rfl; have o11 := OwnP.k0 o4 D10.stp; have q32 := D10.dn 6 (by decide) rfl rfl
   have b1 := sl_le q32
   have q33 := D10.dn 8 (by decide) rfl rfl; clear D10
   refine tailL0 (L := [40]) (R := (fun _ τ => OwnP τ 40 r ([(Ty.lstc 2 callC cs), (Ty.lst Ty.rune l)].set 1 (Ty.lst Ty.rune (l.drop k))))) rfl rfl (YldM.toL (m_storep Tryd.inf71 (by decide) o11 q33 (Nat.le_of_ble_eq_true rfl) q32 (one_sl))) (fun v1 s11 hs1 r1 => ?_)
   have F12 := F11.stepL hs1 (by decide); have q34 := kpL hs1 (by decide) rfl q30; have q35 := kpL hs1 (by decide) rfl q31
   have o12 : OwnP s11 40 r [(Ty.lstc 2 callC cs), (Ty.lst Ty.rune (l.drop k))] := r1
   clear r1; refine wpList_nil ?_; refine tn ?_; refine wp_seq ?_; refine wp_seq ?_
   refine rg a12 s11 [(Ty.nat k), (Ty.bool (decide (((k : Nat) : Int) = (0 : Int))))] ok11 ⟨?_, ?_, trivial⟩ ?_
   · intro A B E G H; exact rP (y_move (kp (H 5 rfl) E q34))
   · intro A B E G H d0; exact rP (y_eql (ed d0 rfl rfl rfl) rfl)
   intro a13 s12 D11; have ok12 := D11.ok; have F13 := F12.step0 D11.stp; have q37 := D11.kt q35 rfl; have o13 := OwnP.k0 o12 D11.stp; have q38 := D11.dn 1 rfl rfl; clear D11; refine tn ?_
   refine cond_p (p := (((k : Nat) : Int) = (0 : Int))) q38 (fun c4 => ?_) (fun c4 => ?_)
   ·
    have hk0 : k = 0 := (by omega); have hNd : N = ⟨0, v, false, List.drop k l⟩ := (by rw [hN2, decide_eq_false (by omega)])
    refine rg a13 s12 [(Ty.int (1 : Int))] ok12 ⟨?_, trivial⟩ ?_
    · intro A B E G H; exact rP (y_assign rfl)
    intro a14 s13 D12; have ok13 := D12.ok; have F14 := F13.step0 D12.stp; have o14 := OwnP.k0 o13 D12.stp; have q39 := D12.dn 0 rfl rfl; clear D12; refine tn ?_; refine wp_seq ?_
    refine rg a14 s13 [(Ty.int (1 : Int)), (Ty.int (1 : Int)), (Ty.int (0 : Int))] ok13 ⟨?_, ?_, ?_, trivial⟩ ?_
    · intro A B E G H; exact rP (y_move (kp (H 4 rfl) E q39))
    · intro A B E G H d0 d1; exact rP (y_assign (ed d0 rfl rfl rfl))
    · intro A B E G H d0 d1 d2; exact rP (y_assign rfl)
    intro a15 s14 D13; have ok14 := D13.ok; have F15 := F14.step0 D13.stp; have o15 := OwnP.k0 o14 D13.stp; have q40 := D13.dn 1 rfl rfl; have q41 := D13.dn 2 rfl rfl; clear D13; refine tn ?_; refine wp_ret ?_
    exact retL2 rfl ok14 F15 ⟨(List.drop k l), (hasT2 (cvi (by (rw [← hN, hNd]; rfl)) q40) (cvi (by (rw [← hN, hNd])) q41)), (ownp_cell 1 (Ty.lst Ty.rune ((List.drop k l))) o15 rfl (fun _ _ h => (cvt (by (first | rfl | omega | (simp_all; done) | (simp_all; omega))) h))), (by rw [← hN, hNd]; exact fun _ => rfl)⟩
   ·
    have hNd : N = ⟨0, v, true, List.drop k l⟩ := (by rw [hN2, decide_eq_true (by omega)])
    refine wp_skip ?_; refine tn ?_; refine wp_seq ?_
    refine rg a13 s12 [(Ty.int v), (Ty.int v), (Ty.int (0 : Int))] ok12 ⟨?_, ?_, ?_, trivial⟩ ?_
    · intro A B E G H; exact rP (y_move (kp (H 4 rfl) E q37))
    · intro A B E G H d0 d1; exact rP (y_assign (ed d0 rfl rfl rfl))
    · intro A B E G H d0 d1 d2; exact rP (y_assign rfl)
    intro a16 s15 D14; have ok15 := D14.ok; have F16 := F13.step0 D14.stp; have o16 := OwnP.k0 o13 D14.stp; have q42 := D14.dn 1 rfl rfl; have q43 := D14.dn 2 rfl rfl; clear D14; refine tn ?_; refine wp_ret ?_
    exact retL2 rfl ok15 F16 ⟨(List.drop k l), (hasT2 (cvi (by (rw [← hN, hNd]; rfl)) q42) (cvi (by (rw [← hN, hNd])) q43)), (ownp_cell 1 (Ty.lst Ty.rune ((List.drop k l))) o16 rfl (fun _ _ h => (cvt (by (first | rfl | omega | (simp_all; done) | (simp_all; omega))) h))), (by rw [← hN, hNd]; exact fun _ => rfl)⟩


set_option maxHeartbeats 4000000 in
set_option maxRecDepth 100000 in
theorem item1_fn (sx : Int) (lx : List (List Int)) (c : Int) (σ : GW)  (v0 v1 : Value) (hv0 : Ty.has (Ty.agg [(Ty.val (Value.int .i32 sx)), (Ty.lst Ty.ints lx)]) σ v0) (hv1 : Ty.has (Ty.ref [(Ty.val (Value.int .i32 c))]) σ v1)   :
    FnC Tryd.prog 69 #[v0, v1] σ (Ty.bool (decide (sx = c))) := by
 refine fn_intro0 Tryd.func69 rfl Tryd.ntmps69 (Nat.le_of_ble_eq_true rfl) (fun s0 a0 hle F0 ok0 hargs => ?_)
 have p0 : At (Ty.agg [(Ty.val (Value.int .i32 sx)), (Ty.lst Ty.ints lx)]) s0 a0 (.tmp 0) := by have e := hargs 0 _ rfl; show Ty.has _ _ _; rw [e]; exact Ty.up _ hle hv0
 have p1 : At (Ty.ref [(Ty.val (Value.int .i32 c))]) s0 a0 (.tmp 1) := by have e := hargs 1 _ rfl; show Ty.has _ _ _; rw [e]; exact Ty.up _ hle hv1
 clear hargs; refine wp_seq ?_
 refine rg a0 s0 [(Ty.ref [(Ty.val (Value.int .i32 sx)), (Ty.lst Ty.ints lx)]), (Ty.bool false)] ok0 ⟨?_, ?_, trivial⟩ ?_
 · intro A B E G H; exact rP (y_boxagg (kp (H 0 rfl) E p0))
 · intro A B E G H; exact rP (y_assign rfl)
 intro a1 s1 D1; have ok1 := D1.ok; have F1 := F0.step0 D1.stp; have q1 := D1.kt p1 rfl; have q2 := D1.dn 0 rfl rfl; clear D1; refine tn ?_; refine wp_seq ?_
 refine rg a1 s1 [(Ty.ref [(Ty.val (Value.int .i32 sx)), (Ty.lst Ty.ints lx)]), (Ty.val (Value.int .i32 sx)), (Ty.val (Value.int .i32 c)), (Ty.bool (decide (sx = c))), (Ty.bool (decide (sx = c)))] ok1 ⟨?_, ?_, ?_, ?_, ?_, trivial⟩ ?_
 · intro A B E G H; exact rP (y_field Tryd.fld50_0 Tryd.inf21 (by decide) (kp (H 2 rfl) E q2) rfl)
 · intro A B E G H d0; exact rP (y_load Tryd.underlying21 rfl (ed d0 rfl rfl rfl) rfl)
 · intro A B E G H; exact rP (y_load Tryd.underlying21 rfl (kp (H 1 rfl) E q1) rfl)
 · intro A B E G H d0 d1; exact rP (y_eql (ed d0 rfl rfl rfl) (ed d1 rfl rfl rfl))
 · intro A B E G H d0 d1 d2 d3 d4; exact rP (y_assign (ed d0 rfl rfl rfl))
 intro a2 s2 D2; have ok2 := D2.ok; have F2 := F1.step0 D2.stp; have q3 := D2.dn 4 rfl rfl; clear D2; refine tn ?_; refine wp_ret ?_
 exact retL1 rfl ok2 F2 q3


set_option maxHeartbeats 4000000 in
set_option maxRecDepth 100000 in
theorem idxRune_fn (cs : List BCall) (c : Int) (σ : GW)  (v0 v1 : Value) (hv0 : Ty.has (Ty.lstc 2 callC cs) σ v0) (hv1 : Ty.has (Ty.clo 69 [(Ty.val (Value.int .i32 c))]) σ v1)   :
    FnC Tryd.prog 45 #[v0, v1] σ (Ty.int (indexL (cs.map (·.1)) c)) := by
 refine fn_intro0 Tryd.func45 rfl Tryd.ntmps45 (Nat.le_of_ble_eq_true rfl) (fun s0 a0 hle F0 ok0 hargs => ?_)
 have p0 : At (Ty.lstc 2 callC cs) s0 a0 (.tmp 0) := by have e := hargs 0 _ rfl; show Ty.has _ _ _; rw [e]; exact Ty.up _ hle hv0
 have b1 := sl_le p0
 have p1 : At (Ty.clo 69 [(Ty.val (Value.int .i32 c))]) s0 a0 (.tmp 1) := by have e := hargs 1 _ rfl; show Ty.has _ _ _; rw [e]; exact Ty.up _ hle hv1
 clear hargs; refine wp_seq ?_
 refine rg a0 s0 [(Ty.int (0 : Int))] ok0 ⟨?_, trivial⟩ ?_
 · intro A B E G H; exact rP (y_assign rfl)
 intro a1 s1 D1; have ok1 := D1.ok; have F1 := F0.step0 D1.stp; have q1 := D1.kt p0 rfl; have q2 := D1.kt p1 rfl; clear D1; refine tn ?_; refine wp_seq ?_; refine wp_seq ?_
 refine rg a1 s1 [(Ty.lstc 2 callC cs), (Ty.nat (List.length cs)), (Ty.int (0 : Int))] ok1 ⟨?_, ?_, ?_, trivial⟩ ?_
 · intro A B E G H; exact rP (y_move (kp (H 0 rfl) E q1))
 · intro A B E G H d0; exact rP (y_len Tryd.underlying25 (ed d0 rfl rfl rfl))
 · intro A B E G H; exact rP (y_move rfl)
 intro a2 s2 D2; have ok2 := D2.ok; have F2 := F1.step0 D2.stp; have q3 := D2.kt q1 rfl; have q4 := D2.kt q2 rfl; have q5 := D2.dn 1 rfl rfl; have q6 := D2.dn 2 rfl rfl; clear D2; refine tn ?_; refine wp_block ?_
 refine loop (fun n1 a3 w1 => ∃ (t1 : GW) (i : Nat), t1.w = w1 ∧ FromL [] s0 t1 ∧ Ok 19 a3 ∧ At (Ty.nat i) t1 a3 (.tmp 8) ∧ At (Ty.lstc 2 callC cs) t1 a3 (.tmp 0) ∧ At (Ty.clo 69 [(Ty.val (Value.int .i32 c))]) t1 a3 (.tmp 1) ∧ At (Ty.nat (List.length cs)) t1 a3 (.tmp 7) ∧ (i ≤ cs.length) ∧ (∀ j, j < i → (cs.getD j D0).1 ≠ c) ∧ n1 = cs.length - i) (cs.length - (0)) ?_ ?_
 ·
  exact ⟨s2, 0, rfl, F2, ok2, (cvi (by (first | rfl | omega | (simp_all; done) | (simp_all; omega))) q6), q3, q4, q5, by omega, fun j hj => absurd hj (Nat.not_lt_zero j), rfl⟩
 ·
  rintro n2 a4 w2 ⟨t2, i, rfl, F3, ok3, q7, q8, q9, q10, hi, hno, rfl⟩
  refine wp_seq ?_
  refine reg (a := a4) (σ := t2) rfl (fun i_ => List.getD [(Ty.pr (Ty.bool (decide (((i : Nat) : Int) < (((List.length cs) : Nat) : Int)))))] i_ Pr.any) ok3 rfl ⟨?_, trivial⟩ ?_
  · intro A B E G H; exact rP (y_lss (kp (H 8 rfl) E q7) (kp (H 7 rfl) E q10))
  intro a5 s3 D3; have ok4 := D3.ok; have F4 := F3.step0 D3.stp; have q11 := D3.kt q7 rfl; have q12 := D3.kt q8 rfl; have q13 := D3.kt q9 rfl; have q14 := D3.kt q10 rfl; have q15 := D3.dn 0 rfl rfl; clear D3; refine tn ?_; refine wp_seq ?_
  refine cond_p (p := (((i : Nat) : Int) < (((List.length cs) : Nat) : Int))) q15 (fun c1 => ?_) (fun c1 => ?_)
  ·
   refine wp_skip ?_; refine tn ?_; refine wp_seq ?_; refine wp_block ?_; refine wp_seq ?_
   refine rg a5 s3 [(Ty.nat i), (Ty.nat i)] ok4 ⟨?_, ?_, trivial⟩ ?_
   · intro A B E G H; exact rP (y_move (kp (H 8 rfl) E q11))
   · intro A B E G H d0 d1; exact rP (y_assign (ed d0 rfl rfl rfl))
   intro a6 s4 D4; have ok5 := D4.ok; have F5 := F4.step0 D4.stp; have q16 := D4.kt q11 rfl; have q17 := D4.kt q12 rfl; have q18 := D4.kt q13 rfl; have q19 := D4.kt q14 rfl; have q20 := D4.dn 1 rfl rfl; clear D4; refine tn ?_; refine wp_seq ?_
   refine rg a6 s4 [(Ty.clo 69 [(Ty.val (Value.int .i32 c))]), (Ty.lstc 2 callC cs), (Ty.nat i), (Ty.ref [(Ty.val (Value.int .i32 ((cs.getD i D0)).1)), (Ty.lst Ty.ints ((cs.getD i D0)).2)]), (Ty.agg [(Ty.val (Value.int .i32 ((cs.getD i D0)).1)), (Ty.lst Ty.ints ((cs.getD i D0)).2)]), (Ty.bool (decide ((((cs.getD i D0)).1) = c)))] ok5 ⟨?_, ?_, ?_, ?_, ?_, ?_, trivial⟩ ?_
   · intro A B E G H; exact rP (y_move (kp (H 1 rfl) E q18))
   · intro A B E G H; exact rP (y_move (kp (H 0 rfl) E q17))
   · intro A B E G H; exact rP (y_move (kp (H 5 rfl) E q20))
   · intro A B E G H d0 d1; exact rP (y_indexc (i := ((i : Nat) : Int)) D0 Tryd.underlying25 Tryd.inf50 (ed d0 rfl rfl rfl) (ed d1 rfl rfl rfl) (by omega) (by omega) (by decide) (fun _ => rfl))
   · intro A B E G H d0; exact rP (y_loadagg Tryd.underlying50 Tryd.inf50 (ed d0 rfl rfl rfl))
   · intro A B E G H d0 d1; exact rP (y_callv (fun p_ => #[A.eval (.tmp 15), p_]) (ed d0 rfl rfl rfl) Tryd.func69 rfl rfl (fun p_ => by simp only [List.map_toArray, List.map_cons, List.map_nil, List.append_toArray, List.cons_append, List.nil_append]) (fun p_ hp_ => item1_fn (((cs.getD i D0)).1) (((cs.getD i D0)).2) (c) _ _ _ (ed d1 rfl rfl rfl) hp_ ))
   intro a7 s5 D5; have ok6 := D5.ok; have F6 := F5.step0 D5.stp; have q21 := D5.kt q16 rfl; have q22 := D5.kt q17 rfl; have q23 := D5.kt q18 rfl; have q24 := D5.kt q19 rfl; have q25 := D5.kt q20 rfl; have q26 := D5.dn 5 rfl rfl; clear D5; refine tn ?_
   refine cond_p (p := ((((cs.getD i D0)).1) = c)) q26 (fun c2 => ?_) (fun c2 => ?_)
   ·
    refine wp_seq ?_
    refine rg a7 s5 [(Ty.nat i), (Ty.nat i)] ok6 ⟨?_, ?_, trivial⟩ ?_
    · intro A B E G H; exact rP (y_move (kp (H 5 rfl) E q25))
    · intro A B E G H d0 d1; exact rP (y_assign (ed d0 rfl rfl rfl))
    intro a8 s6 D6; have ok7 := D6.ok; have F7 := F6.step0 D6.stp; have q27 := D6.dn 1 rfl rfl; clear D6; refine tn ?_; refine wp_ret ?_; refine br ?_; refine tr ?_; refine tr ?_; refine br ?_; refine tr ?_
    exact retL1 rfl ok7 F7 (cvi (by (exact (idxC_yes (by omega) (by assumption) hno).symm)) q27)
   ·
    refine wp_skip ?_; refine bn ?_; refine tn ?_
    refine rg a7 s5 [(Ty.int (((i : Nat) : Int) + (1 : Int))), (Ty.int (((i : Nat) : Int) + (1 : Int)))] ok6 ⟨?_, ?_, trivial⟩ ?_
    · intro A B E G H; exact rP (y_add (kp (H 8 rfl) E q21) rfl (w64 (by omega) (by omega)))
    · intro A B E G H d0; exact rP (y_move (ed d0 rfl rfl rfl))
    intro a9 s7 D7; have ok8 := D7.ok; have F8 := F6.step0 D7.stp; have q28 := D7.kt q22 rfl; have q29 := D7.kt q23 rfl; have q30 := D7.kt q24 rfl; have q31 := D7.dn 1 rfl rfl; clear D7
    exact tn ⟨cs.length - ((i+1)), by omega, s7, (i+1), rfl, F8, ok8, (cvi (by (first | rfl | omega | (simp_all; done) | (simp_all; omega))) q31), q28, q29, q30, by omega, fun j hj => by (by_cases e : j = i; subst e; assumption; exact hno j (by omega)), rfl⟩
  ·
   refine wp_exit ?_; refine tx ?_; refine tx ?_; refine bx ?_; refine tn ?_; refine wp_seq ?_
   refine rg a5 s3 [(Ty.int (-1 : Int))] ok4 ⟨?_, trivial⟩ ?_
   · intro A B E G H; exact rP (y_assign rfl)
   intro a10 s8 D8; have ok9 := D8.ok; have F9 := F4.step0 D8.stp; have q32 := D8.dn 0 rfl rfl; clear D8; refine tn ?_; refine wp_ret ?_
   exact retL1 rfl ok9 F9 (cvi (by (exact (idxC_no (fun j hj => hno j (by omega))).symm)) q32)


set_option maxHeartbeats 4000000 in
set_option maxRecDepth 100000 in
theorem mul64_fn (x : Int) (y : Int) (σ : GW)  (v0 v1 : Value) (hv0 : Ty.has (Ty.val (Value.int .u64 x)) σ v0) (hv1 : Ty.has (Ty.val (Value.int .u64 y)) σ v1)  (hx : 0 ≤ x ∧ x ≤ 4294967295) (hy : 0 ≤ y ∧ y ≤ 4294967295) (hxy : 0 ≤ x * y ∧ x * y ≤ 4294967295) :
    FnC Tryd.prog 84 #[v0, v1] σ (Ty.tup2 (Ty.val (Value.int .u64 (0 : Int))) (Ty.val (Value.int .u64 (x * y)))) := by
 refine fn_intro0 Tryd.func84 rfl Tryd.ntmps84 (Nat.le_of_ble_eq_true rfl) (fun s0 a0 hle F0 ok0 hargs => ?_)
 have p0 : At (Ty.val (Value.int .u64 x)) s0 a0 (.tmp 0) := by have e := hargs 0 _ rfl; show Ty.has _ _ _; rw [e]; exact Ty.up _ hle hv0
 have p1 : At (Ty.val (Value.int .u64 y)) s0 a0 (.tmp 1) := by have e := hargs 1 _ rfl; show Ty.has _ _ _; rw [e]; exact Ty.up _ hle hv1
 clear hargs; refine wp_seq ?_
 refine rg a0 s0 [(Ty.val (Value.int .u64 (0 : Int))), (Ty.val (Value.int .u64 (0 : Int)))] ok0 ⟨?_, ?_, trivial⟩ ?_
 · intro A B E G H; exact rP (y_assign rfl)
 · intro A B E G H d0; exact rP (y_assign rfl)
 intro a1 s1 D1; have ok1 := D1.ok; have F1 := F0.step0 D1.stp; have q1 := D1.kt p0 rfl; have q2 := D1.kt p1 rfl; clear D1; refine tn ?_; refine wp_seq ?_
 refine rg a1 s1 [(Ty.val (Value.int .u64 x)), (Ty.val (Value.int .u64 x)), (Ty.val (Value.int .u64 x))] ok1 ⟨?_, ?_, ?_, trivial⟩ ?_
 · intro A B E G H; exact rP (y_move (kp (H 0 rfl) E q1))
 · intro A B E G H d0; exact rP (y_maskN (ed d0 rfl rfl rfl) rfl (by omega) (by omega))
 · intro A B E G H d0 d1 d2; exact rP (y_assign (ed d0 rfl rfl rfl))
 intro a2 s2 D2; have ok2 := D2.ok; have F2 := F1.step0 D2.stp; have q3 := D2.kt q1 rfl; have q4 := D2.kt q2 rfl; have q5 := D2.dn 2 rfl rfl; clear D2; refine tn ?_; refine wp_seq ?_
 refine rg a2 s2 [(Ty.val (Value.int .u64 x)), (Ty.val (Value.int .u64 (0 : Int))), (Ty.val (Value.int .u64 (0 : Int)))] ok2 ⟨?_, ?_, ?_, trivial⟩ ?_
 · intro A B E G H; exact rP (y_move (kp (H 0 rfl) E q3))
 · intro A B E G H d0; exact rP (y_shr32 (ed d0 rfl rfl rfl) rfl (by omega) (by omega))
 · intro A B E G H d0 d1 d2; exact rP (y_assign (ed d0 rfl rfl rfl))
 intro a3 s3 D3; have ok3 := D3.ok; have F3 := F2.step0 D3.stp; have q6 := D3.kt q3 rfl; have q7 := D3.kt q4 rfl; have q8 := D3.kt q5 rfl; have q9 := D3.dn 2 rfl rfl; clear D3; refine tn ?_; refine wp_seq ?_
 refine rg a3 s3 [(Ty.val (Value.int .u64 y)), (Ty.val (Value.int .u64 y)), (Ty.val (Value.int .u64 y))] ok3 ⟨?_, ?_, ?_, trivial⟩ ?_
 · intro A B E G H; exact rP (y_move (kp (H 1 rfl) E q7))
 · intro A B E G H d0; exact rP (y_maskN (ed d0 rfl rfl rfl) rfl (by omega) (by omega))
 · intro A B E G H d0 d1 d2; exact rP (y_assign (ed d0 rfl rfl rfl))
 intro a4 s4 D4; have ok4 := D4.ok; have F4 := F3.step0 D4.stp; have q10 := D4.kt q6 rfl; have q11 := D4.kt q7 rfl; have q12 := D4.kt q8 rfl; have q13 := D4.kt q9 rfl; have q14 := D4.dn 2 rfl rfl; clear D4; refine tn ?_; refine wp_seq ?_
 refine rg a4 s4 [(Ty.val (Value.int .u64 y)), (Ty.val (Value.int .u64 (0 : Int))), (Ty.val (Value.int .u64 (0 : Int)))] ok4 ⟨?_, ?_, ?_, trivial⟩ ?_
 · intro A B E G H; exact rP (y_move (kp (H 1 rfl) E q11))
 · intro A B E G H d0; exact rP (y_shr32 (ed d0 rfl rfl rfl) rfl (by omega) (by omega))
 · intro A B E G H d0 d1 d2; exact rP (y_assign (ed d0 rfl rfl rfl))
 intro a5 s5 D5; have ok5 := D5.ok; have F5 := F4.step0 D5.stp; have q15 := D5.kt q10 rfl; have q16 := D5.kt q11 rfl; have q17 := D5.kt q12 rfl; have q18 := D5.kt q13 rfl; have q19 := D5.kt q14 rfl; have q20 := D5.dn 2 rfl rfl; clear D5; refine tn ?_; refine wp_seq ?_
 refine rg a5 s5 [(Ty.val (Value.int .u64 x)), (Ty.val (Value.int .u64 y)), (Ty.val (Value.int .u64 (x * y))), (Ty.val (Value.int .u64 (x * y)))] ok5 ⟨?_, ?_, ?_, ?_, trivial⟩ ?_
 · intro A B E G H; exact rP (y_move (kp (H 6 rfl) E q17))
 · intro A B E G H; exact rP (y_move (kp (H 8 rfl) E q19))
 · intro A B E G H d0 d1; exact rP (y_mul (ed d0 rfl rfl rfl) (ed d1 rfl rfl rfl) (wrap_u64 (by omega) (by omega)))
 · intro A B E G H d0 d1 d2 d3; exact rP (y_assign (ed d0 rfl rfl rfl))
 intro a6 s6 D6; have ok6 := D6.ok; have F6 := F5.step0 D6.stp; have q21 := D6.kt q15 rfl; have q22 := D6.kt q16 rfl; have q23 := D6.kt q17 rfl; have q24 := D6.kt q18 rfl; have q25 := D6.kt q19 rfl; have q26 := D6.kt q20 rfl; have q27 := D6.dn 3 rfl rfl; clear D6; refine tn ?_; refine wp_seq ?_
 refine rg a6 s6 [(Ty.val (Value.int .u64 (0 : Int))), (Ty.val (Value.int .u64 y)), (Ty.val (Value.int .u64 ((0 : Int) * y))), (Ty.val (Value.int .u64 (x * y))), (Ty.val (Value.int .u64 (0 : Int))), (Ty.val (Value.int .u64 (((0 : Int) * y) + (0 : Int)))), (Ty.val (Value.int .u64 (((0 : Int) * y) + (0 : Int))))] ok6 ⟨?_, ?_, ?_, ?_, ?_, ?_, ?_, trivial⟩ ?_
 · intro A B E G H; exact rP (y_move (kp (H 7 rfl) E q24))
 · intro A B E G H; exact rP (y_move (kp (H 8 rfl) E q25))
 · intro A B E G H d0 d1; exact rP (y_mul (ed d0 rfl rfl rfl) (ed d1 rfl rfl rfl) (wrap_u64 (by omega) (by omega)))
 · intro A B E G H; exact rP (y_move (kp (H 10 rfl) E q27))
 · intro A B E G H d0; exact rP (y_shr32 (ed d0 rfl rfl rfl) rfl (by omega) (by omega))
 · intro A B E G H d0 d1; exact rP (y_add (ed d0 rfl rfl rfl) (ed d1 rfl rfl rfl) (wrap_u64 (by omega) (by omega)))
 · intro A B E G H d0 d1 d2 d3 d4 d5 d6; exact rP (y_assign (ed d0 rfl rfl rfl))
 intro a7 s7 D7; have ok7 := D7.ok; have F7 := F6.step0 D7.stp; have q28 := D7.kt q21 rfl; have q29 := D7.kt q22 rfl; have q30 := D7.kt q23 rfl; have q31 := D7.kt q24 rfl; have q32 := D7.kt q26 rfl; have q33 := D7.dn 6 rfl rfl; clear D7; refine tn ?_; refine wp_seq ?_
 refine rg a7 s7 [(Ty.val (Value.int .u64 (((0 : Int) * y) + (0 : Int)))), (Ty.val (Value.int .u64 (((0 : Int) * y) + (0 : Int)))), (Ty.val (Value.int .u64 (((0 : Int) * y) + (0 : Int))))] ok7 ⟨?_, ?_, ?_, trivial⟩ ?_
 · intro A B E G H; exact rP (y_move (kp (H 11 rfl) E q33))
 · intro A B E G H d0; exact rP (y_maskN (ed d0 rfl rfl rfl) rfl (by omega) (by omega))
 · intro A B E G H d0 d1 d2; exact rP (y_assign (ed d0 rfl rfl rfl))
 intro a8 s8 D8; have ok8 := D8.ok; have F8 := F7.step0 D8.stp; have q34 := D8.kt q28 rfl; have q35 := D8.kt q29 rfl; have q36 := D8.kt q30 rfl; have q37 := D8.kt q31 rfl; have q38 := D8.kt q32 rfl; have q39 := D8.kt q33 rfl; have q40 := D8.dn 2 rfl rfl; clear D8; refine tn ?_; refine wp_seq ?_
 refine rg a8 s8 [(Ty.val (Value.int .u64 (((0 : Int) * y) + (0 : Int)))), (Ty.val (Value.int .u64 (0 : Int))), (Ty.val (Value.int .u64 (0 : Int)))] ok8 ⟨?_, ?_, ?_, trivial⟩ ?_
 · intro A B E G H; exact rP (y_move (kp (H 11 rfl) E q39))
 · intro A B E G H d0; exact rP (y_shr32 (ed d0 rfl rfl rfl) rfl (by omega) (by omega))
 · intro A B E G H d0 d1 d2; exact rP (y_assign (ed d0 rfl rfl rfl))
 intro a9 s9 D9; have ok9 := D9.ok; have F9 := F8.step0 D9.stp; have q41 := D9.kt q34 rfl; have q42 := D9.kt q35 rfl; have q43 := D9.kt q36 rfl; have q44 := D9.kt q37 rfl; have q45 := D9.kt q38 rfl; have q46 := D9.kt q40 rfl; have q47 := D9.dn 2 rfl rfl; clear D9; refine tn ?_; refine wp_seq ?_
 refine rg a9 s9 [(Ty.val (Value.int .u64 (((0 : Int) * y) + (0 : Int)))), (Ty.val (Value.int .u64 x)), (Ty.val (Value.int .u64 (0 : Int))), (Ty.val (Value.int .u64 (x * (0 : Int)))), (Ty.val (Value.int .u64 ((((0 : Int) * y) + (0 : Int)) + (x * (0 : Int))))), (Ty.val (Value.int .u64 ((((0 : Int) * y) + (0 : Int)) + (x * (0 : Int)))))] ok9 ⟨?_, ?_, ?_, ?_, ?_, ?_, trivial⟩ ?_
 · intro A B E G H; exact rP (y_move (kp (H 12 rfl) E q46))
 · intro A B E G H; exact rP (y_move (kp (H 6 rfl) E q43))
 · intro A B E G H; exact rP (y_move (kp (H 9 rfl) E q45))
 · intro A B E G H d0 d1; exact rP (y_mul (ed d0 rfl rfl rfl) (ed d1 rfl rfl rfl) (wrap_u64 (by omega) (by omega)))
 · intro A B E G H d0 d1; exact rP (y_add (ed d0 rfl rfl rfl) (ed d1 rfl rfl rfl) (wrap_u64 (by omega) (by omega)))
 · intro A B E G H d0 d1 d2 d3 d4 d5; exact rP (y_assign (ed d0 rfl rfl rfl))
 intro a10 s10 D10; have ok10 := D10.ok; have F10 := F9.step0 D10.stp; have q48 := D10.kt q41 rfl; have q49 := D10.kt q42 rfl; have q50 := D10.kt q44 rfl; have q51 := D10.kt q45 rfl; have q52 := D10.kt q47 rfl; have q53 := D10.dn 5 rfl rfl; clear D10; refine tn ?_; refine wp_seq ?_
 refine rg a10 s10 [(Ty.val (Value.int .u64 (0 : Int))), (Ty.val (Value.int .u64 (0 : Int))), (Ty.val (Value.int .u64 ((0 : Int) * (0 : Int)))), (Ty.val (Value.int .u64 (0 : Int))), (Ty.val (Value.int .u64 (((0 : Int) * (0 : Int)) + (0 : Int)))), (Ty.val (Value.int .u64 ((((0 : Int) * y) + (0 : Int)) + (x * (0 : Int))))), (Ty.val (Value.int .u64 (0 : Int))), (Ty.val (Value.int .u64 ((((0 : Int) * (0 : Int)) + (0 : Int)) + (0 : Int)))), (Ty.val (Value.int .u64 ((((0 : Int) * (0 : Int)) + (0 : Int)) + (0 : Int))))] ok10 ⟨?_, ?_, ?_, ?_, ?_, ?_, ?_, ?_, ?_, trivial⟩ ?_
 · intro A B E G H; exact rP (y_move (kp (H 7 rfl) E q50))
 · intro A B E G H; exact rP (y_move (kp (H 9 rfl) E q51))
 · intro A B E G H d0 d1; exact rP (y_mul (ed d0 rfl rfl rfl) (ed d1 rfl rfl rfl) (wrap_u64 (by omega) (by omega)))
 · intro A B E G H; exact rP (y_move (kp (H 13 rfl) E q52))
 · intro A B E G H d0 d1; exact rP (y_add (ed d0 rfl rfl rfl) (ed d1 rfl rfl rfl) (wrap_u64 (by omega) (by omega)))
 · intro A B E G H; exact rP (y_move (kp (H 12 rfl) E q53))
 · intro A B E G H d0; exact rP (y_shr32 (ed d0 rfl rfl rfl) rfl (by omega) (by omega))
 · intro A B E G H d0 d1; exact rP (y_add (ed d0 rfl rfl rfl) (ed d1 rfl rfl rfl) (wrap_u64 (by omega) (by omega)))
 · intro A B E G H d0 d1 d2 d3 d4 d5 d6 d7 d8; exact rP (y_assign (ed d0 rfl rfl rfl))
 intro a11 s11 D11; have ok11 := D11.ok; have F11 := F10.step0 D11.stp; have q54 := D11.kt q48 rfl; have q55 := D11.kt q49 rfl; have q56 := D11.dn 8 rfl rfl; clear D11; refine tn ?_; refine wp_seq ?_
 refine rg a11 s11 [(Ty.val (Value.int .u64 x)), (Ty.val (Value.int .u64 y)), (Ty.val (Value.int .u64 (x * y))), (Ty.val (Value.int .u64 (x * y)))] ok11 ⟨?_, ?_, ?_, ?_, trivial⟩ ?_
 · intro A B E G H; exact rP (y_move (kp (H 0 rfl) E q54))
 · intro A B E G H; exact rP (y_move (kp (H 1 rfl) E q55))
 · intro A B E G H d0 d1; exact rP (y_mul (ed d0 rfl rfl rfl) (ed d1 rfl rfl rfl) (wrap_u64 (by omega) (by omega)))
 · intro A B E G H d0 d1 d2 d3; exact rP (y_assign (ed d0 rfl rfl rfl))
 intro a12 s12 D12; have ok12 := D12.ok; have F12 := F11.step0 D12.stp; have q57 := D12.kt q56 rfl; have q58 := D12.dn 3 rfl rfl; clear D12; refine tn ?_; refine wp_ret ?_
 exact retL2 rfl ok12 F12 (hasT2 (cvi (by (first | rfl | omega | simp)) q57) q58)


set_option maxHeartbeats 4000000 in
set_option maxRecDepth 100000 in
theorem mulBits_fn (x : Int) (y : Int) (σ : GW)  (v0 v1 : Value) (hv0 : Ty.has (Ty.val (Value.int .u64 x)) σ v0) (hv1 : Ty.has (Ty.val (Value.int .u64 y)) σ v1)  (hx : 0 ≤ x ∧ x ≤ 4294967295) (hy : 0 ≤ y ∧ y ≤ 4294967295) (hxy : 0 ≤ x * y ∧ x * y ≤ 4294967295) :
    FnC Tryd.prog 77 #[v0, v1] σ (Ty.tup2 (Ty.val (Value.int .u64 (0 : Int))) (Ty.val (Value.int .u64 (x * y)))) := by
 refine fn_intro0 Tryd.func77 rfl Tryd.ntmps77 (Nat.le_of_ble_eq_true rfl) (fun s0 a0 hle F0 ok0 hargs => ?_)
 have p0 : At (Ty.val (Value.int .u64 x)) s0 a0 (.tmp 0) := by have e := hargs 0 _ rfl; show Ty.has _ _ _; rw [e]; exact Ty.up _ hle hv0
 have p1 : At (Ty.val (Value.int .u64 y)) s0 a0 (.tmp 1) := by have e := hargs 1 _ rfl; show Ty.has _ _ _; rw [e]; exact Ty.up _ hle hv1
 clear hargs; refine wp_seq ?_
 refine rg a0 s0 [(Ty.val (Value.int .u64 (0 : Int))), (Ty.val (Value.int .u64 (0 : Int)))] ok0 ⟨?_, ?_, trivial⟩ ?_
 · intro A B E G H; exact rP (y_assign rfl)
 · intro A B E G H d0; exact rP (y_assign rfl)
 intro a1 s1 D1; have ok1 := D1.ok; have F1 := F0.step0 D1.stp; have q1 := D1.kt p0 rfl; have q2 := D1.kt p1 rfl; clear D1; refine tn ?_; refine wp_seq ?_
 refine cond_t (show At (Ty.bool false) s1 a1 ((Operand.const (Value.bool false))) from rfl) (fun c1 => (by cases c1)) (fun _ => ?_)
 refine wp_skip ?_; refine tn ?_; refine wp_seq ?_
 refine rg a1 s1 [(Ty.val (Value.int .u64 x)), (Ty.val (Value.int .u64 y)), (Ty.tup2 (Ty.val (Value.int .u64 (0 : Int))) (Ty.val (Value.int .u64 (x * y)))), (Ty.tup2 (Ty.val (Value.int .u64 (0 : Int))) (Ty.val (Value.int .u64 (x * y)))), (Ty.val (Value.int .u64 (0 : Int))), (Ty.val (Value.int .u64 (x * y))), (Ty.val (Value.int .u64 (0 : Int))), (Ty.val (Value.int .u64 (x * y)))] ok1 ⟨?_, ?_, ?_, ?_, ?_, ?_, ?_, ?_, trivial⟩ ?_
 · intro A B E G H; exact rP (y_move (kp (H 0 rfl) E q1))
 · intro A B E G H; exact rP (y_move (kp (H 1 rfl) E q2))
 · intro A B E G H d0 d1; exact rP (y_call #[A.eval (.tmp 23), A.eval (.tmp 24)] Tryd.func84 rfl rfl (by simp only [List.map_toArray, List.map_cons, List.map_nil]) (mul64_fn (x) (y) _ _ _ (ed d0 rfl rfl rfl) (ed d1 rfl rfl rfl) (by omega) (by omega) (by omega)))
 · intro A B E G H d0; exact rP (y_move (ed d0 rfl rfl rfl))
 · intro A B E G H d0; exact rP (y_ext2_0 (ed d0 rfl rfl rfl))
 · intro A B E G H d0 d1; exact rP (y_ext2_1 (ed d0 rfl rfl rfl))
 · intro A B E G H d0 d1 d2 d3 d4 d5 d6 d7; exact rP (y_assign (ed d0 rfl rfl rfl))
 · intro A B E G H d0 d1 d2 d3 d4 d5 d6 d7 d8; exact rP (y_assign (ed d0 rfl rfl rfl))
 intro a2 s2 D2; have ok2 := D2.ok; have F2 := F1.step0 D2.stp; have q3 := D2.dn 6 rfl rfl; have q4 := D2.dn 7 rfl rfl; clear D2; refine tn ?_; refine wp_seq ?_
 refine rg a2 s2 [(Ty.val (Value.int .u64 (0 : Int))), (Ty.val (Value.int .u64 (x * y))), (Ty.val (Value.int .u64 (0 : Int))), (Ty.val (Value.int .u64 (x * y)))] ok2 ⟨?_, ?_, ?_, ?_, trivial⟩ ?_
 · intro A B E G H; exact rP (y_move (kp (H 8 rfl) E q3))
 · intro A B E G H d0; exact rP (y_move (kp (H 9 rfl) E q4))
 · intro A B E G H d0 d1 d2; exact rP (y_assign (ed d0 rfl rfl rfl))
 · intro A B E G H d0 d1 d2 d3 d4; exact rP (y_assign (ed d0 rfl rfl rfl))
 intro a3 s3 D3; have ok3 := D3.ok; have F3 := F2.step0 D3.stp; have q5 := D3.dn 2 rfl rfl; have q6 := D3.dn 3 rfl rfl; clear D3; refine tn ?_; refine wp_ret ?_
 exact retL2 rfl ok3 F3 (hasT2 q5 q6)


set_option maxHeartbeats 4000000 in
set_option maxRecDepth 100000 in
theorem repeat_fn (one : List Int) (c : Nat) (σ : GW)  (v0 v1 : Value) (hv0 : Ty.has (Ty.lst Ty.int one) σ v0) (hv1 : Ty.has (Ty.nat c) σ v1)  (h1 : 1 ≤ one.length) (hc : 1 ≤ c) (hm : one.length * c ≤ 4000) :
    FnC Tryd.prog 70 #[v0, v1] σ (Ty.lst Ty.int (repL c one)) := by
 have hl4 : one.length ≤ one.length * c := Nat.le_mul_of_pos_right _ (by omega)
 have hc4 : c ≤ one.length * c := Nat.le_mul_of_pos_left _ (by omega)
 have hmi : ((one.length : Nat) : Int) * ((c : Nat) : Int) = ((one.length * c : Nat) : Int) := (Int.natCast_mul _ _).symm
 refine fn_intro0 Tryd.func70 rfl Tryd.ntmps70 (Nat.le_of_ble_eq_true rfl) (fun s0 a0 hle F0 ok0 hargs => ?_)
 have p0 : At (Ty.lst Ty.int one) s0 a0 (.tmp 0) := by have e := hargs 0 _ rfl; show Ty.has _ _ _; rw [e]; exact Ty.up _ hle hv0
 have b1 := sl_le p0
 have p1 : At (Ty.nat c) s0 a0 (.tmp 1) := by have e := hargs 1 _ rfl; show Ty.has _ _ _; rw [e]; exact Ty.up _ hle hv1
 clear hargs; refine wp_seq ?_
 refine rg a0 s0 [(Ty.val (Value.slice none 0 0))] ok0 ⟨?_, trivial⟩ ?_
 · intro A B E G H; exact rP (y_assign rfl)
 intro a1 s1 D1; have ok1 := D1.ok; have F1 := F0.step0 D1.stp; have q1 := D1.kt p0 rfl; have q2 := D1.kt p1 rfl; clear D1; refine tn ?_; refine wp_seq ?_; refine wp_seq ?_
 refine rg a1 s1 [(Ty.nat c), (Ty.bool (decide (((c : Nat) : Int) < (0 : Int))))] ok1 ⟨?_, ?_, trivial⟩ ?_
 · intro A B E G H; exact rP (y_move (kp (H 1 rfl) E q2))
 · intro A B E G H d0; exact rP (y_lss (ed d0 rfl rfl rfl) rfl)
 intro a2 s2 D2; have ok2 := D2.ok; have F2 := F1.step0 D2.stp; have q3 := D2.kt q1 rfl; have q4 := D2.kt q2 rfl; have q5 := D2.dn 1 rfl rfl; clear D2; refine tn ?_
 refine cond_p (p := (((c : Nat) : Int) < (0 : Int))) q5 (fun c1 => ?_) (fun c1 => ?_)
 ·
  exfalso
  omega
 ·
  refine wp_skip ?_; refine tn ?_; refine wp_seq ?_
  refine rg a2 s2 [(Ty.lst Ty.int one), (Ty.nat (List.length one)), (Ty.val (Value.int .u64 (((List.length one) : Nat) : Int))), (Ty.nat c), (Ty.val (Value.int .u64 ((c : Nat) : Int))), (Ty.tup2 (Ty.val (Value.int .u64 (0 : Int))) (Ty.val (Value.int .u64 (((((List.length one) : Nat) : Int)) * (((c : Nat) : Int)))))), (Ty.tup2 (Ty.val (Value.int .u64 (0 : Int))) (Ty.val (Value.int .u64 (((((List.length one) : Nat) : Int)) * (((c : Nat) : Int)))))), (Ty.val (Value.int .u64 (0 : Int))), (Ty.val (Value.int .u64 (((((List.length one) : Nat) : Int)) * (((c : Nat) : Int))))), (Ty.val (Value.int .u64 (0 : Int))), (Ty.val (Value.int .u64 (((((List.length one) : Nat) : Int)) * (((c : Nat) : Int)))))] ok2 ⟨?_, ?_, ?_, ?_, ?_, ?_, ?_, ?_, ?_, ?_, ?_, trivial⟩ ?_
  · intro A B E G H; exact rP (y_move (kp (H 0 rfl) E q3))
  · intro A B E G H d0; exact rP (y_len Tryd.underlying26 (ed d0 rfl rfl rfl))
  · intro A B E G H d0; exact rP (y_conv Tryd.underlying103 (ed d0 rfl rfl rfl) (by exact wrap_u64 (by omega) (by omega)) (by rw [Tryd.underlying3]; rfl))
  · intro A B E G H; exact rP (y_move (kp (H 1 rfl) E q4))
  · intro A B E G H d0; exact rP (y_conv Tryd.underlying103 (ed d0 rfl rfl rfl) (by exact wrap_u64 (by omega) (by omega)) (by rw [Tryd.underlying3]; rfl))
  · intro A B E G H d0 d1; exact rP (y_call #[A.eval (.tmp 15), A.eval (.tmp 17)] Tryd.func77 rfl rfl (by simp only [List.map_toArray, List.map_cons, List.map_nil]) (mulBits_fn ((((List.length one) : Nat) : Int)) (((c : Nat) : Int)) _ _ _ (cvi (σ := B) (by first | omega | assumption) (ed d0 rfl rfl rfl)) (cvi (σ := B) (by first | omega | assumption) (ed d1 rfl rfl rfl)) (by first | omega | assumption) (by first | omega | assumption) (by first | omega | assumption)))
  · intro A B E G H d0; exact rP (y_move (ed d0 rfl rfl rfl))
  · intro A B E G H d0; exact rP (y_ext2_0 (ed d0 rfl rfl rfl))
  · intro A B E G H d0 d1; exact rP (y_ext2_1 (ed d0 rfl rfl rfl))
  · intro A B E G H d0 d1 d2 d3 d4 d5 d6 d7 d8 d9 d10; exact rP (y_assign (ed d0 rfl rfl rfl))
  · intro A B E G H d0 d1 d2 d3 d4 d5 d6 d7 d8 d9 d10 d11; exact rP (y_assign (ed d0 rfl rfl rfl))
  intro a3 s3 D3; have ok3 := D3.ok; have F3 := F2.step0 D3.stp; have q6 := D3.kt q3 rfl; have q7 := D3.dn 9 rfl rfl; have q8 := D3.dn 10 rfl rfl; clear D3
  have q9 : At (Ty.val (Value.int .u64 ((one.length * c : Nat) : Int))) s3 a3 (.tmp 6) := (cvi (by (rw [hmi])) q8)
  refine tn ?_; refine wp_seq ?_; refine wp_seq ?_
  refine rg a3 s3 [(Ty.val (Value.int .u64 (0 : Int))), (Ty.bool false), (Ty.bool false), (Ty.grd (false = false) (Ty.val (Value.int .u64 ((one.length * c : Nat) : Int)))), (Ty.grd (false = false) (Ty.bool (decide ((9223372036854775807 : Int) < ((one.length * c : Nat) : Int))))), (Ty.bool (false || (decide ((9223372036854775807 : Int) < ((one.length * c : Nat) : Int)))))] ok3 ⟨?_, ?_, ?_, ?_, ?_, ?_, trivial⟩ ?_
  · intro A B E G H; exact rP (y_move (kp (H 5 rfl) E q7))
  · intro A B E G H d0; exact rP ((y_gtr (ed d0 rfl rfl rfl) rfl).mono (fun τ _ h => cvb (σ := τ) (by decide) h))
  · intro A B E G H d0; exact rP (y_move (ed d0 rfl rfl rfl))
  · intro A B E G H d0
    refine run_guard G rfl rfl (by decide) (ed d0 rfl rfl rfl) (fun hg => ?_)
    exact y_move (kp (H 6 rfl) E q9)
  · intro A B E G H d0 d1
    refine run_guard G rfl rfl (by decide) (ed d1 rfl rfl rfl) (fun hg => ?_)
    exact y_gtr ((ed d0 rfl rfl rfl).1 hg) rfl
  · intro A B E G H d0 d1; exact rP (y_pick_or (ed d0 rfl rfl rfl) rfl (ed d1 rfl rfl rfl))
  intro a4 s4 D4; have ok4 := D4.ok; have F4 := F3.step0 D4.stp; have q10 := D4.kt q6 rfl; have q11 := D4.kt q9 rfl; have q12 := D4.dn 5 rfl rfl; clear D4; refine tn ?_
  refine cond_t q12 (fun c2 => ?_) (fun c2 => ?_)
  ·
   exfalso
   simp at c2; omega
  ·
   obtain ⟨d1, d2⟩ := Bool.or_eq_false_iff.mp c2
   replace d2 := of_decide_eq_false d2
   refine wp_skip ?_; refine tn ?_; refine wp_seq ?_
   refine reg2 (a := a4) (σ := s4) rfl 3 (fun i_ => List.getD [(Ty.pr (Ty.val (Value.int .u64 ((one.length * c : Nat) : Int)))), (Ty.pr (Ty.int ((one.length * c : Nat) : Int))), (Pr.own 5 3 1 (one.length * c) (List.map Ty.int (List.replicate (one.length * c) 0)))] i_ Pr.any) ok4 rfl (by decide) rfl ⟨?_, ?_, ?_, trivial⟩ ?_
   · intro A B E G H; exact rP (y_move (kp (H 6 rfl) E q11))
   · intro A B E G H d0; exact rP (y_conv Tryd.underlying3 (ed d0 rfl rfl rfl) (by exact w64 (by omega) (by omega)) (by rw [Tryd.underlying103]; rfl))
   · intro A B E G H d0 d1
     have e1 := ed d0 rfl rfl rfl
     exact rP ((y_make (k := 5) (T := Ty.int 0) (n := (one.length * c)) Tryd.underlying26 Tryd.inf3 rfl (fun _ => rfl) e1 e1 (by omega) (by omega)).mono (fun _ _ h => cvo (by simp) (by simp) h))
   intro a5 s5 D5; have ok5 := D5.ok; have F5 := F4.step0 D5.stp; have q13 := D5.kt q10 rfl
   obtain ⟨x1, hx1⟩ : ∃ x, a5.eval (.tmp 30) = x := ⟨_, rfl⟩
   have q14 : At (Ty.val x1) s5 a5 (.tmp 30) := hx1
   have o1 : Own s5 5 3 1 x1 (one.length * c) (List.map Ty.int (List.replicate (one.length * c) 0)) := al2 (R := (Pr.own 5 3 1 (one.length * c) (List.map Ty.int (List.replicate (one.length * c) 0)))) hx1 (D5.done 2 (by decide))
   clear D5
   refine tailL (L := []) (R := (fun v τ => Pr.has (Ty.pr (Ty.val x1)) τ v)) rfl rfl (by decide) ok5 (Yld.toL (y_assign q14)) (fun a6 s6 hs1 ok6 r1 sm1 => ?_)
   have F6 := F5.stepL hs1 (by decide); have q15 := kpL hs1 (by decide) (sm1 0 (by decide)) q13; have o2 := Own.keepL o1 hs1 (by decide) (by decide)
   have q16 : At (Ty.val x1) s6 a6 (.tmp 7) := r1
   clear r1; refine wpList_nil ?_; refine tn ?_; refine wp_seq ?_
   refine reg2 (a := a6) (σ := s6) rfl 2 (fun i_ => List.getD [(Ty.pr (Ty.val x1)), (Ty.pr (Ty.lst Ty.int one))] i_ Pr.any) ok6 rfl (by decide) rfl ⟨?_, ?_, trivial⟩ ?_
   · intro A B E G H; exact rP (y_move (kp (H 7 rfl) E q16))
   · intro A B E G H; exact rP (y_move (kp (H 0 rfl) E q15))
   intro a7 s7 D6; have ok7 := D6.ok; have F7 := F6.step0 D6.stp; have q17 := D6.kt q16 rfl; have o3 := Own.k0 o2 D6.stp
   have q18 : At (Ty.val x1) s7 a7 (.tmp 31) := D6.done 0 (by decide)
   have q19 := D6.dn 1 (by decide) rfl rfl; clear D6
   refine tailL (L := [5]) (R := (fun v τ => Pr.has (Pr.cpd 5 3 (one.length * c) x1 (List.length one) ((List.map Ty.int one) ++ (List.map Ty.int (List.replicate (one.length * c) 0)).drop (List.length one))) τ v)) rfl rfl (by decide) ok7 (YldM.toL (m_copyF Tryd.underlying26 Tryd.inf3 (by decide) o3 q18 q19 (one_map (fun _ => one_val rfl)) (by omega) (by omega))) (fun a8 s8 hs2 ok8 r2 sm2 => ?_)
   have F8 := F7.stepL hs2 (by decide); have q20 := kpL hs2 (by decide) (sm2 7 (by decide)) q17
   have q21 : At (Ty.nat (List.length one)) s8 a8 (.tmp 33) := (r2).1
   have o4 : Own s8 5 3 1 x1 (one.length * c) (List.map Ty.int (one ++ (List.replicate (one.length * c) 0).drop (List.length one))) := cvo rfl (by simp only [List.map_append, List.map_take, List.map_drop]) (r2).2
   clear r2
   refine tailL (L := []) (R := (fun v τ => Pr.has (Ty.pr (Ty.nat (List.length one))) τ v)) rfl rfl (by decide) ok8 (Yld.toL (y_assign q21)) (fun a9 s9 hs3 ok9 r3 sm3 => ?_)
   have F9 := F8.stepL hs3 (by decide); have q22 := kpL hs3 (by decide) (sm3 7 (by decide)) q20; have o5 := Own.keepL o4 hs3 (by decide) (by decide)
   have q23 : At (Ty.nat (List.length one)) s9 a9 (.tmp 8) := r3
   clear r3; refine wpList_nil ?_
   have o6 : Own s9 5 3 1 x1 (one.length * c) (List.map Ty.int (repZ one c 1)) := (cvo (by (first | rfl | rw [repZ_one hc])) (by (first | rfl | rw [repZ_one hc])) o5)
   refine tn ?_; refine wp_seq ?_; refine wp_block ?_
   refine loop (fun n1 a10 w1 => ∃ (t1 : GW) (q : Nat) (x7_0 : Value), t1.w = w1 ∧ FromL [] s0 t1 ∧ Ok 48 a10 ∧ At (Ty.nat (q * one.length)) t1 a10 (.tmp 8) ∧ At (Ty.val x7_0) t1 a10 (.tmp 7) ∧ Own t1 5 3 1 x7_0 (one.length * c) (List.map Ty.int (repZ one c q)) ∧ (1 ≤ q ∧ q ≤ c) ∧ n1 = c - q) (c - (1)) ?_ ?_
   ·
    exact ⟨s9, 1, x1, rfl, F9, ok9, (cvi (by (rw [Nat.one_mul])) q23), q22, (cvo (by (simp)) (by (simp)) o6), by omega, rfl⟩
   ·
    rintro n2 a11 w2 ⟨t2, q, x7_0, rfl, F10, ok10, q24, q25, o7, hq, rfl⟩
    refine wp_seq ?_; refine wp_seq ?_
    refine reg (a := a11) (σ := t2) rfl (fun i_ => List.getD [(Ty.pr (Ty.nat (q * one.length))), (Ty.pr (Ty.val x7_0)), (Ty.pr (Ty.nat (one.length * c))), (Ty.pr (Ty.bool (decide ((((q * one.length) : Nat) : Int) < (((one.length * c) : Nat) : Int)))))] i_ Pr.any) ok10 rfl ⟨?_, ?_, ?_, ?_, trivial⟩ ?_
    · intro A B E G H; exact rP (y_move (kp (H 8 rfl) E q24))
    · intro A B E G H; exact rP (y_move (kp (H 7 rfl) E q25))
    · intro A B E G H d0; exact rP (own_len Tryd.underlying26 (al (R := (Pr.own 5 3 1 (one.length * c) (List.map Ty.int (repZ one c q)))) (ed d0 rfl rfl rfl) (Own.k0 o7 E)))
    · intro A B E G H d0 d1; exact rP (y_lss (ed d0 rfl rfl rfl) (ed d1 rfl rfl rfl))
    intro a12 s10 D7; have ok11 := D7.ok; have F11 := F10.step0 D7.stp; have q26 := D7.kt q24 rfl; have q27 := D7.kt q25 rfl; have o8 := Own.k0 o7 D7.stp; have q28 := D7.dn 3 rfl rfl; clear D7; refine tn ?_
    refine cond_p (p := ((((q * one.length) : Nat) : Int) < (((one.length * c) : Nat) : Int))) q28 (fun c3 => ?_) (fun c3 => ?_)
    ·
     have hqc : q < c := (by by_cases h_ : q = c; (rw [h_, Nat.mul_comm c one.length] at c3; omega); omega); have hq1 : 0 < q * one.length := Nat.mul_pos (by omega) (by omega); have hq2 : (q + min q (c - q)) * one.length = q * one.length + min (q * one.length) (one.length * c - q * one.length) := repZ_cnt (by omega)
     refine wp_skip ?_; refine tn ?_; refine wp_block ?_
     have fm1 : SlForm x7_0 (one.length * c) := Own.form o8
     refine reg3 (a := a12) (σ := s10) rfl 8 7 45 [5] (by decide) (Pr.cpd 5 3 (one.length * c) x7_0 (min (q * one.length) ((one.length * c) - (q * one.length))) ((List.map Ty.int (repZ one c q)).take (q * one.length) ++ (List.map Ty.int (repZ one c q)).take (min (q * one.length) ((one.length * c) - (q * one.length))) ++ (List.map Ty.int (repZ one c q)).drop ((q * one.length) + (min (q * one.length) ((one.length * c) - (q * one.length)))))) (fun i_ => List.getD [(Ty.nat (q * one.length)), (Ty.val x7_0), (Ty.nat (q * one.length)), (Ty.val (sufOf x7_0 (q * one.length))), (Ty.val x7_0), (Ty.nat (q * one.length)), (Ty.val (preOf x7_0 (q * one.length))), Ty.any] i_ Ty.any) ok11 rfl (by decide) rfl (by decide) rfl (fun _ _ => trivial) rfl ⟨?_, ?_, ?_, ?_, ?_, ?_, ?_, ?_, trivial⟩ ?_
     · refine obR3 (by decide) ?_
       intro A B E G H
       exact rP (y_move (kpL E (by decide) (H 8 rfl) q26))
     · refine obR3 (by decide) ?_
       intro A B E G H
       exact rP (y_move (kpL E (by decide) (H 7 rfl) q27))
     · refine obR3 (by decide) ?_
       intro A B E G H
       exact rP (y_move (kpL E (by decide) (H 8 rfl) q26))
     · refine obR3 (by decide) ?_
       intro A B E G H d0 d1
       have e1 : At (Ty.val x7_0) B A (.tmp 39) := d0 rfl
       have e2 : At (Ty.nat (q * one.length)) B A (.tmp 40) := d1 rfl
       exact rP (y_sufF (j := (q * one.length)) Tryd.underlying26 Tryd.inf3 fm1 e1 e2 (by omega))
     · refine obR3 (by decide) ?_
       intro A B E G H
       exact rP (y_move (kpL E (by decide) (H 7 rfl) q27))
     · refine obR3 (by decide) ?_
       intro A B E G H
       exact rP (y_move (kpL E (by decide) (H 8 rfl) q26))
     · refine obR3 (by decide) ?_
       intro A B E G H d0 d1
       have e4 : At (Ty.val x7_0) B A (.tmp 42) := d0 rfl
       have e5 : At (Ty.nat (q * one.length)) B A (.tmp 43) := d1 rfl
       exact rP (y_preF (i := (q * one.length)) Tryd.underlying26 Tryd.inf3 fm1 e4 e5 (by omega))
     · refine obR3w rfl ?_
       intro A B E G H d0 d1
       have e3 : At (Ty.val (sufOf x7_0 (q * one.length))) B A (.tmp 41) := d0 rfl
       have e6 : At (Ty.val (preOf x7_0 (q * one.length))) B A (.tmp 44) := d1 rfl
       exact YldM.toL (m_copyS (j := (q * one.length)) Tryd.underlying26 Tryd.inf3 (by decide) (Own.k0 o8 E) e3 e6 (one_map (fun _ => one_val rfl)) (by omega) (by omega))
     intro a13 s11 D8; have ok12 := D8.ok; have F12 := F11.stepL D8.stp (by decide)
     have q29 : At (Ty.nat (q * one.length)) s11 a13 (.tmp 8) := D8.kt (by decide) q26 rfl
     have q30 : At (Ty.val x7_0) s11 a13 (.tmp 7) := D8.kt (by decide) q27 rfl
     have q31 : At (Ty.nat (q * one.length)) s11 a13 (.tmp 38) := D8.done 0 (by decide)
     have q32 : At (Ty.nat (min (q * one.length) ((one.length * c) - (q * one.length)))) s11 a13 (.tmp 45) := (D8.donep).1
     have o9 : Own s11 5 3 1 x7_0 (one.length * c) (List.map Ty.int ((repZ one c q).take (q * one.length) ++ (repZ one c q).take (min (q * one.length) ((one.length * c) - (q * one.length))) ++ (repZ one c q).drop ((q * one.length) + (min (q * one.length) ((one.length * c) - (q * one.length)))))) := cvo rfl (by simp only [List.map_append, List.map_take, List.map_drop]) (D8.donep).2
     clear D8
     refine tailL (L := []) (R := (fun v τ => Pr.has (Ty.pr (Ty.nat ((q * one.length) + (min (q * one.length) ((one.length * c) - (q * one.length)))))) τ v)) rfl rfl (by decide) ok12 (Yld.toL ((y_add q31 q32 (w64 (by omega) (by omega))).mono (fun τ _ h => cvi (σ := τ) (by first | omega | exact (Int.natCast_mul _ _).symm) h))) (fun a14 s12 hs4 ok13 r4 sm4 => ?_)
     have F13 := F12.stepL hs4 (by decide); have q33 := kpL hs4 (by decide) (sm4 8 (by decide)) q29; have q34 := kpL hs4 (by decide) (sm4 7 (by decide)) q30; have o10 := Own.keepL o9 hs4 (by decide) (by decide)
     have q35 : At (Ty.nat ((q * one.length) + (min (q * one.length) ((one.length * c) - (q * one.length))))) s12 a14 (.tmp 46) := r4
     clear r4
     refine tailL (L := []) (R := (fun v τ => Pr.has (Ty.pr (Ty.nat ((q * one.length) + (min (q * one.length) ((one.length * c) - (q * one.length)))))) τ v)) rfl rfl (by decide) ok13 (Yld.toL (y_assign q35)) (fun a15 s13 hs5 ok14 r5 sm5 => ?_)
     have F14 := F13.stepL hs5 (by decide); have q36 := kpL hs5 (by decide) (sm5 7 (by decide)) q34; have o11 := Own.keepL o10 hs5 (by decide) (by decide)
     have q37 : At (Ty.nat ((q * one.length) + (min (q * one.length) ((one.length * c) - (q * one.length))))) s13 a15 (.tmp 8) := r5
     clear r5; refine wpList_nil ?_; refine bn ?_
     exact tn ⟨c - ((q + min q (c - q))), by omega, s13, (q + min q (c - q)), x7_0, rfl, F14, ok14, (cvi (by (rw [hq2])) q37), q36, (cvo (by (first | rfl | rw [repZ_step (by omega)])) (by (first | rfl | rw [repZ_step (by omega)])) o11), by omega, rfl⟩
    ·
     have hqc : q = c := repZ_end h1 (by omega) (by omega)
     refine wp_exit ?_; refine tx ?_; refine tx ?_; refine bx ?_; refine tn ?_; refine wp_seq ?_
     refine rg a12 s10 [(Ty.val x7_0), (Ty.val x7_0)] ok11 ⟨?_, ?_, trivial⟩ ?_
     · intro A B E G H; exact rP (y_move (kp (H 7 rfl) E q27))
     · intro A B E G H d0 d1; exact rP (y_assign (ed d0 rfl rfl rfl))
     intro a16 s14 D9; have ok15 := D9.ok; have F15 := F11.step0 D9.stp; have o12 := Own.k0 o8 D9.stp
     have q38 : At (Ty.val x7_0) s14 a16 (.tmp 4) := D9.done 1
     clear D9; refine tn ?_; refine wp_ret ?_
     obtain ⟨t3, e1, h1, q39⟩ := Own.seal o12 (by decide)
     rw [← e1]
     have F16 := F15.step h1 (by decide)
     have q40 : At (Ty.sl 1 (one.length * c) (List.map Ty.int (repZ one c q))) t3 a16 (.tmp 4) := by have e : a16.eval (.tmp 4) = x7_0 := q38; show Ty.has _ _ _; rw [e]; exact q39
     exact retL1 rfl ok15 F16 (cvt (by (rw [hqc, repZ_all, Nat.mul_comm one.length c, ← repL_len c one])) q40)


end Go.Proofs.YtbilebfnanlgfaaDoor
