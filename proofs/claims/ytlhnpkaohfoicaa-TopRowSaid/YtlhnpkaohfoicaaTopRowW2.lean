/- The functions that the law TopRow reaches, each by its contract. Part 2. -/
import Derived.Test.YtlhnpkaohfoicaaTopRowW1
namespace Go.Proofs.Ytlhnpkaohfoicaa
open Go.KL

set_option maxHeartbeats 4000000 in
set_option maxRecDepth 100000 in
theorem idxRune_fn (r : Int) (σ : GW)  (v0 v1 : Value) (hv0 : Ty.has (Ty.val (Value.string SIGNS)) σ v0) (hv1 : Ty.has (Ty.val (Value.int .i32 r)) σ v1)  (hr : -2147483648 ≤ r ∧ r ≤ 2147483647) :
    FnC Try.prog 119 #[v0, v1] σ (Ty.int (signIdx r)) := by
 have hsz := signs_size
 refine fn_intro0 Try.func119 rfl Try.ntmps119 (Nat.le_of_ble_eq_true rfl) (fun s0 a0 hle F0 ok0 hargs => ?_)
 have p0 : At (Ty.val (Value.string SIGNS)) s0 a0 (.tmp 0) := by have e := hargs 0 _ rfl; show Ty.has _ _ _; rw [e]; exact Ty.up _ hle hv0
 have p1 : At (Ty.val (Value.int .i32 r)) s0 a0 (.tmp 1) := by have e := hargs 1 _ rfl; show Ty.has _ _ _; rw [e]; exact Ty.up _ hle hv1
 clear hargs
 refine wp_seq ?_
 refine reg (a := a0) (σ := s0) rfl (fun i_ => List.getD [(Ty.pr (Ty.int (0 : Int)))] i_ Pr.any) ok0 rfl ⟨?_, trivial⟩ ?_
 · intro ax tx hs okx sm
   exact run_plain rfl (y_assign rfl)
 intro a1 s1 D1
 have ok1 := D1.ok
 have F1 := F0.step0 D1.stp
 have q1 : At (Ty.val (Value.string SIGNS)) s1 a1 (.tmp 0) := D1.kt p0 rfl
 have q2 : At (Ty.val (Value.int .i32 r)) s1 a1 (.tmp 1) := D1.kt p1 rfl
 clear D1
 refine tn ?_
 refine wp_block ?_
 refine wp_seq ?_
 refine reg (a := a1) (σ := s1) rfl (fun i_ => List.getD [(Ty.pr (Ty.val (Value.int .i32 r))), (Ty.pr (Ty.bool (decide ((0 : Int) ≤ r)))), (Ty.pr (Ty.bool (decide ((0 : Int) ≤ r)))), (Ty.pr (Ty.grd ((decide ((0 : Int) ≤ r)) = true) (Ty.val (Value.int .i32 r)))), (Ty.pr (Ty.grd ((decide ((0 : Int) ≤ r)) = true) (Ty.bool (decide (r < (128 : Int)))))), (Ty.pr (Ty.bool ((decide ((0 : Int) ≤ r)) && (decide (r < (128 : Int)))))), (Ty.pr (Ty.bool ((decide ((0 : Int) ≤ r)) && (decide (r < (128 : Int))))))] i_ Pr.any) ok1 rfl ⟨?_, ?_, ?_, ?_, ?_, ?_, ?_, trivial⟩ ?_
 · intro ax tx hs okx sm
   exact run_plain rfl (y_move (kp (sm 1 rfl) hs q2))
 · intro ax tx hs okx sm d0
   have e0 : At (Ty.val (Value.int .i32 r)) tx ax (.tmp 161) := d0 rfl
   exact run_plain rfl (y_leq rfl e0)
 · intro ax tx hs okx sm d0
   have e1 : At (Ty.bool (decide ((0 : Int) ≤ r))) tx ax (.tmp 162) := d0 rfl
   exact run_plain rfl (y_move e1)
 · intro ax tx hs okx sm d0
   have e2 : At (Ty.bool (decide ((0 : Int) ≤ r))) tx ax (.tmp 163) := d0 rfl
   refine run_guard (T := (Ty.val (Value.int .i32 r))) okx rfl rfl (by decide) e2 (fun hg => ?_)
   have hp := of_decide_eq_true hg
   exact y_move (kp (sm 1 rfl) hs q2)
 · intro ax tx hs okx sm d0 d1
   have e3 : At (Ty.grd ((decide ((0 : Int) ≤ r)) = true) (Ty.val (Value.int .i32 r))) tx ax (.tmp 164) := d0 rfl
   have e2 : At (Ty.bool (decide ((0 : Int) ≤ r))) tx ax (.tmp 163) := d1 rfl
   refine run_guard (T := (Ty.bool (decide (r < (128 : Int))))) okx rfl rfl (by decide) e2 (fun hg => ?_)
   have hp := of_decide_eq_true hg
   exact y_lss (e3.1 hg) rfl
 · intro ax tx hs okx sm d0 d1
   have e2 : At (Ty.bool (decide ((0 : Int) ≤ r))) tx ax (.tmp 163) := d0 rfl
   have e4 : At (Ty.grd ((decide ((0 : Int) ≤ r)) = true) (Ty.bool (decide (r < (128 : Int))))) tx ax (.tmp 165) := d1 rfl
   exact run_plain rfl (y_pick_and e2 e4 rfl)
 · intro ax tx hs okx sm d0 d1
   have e5 : At (Ty.bool ((decide ((0 : Int) ≤ r)) && (decide (r < (128 : Int))))) tx ax (.tmp 166) := d0 rfl
   have e2 : At (Ty.bool (decide ((0 : Int) ≤ r))) tx ax (.tmp 163) := d1 rfl
   exact run_plain rfl (y_assign e5)
 intro a2 s2 D2
 have ok2 := D2.ok
 have F2 := F1.step0 D2.stp
 have q3 : At (Ty.val (Value.string SIGNS)) s2 a2 (.tmp 0) := D2.kt q1 rfl
 have q4 : At (Ty.val (Value.int .i32 r)) s2 a2 (.tmp 1) := D2.kt q2 rfl
 have q5 : At (Ty.bool ((decide ((0 : Int) ≤ r)) && (decide (r < (128 : Int))))) s2 a2 (.tmp 160) := D2.done 6
 clear D2
 refine tn ?_
 refine cond_t q5 (fun c1 => ?_) (fun c1 => ?_)
 ·
  obtain ⟨d1, d2⟩ := Bool.and_eq_true_iff.mp c1
  replace d1 := of_decide_eq_true d1
  replace d2 := of_decide_eq_true d2
  simp only [Bool.and_eq_true, decide_eq_true_eq] at c1
  refine wp_seq ?_
  refine reg (a := a2) (σ := s2) rfl (fun i_ => List.getD [(Ty.pr (Ty.val (Value.string SIGNS))), (Ty.pr (Ty.val (Value.int .i32 r))), (Ty.pr (Ty.val (Value.int .u8 r))), (Ty.pr (Ty.int (Lib.indexByte (ByteArray.data (SIGNS)).toList ((r)).toNat.toUInt8))), (Ty.pr (Ty.int (Lib.indexByte (ByteArray.data (SIGNS)).toList ((r)).toNat.toUInt8)))] i_ Pr.any) ok2 rfl ⟨?_, ?_, ?_, ?_, ?_, trivial⟩ ?_
  · intro ax tx hs okx sm
    exact run_plain rfl (y_move (kp (sm 0 rfl) hs q3))
  · intro ax tx hs okx sm
    exact run_plain rfl (y_move (kp (sm 1 rfl) hs q4))
  · intro ax tx hs okx sm d0
    have e1 : At (Ty.val (Value.int .i32 r)) tx ax (.tmp 168) := d0 rfl
    exact run_plain rfl (y_conv Try.underlying5 e1 (by exact wrap_u8 (by omega) (by omega)) (by rw [Try.underlying21]; rfl))
  · intro ax tx hs okx sm d0 d1
    have e0 : At (Ty.val (Value.string SIGNS)) tx ax (.tmp 167) := d0 rfl
    have e2 : At (Ty.val (Value.int .u8 r)) tx ax (.tmp 169) := d1 rfl
    exact run_plain rfl (y_call #[ax.eval (.tmp 167), ax.eval (.tmp 169)] Try.func131 rfl rfl (by simp only [List.map_toArray, List.map_cons, List.map_nil]) (sIndexByte_fn (SIGNS) (r) _ _ _ e0 (cvi (σ := tx) (by omega) e2) ))
  · intro ax tx hs okx sm d0 d1 d2 d3 d4 d5
    have e3 : At (Ty.int (Lib.indexByte (ByteArray.data (SIGNS)).toList ((r)).toNat.toUInt8)) tx ax (.tmp 170) := d0 rfl
    have e0 : At (Ty.val (Value.string SIGNS)) tx ax (.tmp 167) := d2 rfl
    have e1 : At (Ty.val (Value.int .i32 r)) tx ax (.tmp 168) := d3 rfl
    have e2 : At (Ty.val (Value.int .u8 r)) tx ax (.tmp 169) := d4 rfl
    exact run_plain rfl (y_assign e3)
  intro a3 s3 D3
  have ok3 := D3.ok
  have F3 := F2.step0 D3.stp
  have q6 : At (Ty.int (Lib.indexByte (ByteArray.data (SIGNS)).toList ((r)).toNat.toUInt8)) s3 a3 (.tmp 4) := D3.done 4
  clear D3
  refine tn ?_
  refine wp_ret ?_
  refine br ?_
  exact retL1 rfl ok3 F3 (cvi (by (exact (signIdx_lo c1.1 c1.2).symm)) q6)
 ·
  have hc1 : ¬ (0 ≤ r ∧ r < 128) := (by intro h; simp only [Bool.and_eq_false_iff, decide_eq_false_iff_not] at c1; omega)
  refine wp_seq ?_
  refine reg (a := a2) (σ := s2) rfl (fun i_ => List.getD [(Ty.pr (Ty.val (Value.int .i32 r))), (Ty.pr (Ty.bool (decide (r = (65533 : Int))))), (Ty.pr (Ty.bool (decide (r = (65533 : Int)))))] i_ Pr.any) ok2 rfl ⟨?_, ?_, ?_, trivial⟩ ?_
  · intro ax tx hs okx sm
    exact run_plain rfl (y_move (kp (sm 1 rfl) hs q4))
  · intro ax tx hs okx sm d0
    have e0 : At (Ty.val (Value.int .i32 r)) tx ax (.tmp 172) := d0 rfl
    exact run_plain rfl (y_eql e0 rfl)
  · intro ax tx hs okx sm d0
    have e1 : At (Ty.bool (decide (r = (65533 : Int)))) tx ax (.tmp 173) := d0 rfl
    exact run_plain rfl (y_assign e1)
  intro a4 s4 D4
  have ok4 := D4.ok
  have F4 := F2.step0 D4.stp
  have q7 : At (Ty.val (Value.string SIGNS)) s4 a4 (.tmp 0) := D4.kt q3 rfl
  have q8 : At (Ty.val (Value.int .i32 r)) s4 a4 (.tmp 1) := D4.kt q4 rfl
  have q9 : At (Ty.bool (decide (r = (65533 : Int)))) s4 a4 (.tmp 171) := D4.done 2
  clear D4
  refine tn ?_
  refine cond_p (p := (r = (65533 : Int))) q9 (fun c2 => ?_) (fun c2 => ?_)
  ·
   refine wp_seq ?_
   refine wp_seq ?_
   refine reg (a := a4) (σ := s4) rfl (fun i_ => List.getD [(Ty.pr (Ty.val (Value.string SIGNS))), (Pr.iter 5 SIGNS 0)] i_ Pr.any) ok4 rfl ⟨?_, ?_, trivial⟩ ?_
   · intro ax tx hs okx sm
     exact run_plain rfl (y_move (kp (sm 0 rfl) hs q7))
   · intro ax tx hs okx sm d0
     have e0 : At (Ty.val (Value.string SIGNS)) tx ax (.tmp 174) := d0 rfl
     exact run_plain rfl (y_range 5 Try.underlying9 e0)
   intro a5 s5 D5
   have ok5 := D5.ok
   have F5 := F4.step0 D5.stp
   obtain ⟨x1, hx1⟩ : ∃ x, a5.eval (.tmp 175) = x := ⟨_, rfl⟩
   have q10 : At (Ty.val x1) s5 a5 (.tmp 175) := hx1
   have o1 : Iter s5 5 x1 SIGNS 0 := al2 (R := (Pr.iter 5 SIGNS 0)) hx1 (D5.done 1)
   clear D5
   refine tn ?_
   refine wp_block ?_
   refine loop (fun n1 a6 w1 => ∃ (t1 : GW) (p : Nat), t1.w = w1 ∧ FromL [] s0 t1 ∧ Ok 187 a6 ∧ At (Ty.val x1) t1 a6 (.tmp 175) ∧ Iter t1 5 x1 SIGNS p ∧ (p ≤ 12) ∧ n1 = 12 - p) (12 - (0)) ?_ ?_
   ·
    exact ⟨s5, 0, rfl, F5, ok5, q10, (cvit (by omega) o1), by omega, rfl⟩
   ·
    rintro n2 a7 w2 ⟨t2, p, rfl, F6, ok6, q11, o2, hp, rfl⟩
    refine wp_seq ?_
    refine reg2 (a := a7) (σ := t2) rfl 0 (fun i_ => List.getD [] i_ Pr.any) ok6 rfl (by decide) rfl trivial ?_
    intro a8 s6 D6
    have ok7 := D6.ok
    have F7 := F6.step0 D6.stp
    have q12 : At (Ty.val x1) s6 a8 (.tmp 175) := D6.kt q11 rfl
    have o3 := Iter.k0 o2 D6.stp
    clear D6
    refine tailL (L := [5]) (R := (fun v τ => (Ty.nxt (decide (p < SIGNS.size)) p (run1 SIGNS p)).has τ v ∧ Iter τ 5 x1 SIGNS (stepTo SIGNS p))) rfl rfl (by decide) ok7 (YldM.toL (m_next (by decide) o3 q12)) (fun a9 s7 hs1 ok8 r1 sm1 => ?_)
    have F8 := F7.stepL hs1 (by decide)
    have q13 : At (Ty.val x1) s7 a9 (.tmp 175) := kpL hs1 (by decide) (sm1 175 (by decide)) q12
    have q14 : At (Ty.nxt (decide (p < SIGNS.size)) p (run1 SIGNS p)) s7 a9 (.tmp 176) := (r1).1
    have o4 : Iter s7 5 x1 SIGNS (stepTo SIGNS p) := (r1).2
    clear r1
    refine tailL (L := []) (R := (fun v τ => Pr.has (Ty.pr (Ty.bool (decide (p < SIGNS.size)))) τ v)) rfl rfl (by decide) ok8 (Yld.toL (y_ext_n0 q14)) (fun a10 s8 hs2 ok9 r2 sm2 => ?_)
    have F9 := F8.stepL hs2 (by decide)
    have q15 : At (Ty.val x1) s8 a10 (.tmp 175) := kpL hs2 (by decide) (sm2 175 (by decide)) q13
    have q16 : At (Ty.nxt (decide (p < SIGNS.size)) p (run1 SIGNS p)) s8 a10 (.tmp 176) := kpL hs2 (by decide) (sm2 176 (by decide)) q14
    have o5 := Iter.keepL o4 hs2 (by decide) (by decide)
    have q17 : At (Ty.bool (decide (p < SIGNS.size))) s8 a10 (.tmp 177) := r2
    clear r2
    refine wpList_nil ?_
    refine tn ?_
    refine wp_seq ?_
    refine cond_p (p := (p < SIGNS.size)) q17 (fun c3 => ?_) (fun c3 => ?_)
    ·
     refine wp_skip ?_
     refine tn ?_
     refine wp_block ?_
     refine wp_seq ?_
     refine reg (a := a10) (σ := s8) rfl (fun i_ => List.getD [(Ty.pr (Ty.nat p)), (Ty.pr (Ty.val (Value.int .i32 ((run1 SIGNS p : Nat) : Int)))), (Ty.pr (Ty.nat p)), (Ty.pr (Ty.val (Value.int .i32 ((run1 SIGNS p : Nat) : Int))))] i_ Pr.any) ok9 rfl ⟨?_, ?_, ?_, ?_, trivial⟩ ?_
     · intro ax tx hs okx sm
       exact run_plain rfl (y_ext_n1 (kp (sm 176 rfl) hs q16) (decide_eq_true (by omega)))
     · intro ax tx hs okx sm d0
       exact run_plain rfl (y_ext_n2 (kp (sm 176 rfl) hs q16) (decide_eq_true (by omega)))
     · intro ax tx hs okx sm d0 d1 d2
       have e0 : At (Ty.nat p) tx ax (.tmp 178) := d0 rfl
       exact run_plain rfl (y_assign e0)
     · intro ax tx hs okx sm d0 d1 d2 d3 d4
       have e1 : At (Ty.val (Value.int .i32 ((run1 SIGNS p : Nat) : Int))) tx ax (.tmp 179) := d0 rfl
       have e2 : At (Ty.nat p) tx ax (.tmp 5) := d1 rfl
       have e0 : At (Ty.nat p) tx ax (.tmp 178) := d2 rfl
       exact run_plain rfl (y_assign e1)
     intro a11 s9 D7
     have ok10 := D7.ok
     have F10 := F9.step0 D7.stp
     have q18 : At (Ty.val x1) s9 a11 (.tmp 175) := D7.kt q15 rfl
     have o6 := Iter.k0 o5 D7.stp
     have q19 : At (Ty.nat p) s9 a11 (.tmp 5) := D7.done 2
     have q20 : At (Ty.val (Value.int .i32 ((run1 SIGNS p : Nat) : Int))) s9 a11 (.tmp 6) := D7.done 3
     clear D7
     refine tn ?_
     refine wp_seq ?_
     refine reg (a := a11) (σ := s9) rfl (fun i_ => List.getD [(Ty.pr (Ty.val (Value.int .i32 ((run1 SIGNS p : Nat) : Int)))), (Ty.pr (Ty.bool (decide (((run1 SIGNS p : Nat) : Int) = (65533 : Int)))))] i_ Pr.any) ok10 rfl ⟨?_, ?_, trivial⟩ ?_
     · intro ax tx hs okx sm
       exact run_plain rfl (y_move (kp (sm 6 rfl) hs q20))
     · intro ax tx hs okx sm d0
       have e0 : At (Ty.val (Value.int .i32 ((run1 SIGNS p : Nat) : Int))) tx ax (.tmp 180) := d0 rfl
       exact run_plain rfl (y_eql e0 rfl)
     intro a12 s10 D8
     have ok11 := D8.ok
     have F11 := F10.step0 D8.stp
     have q21 : At (Ty.val x1) s10 a12 (.tmp 175) := D8.kt q18 rfl
     have q22 : At (Ty.nat p) s10 a12 (.tmp 5) := D8.kt q19 rfl
     have o7 := Iter.k0 o6 D8.stp
     have q23 : At (Ty.bool (decide (((run1 SIGNS p : Nat) : Int) = (65533 : Int)))) s10 a12 (.tmp 181) := D8.done 1
     clear D8
     refine tn ?_
     refine cond_p (p := (((run1 SIGNS p : Nat) : Int) = (65533 : Int))) q23 (fun c4 => ?_) (fun c4 => ?_)
     ·
      exfalso
      have := (signs_run (p := p) (by omega)).1; omega
     ·
      refine wp_skip ?_
      refine bn ?_
      exact tn ⟨12 - ((p + 1)), by omega, s10, (p + 1), rfl, F11, ok11, q21, (cvit (by exact (signs_run (by omega)).2) o7), by omega, rfl⟩
    ·
     refine wp_exit ?_
     refine tx ?_
     refine tx ?_
     refine bx ?_
     refine tn ?_
     refine wp_seq ?_
     refine reg (a := a10) (σ := s8) rfl (fun i_ => List.getD [(Ty.pr (Ty.int (-1 : Int)))] i_ Pr.any) ok9 rfl ⟨?_, trivial⟩ ?_
     · intro ax tx hs okx sm
       exact run_plain rfl (y_assign rfl)
     intro a13 s11 D9
     have ok12 := D9.ok
     have F12 := F9.step0 D9.stp
     have o8 := Iter.k0 o5 D9.stp
     have q24 : At (Ty.int (-1 : Int)) s11 a13 (.tmp 4) := D9.done 0
     clear D9
     refine tn ?_
     refine wp_ret ?_
     refine br ?_
     exact retL1 rfl ok12 F12 (cvi (by (exact (signIdx_hi (by omega)).symm)) q24)
  ·
   refine wp_seq ?_
   refine reg (a := a4) (σ := s4) rfl (fun i_ => List.getD [(Ty.pr (Ty.val (Value.int .i32 r))), (Ty.pr (Ty.bool (Utf8.valid r))), (Ty.pr (Ty.bool (!(Utf8.valid r)))), (Ty.pr (Ty.bool (!(Utf8.valid r))))] i_ Pr.any) ok4 rfl ⟨?_, ?_, ?_, ?_, trivial⟩ ?_
   · intro ax tx hs okx sm
     exact run_plain rfl (y_move (kp (sm 1 rfl) hs q8))
   · intro ax tx hs okx sm d0
     have e0 : At (Ty.val (Value.int .i32 r)) tx ax (.tmp 184) := d0 rfl
     exact run_plain rfl (y_call #[ax.eval (.tmp 184)] Try.func132 rfl rfl (by simp only [List.map_toArray, List.map_cons, List.map_nil]) (validRune_fn (r) _ _ e0 ))
   · intro ax tx hs okx sm d0
     have e1 : At (Ty.bool (Utf8.valid r)) tx ax (.tmp 185) := d0 rfl
     exact run_plain rfl (y_not e1)
   · intro ax tx hs okx sm d0 d1
     have e2 : At (Ty.bool (!(Utf8.valid r))) tx ax (.tmp 186) := d0 rfl
     have e1 : At (Ty.bool (Utf8.valid r)) tx ax (.tmp 185) := d1 rfl
     exact run_plain rfl (y_assign e2)
   intro a14 s12 D10
   have ok13 := D10.ok
   have F13 := F4.step0 D10.stp
   have q25 : At (Ty.val (Value.string SIGNS)) s12 a14 (.tmp 0) := D10.kt q7 rfl
   have q26 : At (Ty.val (Value.int .i32 r)) s12 a14 (.tmp 1) := D10.kt q8 rfl
   have q27 : At (Ty.bool (!(Utf8.valid r))) s12 a14 (.tmp 183) := D10.done 3
   clear D10
   refine tn ?_
   refine cond_t q27 (fun c5 => ?_) (fun c5 => ?_)
   ·
    refine wp_seq ?_
    refine reg (a := a14) (σ := s12) rfl (fun i_ => List.getD [(Ty.pr (Ty.int (-1 : Int)))] i_ Pr.any) ok13 rfl ⟨?_, trivial⟩ ?_
    · intro ax tx hs okx sm
      exact run_plain rfl (y_assign rfl)
    intro a15 s13 D11
    have ok14 := D11.ok
    have F14 := F13.step0 D11.stp
    have q28 : At (Ty.int (-1 : Int)) s13 a15 (.tmp 4) := D11.done 0
    clear D11
    refine tn ?_
    refine wp_ret ?_
    refine br ?_
    exact retL1 rfl ok14 F14 (cvi (by (exact (signIdx_hi hc1).symm)) q28)
   ·
    have hv : Utf8.valid r = true := (by simpa using c5); have hr0 : 0 ≤ r := (by unfold Utf8.valid at hv; simp only [Bool.or_eq_true, Bool.and_eq_true, decide_eq_true_eq] at hv; omega); have hef := enc_facts (by omega) hv; obtain ⟨E, hE⟩ : ∃ E, E = Utf8.encode r := ⟨_, rfl⟩; rw [← hE] at hef; have hsl := signs_lt (j := E.size - 1) (by omega)
    refine wp_scope_straight ?_
    refine wp_seq ?_
    refine reg (a := a14) (σ := s12) rfl (fun i_ => List.getD [(Ty.pr (Ty.val (Value.int .i32 r))), (Ty.pr (Ty.val (Value.string (Utf8.encode r)))), (Ty.pr (Ty.val (Value.string (Utf8.encode r))))] i_ Pr.any) ok13 rfl ⟨?_, ?_, ?_, trivial⟩ ?_
    · intro ax tx hs okx sm
      exact run_plain rfl (y_move (kp (sm 1 rfl) hs q26))
    · intro ax tx hs okx sm d0
      have e0 : At (Ty.val (Value.int .i32 r)) tx ax (.tmp 17) := d0 rfl
      exact run_plain rfl (y_convrs Try.underlying9 e0 (by rw [Try.underlying21]; rfl))
    · intro ax tx hs okx sm d0 d1 d2
      have e1 : At (Ty.val (Value.string (Utf8.encode r))) tx ax (.tmp 18) := d0 rfl
      have e0 : At (Ty.val (Value.int .i32 r)) tx ax (.tmp 17) := d1 rfl
      exact run_plain rfl (y_assign e1)
    intro a16 s14 D12
    have ok15 := D12.ok
    have F15 := F13.step0 D12.stp
    have q29 : At (Ty.val (Value.string SIGNS)) s14 a16 (.tmp 0) := D12.kt q25 rfl
    have q30 : At (Ty.val (Value.string (Utf8.encode r))) s14 a16 (.tmp 7) := D12.done 2
    clear D12
    have q31 : At (Ty.val (Value.string E)) s14 a16 (.tmp 7) := (cvt (by (rw [hE])) q30)
    refine tn ?_
    refine wp_seq ?_
    refine reg (a := a16) (σ := s14) rfl (fun i_ => List.getD [(Ty.pr (Ty.val (Value.string E))), (Ty.pr (Ty.nat (ByteArray.size E))), (Ty.pr (Ty.nat ((ByteArray.size E) - 1))), (Ty.pr (Ty.nat ((ByteArray.size E) - 1)))] i_ Pr.any) ok15 rfl ⟨?_, ?_, ?_, ?_, trivial⟩ ?_
    · intro ax tx hs okx sm
      exact run_plain rfl (y_move (kp (sm 7 rfl) hs q31))
    · intro ax tx hs okx sm d0
      have e0 : At (Ty.val (Value.string E)) tx ax (.tmp 19) := d0 rfl
      exact run_plain rfl (y_len_str Try.underlying9 e0)
    · intro ax tx hs okx sm d0
      have e1 : At (Ty.nat (ByteArray.size E)) tx ax (.tmp 20) := d0 rfl
      exact run_plain rfl ((y_sub e1 rfl (w64 (by omega) (by omega))).mono (fun τ _ h => cvi (σ := τ) (by omega) h))
    · intro ax tx hs okx sm d0 d1 d2 d3
      have e2 : At (Ty.nat ((ByteArray.size E) - 1)) tx ax (.tmp 21) := d0 rfl
      have e0 : At (Ty.val (Value.string E)) tx ax (.tmp 19) := d1 rfl
      have e1 : At (Ty.nat (ByteArray.size E)) tx ax (.tmp 20) := d2 rfl
      exact run_plain rfl (y_assign e2)
    intro a17 s15 D13
    have ok16 := D13.ok
    have F16 := F15.step0 D13.stp
    have q32 : At (Ty.val (Value.string SIGNS)) s15 a17 (.tmp 0) := D13.kt q29 rfl
    have q33 : At (Ty.val (Value.string E)) s15 a17 (.tmp 7) := D13.kt q31 rfl
    have q34 : At (Ty.nat ((ByteArray.size E) - 1)) s15 a17 (.tmp 8) := D13.done 3
    clear D13
    refine tn ?_
    refine wp_seq ?_
    refine reg (a := a17) (σ := s15) rfl (fun i_ => List.getD [(Ty.pr (Ty.nat ((ByteArray.size E) - 1))), (Ty.pr (Ty.nat ((ByteArray.size E) - 1)))] i_ Pr.any) ok16 rfl ⟨?_, ?_, trivial⟩ ?_
    · intro ax tx hs okx sm
      exact run_plain rfl (y_move (kp (sm 8 rfl) hs q34))
    · intro ax tx hs okx sm d0 d1
      have e0 : At (Ty.nat ((ByteArray.size E) - 1)) tx ax (.tmp 22) := d0 rfl
      exact run_plain rfl (y_assign e0)
    intro a18 s16 D14
    have ok17 := D14.ok
    have F17 := F16.step0 D14.stp
    have q35 : At (Ty.val (Value.string SIGNS)) s16 a18 (.tmp 0) := D14.kt q32 rfl
    have q36 : At (Ty.val (Value.string E)) s16 a18 (.tmp 7) := D14.kt q33 rfl
    have q37 : At (Ty.nat ((ByteArray.size E) - 1)) s16 a18 (.tmp 8) := D14.kt q34 rfl
    have q38 : At (Ty.nat ((ByteArray.size E) - 1)) s16 a18 (.tmp 9) := D14.done 1
    clear D14
    refine tn ?_
    refine wp_seq ?_
    refine reg (a := a18) (σ := s16) rfl (fun i_ => List.getD [(Ty.pr (Ty.int (0 : Int)))] i_ Pr.any) ok17 rfl ⟨?_, trivial⟩ ?_
    · intro ax tx hs okx sm
      exact run_plain rfl (y_assign rfl)
    intro a19 s17 D15
    have ok18 := D15.ok
    have F18 := F17.step0 D15.stp
    have q39 : At (Ty.val (Value.string SIGNS)) s17 a19 (.tmp 0) := D15.kt q35 rfl
    have q40 : At (Ty.val (Value.string E)) s17 a19 (.tmp 7) := D15.kt q36 rfl
    have q41 : At (Ty.nat ((ByteArray.size E) - 1)) s17 a19 (.tmp 8) := D15.kt q37 rfl
    have q42 : At (Ty.nat ((ByteArray.size E) - 1)) s17 a19 (.tmp 9) := D15.kt q38 rfl
    clear D15
    refine tn ?_
    refine wp_seq ?_
    refine wp_block ?_
    refine loop (fun n3 a20 w3 => ∃ (t3 : GW), t3.w = w3 ∧ FromL [] s0 t3 ∧ Ok 187 a20 ∧ At (Ty.nat ((ByteArray.size E) - 1)) t3 a20 (.tmp 9) ∧ At (Ty.val (Value.string SIGNS)) t3 a20 (.tmp 0) ∧ At (Ty.val (Value.string E)) t3 a20 (.tmp 7) ∧ At (Ty.nat ((ByteArray.size E) - 1)) t3 a20 (.tmp 8) ∧ n3 = 1) (1) ?_ ?_
    ·
     exact ⟨s17, rfl, F18, ok18, q42, q39, q40, q41, rfl⟩
    ·
     rintro n4 a21 w4 ⟨t4, rfl, F19, ok19, q43, q44, q45, q46, rfl⟩
     refine wp_seq ?_
     refine wp_seq ?_
     refine reg (a := a21) (σ := t4) rfl (fun i_ => List.getD [(Ty.pr (Ty.nat ((ByteArray.size E) - 1))), (Ty.pr (Ty.val (Value.string SIGNS))), (Ty.pr (Ty.nat (ByteArray.size SIGNS))), (Ty.pr (Ty.bool (decide (((((ByteArray.size E) - 1) : Nat) : Int) < (((ByteArray.size SIGNS) : Nat) : Int)))))] i_ Pr.any) ok19 rfl ⟨?_, ?_, ?_, ?_, trivial⟩ ?_
     · intro ax tx hs okx sm
       exact run_plain rfl (y_move (kp (sm 9 rfl) hs q43))
     · intro ax tx hs okx sm
       exact run_plain rfl (y_move (kp (sm 0 rfl) hs q44))
     · intro ax tx hs okx sm d0
       have e1 : At (Ty.val (Value.string SIGNS)) tx ax (.tmp 24) := d0 rfl
       exact run_plain rfl (y_len_str Try.underlying9 e1)
     · intro ax tx hs okx sm d0 d1
       have e0 : At (Ty.nat ((ByteArray.size E) - 1)) tx ax (.tmp 23) := d0 rfl
       have e2 : At (Ty.nat (ByteArray.size SIGNS)) tx ax (.tmp 25) := d1 rfl
       exact run_plain rfl (y_lss e0 e2)
     intro a22 s18 D16
     have ok20 := D16.ok
     have F20 := F19.step0 D16.stp
     have q47 : At (Ty.nat ((ByteArray.size E) - 1)) s18 a22 (.tmp 9) := D16.kt q43 rfl
     have q48 : At (Ty.val (Value.string SIGNS)) s18 a22 (.tmp 0) := D16.kt q44 rfl
     have q49 : At (Ty.val (Value.string E)) s18 a22 (.tmp 7) := D16.kt q45 rfl
     have q50 : At (Ty.nat ((ByteArray.size E) - 1)) s18 a22 (.tmp 8) := D16.kt q46 rfl
     have q51 : At (Ty.bool (decide (((((ByteArray.size E) - 1) : Nat) : Int) < (((ByteArray.size SIGNS) : Nat) : Int)))) s18 a22 (.tmp 26) := D16.done 3
     clear D16
     refine tn ?_
     refine cond_p (p := (((((ByteArray.size E) - 1) : Nat) : Int) < (((ByteArray.size SIGNS) : Nat) : Int))) q51 (fun c6 => ?_) (fun c6 => ?_)
     ·
      refine wp_skip ?_
      refine tn ?_
      refine wp_block ?_
      refine wp_scope_straight ?_
      refine wp_seq ?_
      refine wp_seq ?_
      refine reg (a := a22) (σ := s18) rfl (fun i_ => List.getD [(Ty.pr (Ty.val (Value.string SIGNS))), (Ty.pr (Ty.nat ((ByteArray.size E) - 1))), (Ty.pr (Ty.val (Value.int .u8 (((SIGNS.get! ((ByteArray.size E) - 1)).toNat : Nat) : Int)))), (Ty.pr (Ty.val (Value.string E))), (Ty.pr (Ty.nat ((ByteArray.size E) - 1))), (Ty.pr (Ty.val (Value.int .u8 (((E.get! ((ByteArray.size E) - 1)).toNat : Nat) : Int)))), (Ty.pr (Ty.bool (decide ((((SIGNS.get! ((ByteArray.size E) - 1)).toNat : Nat) : Int) ≠ (((E.get! ((ByteArray.size E) - 1)).toNat : Nat) : Int)))))] i_ Pr.any) ok20 rfl ⟨?_, ?_, ?_, ?_, ?_, ?_, ?_, trivial⟩ ?_
      · intro ax tx hs okx sm
        exact run_plain rfl (y_move (kp (sm 0 rfl) hs q48))
      · intro ax tx hs okx sm
        exact run_plain rfl (y_move (kp (sm 9 rfl) hs q47))
      · intro ax tx hs okx sm d0 d1
        have e0 : At (Ty.val (Value.string SIGNS)) tx ax (.tmp 27) := d0 rfl
        have e1 : At (Ty.nat ((ByteArray.size E) - 1)) tx ax (.tmp 28) := d1 rfl
        exact run_plain rfl (y_sindex Try.underlying9 e0 e1 (by omega) (by omega))
      · intro ax tx hs okx sm
        exact run_plain rfl (y_move (kp (sm 7 rfl) hs q49))
      · intro ax tx hs okx sm
        exact run_plain rfl (y_move (kp (sm 8 rfl) hs q50))
      · intro ax tx hs okx sm d0 d1
        have e3 : At (Ty.val (Value.string E)) tx ax (.tmp 30) := d0 rfl
        have e4 : At (Ty.nat ((ByteArray.size E) - 1)) tx ax (.tmp 31) := d1 rfl
        exact run_plain rfl (y_sindex Try.underlying9 e3 e4 (by omega) (by omega))
      · intro ax tx hs okx sm d0 d1
        have e2 : At (Ty.val (Value.int .u8 (((SIGNS.get! ((ByteArray.size E) - 1)).toNat : Nat) : Int))) tx ax (.tmp 29) := d0 rfl
        have e5 : At (Ty.val (Value.int .u8 (((E.get! ((ByteArray.size E) - 1)).toNat : Nat) : Int))) tx ax (.tmp 32) := d1 rfl
        exact run_plain rfl (y_neq e2 e5)
      intro a23 s19 D17
      have ok21 := D17.ok
      have F21 := F20.step0 D17.stp
      have q52 : At (Ty.nat ((ByteArray.size E) - 1)) s19 a23 (.tmp 9) := D17.kt q47 rfl
      have q53 : At (Ty.val (Value.string SIGNS)) s19 a23 (.tmp 0) := D17.kt q48 rfl
      have q54 : At (Ty.val (Value.string E)) s19 a23 (.tmp 7) := D17.kt q49 rfl
      have q55 : At (Ty.nat ((ByteArray.size E) - 1)) s19 a23 (.tmp 8) := D17.kt q50 rfl
      have q56 : At (Ty.bool (decide ((((SIGNS.get! ((ByteArray.size E) - 1)).toNat : Nat) : Int) ≠ (((E.get! ((ByteArray.size E) - 1)).toNat : Nat) : Int)))) s19 a23 (.tmp 33) := D17.done 6
      clear D17
      refine tn ?_
      refine cond_p (p := ((((SIGNS.get! ((ByteArray.size E) - 1)).toNat : Nat) : Int) ≠ (((E.get! ((ByteArray.size E) - 1)).toNat : Nat) : Int))) q56 (fun c7 => ?_) (fun c7 => ?_)
      ·
       refine wp_seq ?_
       refine reg (a := a23) (σ := s19) rfl (fun i_ => List.getD [(Ty.pr (Ty.val (Value.string SIGNS))), (Ty.pr (Ty.nat ((ByteArray.size E) - 1))), (Ty.pr (Ty.nat (((ByteArray.size E) - 1) + 1))), (Ty.pr (Ty.val (Value.string (ByteArray.extract SIGNS (((ByteArray.size E) - 1) + 1) (ByteArray.size SIGNS))))), (Ty.pr (Ty.val (Value.string E))), (Ty.pr (Ty.nat ((ByteArray.size E) - 1))), (Ty.pr (Ty.val (Value.int .u8 (((E.get! ((ByteArray.size E) - 1)).toNat : Nat) : Int)))), (Ty.pr (Ty.int (Lib.indexByte (ByteArray.data ((ByteArray.extract SIGNS (((ByteArray.size E) - 1) + 1) (ByteArray.size SIGNS)))).toList (((((E.get! ((ByteArray.size E) - 1)).toNat : Nat) : Int))).toNat.toUInt8))), (Ty.pr (Ty.int (Lib.indexByte (ByteArray.data ((ByteArray.extract SIGNS (((ByteArray.size E) - 1) + 1) (ByteArray.size SIGNS)))).toList (((((E.get! ((ByteArray.size E) - 1)).toNat : Nat) : Int))).toNat.toUInt8)))] i_ Pr.any) ok21 rfl ⟨?_, ?_, ?_, ?_, ?_, ?_, ?_, ?_, ?_, trivial⟩ ?_
       · intro ax tx hs okx sm
         exact run_plain rfl (y_move (kp (sm 0 rfl) hs q53))
       · intro ax tx hs okx sm
         exact run_plain rfl (y_move (kp (sm 9 rfl) hs q52))
       · intro ax tx hs okx sm d0
         have e1 : At (Ty.nat ((ByteArray.size E) - 1)) tx ax (.tmp 35) := d0 rfl
         exact run_plain rfl ((y_add e1 rfl (w64 (by omega) (by omega))).mono (fun τ _ h => cvi (σ := τ) (by first | omega | exact (Int.natCast_mul _ _).symm) h))
       · intro ax tx hs okx sm d0 d1
         have e0 : At (Ty.val (Value.string SIGNS)) tx ax (.tmp 34) := d0 rfl
         have e2 : At (Ty.nat (((ByteArray.size E) - 1) + 1)) tx ax (.tmp 36) := d1 rfl
         exact run_plain rfl (y_sfrom (l := (((ByteArray.size E) - 1) + 1)) Try.underlying9 e0 e2 (by omega))
       · intro ax tx hs okx sm
         exact run_plain rfl (y_move (kp (sm 7 rfl) hs q54))
       · intro ax tx hs okx sm
         exact run_plain rfl (y_move (kp (sm 8 rfl) hs q55))
       · intro ax tx hs okx sm d0 d1
         have e4 : At (Ty.val (Value.string E)) tx ax (.tmp 38) := d0 rfl
         have e5 : At (Ty.nat ((ByteArray.size E) - 1)) tx ax (.tmp 39) := d1 rfl
         exact run_plain rfl (y_sindex Try.underlying9 e4 e5 (by omega) (by omega))
       · intro ax tx hs okx sm d0 d1
         have e3 : At (Ty.val (Value.string (ByteArray.extract SIGNS (((ByteArray.size E) - 1) + 1) (ByteArray.size SIGNS)))) tx ax (.tmp 37) := d0 rfl
         have e6 : At (Ty.val (Value.int .u8 (((E.get! ((ByteArray.size E) - 1)).toNat : Nat) : Int))) tx ax (.tmp 40) := d1 rfl
         exact run_plain rfl (y_call #[ax.eval (.tmp 37), ax.eval (.tmp 40)] Try.func131 rfl rfl (by simp only [List.map_toArray, List.map_cons, List.map_nil]) (sIndexByte_fn ((ByteArray.extract SIGNS (((ByteArray.size E) - 1) + 1) (ByteArray.size SIGNS))) ((((E.get! ((ByteArray.size E) - 1)).toNat : Nat) : Int)) _ _ _ e3 (cvi (σ := tx) (by omega) e6) ))
       · intro ax tx hs okx sm d0 d1 d2 d3 d4 d5 d6 d7 d8 d9
         have e7 : At (Ty.int (Lib.indexByte (ByteArray.data ((ByteArray.extract SIGNS (((ByteArray.size E) - 1) + 1) (ByteArray.size SIGNS)))).toList (((((E.get! ((ByteArray.size E) - 1)).toNat : Nat) : Int))).toNat.toUInt8)) tx ax (.tmp 41) := d0 rfl
         have e0 : At (Ty.val (Value.string SIGNS)) tx ax (.tmp 34) := d2 rfl
         have e1 : At (Ty.nat ((ByteArray.size E) - 1)) tx ax (.tmp 35) := d3 rfl
         have e2 : At (Ty.nat (((ByteArray.size E) - 1) + 1)) tx ax (.tmp 36) := d4 rfl
         have e3 : At (Ty.val (Value.string (ByteArray.extract SIGNS (((ByteArray.size E) - 1) + 1) (ByteArray.size SIGNS)))) tx ax (.tmp 37) := d5 rfl
         have e4 : At (Ty.val (Value.string E)) tx ax (.tmp 38) := d6 rfl
         have e5 : At (Ty.nat ((ByteArray.size E) - 1)) tx ax (.tmp 39) := d7 rfl
         have e6 : At (Ty.val (Value.int .u8 (((E.get! ((ByteArray.size E) - 1)).toNat : Nat) : Int))) tx ax (.tmp 40) := d8 rfl
         exact run_plain rfl (y_assign e7)
       intro a24 s20 D18
       have ok22 := D18.ok
       have F22 := F21.step0 D18.stp
       have q57 : At (Ty.nat ((ByteArray.size E) - 1)) s20 a24 (.tmp 9) := D18.kt q52 rfl
       have q58 : At (Ty.val (Value.string SIGNS)) s20 a24 (.tmp 0) := D18.kt q53 rfl
       have q59 : At (Ty.val (Value.string E)) s20 a24 (.tmp 7) := D18.kt q54 rfl
       have q60 : At (Ty.nat ((ByteArray.size E) - 1)) s20 a24 (.tmp 8) := D18.kt q55 rfl
       have q61 : At (Ty.int (Lib.indexByte (ByteArray.data ((ByteArray.extract SIGNS (((ByteArray.size E) - 1) + 1) (ByteArray.size SIGNS)))).toList (((((E.get! ((ByteArray.size E) - 1)).toNat : Nat) : Int))).toNat.toUInt8)) s20 a24 (.tmp 11) := D18.done 8
       clear D18
       refine tn ?_
       refine wp_seq ?_
       refine wp_seq ?_
       refine reg (a := a24) (σ := s20) rfl (fun i_ => List.getD [(Ty.pr (Ty.int (Lib.indexByte (ByteArray.data ((ByteArray.extract SIGNS (((ByteArray.size E) - 1) + 1) (ByteArray.size SIGNS)))).toList (((((E.get! ((ByteArray.size E) - 1)).toNat : Nat) : Int))).toNat.toUInt8))), (Ty.pr (Ty.bool (decide ((Lib.indexByte (ByteArray.data ((ByteArray.extract SIGNS (((ByteArray.size E) - 1) + 1) (ByteArray.size SIGNS)))).toList (((((E.get! ((ByteArray.size E) - 1)).toNat : Nat) : Int))).toNat.toUInt8) < (0 : Int)))))] i_ Pr.any) ok22 rfl ⟨?_, ?_, trivial⟩ ?_
       · intro ax tx hs okx sm
         exact run_plain rfl (y_move (kp (sm 11 rfl) hs q61))
       · intro ax tx hs okx sm d0
         have e0 : At (Ty.int (Lib.indexByte (ByteArray.data ((ByteArray.extract SIGNS (((ByteArray.size E) - 1) + 1) (ByteArray.size SIGNS)))).toList (((((E.get! ((ByteArray.size E) - 1)).toNat : Nat) : Int))).toNat.toUInt8)) tx ax (.tmp 42) := d0 rfl
         exact run_plain rfl (y_lss e0 rfl)
       intro a25 s21 D19
       have ok23 := D19.ok
       have F23 := F22.step0 D19.stp
       have q62 : At (Ty.nat ((ByteArray.size E) - 1)) s21 a25 (.tmp 9) := D19.kt q57 rfl
       have q63 : At (Ty.val (Value.string SIGNS)) s21 a25 (.tmp 0) := D19.kt q58 rfl
       have q64 : At (Ty.val (Value.string E)) s21 a25 (.tmp 7) := D19.kt q59 rfl
       have q65 : At (Ty.nat ((ByteArray.size E) - 1)) s21 a25 (.tmp 8) := D19.kt q60 rfl
       have q66 : At (Ty.int (Lib.indexByte (ByteArray.data ((ByteArray.extract SIGNS (((ByteArray.size E) - 1) + 1) (ByteArray.size SIGNS)))).toList (((((E.get! ((ByteArray.size E) - 1)).toNat : Nat) : Int))).toNat.toUInt8)) s21 a25 (.tmp 11) := D19.kt q61 rfl
       have q67 : At (Ty.bool (decide ((Lib.indexByte (ByteArray.data ((ByteArray.extract SIGNS (((ByteArray.size E) - 1) + 1) (ByteArray.size SIGNS)))).toList (((((E.get! ((ByteArray.size E) - 1)).toNat : Nat) : Int))).toNat.toUInt8) < (0 : Int)))) s21 a25 (.tmp 43) := D19.done 1
       clear D19
       refine tn ?_
       refine cond_p (p := ((Lib.indexByte (ByteArray.data ((ByteArray.extract SIGNS (((ByteArray.size E) - 1) + 1) (ByteArray.size SIGNS)))).toList (((((E.get! ((ByteArray.size E) - 1)).toNat : Nat) : Int))).toNat.toUInt8) < (0 : Int))) q67 (fun c8 => ?_) (fun c8 => ?_)
       ·
        refine wp_seq ?_
        refine reg (a := a25) (σ := s21) rfl (fun i_ => List.getD [(Ty.pr (Ty.int (-1 : Int)))] i_ Pr.any) ok23 rfl ⟨?_, trivial⟩ ?_
        · intro ax tx hs okx sm
          exact run_plain rfl (y_assign rfl)
        intro a26 s22 D20
        have ok24 := D20.ok
        have F24 := F23.step0 D20.stp
        have q68 : At (Ty.int (-1 : Int)) s22 a26 (.tmp 4) := D20.done 0
        clear D20
        refine tn ?_
        refine wp_ret ?_
        refine tr ?_
        refine tr ?_
        refine scr ?_
        refine br ?_
        refine tr ?_
        refine br ?_
        refine tr ?_
        refine scr ?_
        refine br ?_
        exact retL1 rfl ok24 F24 (cvi (by (exact (signIdx_hi hc1).symm)) q68)
       ·
        exfalso
        have := signs_cut (l := E.size - 1 + 1) (c := (((E.get! (E.size - 1)).toNat : Nat) : Int)) (by omega) (by omega); omega
      ·
       exfalso
       omega
     ·
      exfalso
      omega


set_option maxHeartbeats 4000000 in
set_option maxRecDepth 100000 in
theorem sign_fn (r : Int) (σ : GW)  (v0 : Value) (hv0 : Ty.has (Ty.val (Value.int .i32 r)) σ v0)  (hr : -2147483648 ≤ r ∧ r ≤ 2147483647) :
    FnC Try.prog 101 #[v0] σ (Ty.int (signIdx r)) := by
 refine fn_intro0 Try.func101 rfl Try.ntmps101 (Nat.le_of_ble_eq_true rfl) (fun s0 a0 hle F0 ok0 hargs => ?_)
 have p0 : At (Ty.val (Value.int .i32 r)) s0 a0 (.tmp 0) := by have e := hargs 0 _ rfl; show Ty.has _ _ _; rw [e]; exact Ty.up _ hle hv0
 clear hargs
 refine wp_seq ?_
 refine reg (a := a0) (σ := s0) rfl (fun i_ => List.getD [(Ty.pr (Ty.int (0 : Int)))] i_ Pr.any) ok0 rfl ⟨?_, trivial⟩ ?_
 · intro ax tx hs okx sm
   exact run_plain rfl (y_assign rfl)
 intro a1 s1 D1
 have ok1 := D1.ok
 have F1 := F0.step0 D1.stp
 have q1 : At (Ty.val (Value.int .i32 r)) s1 a1 (.tmp 0) := D1.kt p0 rfl
 clear D1
 refine tn ?_
 refine wp_seq ?_
 refine reg (a := a1) (σ := s1) rfl (fun i_ => List.getD [(Ty.pr (Ty.val (Value.int .i32 r))), (Ty.pr (Ty.int (signIdx r))), (Ty.pr (Ty.int (signIdx r)))] i_ Pr.any) ok1 rfl ⟨?_, ?_, ?_, trivial⟩ ?_
 · intro ax tx hs okx sm
   exact run_plain rfl (y_move (kp (sm 0 rfl) hs q1))
 · intro ax tx hs okx sm d0
   have e0 : At (Ty.val (Value.int .i32 r)) tx ax (.tmp 3) := d0 rfl
   exact run_plain rfl (y_call #[ax.eval ((Operand.const (Value.string (ByteArray.mk #[49, 50, 51, 52, 53, 54, 55, 56, 57, 48, 69, 84])))), ax.eval (.tmp 3)] Try.func119 rfl rfl (by simp only [List.map_toArray, List.map_cons, List.map_nil]) (idxRune_fn (r) _ _ _ rfl e0 (by omega)))
 · intro ax tx hs okx sm d0 d1 d2 d3
   have e1 : At (Ty.int (signIdx r)) tx ax (.tmp 4) := d0 rfl
   have e0 : At (Ty.val (Value.int .i32 r)) tx ax (.tmp 3) := d2 rfl
   exact run_plain rfl (y_assign e1)
 intro a2 s2 D2
 have ok2 := D2.ok
 have F2 := F1.step0 D2.stp
 have q2 : At (Ty.int (signIdx r)) s2 a2 (.tmp 2) := D2.done 2
 clear D2
 refine tn ?_
 refine wp_ret ?_
 exact retL1 rfl ok2 F2 q2


set_option maxHeartbeats 4000000 in
set_option maxRecDepth 100000 in
theorem rowRead_fn (s : ByteArray) (σ : GW)  (v0 : Value) (hv0 : Ty.has (Ty.val (Value.string s)) σ v0)  (hs : s.size ≤ 17592186044416) :
    FnC Try.prog 54 #[v0] σ (Ty.tup2 (Ty.lst Ty.int (if txtMay s = 0 then readTo s s.size else [])) (Ty.int (txtMay s))) := by
 refine fn_intro0 Try.func54 rfl Try.ntmps54 (Nat.le_of_ble_eq_true rfl) (fun s0 a0 hle F0 ok0 hargs => ?_)
 have p0 : At (Ty.val (Value.string s)) s0 a0 (.tmp 0) := by have e := hargs 0 _ rfl; show Ty.has _ _ _; rw [e]; exact Ty.up _ hle hv0
 clear hargs
 refine wp_seq ?_
 refine reg (a := a0) (σ := s0) rfl (fun i_ => List.getD [(Ty.pr (Ty.val (Value.slice none 0 0))), (Ty.pr (Ty.int (0 : Int)))] i_ Pr.any) ok0 rfl ⟨?_, ?_, trivial⟩ ?_
 · intro ax tx hs okx sm
   exact run_plain rfl (y_assign rfl)
 · intro ax tx hs okx sm d0
   have e0 : At (Ty.val (Value.slice none 0 0)) tx ax (.tmp 2) := d0 rfl
   exact run_plain rfl (y_assign rfl)
 intro a1 s1 D1
 have ok1 := D1.ok
 have F1 := F0.step0 D1.stp
 have q1 : At (Ty.val (Value.string s)) s1 a1 (.tmp 0) := D1.kt p0 rfl
 clear D1
 refine tn ?_
 refine wp_seq ?_
 refine reg (a := a1) (σ := s1) rfl (fun i_ => List.getD [(Ty.pr (Ty.val (Value.slice none 0 0)))] i_ Pr.any) ok1 rfl ⟨?_, trivial⟩ ?_
 · intro ax tx hs okx sm
   exact run_plain rfl (y_assign rfl)
 intro a2 s2 D2
 have ok2 := D2.ok
 have F2 := F1.step0 D2.stp
 have q2 : At (Ty.val (Value.string s)) s2 a2 (.tmp 0) := D2.kt q1 rfl
 have q3 : At (Ty.val (Value.slice none 0 0)) s2 a2 (.tmp 4) := D2.done 0
 clear D2
 refine tn ?_
 refine wp_seq ?_
 refine wp_seq ?_
 refine reg (a := a2) (σ := s2) rfl (fun i_ => List.getD [(Ty.pr (Ty.val (Value.string s))), (Pr.iter 5 s 0)] i_ Pr.any) ok2 rfl ⟨?_, ?_, trivial⟩ ?_
 · intro ax tx hs okx sm
   exact run_plain rfl (y_move (kp (sm 0 rfl) hs q2))
 · intro ax tx hs okx sm d0
   have e0 : At (Ty.val (Value.string s)) tx ax (.tmp 9) := d0 rfl
   exact run_plain rfl (y_range 5 Try.underlying9 e0)
 intro a3 s3 D3
 have ok3 := D3.ok
 have F3 := F2.step0 D3.stp
 have q4 : At (Ty.val (Value.slice none 0 0)) s3 a3 (.tmp 4) := D3.kt q3 rfl
 obtain ⟨x1, hx1⟩ : ∃ x, a3.eval (.tmp 10) = x := ⟨_, rfl⟩
 have q5 : At (Ty.val x1) s3 a3 (.tmp 10) := hx1
 have o1 : Iter s3 5 x1 s 0 := al2 (R := (Pr.iter 5 s 0)) hx1 (D3.done 1)
 clear D3
 refine tn ?_
 refine wp_block ?_
 have o2 : Own s3 6 3 1 (Value.slice none 0 0) 0 (List.map Ty.int ([] : List Int)) := Own.nil _ _ _ _
 refine loop (fun n1 a4 w1 => ∃ (t1 : GW) (p : Nat) (x4_0 : Value), t1.w = w1 ∧ FromL [] s0 t1 ∧ Ok 28 a4 ∧ At (Ty.val x4_0) t1 a4 (.tmp 4) ∧ At (Ty.val x1) t1 a4 (.tmp 10) ∧ Own t1 6 3 1 x4_0 (List.length (readTo s p)) (List.map Ty.int (readTo s p)) ∧ Iter t1 5 x1 s p ∧ (p ≤ s.size) ∧ (∀ j, j < p → 0 ≤ signIdx (((s.get! j).toNat : Nat) : Int)) ∧ n1 = s.size - p) (s.size - (0)) ?_ ?_
 ·
  exact ⟨s3, 0, (Value.slice none 0 0), rfl, F3, ok3, q4, q5, (cvo (by (rfl)) (by (rfl)) o2), (cvit (by omega) o1), by omega, fun j hj => absurd hj (Nat.not_lt_zero j), rfl⟩
 ·
  rintro n2 a5 w2 ⟨t2, p, x4_0, rfl, F4, ok4, q6, q7, o3, o4, hp, hok, rfl⟩
  have hrl := readTo_len s p
  have hrb := run1_bd s p
  refine wp_seq ?_
  refine reg2 (a := a5) (σ := t2) rfl 0 (fun i_ => List.getD [] i_ Pr.any) ok4 rfl (by decide) rfl trivial ?_
  intro a6 s4 D4
  have ok5 := D4.ok
  have F5 := F4.step0 D4.stp
  have q8 : At (Ty.val x4_0) s4 a6 (.tmp 4) := D4.kt q6 rfl
  have q9 : At (Ty.val x1) s4 a6 (.tmp 10) := D4.kt q7 rfl
  have o5 := Own.k0 o3 D4.stp
  have o6 := Iter.k0 o4 D4.stp
  clear D4
  refine tailL (L := [5]) (R := (fun v τ => (Ty.nxt (decide (p < s.size)) p (run1 s p)).has τ v ∧ Iter τ 5 x1 s (stepTo s p))) rfl rfl (by decide) ok5 (YldM.toL (m_next (by decide) o6 q9)) (fun a7 s5 hs1 ok6 r1 sm1 => ?_)
  have F6 := F5.stepL hs1 (by decide)
  have q10 : At (Ty.val x4_0) s5 a7 (.tmp 4) := kpL hs1 (by decide) (sm1 4 (by decide)) q8
  have q11 : At (Ty.val x1) s5 a7 (.tmp 10) := kpL hs1 (by decide) (sm1 10 (by decide)) q9
  have o8 := Own.keepL o5 hs1 (by decide) (by decide)
  have q12 : At (Ty.nxt (decide (p < s.size)) p (run1 s p)) s5 a7 (.tmp 11) := (r1).1
  have o7 : Iter s5 5 x1 s (stepTo s p) := (r1).2
  clear r1
  refine tailL (L := []) (R := (fun v τ => Pr.has (Ty.pr (Ty.bool (decide (p < s.size)))) τ v)) rfl rfl (by decide) ok6 (Yld.toL (y_ext_n0 q12)) (fun a8 s6 hs2 ok7 r2 sm2 => ?_)
  have F7 := F6.stepL hs2 (by decide)
  have q13 : At (Ty.val x4_0) s6 a8 (.tmp 4) := kpL hs2 (by decide) (sm2 4 (by decide)) q10
  have q14 : At (Ty.val x1) s6 a8 (.tmp 10) := kpL hs2 (by decide) (sm2 10 (by decide)) q11
  have q15 : At (Ty.nxt (decide (p < s.size)) p (run1 s p)) s6 a8 (.tmp 11) := kpL hs2 (by decide) (sm2 11 (by decide)) q12
  have o9 := Own.keepL o8 hs2 (by decide) (by decide)
  have o10 := Iter.keepL o7 hs2 (by decide) (by decide)
  have q16 : At (Ty.bool (decide (p < s.size))) s6 a8 (.tmp 12) := r2
  clear r2
  refine wpList_nil ?_
  refine tn ?_
  refine wp_seq ?_
  refine cond_p (p := (p < s.size)) q16 (fun c1 => ?_) (fun c1 => ?_)
  ·
   refine wp_skip ?_
   refine tn ?_
   refine wp_block ?_
   refine wp_seq ?_
   refine reg (a := a8) (σ := s6) rfl (fun i_ => List.getD [(Ty.pr (Ty.val (Value.int .i32 ((run1 s p : Nat) : Int)))), (Ty.pr (Ty.val (Value.int .i32 ((run1 s p : Nat) : Int))))] i_ Pr.any) ok7 rfl ⟨?_, ?_, trivial⟩ ?_
   · intro ax tx hs okx sm
     exact run_plain rfl (y_ext_n2 (kp (sm 11 rfl) hs q15) (decide_eq_true (by omega)))
   · intro ax tx hs okx sm d0 d1
     have e0 : At (Ty.val (Value.int .i32 ((run1 s p : Nat) : Int))) tx ax (.tmp 13) := d0 rfl
     exact run_plain rfl (y_assign e0)
   intro a9 s7 D5
   have ok8 := D5.ok
   have F8 := F7.step0 D5.stp
   have q17 : At (Ty.val x4_0) s7 a9 (.tmp 4) := D5.kt q13 rfl
   have q18 : At (Ty.val x1) s7 a9 (.tmp 10) := D5.kt q14 rfl
   have o11 := Own.k0 o9 D5.stp
   have o12 := Iter.k0 o10 D5.stp
   have q19 : At (Ty.val (Value.int .i32 ((run1 s p : Nat) : Int))) s7 a9 (.tmp 6) := D5.done 1
   clear D5
   refine tn ?_
   refine wp_seq ?_
   refine reg (a := a9) (σ := s7) rfl (fun i_ => List.getD [(Ty.pr (Ty.val (Value.int .i32 ((run1 s p : Nat) : Int)))), (Ty.pr (Ty.int (signIdx (((run1 s p : Nat) : Int))))), (Ty.pr (Ty.int (signIdx (((run1 s p : Nat) : Int)))))] i_ Pr.any) ok8 rfl ⟨?_, ?_, ?_, trivial⟩ ?_
   · intro ax tx hs okx sm
     exact run_plain rfl (y_move (kp (sm 6 rfl) hs q19))
   · intro ax tx hs okx sm d0
     have e0 : At (Ty.val (Value.int .i32 ((run1 s p : Nat) : Int))) tx ax (.tmp 14) := d0 rfl
     exact run_plain rfl (y_call #[ax.eval (.tmp 14)] Try.func101 rfl rfl (by simp only [List.map_toArray, List.map_cons, List.map_nil]) (sign_fn (((run1 s p : Nat) : Int)) _ _ (cvi (σ := tx) (by omega) e0) (by omega)))
   · intro ax tx hs okx sm d0 d1 d2 d3
     have e1 : At (Ty.int (signIdx (((run1 s p : Nat) : Int)))) tx ax (.tmp 15) := d0 rfl
     have e0 : At (Ty.val (Value.int .i32 ((run1 s p : Nat) : Int))) tx ax (.tmp 14) := d2 rfl
     exact run_plain rfl (y_assign e1)
   intro a10 s8 D6
   have ok9 := D6.ok
   have F9 := F8.step0 D6.stp
   have q20 : At (Ty.val x4_0) s8 a10 (.tmp 4) := D6.kt q17 rfl
   have q21 : At (Ty.val x1) s8 a10 (.tmp 10) := D6.kt q18 rfl
   have o13 := Own.k0 o11 D6.stp
   have o14 := Iter.k0 o12 D6.stp
   have q22 : At (Ty.int (signIdx (((run1 s p : Nat) : Int)))) s8 a10 (.tmp 7) := D6.done 2
   clear D6
   refine tn ?_
   refine wp_seq ?_
   refine wp_seq ?_
   refine reg (a := a10) (σ := s8) rfl (fun i_ => List.getD [(Ty.pr (Ty.int (signIdx (((run1 s p : Nat) : Int))))), (Ty.pr (Ty.bool (decide ((signIdx (((run1 s p : Nat) : Int))) < (0 : Int)))))] i_ Pr.any) ok9 rfl ⟨?_, ?_, trivial⟩ ?_
   · intro ax tx hs okx sm
     exact run_plain rfl (y_move (kp (sm 7 rfl) hs q22))
   · intro ax tx hs okx sm d0
     have e0 : At (Ty.int (signIdx (((run1 s p : Nat) : Int)))) tx ax (.tmp 16) := d0 rfl
     exact run_plain rfl (y_lss e0 rfl)
   intro a11 s9 D7
   have ok10 := D7.ok
   have F10 := F9.step0 D7.stp
   have q23 : At (Ty.val x4_0) s9 a11 (.tmp 4) := D7.kt q20 rfl
   have q24 : At (Ty.val x1) s9 a11 (.tmp 10) := D7.kt q21 rfl
   have q25 : At (Ty.int (signIdx (((run1 s p : Nat) : Int)))) s9 a11 (.tmp 7) := D7.kt q22 rfl
   have o15 := Own.k0 o13 D7.stp
   have o16 := Iter.k0 o14 D7.stp
   have q26 : At (Ty.bool (decide ((signIdx (((run1 s p : Nat) : Int))) < (0 : Int)))) s9 a11 (.tmp 17) := D7.done 1
   clear D7
   refine tn ?_
   refine cond_p (p := ((signIdx (((run1 s p : Nat) : Int))) < (0 : Int))) q26 (fun c2 => ?_) (fun c2 => ?_)
   ·
    refine wp_seq ?_
    refine reg (a := a11) (σ := s9) rfl (fun i_ => List.getD [(Ty.pr (Ty.val (Value.slice none 0 0))), (Ty.pr (Ty.int (4 : Int)))] i_ Pr.any) ok10 rfl ⟨?_, ?_, trivial⟩ ?_
    · intro ax tx hs okx sm
      exact run_plain rfl (y_assign rfl)
    · intro ax tx hs okx sm d0 d1
      have e0 : At (Ty.val (Value.slice none 0 0)) tx ax (.tmp 2) := d0 rfl
      exact run_plain rfl (y_assign rfl)
    intro a12 s10 D8
    have ok11 := D8.ok
    have F11 := F10.step0 D8.stp
    have o17 := Own.k0 o15 D8.stp
    have o18 := Iter.k0 o16 D8.stp
    have q27 : At (Ty.val (Value.slice none 0 0)) s10 a12 (.tmp 2) := D8.done 0
    have q28 : At (Ty.int (4 : Int)) s10 a12 (.tmp 3) := D8.done 1
    clear D8
    refine tn ?_
    refine wp_ret ?_
    refine tr ?_
    refine br ?_
    refine tr ?_
    refine br ?_
    refine tr ?_
    exact retL2 rfl ok11 F11 (hasT2 (nil_lst (by (rw [if_neg (by rw [rune_bad (by omega) c2]; decide)])) q27) (cvi (by (exact (rune_bad (by omega) c2).symm)) q28))
   ·
    have hg := rune_good c2
    refine wp_skip ?_
    refine tn ?_
    refine reg2 (a := a11) (σ := s9) rfl 3 (fun i_ => List.getD [(Ty.pr (Ty.val x4_0)), (Ty.pr (Ty.int (signIdx (((run1 s p : Nat) : Int))))), (Ty.pr (Ty.sl 1 1 [(Ty.int (signIdx (((run1 s p : Nat) : Int))))]))] i_ Pr.any) ok10 rfl (by decide) rfl ⟨?_, ?_, ?_, trivial⟩ ?_
    · intro ax tx hs okx sm
      exact run_plain rfl (y_move (kp (sm 4 rfl) hs q23))
    · intro ax tx hs okx sm
      exact run_plain rfl (y_move (kp (sm 7 rfl) hs q25))
    · intro ax tx hs okx sm d0
      have e1 : At (Ty.int (signIdx (((run1 s p : Nat) : Int)))) tx ax (.tmp 19) := d0 rfl
      exact run_plain rfl (y_build1o Try.underlying34 Try.inf3 rfl (one_val rfl) e1)
    intro a13 s11 D9
    have ok12 := D9.ok
    have F12 := F10.step0 D9.stp
    have q29 : At (Ty.val x4_0) s11 a13 (.tmp 4) := D9.kt q23 rfl
    have q30 : At (Ty.val x1) s11 a13 (.tmp 10) := D9.kt q24 rfl
    have o19 := Own.k0 o15 D9.stp
    have o20 := Iter.k0 o16 D9.stp
    have q31 : At (Ty.val x4_0) s11 a13 (.tmp 18) := D9.done 0 (by decide)
    have q32 : At (Ty.sl 1 1 [(Ty.int (signIdx (((run1 s p : Nat) : Int))))]) s11 a13 (.tmp 20) := D9.done 2 (by decide)
    have b1 := sl_le q32
    clear D9
    refine tailL (L := [6]) (R := (fun v τ => Own τ 6 3 1 v ((List.length (readTo s p)) + 1) ((List.map Ty.int (readTo s p)) ++ [(Ty.int (signIdx (((run1 s p : Nat) : Int))))]))) rfl rfl (by decide) ok12 (YldM.toL (m_append Try.underlying34 Try.inf3 (by decide) rfl (by decide) (al (R := (Pr.own 6 3 1 (List.length (readTo s p)) (List.map Ty.int (readTo s p)))) q31 o19) q32 (by intro U hU; simp at hU; subst hU; exact one_val rfl) (by omega) (by omega))) (fun a14 s12 hs3 ok13 r3 sm3 => ?_)
    have F13 := F12.stepL hs3 (by decide)
    have q33 : At (Ty.val x4_0) s12 a14 (.tmp 4) := kpL hs3 (by decide) (sm3 4 (by decide)) q29
    have q34 : At (Ty.val x1) s12 a14 (.tmp 10) := kpL hs3 (by decide) (sm3 10 (by decide)) q30
    have o22 := Iter.keepL o20 hs3 (by decide) (by decide)
    obtain ⟨x2, hx2⟩ : ∃ x, a14.eval (.tmp 21) = x := ⟨_, rfl⟩
    have q35 : At (Ty.val x2) s12 a14 (.tmp 21) := hx2
    have o21 : Own s12 6 3 1 x2 (List.length ((readTo s p) ++ [(signIdx (((run1 s p : Nat) : Int)))])) (List.map Ty.int ((readTo s p) ++ [(signIdx (((run1 s p : Nat) : Int)))])) := al2 (R := (Pr.own 6 3 1 (List.length ((readTo s p) ++ [(signIdx (((run1 s p : Nat) : Int)))])) (List.map Ty.int ((readTo s p) ++ [(signIdx (((run1 s p : Nat) : Int)))])))) hx2 (cvo (by simp) (by first | (rw [List.map_append]; rfl) | simp) r3)
    clear r3
    refine tailL (L := []) (R := (fun v τ => Pr.has (Ty.pr (Ty.val x2)) τ v)) rfl rfl (by decide) ok13 (Yld.toL (y_assign q35)) (fun a15 s13 hs4 ok14 r4 sm4 => ?_)
    have F14 := F13.stepL hs4 (by decide)
    have q36 : At (Ty.val x1) s13 a15 (.tmp 10) := kpL hs4 (by decide) (sm4 10 (by decide)) q34
    have o23 := Iter.keepL o22 hs4 (by decide) (by decide)
    have o24 := Own.keepL o21 hs4 (by decide) (by decide)
    have q37 : At (Ty.val x2) s13 a15 (.tmp 4) := r4
    clear r4
    refine wpList_nil ?_
    refine bn ?_
    exact tn ⟨s.size - ((p + 1)), by omega, s13, (p + 1), x2, rfl, F14, ok14, q37, q36, (cvo (by (rw [readTo_succ, hg.2.1])) (by (rw [readTo_succ, hg.2.1])) o24), (cvit (by rw [stepTo, if_pos (by assumption), hg.2.2]) o23), by omega, fun j hj => by (by_cases e : j = p; subst e; rw [← hg.2.1]; omega; exact hok j (by omega)), rfl⟩
  ·
   have hpe : p = s.size := (by omega); have hok2 := hok; rw [hpe] at hok2
   refine wp_exit ?_
   refine tx ?_
   refine tx ?_
   refine bx ?_
   refine tn ?_
   refine wp_seq ?_
   refine wp_seq ?_
   obtain ⟨t3, e1, h1, q38⟩ := Own.seal o9 (by decide)
   rw [← e1]
   have F15 := F7.step h1 (by decide)
   have o25 := Iter.keepL o10 (h1.toL (L := [6]) (by simp)) (by decide) (by decide)
   have q39 : At (Ty.lst Ty.int (readTo s p)) t3 a8 (.tmp 4) := by have e : a8.eval (.tmp 4) = x4_0 := q13; show Ty.has _ _ _; rw [e]; exact q38
   have q40 := Ty.up (Ty.val x1) (h1.le (by decide)) q14
   have q41 := Ty.up (Ty.nxt (decide (p < s.size)) p (run1 s p)) (h1.le (by decide)) q15
   have q42 := Ty.up (Ty.bool (decide (p < s.size))) (h1.le (by decide)) q16
   refine reg (a := a8) (σ := t3) rfl (fun i_ => List.getD [(Ty.pr (Ty.lst Ty.int (readTo s p))), (Ty.pr (Ty.int (rowMay ((readTo s p))))), (Ty.pr (Ty.int (rowMay ((readTo s p)))))] i_ Pr.any) ok7 rfl ⟨?_, ?_, ?_, trivial⟩ ?_
   · intro ax tx hs okx sm
     exact run_plain rfl (y_move (kp (sm 4 rfl) hs q39))
   · intro ax tx hs okx sm d0
     have e0 : At (Ty.lst Ty.int (readTo s p)) tx ax (.tmp 22) := d0 rfl
     exact run_plain rfl (y_call #[ax.eval (.tmp 22)] Try.func44 rfl rfl (by simp only [List.map_toArray, List.map_cons, List.map_nil]) (rowCheck_fn ((readTo s p)) _ _ e0 ))
   · intro ax tx hs okx sm d0 d1 d2 d3
     have e1 : At (Ty.int (rowMay ((readTo s p)))) tx ax (.tmp 23) := d0 rfl
     have e0 : At (Ty.lst Ty.int (readTo s p)) tx ax (.tmp 22) := d2 rfl
     exact run_plain rfl (y_assign e1)
   intro a16 s14 D10
   have ok15 := D10.ok
   have F16 := F15.step0 D10.stp
   have q43 : At (Ty.lst Ty.int (readTo s p)) s14 a16 (.tmp 4) := D10.kt q39 rfl
   have o26 := Iter.k0 o25 D10.stp
   have q44 : At (Ty.int (rowMay ((readTo s p)))) s14 a16 (.tmp 8) := D10.done 2
   clear D10
   refine tn ?_
   refine wp_seq ?_
   refine reg (a := a16) (σ := s14) rfl (fun i_ => List.getD [(Ty.pr (Ty.int (rowMay ((readTo s p))))), (Ty.pr (Ty.bool (decide ((rowMay ((readTo s p))) ≠ (0 : Int)))))] i_ Pr.any) ok15 rfl ⟨?_, ?_, trivial⟩ ?_
   · intro ax tx hs okx sm
     exact run_plain rfl (y_move (kp (sm 8 rfl) hs q44))
   · intro ax tx hs okx sm d0
     have e0 : At (Ty.int (rowMay ((readTo s p)))) tx ax (.tmp 24) := d0 rfl
     exact run_plain rfl (y_neq e0 rfl)
   intro a17 s15 D11
   have ok16 := D11.ok
   have F17 := F16.step0 D11.stp
   have q45 : At (Ty.lst Ty.int (readTo s p)) s15 a17 (.tmp 4) := D11.kt q43 rfl
   have q46 : At (Ty.int (rowMay ((readTo s p)))) s15 a17 (.tmp 8) := D11.kt q44 rfl
   have q47 : At (Ty.bool (decide ((rowMay ((readTo s p))) ≠ (0 : Int)))) s15 a17 (.tmp 25) := D11.done 1
   clear D11
   refine tn ?_
   refine cond_p (p := ((rowMay ((readTo s p))) ≠ (0 : Int))) q47 (fun c3 => ?_) (fun c3 => ?_)
   ·
    rw [hpe] at c3
    refine wp_seq ?_
    refine reg (a := a17) (σ := s15) rfl (fun i_ => List.getD [(Ty.pr (Ty.int (rowMay ((readTo s p))))), (Ty.pr (Ty.val (Value.slice none 0 0))), (Ty.pr (Ty.int (rowMay ((readTo s p)))))] i_ Pr.any) ok16 rfl ⟨?_, ?_, ?_, trivial⟩ ?_
    · intro ax tx hs okx sm d0
      exact run_plain rfl (y_move (kp (sm 8 rfl) hs q46))
    · intro ax tx hs okx sm d0
      exact run_plain rfl (y_assign rfl)
    · intro ax tx hs okx sm d0 d1 d2 d3
      have e0 : At (Ty.int (rowMay ((readTo s p)))) tx ax (.tmp 26) := d0 rfl
      have e1 : At (Ty.val (Value.slice none 0 0)) tx ax (.tmp 2) := d1 rfl
      exact run_plain rfl (y_assign e0)
    intro a18 s16 D12
    have ok17 := D12.ok
    have F18 := F17.step0 D12.stp
    have q48 : At (Ty.val (Value.slice none 0 0)) s16 a18 (.tmp 2) := D12.done 1
    have q49 : At (Ty.int (rowMay ((readTo s p)))) s16 a18 (.tmp 3) := D12.done 2
    clear D12
    refine tn ?_
    refine wp_ret ?_
    refine tr ?_
    exact retL2 rfl ok17 F18 (hasT2 (nil_lst (by (rw [if_neg (by rw [txtMay_ok hok2]; exact c3)])) q48) (cvi (by (rw [hpe]; exact (txtMay_ok hok2).symm)) q49))
   ·
    rw [hpe] at c3; have hrm := Classical.not_not.1 c3
    refine wp_skip ?_
    refine tn ?_
    refine wp_seq ?_
    refine reg (a := a17) (σ := s15) rfl (fun i_ => List.getD [(Ty.pr (Ty.lst Ty.int (readTo s p))), (Ty.pr (Ty.lst Ty.int (readTo s p))), (Ty.pr (Ty.int (0 : Int)))] i_ Pr.any) ok16 rfl ⟨?_, ?_, ?_, trivial⟩ ?_
    · intro ax tx hs okx sm
      exact run_plain rfl (y_move (kp (sm 4 rfl) hs q45))
    · intro ax tx hs okx sm d0 d1
      have e0 : At (Ty.lst Ty.int (readTo s p)) tx ax (.tmp 27) := d0 rfl
      exact run_plain rfl (y_assign e0)
    · intro ax tx hs okx sm d0 d1 d2
      have e1 : At (Ty.lst Ty.int (readTo s p)) tx ax (.tmp 2) := d0 rfl
      have e0 : At (Ty.lst Ty.int (readTo s p)) tx ax (.tmp 27) := d1 rfl
      exact run_plain rfl (y_assign rfl)
    intro a19 s17 D13
    have ok18 := D13.ok
    have F19 := F17.step0 D13.stp
    have q50 : At (Ty.lst Ty.int (readTo s p)) s17 a19 (.tmp 2) := D13.done 1
    have q51 : At (Ty.int (0 : Int)) s17 a19 (.tmp 3) := D13.done 2
    clear D13
    refine tn ?_
    refine wp_ret ?_
    exact retL2 rfl ok18 F19 (hasT2 (cvt (by (rw [if_pos (by rw [txtMay_ok hok2]; exact hrm), hpe])) q50) (cvi (by (rw [txtMay_ok hok2]; exact hrm.symm)) q51))


set_option maxRecDepth 100000 in
theorem rsame_fn (xs : List Int) (ys : List Int) (σ : GW) (v0 v1 : Value) (hv0 : Ty.has (Ty.lst Ty.int xs) σ v0) (hv1 : Ty.has (Ty.lst Ty.int ys) σ v1)  :
    FnC Try.prog 25 #[v0, v1] σ (Ty.bool (decide (xs = ys))) := by
 refine fn_intro Try.func25 rfl Try.ntmps25 (Nat.le_of_ble_eq_true rfl) (fun s0 a0 hle F0 ok0 hargs => ?_)
 have p0 : At (Ty.lst Ty.int xs) s0 a0 (.tmp 0) := by have e := hargs 0 _ rfl; show Ty.has _ _ _; rw [e]; exact Ty.up _ hle hv0
 have b1 := sl_le p0
 have p1 : At (Ty.lst Ty.int ys) s0 a0 (.tmp 1) := by have e := hargs 1 _ rfl; show Ty.has _ _ _; rw [e]; exact Ty.up _ hle hv1
 have b2 := sl_le p1
 clear hargs
 refine wp_seq ?_
 refine reg (a := a0) (σ := s0) rfl (fun i_ => List.getD [(Ty.pr (Ty.bool false))] i_ Pr.any) ok0 rfl ⟨?_, trivial⟩ ?_
 · intro ax tx hs okx sm
   exact run_plain rfl (y_assign rfl)
 intro a1 s1 D1
 have ok1 := D1.ok
 have F1 := F0.step0 D1.stp
 have q1 : At (Ty.lst Ty.int xs) s1 a1 (.tmp 0) := D1.kt p0 rfl
 have q2 : At (Ty.lst Ty.int ys) s1 a1 (.tmp 1) := D1.kt p1 rfl
 clear D1
 refine tn ?_
 refine wp_seq ?_
 refine wp_seq ?_
 refine reg (a := a1) (σ := s1) rfl (fun i_ => List.getD [(Ty.pr (Ty.lst Ty.int xs)), (Ty.pr (Ty.nat (List.length xs))), (Ty.pr (Ty.lst Ty.int ys)), (Ty.pr (Ty.nat (List.length ys))), (Ty.pr (Ty.bool (decide ((((List.length xs) : Nat) : Int) ≠ (((List.length ys) : Nat) : Int)))))] i_ Pr.any) ok1 rfl ⟨?_, ?_, ?_, ?_, ?_, trivial⟩ ?_
 · intro ax tx hs okx sm
   exact run_plain rfl (y_move (kp (sm 0 rfl) hs q1))
 · intro ax tx hs okx sm d0
   have e0 : At (Ty.lst Ty.int xs) tx ax (.tmp 6) := d0 rfl
   exact run_plain rfl (y_len Try.underlying34 e0)
 · intro ax tx hs okx sm
   exact run_plain rfl (y_move (kp (sm 1 rfl) hs q2))
 · intro ax tx hs okx sm d0
   have e2 : At (Ty.lst Ty.int ys) tx ax (.tmp 8) := d0 rfl
   exact run_plain rfl (y_len Try.underlying34 e2)
 · intro ax tx hs okx sm d0 d1
   have e1 : At (Ty.nat (List.length xs)) tx ax (.tmp 7) := d0 rfl
   have e3 : At (Ty.nat (List.length ys)) tx ax (.tmp 9) := d1 rfl
   exact run_plain rfl (y_neq e1 e3)
 intro a2 s2 D2
 have ok2 := D2.ok
 have F2 := F1.step0 D2.stp
 have q3 : At (Ty.lst Ty.int xs) s2 a2 (.tmp 0) := D2.kt q1 rfl
 have q4 : At (Ty.lst Ty.int ys) s2 a2 (.tmp 1) := D2.kt q2 rfl
 have q5 : At (Ty.bool (decide ((((List.length xs) : Nat) : Int) ≠ (((List.length ys) : Nat) : Int)))) s2 a2 (.tmp 10) := D2.done 4
 clear D2
 refine tn ?_
 refine cond_p (p := ((((List.length xs) : Nat) : Int) ≠ (((List.length ys) : Nat) : Int))) q5 (fun c1 => ?_) (fun c1 => ?_)
 ·
  refine wp_seq ?_
  refine reg (a := a2) (σ := s2) rfl (fun i_ => List.getD [(Ty.pr (Ty.bool false))] i_ Pr.any) ok2 rfl ⟨?_, trivial⟩ ?_
  · intro ax tx hs okx sm
    exact run_plain rfl (y_assign rfl)
  intro a3 s3 D3
  have ok3 := D3.ok
  have F3 := F2.step0 D3.stp
  have q6 : At (Ty.bool false) s3 a3 (.tmp 4) := D3.done 0
  clear D3
  refine tn ?_
  refine wp_ret ?_
  refine tr ?_
  exact ret1 rfl ok3 F3 (cvb (by (rw [decide_eq_false]; intro e; subst e; omega)) q6)
 ·
  refine wp_skip ?_
  refine tn ?_
  refine wp_seq ?_
  refine wp_seq ?_
  refine reg (a := a2) (σ := s2) rfl (fun i_ => List.getD [(Ty.pr (Ty.int (0 : Int)))] i_ Pr.any) ok2 rfl ⟨?_, trivial⟩ ?_
  · intro ax tx hs okx sm
    exact run_plain rfl (y_assign rfl)
  intro a4 s4 D4
  have ok4 := D4.ok
  have F4 := F2.step0 D4.stp
  have q7 : At (Ty.lst Ty.int xs) s4 a4 (.tmp 0) := D4.kt q3 rfl
  have q8 : At (Ty.lst Ty.int ys) s4 a4 (.tmp 1) := D4.kt q4 rfl
  have q9 : At (Ty.int (0 : Int)) s4 a4 (.tmp 5) := D4.done 0
  clear D4
  refine tn ?_
  refine wp_block ?_
  refine loop (fun n1 a5 w1 => ∃ (t1 : GW) (k : Nat), t1.w = w1 ∧ From s0 t1 ∧ Ok 26 a5 ∧ At (Ty.nat k) t1 a5 (.tmp 5) ∧ At (Ty.lst Ty.int xs) t1 a5 (.tmp 0) ∧ At (Ty.lst Ty.int ys) t1 a5 (.tmp 1) ∧ (k ≤ xs.length) ∧ (xs.length = ys.length) ∧ (∀ j, j < k → xs.getD j 0 = ys.getD j 0) ∧ n1 = xs.length - k) (xs.length - (0)) ?_ ?_
  ·
   exact ⟨s4, 0, rfl, F4, ok4, (cvi (by (first | rfl | omega | (simp_all; done) | (simp_all; omega))) q9), q7, q8, by omega, by omega, fun j hj => absurd hj (Nat.not_lt_zero j), rfl⟩
  ·
   rintro n2 a6 w2 ⟨t2, k, rfl, F5, ok5, q10, q11, q12, hk, hl, heq, rfl⟩
   refine wp_seq ?_
   refine wp_seq ?_
   refine reg (a := a6) (σ := t2) rfl (fun i_ => List.getD [(Ty.pr (Ty.nat k)), (Ty.pr (Ty.lst Ty.int xs)), (Ty.pr (Ty.nat (List.length xs))), (Ty.pr (Ty.bool (decide (((k : Nat) : Int) < (((List.length xs) : Nat) : Int)))))] i_ Pr.any) ok5 rfl ⟨?_, ?_, ?_, ?_, trivial⟩ ?_
   · intro ax tx hs okx sm
     exact run_plain rfl (y_move (kp (sm 5 rfl) hs q10))
   · intro ax tx hs okx sm
     exact run_plain rfl (y_move (kp (sm 0 rfl) hs q11))
   · intro ax tx hs okx sm d0
     have e1 : At (Ty.lst Ty.int xs) tx ax (.tmp 12) := d0 rfl
     exact run_plain rfl (y_len Try.underlying34 e1)
   · intro ax tx hs okx sm d0 d1
     have e0 : At (Ty.nat k) tx ax (.tmp 11) := d0 rfl
     have e2 : At (Ty.nat (List.length xs)) tx ax (.tmp 13) := d1 rfl
     exact run_plain rfl (y_lss e0 e2)
   intro a7 s5 D5
   have ok6 := D5.ok
   have F6 := F5.step0 D5.stp
   have q13 : At (Ty.nat k) s5 a7 (.tmp 5) := D5.kt q10 rfl
   have q14 : At (Ty.lst Ty.int xs) s5 a7 (.tmp 0) := D5.kt q11 rfl
   have q15 : At (Ty.lst Ty.int ys) s5 a7 (.tmp 1) := D5.kt q12 rfl
   have q16 : At (Ty.bool (decide (((k : Nat) : Int) < (((List.length xs) : Nat) : Int)))) s5 a7 (.tmp 14) := D5.done 3
   clear D5
   refine tn ?_
   refine cond_p (p := (((k : Nat) : Int) < (((List.length xs) : Nat) : Int))) q16 (fun c2 => ?_) (fun c2 => ?_)
   ·
    refine wp_skip ?_
    refine tn ?_
    refine wp_seq ?_
    refine wp_block ?_
    refine wp_seq ?_
    refine reg (a := a7) (σ := s5) rfl (fun i_ => List.getD [(Ty.pr (Ty.lst Ty.int xs)), (Ty.pr (Ty.nat k)), (Ty.pr (Ty.ref [(Ty.int (xs.getD k 0))])), (Ty.pr (Ty.int (xs.getD k 0))), (Ty.pr (Ty.lst Ty.int ys)), (Ty.pr (Ty.nat k)), (Ty.pr (Ty.ref [(Ty.int (ys.getD k 0))])), (Ty.pr (Ty.int (ys.getD k 0))), (Ty.pr (Ty.bool (decide ((xs.getD k 0) ≠ (ys.getD k 0)))))] i_ Pr.any) ok6 rfl ⟨?_, ?_, ?_, ?_, ?_, ?_, ?_, ?_, ?_, trivial⟩ ?_
    · intro ax tx hs okx sm
      exact run_plain rfl (y_move (kp (sm 0 rfl) hs q14))
    · intro ax tx hs okx sm
      exact run_plain rfl (y_move (kp (sm 5 rfl) hs q13))
    · intro ax tx hs okx sm d0 d1
      have e0 : At (Ty.lst Ty.int xs) tx ax (.tmp 17) := d0 rfl
      have e1 : At (Ty.nat k) tx ax (.tmp 18) := d1 rfl
      exact run_plain rfl (y_index1 Try.underlying34 Try.inf3 e0 e1 (by omega) (lst_get Ty.int xs 0 k (by omega)))
    · intro ax tx hs okx sm d0
      have e2 : At (Ty.ref [(Ty.int (xs.getD k 0))]) tx ax (.tmp 19) := d0 rfl
      exact run_plain rfl (y_load Try.underlying3 rfl e2 rfl)
    · intro ax tx hs okx sm
      exact run_plain rfl (y_move (kp (sm 1 rfl) hs q15))
    · intro ax tx hs okx sm
      exact run_plain rfl (y_move (kp (sm 5 rfl) hs q13))
    · intro ax tx hs okx sm d0 d1
      have e4 : At (Ty.lst Ty.int ys) tx ax (.tmp 21) := d0 rfl
      have e5 : At (Ty.nat k) tx ax (.tmp 22) := d1 rfl
      exact run_plain rfl (y_index1 Try.underlying34 Try.inf3 e4 e5 (by omega) (lst_get Ty.int ys 0 k (by omega)))
    · intro ax tx hs okx sm d0
      have e6 : At (Ty.ref [(Ty.int (ys.getD k 0))]) tx ax (.tmp 23) := d0 rfl
      exact run_plain rfl (y_load Try.underlying3 rfl e6 rfl)
    · intro ax tx hs okx sm d0 d1
      have e3 : At (Ty.int (xs.getD k 0)) tx ax (.tmp 20) := d0 rfl
      have e7 : At (Ty.int (ys.getD k 0)) tx ax (.tmp 24) := d1 rfl
      exact run_plain rfl (y_neq e3 e7)
    intro a8 s6 D6
    have ok7 := D6.ok
    have F7 := F6.step0 D6.stp
    have q17 : At (Ty.nat k) s6 a8 (.tmp 5) := D6.kt q13 rfl
    have q18 : At (Ty.lst Ty.int xs) s6 a8 (.tmp 0) := D6.kt q14 rfl
    have q19 : At (Ty.lst Ty.int ys) s6 a8 (.tmp 1) := D6.kt q15 rfl
    have q20 : At (Ty.bool (decide ((xs.getD k 0) ≠ (ys.getD k 0)))) s6 a8 (.tmp 25) := D6.done 8
    clear D6
    refine tn ?_
    refine cond_p (p := ((xs.getD k 0) ≠ (ys.getD k 0))) q20 (fun c3 => ?_) (fun c3 => ?_)
    ·
     refine wp_seq ?_
     refine reg (a := a8) (σ := s6) rfl (fun i_ => List.getD [(Ty.pr (Ty.bool false))] i_ Pr.any) ok7 rfl ⟨?_, trivial⟩ ?_
     · intro ax tx hs okx sm
       exact run_plain rfl (y_assign rfl)
     intro a9 s7 D7
     have ok8 := D7.ok
     have F8 := F7.step0 D7.stp
     have q21 : At (Ty.bool false) s7 a9 (.tmp 4) := D7.done 0
     clear D7
     refine tn ?_
     refine wp_ret ?_
     refine br ?_
     refine tr ?_
     refine tr ?_
     refine br ?_
     refine tr ?_
     exact ret1 rfl ok8 F8 (cvb (by (exact (decide_eq_false (fun e => by subst e; simp_all)).symm)) q21)
    ·
     refine wp_skip ?_
     refine bn ?_
     refine tn ?_
     refine reg (a := a8) (σ := s6) rfl (fun i_ => List.getD [(Ty.pr (Ty.nat k)), (Ty.pr (Ty.int (((k : Nat) : Int) + (1 : Int)))), (Ty.pr (Ty.int (((k : Nat) : Int) + (1 : Int))))] i_ Pr.any) ok7 rfl ⟨?_, ?_, ?_, trivial⟩ ?_
     · intro ax tx hs okx sm
       exact run_plain rfl (y_move (kp (sm 5 rfl) hs q17))
     · intro ax tx hs okx sm d0
       have e0 : At (Ty.nat k) tx ax (.tmp 15) := d0 rfl
       exact run_plain rfl (y_add e0 rfl (w64 (by omega) (by omega)))
     · intro ax tx hs okx sm d0 d1 d2
       have e1 : At (Ty.int (((k : Nat) : Int) + (1 : Int))) tx ax (.tmp 16) := d0 rfl
       have e0 : At (Ty.nat k) tx ax (.tmp 15) := d1 rfl
       exact run_plain rfl (y_assign e1)
     intro a10 s8 D8
     have ok9 := D8.ok
     have F9 := F7.step0 D8.stp
     have q22 : At (Ty.lst Ty.int xs) s8 a10 (.tmp 0) := D8.kt q18 rfl
     have q23 : At (Ty.lst Ty.int ys) s8 a10 (.tmp 1) := D8.kt q19 rfl
     have q24 : At (Ty.int (((k : Nat) : Int) + (1 : Int))) s8 a10 (.tmp 5) := D8.done 2
     clear D8
     exact tn ⟨xs.length - ((k+1)), by omega, s8, (k+1), rfl, F9, ok9, (cvi (by (first | rfl | omega | (simp_all; done) | (simp_all; omega))) q24), q22, q23, by omega, by omega, all_snoc heq (by assumption), rfl⟩
   ·
    refine wp_exit ?_
    refine tx ?_
    refine tx ?_
    refine bx ?_
    refine tn ?_
    refine wp_seq ?_
    refine reg (a := a7) (σ := s5) rfl (fun i_ => List.getD [(Ty.pr (Ty.bool true))] i_ Pr.any) ok6 rfl ⟨?_, trivial⟩ ?_
    · intro ax tx hs okx sm
      exact run_plain rfl (y_assign rfl)
    intro a11 s9 D9
    have ok10 := D9.ok
    have F10 := F6.step0 D9.stp
    have q25 : At (Ty.bool true) s9 a11 (.tmp 4) := D9.done 0
    clear D9
    refine tn ?_
    refine wp_ret ?_
    exact ret1 rfl ok10 F10 (cvb (by (exact (decide_eq_true (list_ext (by omega) (fun j hj => heq j (by omega)))).symm)) q25)


set_option maxRecDepth 100000 in
theorem two_fn (a : List Int) (b : List Int) (σ : GW) (v0 v1 : Value) (hv0 : Ty.has (Ty.lst Ty.int a) σ v0) (hv1 : Ty.has (Ty.lst Ty.int b) σ v1)  :
    FnC Try.prog 97 #[v0, v1] σ (Ty.int (twoMay a b)) := by
 refine fn_intro Try.func97 rfl Try.ntmps97 (Nat.le_of_ble_eq_true rfl) (fun s0 a0 hle F0 ok0 hargs => ?_)
 have p0 : At (Ty.lst Ty.int a) s0 a0 (.tmp 0) := by have e := hargs 0 _ rfl; show Ty.has _ _ _; rw [e]; exact Ty.up _ hle hv0
 have b1 := sl_le p0
 have p1 : At (Ty.lst Ty.int b) s0 a0 (.tmp 1) := by have e := hargs 1 _ rfl; show Ty.has _ _ _; rw [e]; exact Ty.up _ hle hv1
 have b2 := sl_le p1
 clear hargs
 refine wp_seq ?_
 refine reg (a := a0) (σ := s0) rfl (fun i_ => List.getD [(Ty.pr (Ty.int (0 : Int)))] i_ Pr.any) ok0 rfl ⟨?_, trivial⟩ ?_
 · intro ax tx hs okx sm
   exact run_plain rfl (y_assign rfl)
 intro a1 s1 D1
 have ok1 := D1.ok
 have F1 := F0.step0 D1.stp
 have q1 : At (Ty.lst Ty.int a) s1 a1 (.tmp 0) := D1.kt p0 rfl
 have q2 : At (Ty.lst Ty.int b) s1 a1 (.tmp 1) := D1.kt p1 rfl
 clear D1
 refine tn ?_
 refine wp_seq ?_
 refine wp_seq ?_
 refine reg (a := a1) (σ := s1) rfl (fun i_ => List.getD [(Ty.pr (Ty.lst Ty.int a)), (Ty.pr (Ty.int (rowMay (a)))), (Ty.pr (Ty.int (rowMay (a))))] i_ Pr.any) ok1 rfl ⟨?_, ?_, ?_, trivial⟩ ?_
 · intro ax tx hs okx sm
   exact run_plain rfl (y_move (kp (sm 0 rfl) hs q1))
 · intro ax tx hs okx sm d0
   have e0 : At (Ty.lst Ty.int a) tx ax (.tmp 7) := d0 rfl
   exact run_plain rfl (y_call #[ax.eval (.tmp 7)] Try.func44 rfl rfl (by simp only [List.map_toArray, List.map_cons, List.map_nil]) (rowCheck_fn (a) _ _ e0 ))
 · intro ax tx hs okx sm d0 d1 d2 d3
   have e1 : At (Ty.int (rowMay (a))) tx ax (.tmp 8) := d0 rfl
   have e0 : At (Ty.lst Ty.int a) tx ax (.tmp 7) := d2 rfl
   exact run_plain rfl (y_assign e1)
 intro a2 s2 D2
 have ok2 := D2.ok
 have F2 := F1.step0 D2.stp
 have q3 : At (Ty.lst Ty.int a) s2 a2 (.tmp 0) := D2.kt q1 rfl
 have q4 : At (Ty.lst Ty.int b) s2 a2 (.tmp 1) := D2.kt q2 rfl
 have q5 : At (Ty.int (rowMay (a))) s2 a2 (.tmp 5) := D2.done 2
 clear D2
 refine tn ?_
 refine wp_seq ?_
 refine reg (a := a2) (σ := s2) rfl (fun i_ => List.getD [(Ty.pr (Ty.int (rowMay (a)))), (Ty.pr (Ty.bool (decide ((rowMay (a)) ≠ (0 : Int)))))] i_ Pr.any) ok2 rfl ⟨?_, ?_, trivial⟩ ?_
 · intro ax tx hs okx sm
   exact run_plain rfl (y_move (kp (sm 5 rfl) hs q5))
 · intro ax tx hs okx sm d0
   have e0 : At (Ty.int (rowMay (a))) tx ax (.tmp 9) := d0 rfl
   exact run_plain rfl (y_neq e0 rfl)
 intro a3 s3 D3
 have ok3 := D3.ok
 have F3 := F2.step0 D3.stp
 have q6 : At (Ty.lst Ty.int a) s3 a3 (.tmp 0) := D3.kt q3 rfl
 have q7 : At (Ty.lst Ty.int b) s3 a3 (.tmp 1) := D3.kt q4 rfl
 have q8 : At (Ty.int (rowMay (a))) s3 a3 (.tmp 5) := D3.kt q5 rfl
 have q9 : At (Ty.bool (decide ((rowMay (a)) ≠ (0 : Int)))) s3 a3 (.tmp 10) := D3.done 1
 clear D3
 refine tn ?_
 refine cond_p (p := ((rowMay (a)) ≠ (0 : Int))) q9 (fun c1 => ?_) (fun c1 => ?_)
 ·
  refine wp_seq ?_
  refine reg (a := a3) (σ := s3) rfl (fun i_ => List.getD [(Ty.pr (Ty.int (rowMay (a)))), (Ty.pr (Ty.int (rowMay (a))))] i_ Pr.any) ok3 rfl ⟨?_, ?_, trivial⟩ ?_
  · intro ax tx hs okx sm
    exact run_plain rfl (y_move (kp (sm 5 rfl) hs q8))
  · intro ax tx hs okx sm d0 d1
    have e0 : At (Ty.int (rowMay (a))) tx ax (.tmp 11) := d0 rfl
    exact run_plain rfl (y_assign e0)
  intro a4 s4 D4
  have ok4 := D4.ok
  have F4 := F3.step0 D4.stp
  have q10 : At (Ty.int (rowMay (a))) s4 a4 (.tmp 4) := D4.done 1
  clear D4
  refine tn ?_
  refine wp_ret ?_
  refine tr ?_
  exact ret1 rfl ok4 F4 (cvi (by (exact (twoMay_1 (by assumption)).symm)) q10)
 ·
  refine wp_skip ?_
  refine tn ?_
  refine wp_seq ?_
  refine wp_seq ?_
  refine reg (a := a3) (σ := s3) rfl (fun i_ => List.getD [(Ty.pr (Ty.lst Ty.int b)), (Ty.pr (Ty.int (rowMay (b)))), (Ty.pr (Ty.int (rowMay (b))))] i_ Pr.any) ok3 rfl ⟨?_, ?_, ?_, trivial⟩ ?_
  · intro ax tx hs okx sm
    exact run_plain rfl (y_move (kp (sm 1 rfl) hs q7))
  · intro ax tx hs okx sm d0
    have e0 : At (Ty.lst Ty.int b) tx ax (.tmp 12) := d0 rfl
    exact run_plain rfl (y_call #[ax.eval (.tmp 12)] Try.func44 rfl rfl (by simp only [List.map_toArray, List.map_cons, List.map_nil]) (rowCheck_fn (b) _ _ e0 ))
  · intro ax tx hs okx sm d0 d1 d2 d3
    have e1 : At (Ty.int (rowMay (b))) tx ax (.tmp 13) := d0 rfl
    have e0 : At (Ty.lst Ty.int b) tx ax (.tmp 12) := d2 rfl
    exact run_plain rfl (y_assign e1)
  intro a5 s5 D5
  have ok5 := D5.ok
  have F5 := F3.step0 D5.stp
  have q11 : At (Ty.lst Ty.int a) s5 a5 (.tmp 0) := D5.kt q6 rfl
  have q12 : At (Ty.lst Ty.int b) s5 a5 (.tmp 1) := D5.kt q7 rfl
  have q13 : At (Ty.int (rowMay (b))) s5 a5 (.tmp 6) := D5.done 2
  clear D5
  refine tn ?_
  refine wp_seq ?_
  refine reg (a := a5) (σ := s5) rfl (fun i_ => List.getD [(Ty.pr (Ty.int (rowMay (b)))), (Ty.pr (Ty.bool (decide ((rowMay (b)) ≠ (0 : Int)))))] i_ Pr.any) ok5 rfl ⟨?_, ?_, trivial⟩ ?_
  · intro ax tx hs okx sm
    exact run_plain rfl (y_move (kp (sm 6 rfl) hs q13))
  · intro ax tx hs okx sm d0
    have e0 : At (Ty.int (rowMay (b))) tx ax (.tmp 14) := d0 rfl
    exact run_plain rfl (y_neq e0 rfl)
  intro a6 s6 D6
  have ok6 := D6.ok
  have F6 := F5.step0 D6.stp
  have q14 : At (Ty.lst Ty.int a) s6 a6 (.tmp 0) := D6.kt q11 rfl
  have q15 : At (Ty.lst Ty.int b) s6 a6 (.tmp 1) := D6.kt q12 rfl
  have q16 : At (Ty.int (rowMay (b))) s6 a6 (.tmp 6) := D6.kt q13 rfl
  have q17 : At (Ty.bool (decide ((rowMay (b)) ≠ (0 : Int)))) s6 a6 (.tmp 15) := D6.done 1
  clear D6
  refine tn ?_
  refine cond_p (p := ((rowMay (b)) ≠ (0 : Int))) q17 (fun c2 => ?_) (fun c2 => ?_)
  ·
   refine wp_seq ?_
   refine reg (a := a6) (σ := s6) rfl (fun i_ => List.getD [(Ty.pr (Ty.int (rowMay (b)))), (Ty.pr (Ty.int (rowMay (b))))] i_ Pr.any) ok6 rfl ⟨?_, ?_, trivial⟩ ?_
   · intro ax tx hs okx sm
     exact run_plain rfl (y_move (kp (sm 6 rfl) hs q16))
   · intro ax tx hs okx sm d0 d1
     have e0 : At (Ty.int (rowMay (b))) tx ax (.tmp 16) := d0 rfl
     exact run_plain rfl (y_assign e0)
   intro a7 s7 D7
   have ok7 := D7.ok
   have F7 := F6.step0 D7.stp
   have q18 : At (Ty.int (rowMay (b))) s7 a7 (.tmp 4) := D7.done 1
   clear D7
   refine tn ?_
   refine wp_ret ?_
   refine tr ?_
   exact ret1 rfl ok7 F7 (cvi (by (exact (twoMay_2 (by omega) (by assumption)).symm)) q18)
  ·
   refine wp_skip ?_
   refine tn ?_
   refine wp_seq ?_
   refine wp_seq ?_
   refine reg (a := a6) (σ := s6) rfl (fun i_ => List.getD [(Ty.pr (Ty.lst Ty.int a)), (Ty.pr (Ty.nat (List.length a))), (Ty.pr (Ty.lst Ty.int b)), (Ty.pr (Ty.nat (List.length b))), (Ty.pr (Ty.bool (decide ((((List.length a) : Nat) : Int) ≠ (((List.length b) : Nat) : Int)))))] i_ Pr.any) ok6 rfl ⟨?_, ?_, ?_, ?_, ?_, trivial⟩ ?_
   · intro ax tx hs okx sm
     exact run_plain rfl (y_move (kp (sm 0 rfl) hs q14))
   · intro ax tx hs okx sm d0
     have e0 : At (Ty.lst Ty.int a) tx ax (.tmp 17) := d0 rfl
     exact run_plain rfl (y_len Try.underlying34 e0)
   · intro ax tx hs okx sm
     exact run_plain rfl (y_move (kp (sm 1 rfl) hs q15))
   · intro ax tx hs okx sm d0
     have e2 : At (Ty.lst Ty.int b) tx ax (.tmp 19) := d0 rfl
     exact run_plain rfl (y_len Try.underlying34 e2)
   · intro ax tx hs okx sm d0 d1
     have e1 : At (Ty.nat (List.length a)) tx ax (.tmp 18) := d0 rfl
     have e3 : At (Ty.nat (List.length b)) tx ax (.tmp 20) := d1 rfl
     exact run_plain rfl (y_neq e1 e3)
   intro a8 s8 D8
   have ok8 := D8.ok
   have F8 := F6.step0 D8.stp
   have q19 : At (Ty.bool (decide ((((List.length a) : Nat) : Int) ≠ (((List.length b) : Nat) : Int)))) s8 a8 (.tmp 21) := D8.done 4
   clear D8
   refine tn ?_
   refine cond_p (p := ((((List.length a) : Nat) : Int) ≠ (((List.length b) : Nat) : Int))) q19 (fun c3 => ?_) (fun c3 => ?_)
   ·
    refine wp_seq ?_
    refine reg (a := a8) (σ := s8) rfl (fun i_ => List.getD [(Ty.pr (Ty.int (1 : Int)))] i_ Pr.any) ok8 rfl ⟨?_, trivial⟩ ?_
    · intro ax tx hs okx sm
      exact run_plain rfl (y_assign rfl)
    intro a9 s9 D9
    have ok9 := D9.ok
    have F9 := F8.step0 D9.stp
    have q20 : At (Ty.int (1 : Int)) s9 a9 (.tmp 4) := D9.done 0
    clear D9
    refine tn ?_
    refine wp_ret ?_
    refine tr ?_
    exact ret1 rfl ok9 F9 (cvi (by (exact (twoMay_3 (by omega) (by omega) (by omega)).symm)) q20)
   ·
    refine wp_skip ?_
    refine tn ?_
    refine wp_seq ?_
    refine reg (a := a8) (σ := s8) rfl (fun i_ => List.getD [(Ty.pr (Ty.int (0 : Int)))] i_ Pr.any) ok8 rfl ⟨?_, trivial⟩ ?_
    · intro ax tx hs okx sm
      exact run_plain rfl (y_assign rfl)
    intro a10 s10 D10
    have ok10 := D10.ok
    have F10 := F8.step0 D10.stp
    have q21 : At (Ty.int (0 : Int)) s10 a10 (.tmp 4) := D10.done 0
    clear D10
    refine tn ?_
    refine wp_ret ?_
    exact ret1 rfl ok10 F10 (cvi (by (exact (twoMay_0 (by omega) (by omega) (by omega)).symm)) q21)


set_option maxRecDepth 100000 in
theorem product_fn (a : List Int) (b : List Int) (σ : GW) (v0 v1 : Value) (hv0 : Ty.has (Ty.lst Ty.int a) σ v0) (hv1 : Ty.has (Ty.lst Ty.int b) σ v1) (hl : a.length = b.length) (hbd : ∀ i, i < b.length → 0 ≤ b.getD i 0 ∧ b.getD i 0 < a.length) (hs : a.length ≤ 1000000) :
    FnC Try.prog 98 #[v0, v1] σ (Ty.lst Ty.int (byL a b)) := by
 refine fn_intro Try.func98 rfl Try.ntmps98 (Nat.le_of_ble_eq_true rfl) (fun s0 a0 hle F0 ok0 hargs => ?_)
 have p0 : At (Ty.lst Ty.int a) s0 a0 (.tmp 0) := by have e := hargs 0 _ rfl; show Ty.has _ _ _; rw [e]; exact Ty.up _ hle hv0
 have b1 := sl_le p0
 have p1 : At (Ty.lst Ty.int b) s0 a0 (.tmp 1) := by have e := hargs 1 _ rfl; show Ty.has _ _ _; rw [e]; exact Ty.up _ hle hv1
 have b2 := sl_le p1
 clear hargs
 refine wp_seq ?_
 refine reg (a := a0) (σ := s0) rfl (fun i_ => List.getD [(Ty.pr (Ty.val (Value.slice none 0 0)))] i_ Pr.any) ok0 rfl ⟨?_, trivial⟩ ?_
 · intro ax tx hs okx sm
   exact run_plain rfl (y_assign rfl)
 intro a1 s1 D1
 have ok1 := D1.ok
 have F1 := F0.step0 D1.stp
 have q1 : At (Ty.lst Ty.int a) s1 a1 (.tmp 0) := D1.kt p0 rfl
 have q2 : At (Ty.lst Ty.int b) s1 a1 (.tmp 1) := D1.kt p1 rfl
 clear D1
 refine tn ?_
 refine wp_seq ?_
 refine reg (a := a1) (σ := s1) rfl (fun i_ => List.getD [(Ty.pr (Ty.lst Ty.int a)), (Ty.pr (Ty.nat (List.length a))), (Pr.own 11 3 1 (List.length a) (List.map Ty.int (List.replicate (List.length a) 0))), (Pr.own 11 3 1 (List.length a) (List.map Ty.int (List.replicate (List.length a) 0)))] i_ Pr.any) ok1 rfl ⟨?_, ?_, ?_, ?_, trivial⟩ ?_
 · intro ax tx hs okx sm
   exact run_plain rfl (y_move (kp (sm 0 rfl) hs q1))
 · intro ax tx hs okx sm d0
   have e0 : At (Ty.lst Ty.int a) tx ax (.tmp 8) := d0 rfl
   exact run_plain rfl (y_len Try.underlying34 e0)
 · intro ax tx hs okx sm d0 d1
   have e1 : At (Ty.nat (List.length a)) tx ax (.tmp 9) := d0 rfl
   exact run_plain rfl ((y_make (k := 11) (T := Ty.int 0) (n := (List.length a)) Try.underlying34 Try.inf3 rfl (fun _ => rfl) e1 e1 (by omega) (by omega)).mono (fun _ _ h => cvo (by simp) (by simp) h))
 · intro ax tx hs okx sm d0 d1 d2 d3
   have e2 : (Pr.own 11 3 1 (List.length a) (List.map Ty.int (List.replicate (List.length a) 0))).has tx (ax.eval (.tmp 10)) := d0 rfl
   have e0 : At (Ty.lst Ty.int a) tx ax (.tmp 8) := d1 rfl
   have e1 : At (Ty.nat (List.length a)) tx ax (.tmp 9) := d2 rfl
   exact run_plain rfl (y_assign e2)
 intro a2 s2 D2
 have ok2 := D2.ok
 have F2 := F1.step0 D2.stp
 have q3 : At (Ty.lst Ty.int a) s2 a2 (.tmp 0) := D2.kt q1 rfl
 have q4 : At (Ty.lst Ty.int b) s2 a2 (.tmp 1) := D2.kt q2 rfl
 have q5 : (Pr.own 11 3 1 (List.length a) (List.map Ty.int (List.replicate (List.length a) 0))).has s2 (a2.eval (.tmp 5)) := D2.done 3
 clear D2
 refine tn ?_
 refine wp_seq ?_
 refine wp_seq ?_
 refine reg (a := a2) (σ := s2) rfl (fun i_ => List.getD [(Ty.pr (Ty.lst Ty.int b)), (Ty.pr (Ty.nat (List.length b))), (Ty.pr (Ty.int (0 : Int)))] i_ Pr.any) ok2 rfl ⟨?_, ?_, ?_, trivial⟩ ?_
 · intro ax tx hs okx sm
   exact run_plain rfl (y_move (kp (sm 1 rfl) hs q4))
 · intro ax tx hs okx sm d0
   have e0 : At (Ty.lst Ty.int b) tx ax (.tmp 11) := d0 rfl
   exact run_plain rfl (y_len Try.underlying34 e0)
 · intro ax tx hs okx sm
   exact run_plain rfl (y_move rfl)
 intro a3 s3 D3
 have ok3 := D3.ok
 have F3 := F2.step0 D3.stp
 have q6 : At (Ty.lst Ty.int a) s3 a3 (.tmp 0) := D3.kt q3 rfl
 have q7 : (Pr.own 11 3 1 (List.length a) (List.map Ty.int (List.replicate (List.length a) 0))).has s3 (a3.eval (.tmp 5)) := D3.ko q5 rfl
 have q8 : At (Ty.lst Ty.int b) s3 a3 (.tmp 11) := D3.done 0
 have q9 : At (Ty.nat (List.length b)) s3 a3 (.tmp 12) := D3.done 1
 have q10 : At (Ty.int (0 : Int)) s3 a3 (.tmp 13) := D3.done 2
 clear D3
 refine tn ?_
 refine wp_block ?_
 refine loop (fun n1 a4 w1 => ∃ (t1 : GW) (k : Nat), t1.w = w1 ∧ From s0 t1 ∧ Ok 27 a4 ∧ At (Ty.nat k) t1 a4 (.tmp 13) ∧ (Pr.own 11 3 1 (List.length (byTo a b k)) (List.map Ty.int (byTo a b k))).has t1 (a4.eval (.tmp 5)) ∧ At (Ty.lst Ty.int a) t1 a4 (.tmp 0) ∧ At (Ty.lst Ty.int b) t1 a4 (.tmp 11) ∧ At (Ty.nat (List.length b)) t1 a4 (.tmp 12) ∧ (k ≤ b.length) ∧ n1 = b.length - k) (b.length - (0)) ?_ ?_
 ·
  exact ⟨s3, 0, rfl, F3, ok3, (cvi (by (first | rfl | omega | (simp_all; done) | (simp_all; omega))) q10), (cvo (by (simp [byTo_zero])) (by (simp [byTo_zero])) q7), q6, q8, q9, by omega, rfl⟩
 ·
  rintro n2 a5 w2 ⟨t2, k, rfl, F4, ok4, q11, q12, q13, q14, q15, hk, rfl⟩
  have hp := byTo_len a b k
  refine wp_seq ?_
  refine reg (a := a5) (σ := t2) rfl (fun i_ => List.getD [(Ty.pr (Ty.bool (decide (((k : Nat) : Int) < (((List.length b) : Nat) : Int)))))] i_ Pr.any) ok4 rfl ⟨?_, trivial⟩ ?_
  · intro ax tx hs okx sm
    exact run_plain rfl (y_lss (kp (sm 13 rfl) hs q11) (kp (sm 12 rfl) hs q15))
  intro a6 s4 D4
  have ok5 := D4.ok
  have F5 := F4.step0 D4.stp
  have q16 : At (Ty.nat k) s4 a6 (.tmp 13) := D4.kt q11 rfl
  have q17 : (Pr.own 11 3 1 (List.length (byTo a b k)) (List.map Ty.int (byTo a b k))).has s4 (a6.eval (.tmp 5)) := D4.ko q12 rfl
  have q18 : At (Ty.lst Ty.int a) s4 a6 (.tmp 0) := D4.kt q13 rfl
  have q19 : At (Ty.lst Ty.int b) s4 a6 (.tmp 11) := D4.kt q14 rfl
  have q20 : At (Ty.nat (List.length b)) s4 a6 (.tmp 12) := D4.kt q15 rfl
  have q21 : At (Ty.bool (decide (((k : Nat) : Int) < (((List.length b) : Nat) : Int)))) s4 a6 (.tmp 14) := D4.done 0
  clear D4
  refine tn ?_
  refine wp_seq ?_
  refine cond_p (p := (((k : Nat) : Int) < (((List.length b) : Nat) : Int))) q21 (fun c1 => ?_) (fun c1 => ?_)
  ·
   have hq := hbd k (by omega)
   refine wp_skip ?_
   refine tn ?_
   refine wp_seq ?_
   refine wp_block ?_
   refine wp_seq ?_
   refine reg (a := a6) (σ := s4) rfl (fun i_ => List.getD [(Ty.pr (Ty.nat k)), (Ty.pr (Ty.ref [(Ty.int (b.getD k 0))])), (Ty.pr (Ty.int (b.getD k 0))), (Ty.pr (Ty.nat k)), (Ty.pr (Ty.int (b.getD k 0)))] i_ Pr.any) ok5 rfl ⟨?_, ?_, ?_, ?_, ?_, trivial⟩ ?_
   · intro ax tx hs okx sm
     exact run_plain rfl (y_move (kp (sm 13 rfl) hs q16))
   · intro ax tx hs okx sm
     exact run_plain rfl (y_index1 Try.underlying34 Try.inf3 (kp (sm 11 rfl) hs q19) (kp (sm 13 rfl) hs q16) (by omega) (lst_get Ty.int b 0 k (by omega)))
   · intro ax tx hs okx sm d0
     have e1 : At (Ty.ref [(Ty.int (b.getD k 0))]) tx ax (.tmp 16) := d0 rfl
     exact run_plain rfl (y_load Try.underlying3 rfl e1 rfl)
   · intro ax tx hs okx sm d0 d1 d2 d3
     have e0 : At (Ty.nat k) tx ax (.tmp 15) := d0 rfl
     have e1 : At (Ty.ref [(Ty.int (b.getD k 0))]) tx ax (.tmp 16) := d2 rfl
     have e2 : At (Ty.int (b.getD k 0)) tx ax (.tmp 17) := d3 rfl
     exact run_plain rfl (y_assign e0)
   · intro ax tx hs okx sm d0 d1 d2 d3 d4 d5
     have e2 : At (Ty.int (b.getD k 0)) tx ax (.tmp 17) := d0 rfl
     have e3 : At (Ty.nat k) tx ax (.tmp 6) := d1 rfl
     have e0 : At (Ty.nat k) tx ax (.tmp 15) := d2 rfl
     have e1 : At (Ty.ref [(Ty.int (b.getD k 0))]) tx ax (.tmp 16) := d3 rfl
     exact run_plain rfl (y_assign e2)
   intro a7 s5 D5
   have ok6 := D5.ok
   have F6 := F5.step0 D5.stp
   have q22 : At (Ty.nat k) s5 a7 (.tmp 13) := D5.kt q16 rfl
   have q23 : (Pr.own 11 3 1 (List.length (byTo a b k)) (List.map Ty.int (byTo a b k))).has s5 (a7.eval (.tmp 5)) := D5.ko q17 rfl
   have q24 : At (Ty.lst Ty.int a) s5 a7 (.tmp 0) := D5.kt q18 rfl
   have q25 : At (Ty.lst Ty.int b) s5 a7 (.tmp 11) := D5.kt q19 rfl
   have q26 : At (Ty.nat (List.length b)) s5 a7 (.tmp 12) := D5.kt q20 rfl
   have q27 : At (Ty.nat k) s5 a7 (.tmp 6) := D5.done 3
   have q28 : At (Ty.int (b.getD k 0)) s5 a7 (.tmp 7) := D5.done 4
   clear D5
   refine tn ?_
   refine reg2 (a := a7) (σ := s5) rfl 7 (fun i_ => List.getD [(Ty.pr (Ty.val (a7.eval (.tmp 5)))), (Ty.pr (Ty.nat k)), (Ty.pr (Ty.lst Ty.int a)), (Ty.pr (Ty.int (b.getD k 0))), (Ty.pr (Ty.ref [(Ty.int (a.getD ((b.getD k 0)).toNat 0))])), (Ty.pr (Ty.int (a.getD ((b.getD k 0)).toNat 0))), (Ty.pr (Ty.val (cellPtr (a7.eval (.tmp 5)) k)))] i_ Pr.any) ok6 rfl (by decide) rfl ⟨?_, ?_, ?_, ?_, ?_, ?_, ?_, trivial⟩ ?_
   · intro ax tx hs okx sm
     exact run_plain rfl (y_move (sm 5 rfl))
   · intro ax tx hs okx sm
     exact run_plain rfl (y_move (kp (sm 6 rfl) hs q27))
   · intro ax tx hs okx sm
     exact run_plain rfl (y_move (kp (sm 0 rfl) hs q24))
   · intro ax tx hs okx sm
     exact run_plain rfl (y_move (kp (sm 7 rfl) hs q28))
   · intro ax tx hs okx sm d0 d1
     have e2 : At (Ty.lst Ty.int a) tx ax (.tmp 20) := d0 rfl
     have e3 : At (Ty.int (b.getD k 0)) tx ax (.tmp 21) := d1 rfl
     exact run_plain rfl (y_index1 Try.underlying34 Try.inf3 e2 e3 (by omega) (lst_get Ty.int a 0 ((b.getD k 0)).toNat (by omega)))
   · intro ax tx hs okx sm d0
     have e4 : At (Ty.ref [(Ty.int (a.getD ((b.getD k 0)).toNat 0))]) tx ax (.tmp 22) := d0 rfl
     exact run_plain rfl (y_load Try.underlying3 rfl e4 rfl)
   · intro ax tx hs okx sm d0 d1 d2 d3 d4 d5 d6 d7
     have e0 : At (Ty.val (a7.eval (.tmp 5))) tx ax (.tmp 18) := d0 rfl
     have e1 : At (Ty.nat k) tx ax (.tmp 19) := d1 rfl
     have e2 : At (Ty.lst Ty.int a) tx ax (.tmp 20) := d4 rfl
     have e3 : At (Ty.int (b.getD k 0)) tx ax (.tmp 21) := d5 rfl
     have e4 : At (Ty.ref [(Ty.int (a.getD ((b.getD k 0)).toNat 0))]) tx ax (.tmp 22) := d6 rfl
     have e5 : At (Ty.int (a.getD ((b.getD k 0)).toNat 0)) tx ax (.tmp 23) := d7 rfl
     exact run_plain rfl (own_index1 (i := ((k : Nat) : Int)) Try.underlying34 Try.inf3 ((Pr.own 11 3 1 (List.length (byTo a b k)) (List.map Ty.int (byTo a b k))).up hs q23) e0 e1 (by omega) (by omega))
   intro a8 s6 D6
   have ok7 := D6.ok
   have F7 := F6.step0 D6.stp
   have q29 := (Pr.own 11 3 1 (List.length (byTo a b k)) (List.map Ty.int (byTo a b k))).up D6.stp q23
   have q30 : At (Ty.nat k) s6 a8 (.tmp 13) := D6.kt q22 rfl
   have q31 : a8.eval (.tmp 5) = a7.eval (.tmp 5) := D6.same 5 rfl
   have q32 : At (Ty.lst Ty.int a) s6 a8 (.tmp 0) := D6.kt q24 rfl
   have q33 : At (Ty.lst Ty.int b) s6 a8 (.tmp 11) := D6.kt q25 rfl
   have q34 : At (Ty.nat (List.length b)) s6 a8 (.tmp 12) := D6.kt q26 rfl
   have q35 : At (Ty.int (a.getD ((b.getD k 0)).toNat 0)) s6 a8 (.tmp 23) := D6.done 5 (by decide)
   have q36 : At (Ty.val (cellPtr (a7.eval (.tmp 5)) k)) s6 a8 (.tmp 24) := D6.done 6 (by decide)
   clear D6
   refine tail_step0 (m := 11) (R := (fun _ τ => Own τ 11 3 1 (a7.eval (.tmp 5)) (List.length (byTo a b k)) ((List.map Ty.int (byTo a b k)).set k (Ty.int (a.getD ((b.getD k 0)).toNat 0))))) rfl rfl (m_store Try.inf3 (by decide) q29 q36 (by simp only [List.length_map, List.length_set]; omega) q35 (one_val rfl)) (fun v1 s7 hs1 r1 => ?_)
   have F8 := F7.step hs1 (by decide)
   have q37 : At (Ty.nat k) s7 a8 (.tmp 13) := kpm hs1 (by decide) rfl q30
   have q38 : At (Ty.lst Ty.int a) s7 a8 (.tmp 0) := kpm hs1 (by decide) rfl q32
   have q39 : At (Ty.lst Ty.int b) s7 a8 (.tmp 11) := kpm hs1 (by decide) rfl q33
   have q40 : At (Ty.nat (List.length b)) s7 a8 (.tmp 12) := kpm hs1 (by decide) rfl q34
   have q41 : At (Ty.int (a.getD ((b.getD k 0)).toNat 0)) s7 a8 (.tmp 23) := kpm hs1 (by decide) rfl q35
   have q42 : (Pr.own 11 3 1 (List.length ((byTo a b k).set k (a.getD ((b.getD k 0)).toNat 0))) (List.map Ty.int ((byTo a b k).set k (a.getD ((b.getD k 0)).toNat 0)))).has s7 (a7.eval (.tmp 5)) := (cvo (by simp) (by simp) r1)
   refine wpList_nil ?_
   have q43 : (Pr.own 11 3 1 (List.length ((byTo a b k).set k (a.getD ((b.getD k 0)).toNat 0))) (List.map Ty.int ((byTo a b k).set k (a.getD ((b.getD k 0)).toNat 0)))).has s7 (a8.eval (.tmp 5)) := al q31 q42
   refine bn ?_
   refine tn ?_
   refine reg (a := a8) (σ := s7) rfl (fun i_ => List.getD [(Ty.pr (Ty.int (((k : Nat) : Int) + (1 : Int)))), (Ty.pr (Ty.int (((k : Nat) : Int) + (1 : Int))))] i_ Pr.any) ok7 rfl ⟨?_, ?_, trivial⟩ ?_
   · intro ax tx hs okx sm
     exact run_plain rfl (y_add (kp (sm 13 rfl) hs q37) rfl (w64 (by omega) (by omega)))
   · intro ax tx hs okx sm d0
     have e0 : At (Ty.int (((k : Nat) : Int) + (1 : Int))) tx ax (.tmp 25) := d0 rfl
     exact run_plain rfl (y_move e0)
   intro a10 s8 D7
   have ok9 := D7.ok
   have F9 := F8.step0 D7.stp
   have q44 : (Pr.own 11 3 1 (List.length ((byTo a b k).set k (a.getD ((b.getD k 0)).toNat 0))) (List.map Ty.int ((byTo a b k).set k (a.getD ((b.getD k 0)).toNat 0)))).has s8 (a10.eval (.tmp 5)) := D7.ko q43 rfl
   have q45 : At (Ty.lst Ty.int a) s8 a10 (.tmp 0) := D7.kt q38 rfl
   have q46 : At (Ty.lst Ty.int b) s8 a10 (.tmp 11) := D7.kt q39 rfl
   have q47 : At (Ty.nat (List.length b)) s8 a10 (.tmp 12) := D7.kt q40 rfl
   have q48 : At (Ty.int (((k : Nat) : Int) + (1 : Int))) s8 a10 (.tmp 13) := D7.done 1
   clear D7
   exact tn ⟨b.length - ((k+1)), by omega, s8, (k+1), rfl, F9, ok9, (cvi (by (first | rfl | omega | (simp_all; done) | (simp_all; omega))) q48), (cvo (by (rw [byTo_step a b k])) (by (rw [byTo_step a b k])) q44), q45, q46, q47, by omega, rfl⟩
  ·
   refine wp_exit ?_
   refine tx ?_
   refine tx ?_
   refine bx ?_
   refine tn ?_
   refine wp_seq ?_
   refine reg (a := a6) (σ := s4) rfl (fun i_ => List.getD [(Ty.pr (Ty.val (a6.eval (.tmp 5)))), (Ty.pr (Ty.val (a6.eval (.tmp 5))))] i_ Pr.any) ok5 rfl ⟨?_, ?_, trivial⟩ ?_
   · intro ax tx hs okx sm
     exact run_plain rfl (y_move (sm 5 rfl))
   · intro ax tx hs okx sm d0 d1
     have e0 : At (Ty.val (a6.eval (.tmp 5))) tx ax (.tmp 26) := d0 rfl
     exact run_plain rfl (y_assign e0)
   intro a11 s9 D8
   have ok10 := D8.ok
   have F10 := F5.step0 D8.stp
   have q49 : (Pr.own 11 3 1 (List.length (byTo a b k)) (List.map Ty.int (byTo a b k))).has s9 (a11.eval (.tmp 4)) := al (show _ = _ from D8.done 1) ((Pr.own 11 3 1 (List.length (byTo a b k)) (List.map Ty.int (byTo a b k))).up D8.stp q17)
   clear D8
   refine tn ?_
   refine wp_ret ?_
   obtain ⟨t3, e1, h1, q50⟩ := Own.seal q49 (by decide)
   rw [← e1]
   have F11 := F10.step h1 (by decide)
   exact ret1 rfl ok10 F11 (cvt (by (obtain rfl : k = b.length := (by omega); rw [byTo_all a b hl])) q50)


set_option maxRecDepth 100000 in
theorem times_fn (a : List Int) (b : List Int) (σ : GW) (v0 v1 : Value) (hv0 : Ty.has (Ty.lst Ty.int a) σ v0) (hv1 : Ty.has (Ty.lst Ty.int b) σ v1)  :
    FnC Try.prog 50 #[v0, v1] σ (Ty.tup2 (Ty.lst Ty.int (if twoMay a b = 0 then byL a b else [])) (Ty.int (twoMay a b))) := by
 refine fn_intro Try.func50 rfl Try.ntmps50 (Nat.le_of_ble_eq_true rfl) (fun s0 a0 hle F0 ok0 hargs => ?_)
 have p0 : At (Ty.lst Ty.int a) s0 a0 (.tmp 0) := by have e := hargs 0 _ rfl; show Ty.has _ _ _; rw [e]; exact Ty.up _ hle hv0
 have b1 := sl_le p0
 have p1 : At (Ty.lst Ty.int b) s0 a0 (.tmp 1) := by have e := hargs 1 _ rfl; show Ty.has _ _ _; rw [e]; exact Ty.up _ hle hv1
 have b2 := sl_le p1
 clear hargs
 refine wp_seq ?_
 refine reg (a := a0) (σ := s0) rfl (fun i_ => List.getD [(Ty.pr (Ty.val (Value.slice none 0 0))), (Ty.pr (Ty.int (0 : Int)))] i_ Pr.any) ok0 rfl ⟨?_, ?_, trivial⟩ ?_
 · intro ax tx hs okx sm
   exact run_plain rfl (y_assign rfl)
 · intro ax tx hs okx sm d0
   have e0 : At (Ty.val (Value.slice none 0 0)) tx ax (.tmp 4) := d0 rfl
   exact run_plain rfl (y_assign rfl)
 intro a1 s1 D1
 have ok1 := D1.ok
 have F1 := F0.step0 D1.stp
 have q1 : At (Ty.lst Ty.int a) s1 a1 (.tmp 0) := D1.kt p0 rfl
 have q2 : At (Ty.lst Ty.int b) s1 a1 (.tmp 1) := D1.kt p1 rfl
 clear D1
 refine tn ?_
 refine wp_seq ?_
 refine wp_seq ?_
 refine reg (a := a1) (σ := s1) rfl (fun i_ => List.getD [(Ty.pr (Ty.lst Ty.int a)), (Ty.pr (Ty.lst Ty.int b)), (Ty.pr (Ty.int (twoMay a b))), (Ty.pr (Ty.int (twoMay a b)))] i_ Pr.any) ok1 rfl ⟨?_, ?_, ?_, ?_, trivial⟩ ?_
 · intro ax tx hs okx sm
   exact run_plain rfl (y_move (kp (sm 0 rfl) hs q1))
 · intro ax tx hs okx sm
   exact run_plain rfl (y_move (kp (sm 1 rfl) hs q2))
 · intro ax tx hs okx sm d0 d1
   have e0 : At (Ty.lst Ty.int a) tx ax (.tmp 7) := d0 rfl
   have e1 : At (Ty.lst Ty.int b) tx ax (.tmp 8) := d1 rfl
   exact run_plain rfl (y_call #[ax.eval (.tmp 7), ax.eval (.tmp 8)] Try.func97 rfl rfl (by simp only [List.map_toArray, List.map_cons, List.map_nil]) (two_fn (a) (b) _ _ _ e0 e1 ))
 · intro ax tx hs okx sm d0 d1 d2 d3 d4
   have e2 : At (Ty.int (twoMay a b)) tx ax (.tmp 9) := d0 rfl
   have e0 : At (Ty.lst Ty.int a) tx ax (.tmp 7) := d2 rfl
   have e1 : At (Ty.lst Ty.int b) tx ax (.tmp 8) := d3 rfl
   exact run_plain rfl (y_assign e2)
 intro a2 s2 D2
 have ok2 := D2.ok
 have F2 := F1.step0 D2.stp
 have q3 : At (Ty.lst Ty.int a) s2 a2 (.tmp 0) := D2.kt q1 rfl
 have q4 : At (Ty.lst Ty.int b) s2 a2 (.tmp 1) := D2.kt q2 rfl
 have q5 : At (Ty.int (twoMay a b)) s2 a2 (.tmp 6) := D2.done 3
 clear D2
 refine tn ?_
 refine wp_seq ?_
 refine reg (a := a2) (σ := s2) rfl (fun i_ => List.getD [(Ty.pr (Ty.int (twoMay a b))), (Ty.pr (Ty.bool (decide ((twoMay a b) ≠ (0 : Int)))))] i_ Pr.any) ok2 rfl ⟨?_, ?_, trivial⟩ ?_
 · intro ax tx hs okx sm
   exact run_plain rfl (y_move (kp (sm 6 rfl) hs q5))
 · intro ax tx hs okx sm d0
   have e0 : At (Ty.int (twoMay a b)) tx ax (.tmp 10) := d0 rfl
   exact run_plain rfl (y_neq e0 rfl)
 intro a3 s3 D3
 have ok3 := D3.ok
 have F3 := F2.step0 D3.stp
 have q6 : At (Ty.lst Ty.int a) s3 a3 (.tmp 0) := D3.kt q3 rfl
 have q7 : At (Ty.lst Ty.int b) s3 a3 (.tmp 1) := D3.kt q4 rfl
 have q8 : At (Ty.int (twoMay a b)) s3 a3 (.tmp 6) := D3.kt q5 rfl
 have q9 : At (Ty.bool (decide ((twoMay a b) ≠ (0 : Int)))) s3 a3 (.tmp 11) := D3.done 1
 clear D3
 refine tn ?_
 refine cond_p (p := ((twoMay a b) ≠ (0 : Int))) q9 (fun c1 => ?_) (fun c1 => ?_)
 ·
  refine wp_seq ?_
  refine reg (a := a3) (σ := s3) rfl (fun i_ => List.getD [(Ty.pr (Ty.int (twoMay a b))), (Ty.pr (Ty.val (Value.slice none 0 0))), (Ty.pr (Ty.int (twoMay a b)))] i_ Pr.any) ok3 rfl ⟨?_, ?_, ?_, trivial⟩ ?_
  · intro ax tx hs okx sm d0
    exact run_plain rfl (y_move (kp (sm 6 rfl) hs q8))
  · intro ax tx hs okx sm d0
    exact run_plain rfl (y_assign rfl)
  · intro ax tx hs okx sm d0 d1 d2 d3
    have e0 : At (Ty.int (twoMay a b)) tx ax (.tmp 12) := d0 rfl
    have e1 : At (Ty.val (Value.slice none 0 0)) tx ax (.tmp 4) := d1 rfl
    exact run_plain rfl (y_assign e0)
  intro a4 s4 D4
  have ok4 := D4.ok
  have F4 := F3.step0 D4.stp
  have q10 : At (Ty.val (Value.slice none 0 0)) s4 a4 (.tmp 4) := D4.done 1
  have q11 : At (Ty.int (twoMay a b)) s4 a4 (.tmp 5) := D4.done 2
  clear D4
  refine tn ?_
  refine wp_ret ?_
  refine tr ?_
  exact ret2 rfl ok4 F4 (nil_lst (by (rw [if_neg c1])) q10) q11
 ·
  obtain ⟨hra, hrb, hl⟩ := twoMay_ok.1 (Classical.not_not.1 c1); have hs1 : a.length ≤ 1000000 := (by have := hra.le; omega); have hbd : ∀ i, i < b.length → 0 ≤ b.getD i 0 ∧ b.getD i 0 < a.length := (fun i hi => by rw [hl]; exact hrb.at hi)
  refine wp_skip ?_
  refine tn ?_
  refine wp_seq ?_
  refine reg (a := a3) (σ := s3) rfl (fun i_ => List.getD [(Ty.pr (Ty.lst Ty.int a)), (Ty.pr (Ty.lst Ty.int b)), (Ty.pr (Ty.lst Ty.int (byL a b))), (Ty.pr (Ty.lst Ty.int (byL a b))), (Ty.pr (Ty.int (0 : Int)))] i_ Pr.any) ok3 rfl ⟨?_, ?_, ?_, ?_, ?_, trivial⟩ ?_
  · intro ax tx hs okx sm
    exact run_plain rfl (y_move (kp (sm 0 rfl) hs q6))
  · intro ax tx hs okx sm
    exact run_plain rfl (y_move (kp (sm 1 rfl) hs q7))
  · intro ax tx hs okx sm d0 d1
    have e0 : At (Ty.lst Ty.int a) tx ax (.tmp 13) := d0 rfl
    have e1 : At (Ty.lst Ty.int b) tx ax (.tmp 14) := d1 rfl
    exact run_plain rfl (y_call #[ax.eval (.tmp 13), ax.eval (.tmp 14)] Try.func98 rfl rfl (by simp only [List.map_toArray, List.map_cons, List.map_nil]) (product_fn (a) (b) _ _ _ e0 e1 (by first | assumption | omega) (by first | assumption | omega) (by first | assumption | omega)))
  · intro ax tx hs okx sm d0 d1 d2 d3 d4
    have e2 : At (Ty.lst Ty.int (byL a b)) tx ax (.tmp 15) := d0 rfl
    have e0 : At (Ty.lst Ty.int a) tx ax (.tmp 13) := d2 rfl
    have e1 : At (Ty.lst Ty.int b) tx ax (.tmp 14) := d3 rfl
    exact run_plain rfl (y_assign e2)
  · intro ax tx hs okx sm d0 d1 d2 d3 d4
    have e3 : At (Ty.lst Ty.int (byL a b)) tx ax (.tmp 4) := d0 rfl
    have e0 : At (Ty.lst Ty.int a) tx ax (.tmp 13) := d1 rfl
    have e1 : At (Ty.lst Ty.int b) tx ax (.tmp 14) := d2 rfl
    have e2 : At (Ty.lst Ty.int (byL a b)) tx ax (.tmp 15) := d3 rfl
    exact run_plain rfl (y_assign rfl)
  intro a5 s5 D5
  have ok5 := D5.ok
  have F5 := F3.step0 D5.stp
  have q12 : At (Ty.lst Ty.int (byL a b)) s5 a5 (.tmp 4) := D5.done 3
  have q13 : At (Ty.int (0 : Int)) s5 a5 (.tmp 5) := D5.done 4
  clear D5
  refine tn ?_
  refine wp_ret ?_
  exact ret2 rfl ok5 F5 (cvt (by (rw [if_pos (Classical.not_not.1 c1)])) q12) (cvi (by (exact (Classical.not_not.1 c1).symm)) q13)


set_option maxRecDepth 100000 in
theorem inverse_fn (r : List Int) (σ : GW) (v0 : Value) (hv0 : Ty.has (Ty.lst Ty.int r) σ v0) (hr : IsRow r) :
    FnC Try.prog 95 #[v0] σ (Ty.lst Ty.int (undoL r)) := by
 have hln := hr.le
 refine fn_intro Try.func95 rfl Try.ntmps95 (Nat.le_of_ble_eq_true rfl) (fun s0 a0 hle F0 ok0 hargs => ?_)
 have p0 : At (Ty.lst Ty.int r) s0 a0 (.tmp 0) := by have e := hargs 0 _ rfl; show Ty.has _ _ _; rw [e]; exact Ty.up _ hle hv0
 have b1 := sl_le p0
 clear hargs
 refine wp_seq ?_
 refine reg (a := a0) (σ := s0) rfl (fun i_ => List.getD [(Ty.pr (Ty.val (Value.slice none 0 0)))] i_ Pr.any) ok0 rfl ⟨?_, trivial⟩ ?_
 · intro ax tx hs okx sm
   exact run_plain rfl (y_assign rfl)
 intro a1 s1 D1
 have ok1 := D1.ok
 have F1 := F0.step0 D1.stp
 have q1 : At (Ty.lst Ty.int r) s1 a1 (.tmp 0) := D1.kt p0 rfl
 clear D1
 refine tn ?_
 refine wp_seq ?_
 refine reg (a := a1) (σ := s1) rfl (fun i_ => List.getD [(Ty.pr (Ty.lst Ty.int r)), (Ty.pr (Ty.nat (List.length r))), (Pr.own 11 3 1 (List.length r) (List.map Ty.int (List.replicate (List.length r) 0))), (Pr.own 11 3 1 (List.length r) (List.map Ty.int (List.replicate (List.length r) 0)))] i_ Pr.any) ok1 rfl ⟨?_, ?_, ?_, ?_, trivial⟩ ?_
 · intro ax tx hs okx sm
   exact run_plain rfl (y_move (kp (sm 0 rfl) hs q1))
 · intro ax tx hs okx sm d0
   have e0 : At (Ty.lst Ty.int r) tx ax (.tmp 6) := d0 rfl
   exact run_plain rfl (y_len Try.underlying34 e0)
 · intro ax tx hs okx sm d0 d1
   have e1 : At (Ty.nat (List.length r)) tx ax (.tmp 7) := d0 rfl
   exact run_plain rfl ((y_make (k := 11) (T := Ty.int 0) (n := (List.length r)) Try.underlying34 Try.inf3 rfl (fun _ => rfl) e1 e1 (by omega) (by omega)).mono (fun _ _ h => cvo (by simp) (by simp) h))
 · intro ax tx hs okx sm d0 d1 d2 d3
   have e2 : (Pr.own 11 3 1 (List.length r) (List.map Ty.int (List.replicate (List.length r) 0))).has tx (ax.eval (.tmp 8)) := d0 rfl
   have e0 : At (Ty.lst Ty.int r) tx ax (.tmp 6) := d1 rfl
   have e1 : At (Ty.nat (List.length r)) tx ax (.tmp 7) := d2 rfl
   exact run_plain rfl (y_assign e2)
 intro a2 s2 D2
 have ok2 := D2.ok
 have F2 := F1.step0 D2.stp
 have q2 : At (Ty.lst Ty.int r) s2 a2 (.tmp 0) := D2.kt q1 rfl
 have q3 : (Pr.own 11 3 1 (List.length r) (List.map Ty.int (List.replicate (List.length r) 0))).has s2 (a2.eval (.tmp 3)) := D2.done 3
 clear D2
 refine tn ?_
 refine wp_seq ?_
 refine wp_seq ?_
 refine reg (a := a2) (σ := s2) rfl (fun i_ => List.getD [(Ty.pr (Ty.lst Ty.int r)), (Ty.pr (Ty.nat (List.length r))), (Ty.pr (Ty.int (0 : Int)))] i_ Pr.any) ok2 rfl ⟨?_, ?_, ?_, trivial⟩ ?_
 · intro ax tx hs okx sm
   exact run_plain rfl (y_move (kp (sm 0 rfl) hs q2))
 · intro ax tx hs okx sm d0
   have e0 : At (Ty.lst Ty.int r) tx ax (.tmp 9) := d0 rfl
   exact run_plain rfl (y_len Try.underlying34 e0)
 · intro ax tx hs okx sm
   exact run_plain rfl (y_move rfl)
 intro a3 s3 D3
 have ok3 := D3.ok
 have F3 := F2.step0 D3.stp
 have q4 : (Pr.own 11 3 1 (List.length r) (List.map Ty.int (List.replicate (List.length r) 0))).has s3 (a3.eval (.tmp 3)) := D3.ko q3 rfl
 have q5 : At (Ty.lst Ty.int r) s3 a3 (.tmp 9) := D3.done 0
 have q6 : At (Ty.nat (List.length r)) s3 a3 (.tmp 10) := D3.done 1
 have q7 : At (Ty.int (0 : Int)) s3 a3 (.tmp 11) := D3.done 2
 clear D3
 refine tn ?_
 refine wp_block ?_
 refine loop (fun n1 a4 w1 => ∃ (t1 : GW) (k : Nat), t1.w = w1 ∧ From s0 t1 ∧ Ok 22 a4 ∧ At (Ty.nat k) t1 a4 (.tmp 11) ∧ (Pr.own 11 3 1 (List.length (undoTo r k)) (List.map Ty.int (undoTo r k))).has t1 (a4.eval (.tmp 3)) ∧ At (Ty.lst Ty.int r) t1 a4 (.tmp 9) ∧ At (Ty.nat (List.length r)) t1 a4 (.tmp 10) ∧ (k ≤ r.length) ∧ n1 = r.length - k) (r.length - (0)) ?_ ?_
 ·
  exact ⟨s3, 0, rfl, F3, ok3, (cvi (by (first | rfl | omega | (simp_all; done) | (simp_all; omega))) q7), (cvo (by (simp [undoTo_zero])) (by (simp [undoTo_zero])) q4), q5, q6, by omega, rfl⟩
 ·
  rintro n2 a5 w2 ⟨t2, k, rfl, F4, ok4, q8, q9, q10, q11, hk, rfl⟩
  have hp := undoTo_len r k
  refine wp_seq ?_
  refine reg (a := a5) (σ := t2) rfl (fun i_ => List.getD [(Ty.pr (Ty.bool (decide (((k : Nat) : Int) < (((List.length r) : Nat) : Int)))))] i_ Pr.any) ok4 rfl ⟨?_, trivial⟩ ?_
  · intro ax tx hs okx sm
    exact run_plain rfl (y_lss (kp (sm 11 rfl) hs q8) (kp (sm 10 rfl) hs q11))
  intro a6 s4 D4
  have ok5 := D4.ok
  have F5 := F4.step0 D4.stp
  have q12 : At (Ty.nat k) s4 a6 (.tmp 11) := D4.kt q8 rfl
  have q13 : (Pr.own 11 3 1 (List.length (undoTo r k)) (List.map Ty.int (undoTo r k))).has s4 (a6.eval (.tmp 3)) := D4.ko q9 rfl
  have q14 : At (Ty.lst Ty.int r) s4 a6 (.tmp 9) := D4.kt q10 rfl
  have q15 : At (Ty.nat (List.length r)) s4 a6 (.tmp 10) := D4.kt q11 rfl
  have q16 : At (Ty.bool (decide (((k : Nat) : Int) < (((List.length r) : Nat) : Int)))) s4 a6 (.tmp 12) := D4.done 0
  clear D4
  refine tn ?_
  refine wp_seq ?_
  refine cond_p (p := (((k : Nat) : Int) < (((List.length r) : Nat) : Int))) q16 (fun c1 => ?_) (fun c1 => ?_)
  ·
   have hq := hr.at (i := k) (by omega)
   refine wp_skip ?_
   refine tn ?_
   refine wp_seq ?_
   refine wp_block ?_
   refine wp_seq ?_
   refine reg (a := a6) (σ := s4) rfl (fun i_ => List.getD [(Ty.pr (Ty.nat k)), (Ty.pr (Ty.ref [(Ty.int (r.getD k 0))])), (Ty.pr (Ty.int (r.getD k 0))), (Ty.pr (Ty.nat k)), (Ty.pr (Ty.int (r.getD k 0)))] i_ Pr.any) ok5 rfl ⟨?_, ?_, ?_, ?_, ?_, trivial⟩ ?_
   · intro ax tx hs okx sm
     exact run_plain rfl (y_move (kp (sm 11 rfl) hs q12))
   · intro ax tx hs okx sm
     exact run_plain rfl (y_index1 Try.underlying34 Try.inf3 (kp (sm 9 rfl) hs q14) (kp (sm 11 rfl) hs q12) (by omega) (lst_get Ty.int r 0 k (by omega)))
   · intro ax tx hs okx sm d0
     have e1 : At (Ty.ref [(Ty.int (r.getD k 0))]) tx ax (.tmp 14) := d0 rfl
     exact run_plain rfl (y_load Try.underlying3 rfl e1 rfl)
   · intro ax tx hs okx sm d0 d1 d2 d3
     have e0 : At (Ty.nat k) tx ax (.tmp 13) := d0 rfl
     have e1 : At (Ty.ref [(Ty.int (r.getD k 0))]) tx ax (.tmp 14) := d2 rfl
     have e2 : At (Ty.int (r.getD k 0)) tx ax (.tmp 15) := d3 rfl
     exact run_plain rfl (y_assign e0)
   · intro ax tx hs okx sm d0 d1 d2 d3 d4 d5
     have e2 : At (Ty.int (r.getD k 0)) tx ax (.tmp 15) := d0 rfl
     have e3 : At (Ty.nat k) tx ax (.tmp 4) := d1 rfl
     have e0 : At (Ty.nat k) tx ax (.tmp 13) := d2 rfl
     have e1 : At (Ty.ref [(Ty.int (r.getD k 0))]) tx ax (.tmp 14) := d3 rfl
     exact run_plain rfl (y_assign e2)
   intro a7 s5 D5
   have ok6 := D5.ok
   have F6 := F5.step0 D5.stp
   have q17 : At (Ty.nat k) s5 a7 (.tmp 11) := D5.kt q12 rfl
   have q18 : (Pr.own 11 3 1 (List.length (undoTo r k)) (List.map Ty.int (undoTo r k))).has s5 (a7.eval (.tmp 3)) := D5.ko q13 rfl
   have q19 : At (Ty.lst Ty.int r) s5 a7 (.tmp 9) := D5.kt q14 rfl
   have q20 : At (Ty.nat (List.length r)) s5 a7 (.tmp 10) := D5.kt q15 rfl
   have q21 : At (Ty.nat k) s5 a7 (.tmp 4) := D5.done 3
   have q22 : At (Ty.int (r.getD k 0)) s5 a7 (.tmp 5) := D5.done 4
   clear D5
   refine tn ?_
   refine reg2 (a := a7) (σ := s5) rfl 4 (fun i_ => List.getD [(Ty.pr (Ty.val (a7.eval (.tmp 3)))), (Ty.pr (Ty.int (r.getD k 0))), (Ty.pr (Ty.nat k)), (Ty.pr (Ty.val (cellPtr (a7.eval (.tmp 3)) ((r.getD k 0)).toNat)))] i_ Pr.any) ok6 rfl (by decide) rfl ⟨?_, ?_, ?_, ?_, trivial⟩ ?_
   · intro ax tx hs okx sm
     exact run_plain rfl (y_move (sm 3 rfl))
   · intro ax tx hs okx sm
     exact run_plain rfl (y_move (kp (sm 5 rfl) hs q22))
   · intro ax tx hs okx sm
     exact run_plain rfl (y_move (kp (sm 4 rfl) hs q21))
   · intro ax tx hs okx sm d0 d1 d2 d3 d4
     have e0 : At (Ty.val (a7.eval (.tmp 3))) tx ax (.tmp 16) := d0 rfl
     have e1 : At (Ty.int (r.getD k 0)) tx ax (.tmp 17) := d1 rfl
     have e2 : At (Ty.nat k) tx ax (.tmp 18) := d4 rfl
     exact run_plain rfl (own_index1 (i := (r.getD k 0)) Try.underlying34 Try.inf3 ((Pr.own 11 3 1 (List.length (undoTo r k)) (List.map Ty.int (undoTo r k))).up hs q18) e0 e1 (by omega) (by omega))
   intro a8 s6 D6
   have ok7 := D6.ok
   have F7 := F6.step0 D6.stp
   have q23 := (Pr.own 11 3 1 (List.length (undoTo r k)) (List.map Ty.int (undoTo r k))).up D6.stp q18
   have q24 : At (Ty.nat k) s6 a8 (.tmp 11) := D6.kt q17 rfl
   have q25 : a8.eval (.tmp 3) = a7.eval (.tmp 3) := D6.same 3 rfl
   have q26 : At (Ty.lst Ty.int r) s6 a8 (.tmp 9) := D6.kt q19 rfl
   have q27 : At (Ty.nat (List.length r)) s6 a8 (.tmp 10) := D6.kt q20 rfl
   have q28 : At (Ty.nat k) s6 a8 (.tmp 18) := D6.done 2 (by decide)
   have q29 : At (Ty.val (cellPtr (a7.eval (.tmp 3)) ((r.getD k 0)).toNat)) s6 a8 (.tmp 19) := D6.done 3 (by decide)
   clear D6
   refine tail_step0 (m := 11) (R := (fun _ τ => Own τ 11 3 1 (a7.eval (.tmp 3)) (List.length (undoTo r k)) ((List.map Ty.int (undoTo r k)).set ((r.getD k 0)).toNat (Ty.nat k)))) rfl rfl (m_store Try.inf3 (by decide) q23 q29 (by simp only [List.length_map, List.length_set]; omega) q28 (one_val rfl)) (fun v1 s7 hs1 r1 => ?_)
   have F8 := F7.step hs1 (by decide)
   have q30 : At (Ty.nat k) s7 a8 (.tmp 11) := kpm hs1 (by decide) rfl q24
   have q31 : At (Ty.lst Ty.int r) s7 a8 (.tmp 9) := kpm hs1 (by decide) rfl q26
   have q32 : At (Ty.nat (List.length r)) s7 a8 (.tmp 10) := kpm hs1 (by decide) rfl q27
   have q33 : At (Ty.nat k) s7 a8 (.tmp 18) := kpm hs1 (by decide) rfl q28
   have q34 : (Pr.own 11 3 1 (List.length ((undoTo r k).set ((r.getD k 0)).toNat ((k : Nat) : Int))) (List.map Ty.int ((undoTo r k).set ((r.getD k 0)).toNat ((k : Nat) : Int)))).has s7 (a7.eval (.tmp 3)) := (cvo (by simp) (by simp) r1)
   refine wpList_nil ?_
   have q35 : (Pr.own 11 3 1 (List.length ((undoTo r k).set ((r.getD k 0)).toNat ((k : Nat) : Int))) (List.map Ty.int ((undoTo r k).set ((r.getD k 0)).toNat ((k : Nat) : Int)))).has s7 (a8.eval (.tmp 3)) := al q25 q34
   refine bn ?_
   refine tn ?_
   refine reg (a := a8) (σ := s7) rfl (fun i_ => List.getD [(Ty.pr (Ty.int (((k : Nat) : Int) + (1 : Int)))), (Ty.pr (Ty.int (((k : Nat) : Int) + (1 : Int))))] i_ Pr.any) ok7 rfl ⟨?_, ?_, trivial⟩ ?_
   · intro ax tx hs okx sm
     exact run_plain rfl (y_add (kp (sm 11 rfl) hs q30) rfl (w64 (by omega) (by omega)))
   · intro ax tx hs okx sm d0
     have e0 : At (Ty.int (((k : Nat) : Int) + (1 : Int))) tx ax (.tmp 20) := d0 rfl
     exact run_plain rfl (y_move e0)
   intro a10 s8 D7
   have ok9 := D7.ok
   have F9 := F8.step0 D7.stp
   have q36 : (Pr.own 11 3 1 (List.length ((undoTo r k).set ((r.getD k 0)).toNat ((k : Nat) : Int))) (List.map Ty.int ((undoTo r k).set ((r.getD k 0)).toNat ((k : Nat) : Int)))).has s8 (a10.eval (.tmp 3)) := D7.ko q35 rfl
   have q37 : At (Ty.lst Ty.int r) s8 a10 (.tmp 9) := D7.kt q31 rfl
   have q38 : At (Ty.nat (List.length r)) s8 a10 (.tmp 10) := D7.kt q32 rfl
   have q39 : At (Ty.int (((k : Nat) : Int) + (1 : Int))) s8 a10 (.tmp 11) := D7.done 1
   clear D7
   exact tn ⟨r.length - ((k+1)), by omega, s8, (k+1), rfl, F9, ok9, (cvi (by (first | rfl | omega | (simp_all; done) | (simp_all; omega))) q39), (cvo (by (rw [undoTo_step r k hr (by omega)])) (by (rw [undoTo_step r k hr (by omega)])) q36), q37, q38, by omega, rfl⟩
  ·
   refine wp_exit ?_
   refine tx ?_
   refine tx ?_
   refine bx ?_
   refine tn ?_
   refine wp_seq ?_
   refine reg (a := a6) (σ := s4) rfl (fun i_ => List.getD [(Ty.pr (Ty.val (a6.eval (.tmp 3)))), (Ty.pr (Ty.val (a6.eval (.tmp 3))))] i_ Pr.any) ok5 rfl ⟨?_, ?_, trivial⟩ ?_
   · intro ax tx hs okx sm
     exact run_plain rfl (y_move (sm 3 rfl))
   · intro ax tx hs okx sm d0 d1
     have e0 : At (Ty.val (a6.eval (.tmp 3))) tx ax (.tmp 21) := d0 rfl
     exact run_plain rfl (y_assign e0)
   intro a11 s9 D8
   have ok10 := D8.ok
   have F10 := F5.step0 D8.stp
   have q40 : (Pr.own 11 3 1 (List.length (undoTo r k)) (List.map Ty.int (undoTo r k))).has s9 (a11.eval (.tmp 2)) := al (show _ = _ from D8.done 1) ((Pr.own 11 3 1 (List.length (undoTo r k)) (List.map Ty.int (undoTo r k))).up D8.stp q13)
   clear D8
   refine tn ?_
   refine wp_ret ?_
   obtain ⟨t3, e1, h1, q41⟩ := Own.seal q40 (by decide)
   rw [← e1]
   have F11 := F10.step h1 (by decide)
   exact ret1 rfl ok10 F11 (cvt (by (obtain rfl : k = r.length := (by omega); rw [undoTo_all r hr])) q41)


set_option maxHeartbeats 4000000 in
set_option maxRecDepth 100000 in
theorem rowBack_fn (r : List Int) (σ : GW)  (v0 : Value) (hv0 : Ty.has (Ty.lst Ty.int r) σ v0)   :
    FnC Try.prog 42 #[v0] σ (Ty.tup2 (Ty.lst Ty.int (if rowMay r = 0 then undoL r else [])) (Ty.int (rowMay r))) := by
 refine fn_intro0 Try.func42 rfl Try.ntmps42 (Nat.le_of_ble_eq_true rfl) (fun s0 a0 hle F0 ok0 hargs => ?_)
 have p0 : At (Ty.lst Ty.int r) s0 a0 (.tmp 0) := by have e := hargs 0 _ rfl; show Ty.has _ _ _; rw [e]; exact Ty.up _ hle hv0
 have b1 := sl_le p0
 clear hargs
 refine wp_seq ?_
 refine reg (a := a0) (σ := s0) rfl (fun i_ => List.getD [(Ty.pr (Ty.val (Value.slice none 0 0))), (Ty.pr (Ty.int (0 : Int)))] i_ Pr.any) ok0 rfl ⟨?_, ?_, trivial⟩ ?_
 · intro ax tx hs okx sm
   exact run_plain rfl (y_assign rfl)
 · intro ax tx hs okx sm d0
   have e0 : At (Ty.val (Value.slice none 0 0)) tx ax (.tmp 2) := d0 rfl
   exact run_plain rfl (y_assign rfl)
 intro a1 s1 D1
 have ok1 := D1.ok
 have F1 := F0.step0 D1.stp
 have q1 : At (Ty.lst Ty.int r) s1 a1 (.tmp 0) := D1.kt p0 rfl
 clear D1
 refine tn ?_
 refine wp_seq ?_
 refine wp_seq ?_
 refine reg (a := a1) (σ := s1) rfl (fun i_ => List.getD [(Ty.pr (Ty.lst Ty.int r)), (Ty.pr (Ty.int (rowMay r))), (Ty.pr (Ty.int (rowMay r)))] i_ Pr.any) ok1 rfl ⟨?_, ?_, ?_, trivial⟩ ?_
 · intro ax tx hs okx sm
   exact run_plain rfl (y_move (kp (sm 0 rfl) hs q1))
 · intro ax tx hs okx sm d0
   have e0 : At (Ty.lst Ty.int r) tx ax (.tmp 5) := d0 rfl
   exact run_plain rfl (y_call #[ax.eval (.tmp 5)] Try.func44 rfl rfl (by simp only [List.map_toArray, List.map_cons, List.map_nil]) (rowCheck_fn (r) _ _ e0 ))
 · intro ax tx hs okx sm d0 d1 d2 d3
   have e1 : At (Ty.int (rowMay r)) tx ax (.tmp 6) := d0 rfl
   have e0 : At (Ty.lst Ty.int r) tx ax (.tmp 5) := d2 rfl
   exact run_plain rfl (y_assign e1)
 intro a2 s2 D2
 have ok2 := D2.ok
 have F2 := F1.step0 D2.stp
 have q2 : At (Ty.lst Ty.int r) s2 a2 (.tmp 0) := D2.kt q1 rfl
 have q3 : At (Ty.int (rowMay r)) s2 a2 (.tmp 4) := D2.done 2
 clear D2
 refine tn ?_
 refine wp_seq ?_
 refine reg (a := a2) (σ := s2) rfl (fun i_ => List.getD [(Ty.pr (Ty.int (rowMay r))), (Ty.pr (Ty.bool (decide ((rowMay r) ≠ (0 : Int)))))] i_ Pr.any) ok2 rfl ⟨?_, ?_, trivial⟩ ?_
 · intro ax tx hs okx sm
   exact run_plain rfl (y_move (kp (sm 4 rfl) hs q3))
 · intro ax tx hs okx sm d0
   have e0 : At (Ty.int (rowMay r)) tx ax (.tmp 7) := d0 rfl
   exact run_plain rfl (y_neq e0 rfl)
 intro a3 s3 D3
 have ok3 := D3.ok
 have F3 := F2.step0 D3.stp
 have q4 : At (Ty.lst Ty.int r) s3 a3 (.tmp 0) := D3.kt q2 rfl
 have q5 : At (Ty.int (rowMay r)) s3 a3 (.tmp 4) := D3.kt q3 rfl
 have q6 : At (Ty.bool (decide ((rowMay r) ≠ (0 : Int)))) s3 a3 (.tmp 8) := D3.done 1
 clear D3
 refine tn ?_
 refine cond_p (p := ((rowMay r) ≠ (0 : Int))) q6 (fun c1 => ?_) (fun c1 => ?_)
 ·
  refine wp_seq ?_
  refine reg (a := a3) (σ := s3) rfl (fun i_ => List.getD [(Ty.pr (Ty.int (rowMay r))), (Ty.pr (Ty.val (Value.slice none 0 0))), (Ty.pr (Ty.int (rowMay r)))] i_ Pr.any) ok3 rfl ⟨?_, ?_, ?_, trivial⟩ ?_
  · intro ax tx hs okx sm d0
    exact run_plain rfl (y_move (kp (sm 4 rfl) hs q5))
  · intro ax tx hs okx sm d0
    exact run_plain rfl (y_assign rfl)
  · intro ax tx hs okx sm d0 d1 d2 d3
    have e0 : At (Ty.int (rowMay r)) tx ax (.tmp 9) := d0 rfl
    have e1 : At (Ty.val (Value.slice none 0 0)) tx ax (.tmp 2) := d1 rfl
    exact run_plain rfl (y_assign e0)
  intro a4 s4 D4
  have ok4 := D4.ok
  have F4 := F3.step0 D4.stp
  have q7 : At (Ty.val (Value.slice none 0 0)) s4 a4 (.tmp 2) := D4.done 1
  have q8 : At (Ty.int (rowMay r)) s4 a4 (.tmp 3) := D4.done 2
  clear D4
  refine tn ?_
  refine wp_ret ?_
  refine tr ?_
  exact retL2 rfl ok4 F4 (hasT2 (nil_lst (by (rw [if_neg c1])) q7) q8)
 ·
  have h0 := Classical.not_not.1 c1; have hr := rowMay_ok.1 h0; have hrl := hr.le; have h12 : ∀ i, i < r.length → 0 ≤ r.getD i 0 ∧ r.getD i 0 < 12 := fun i hi => hr.lt12 hi
  refine wp_skip ?_
  refine tn ?_
  refine wp_seq ?_
  refine reg (a := a3) (σ := s3) rfl (fun i_ => List.getD [(Ty.pr (Ty.lst Ty.int r)), (Ty.pr (Ty.lst Ty.int (undoL r))), (Ty.pr (Ty.lst Ty.int (undoL r))), (Ty.pr (Ty.int (0 : Int)))] i_ Pr.any) ok3 rfl ⟨?_, ?_, ?_, ?_, trivial⟩ ?_
  · intro ax tx hs okx sm
    exact run_plain rfl (y_move (kp (sm 0 rfl) hs q4))
  · intro ax tx hs okx sm d0
    have e0 : At (Ty.lst Ty.int r) tx ax (.tmp 10) := d0 rfl
    exact run_plain rfl (y_call #[ax.eval (.tmp 10)] Try.func95 rfl rfl (by simp only [List.map_toArray, List.map_cons, List.map_nil]) (inverse_fn (r) _ _ e0 (by assumption)))
  · intro ax tx hs okx sm d0 d1 d2 d3
    have e1 : At (Ty.lst Ty.int (undoL r)) tx ax (.tmp 11) := d0 rfl
    have e0 : At (Ty.lst Ty.int r) tx ax (.tmp 10) := d2 rfl
    exact run_plain rfl (y_assign e1)
  · intro ax tx hs okx sm d0 d1 d2 d3
    have e2 : At (Ty.lst Ty.int (undoL r)) tx ax (.tmp 2) := d0 rfl
    have e0 : At (Ty.lst Ty.int r) tx ax (.tmp 10) := d1 rfl
    have e1 : At (Ty.lst Ty.int (undoL r)) tx ax (.tmp 11) := d2 rfl
    exact run_plain rfl (y_assign rfl)
  intro a5 s5 D5
  have ok5 := D5.ok
  have F5 := F3.step0 D5.stp
  have q9 : At (Ty.lst Ty.int (undoL r)) s5 a5 (.tmp 2) := D5.done 2
  have q10 : At (Ty.int (0 : Int)) s5 a5 (.tmp 3) := D5.done 3
  clear D5
  refine tn ?_
  refine wp_ret ?_
  exact retL2 rfl ok5 F5 (hasT2 (cvt (by (rw [if_pos h0])) q9) (cvi (by (exact h0.symm)) q10))

theorem Try.inf34 : Info Try.prog 34 (.slice none 0 0) 1 24 := by unfold Info; kernel_rfl
set_option maxRecDepth 100000 in
theorem cycles_fn (r : List Int) (σ : GW) (v0 : Value) (hv0 : Ty.has (Ty.lst Ty.int r) σ v0)  :
    FnC Try.prog 39 #[v0] σ (Ty.tup2 (Ty.lst Ty.ints (if rowMay r = 0 then cyclesL r else [])) (Ty.int (rowMay r))) := by
 refine fn_intro Try.func39 rfl Try.ntmps39 (Nat.le_of_ble_eq_true rfl) (fun s0 a0 hle F0 ok0 hargs => ?_)
 have p0 : At (Ty.lst Ty.int r) s0 a0 (.tmp 0) := by have e := hargs 0 _ rfl; show Ty.has _ _ _; rw [e]; exact Ty.up _ hle hv0
 have b1 := sl_le p0
 clear hargs
 refine wp_seq ?_
 refine reg (a := a0) (σ := s0) rfl (fun i_ => List.getD [(Ty.pr (Ty.val (Value.slice none 0 0))), (Ty.pr (Ty.int (0 : Int)))] i_ Pr.any) ok0 rfl ⟨?_, ?_, trivial⟩ ?_
 · intro ax tx hs okx sm
   exact run_plain rfl (y_assign rfl)
 · intro ax tx hs okx sm d0
   have e0 : At (Ty.val (Value.slice none 0 0)) tx ax (.tmp 2) := d0 rfl
   exact run_plain rfl (y_assign rfl)
 intro a1 s1 D1
 have ok1 := D1.ok
 have F1 := F0.step0 D1.stp
 have q1 : At (Ty.lst Ty.int r) s1 a1 (.tmp 0) := D1.kt p0 rfl
 clear D1
 refine tn ?_
 refine wp_seq ?_
 refine wp_seq ?_
 refine reg (a := a1) (σ := s1) rfl (fun i_ => List.getD [(Ty.pr (Ty.lst Ty.int r)), (Ty.pr (Ty.int (rowMay r))), (Ty.pr (Ty.int (rowMay r)))] i_ Pr.any) ok1 rfl ⟨?_, ?_, ?_, trivial⟩ ?_
 · intro ax tx hs okx sm
   exact run_plain rfl (y_move (kp (sm 0 rfl) hs q1))
 · intro ax tx hs okx sm d0
   have e0 : At (Ty.lst Ty.int r) tx ax (.tmp 10) := d0 rfl
   exact run_plain rfl (y_call #[ax.eval (.tmp 10)] Try.func44 rfl rfl (by simp only [List.map_toArray, List.map_cons, List.map_nil]) (rowCheck_fn (r) _ _ e0 ))
 · intro ax tx hs okx sm d0 d1 d2 d3
   have e1 : At (Ty.int (rowMay r)) tx ax (.tmp 11) := d0 rfl
   have e0 : At (Ty.lst Ty.int r) tx ax (.tmp 10) := d2 rfl
   exact run_plain rfl (y_assign e1)
 intro a2 s2 D2
 have ok2 := D2.ok
 have F2 := F1.step0 D2.stp
 have q2 : At (Ty.lst Ty.int r) s2 a2 (.tmp 0) := D2.kt q1 rfl
 have q3 : At (Ty.int (rowMay r)) s2 a2 (.tmp 4) := D2.done 2
 clear D2
 refine tn ?_
 refine wp_seq ?_
 refine reg (a := a2) (σ := s2) rfl (fun i_ => List.getD [(Ty.pr (Ty.int (rowMay r))), (Ty.pr (Ty.bool (decide ((rowMay r) ≠ (0 : Int)))))] i_ Pr.any) ok2 rfl ⟨?_, ?_, trivial⟩ ?_
 · intro ax tx hs okx sm
   exact run_plain rfl (y_move (kp (sm 4 rfl) hs q3))
 · intro ax tx hs okx sm d0
   have e0 : At (Ty.int (rowMay r)) tx ax (.tmp 12) := d0 rfl
   exact run_plain rfl (y_neq e0 rfl)
 intro a3 s3 D3
 have ok3 := D3.ok
 have F3 := F2.step0 D3.stp
 have q4 : At (Ty.lst Ty.int r) s3 a3 (.tmp 0) := D3.kt q2 rfl
 have q5 : At (Ty.int (rowMay r)) s3 a3 (.tmp 4) := D3.kt q3 rfl
 have q6 : At (Ty.bool (decide ((rowMay r) ≠ (0 : Int)))) s3 a3 (.tmp 13) := D3.done 1
 clear D3
 refine tn ?_
 refine cond_p (p := ((rowMay r) ≠ (0 : Int))) q6 (fun c1 => ?_) (fun c1 => ?_)
 ·
  refine wp_seq ?_
  refine reg (a := a3) (σ := s3) rfl (fun i_ => List.getD [(Ty.pr (Ty.int (rowMay r))), (Ty.pr (Ty.val (Value.slice none 0 0))), (Ty.pr (Ty.int (rowMay r)))] i_ Pr.any) ok3 rfl ⟨?_, ?_, ?_, trivial⟩ ?_
  · intro ax tx hs okx sm d0
    exact run_plain rfl (y_move (kp (sm 4 rfl) hs q5))
  · intro ax tx hs okx sm d0
    exact run_plain rfl (y_assign rfl)
  · intro ax tx hs okx sm d0 d1 d2 d3
    have e0 : At (Ty.int (rowMay r)) tx ax (.tmp 14) := d0 rfl
    have e1 : At (Ty.val (Value.slice none 0 0)) tx ax (.tmp 2) := d1 rfl
    exact run_plain rfl (y_assign e0)
  intro a4 s4 D4
  have ok4 := D4.ok
  have F4 := F3.step0 D4.stp
  have q7 : At (Ty.val (Value.slice none 0 0)) s4 a4 (.tmp 2) := D4.done 1
  have q8 : At (Ty.int (rowMay r)) s4 a4 (.tmp 3) := D4.done 2
  clear D4
  refine tn ?_
  refine wp_ret ?_
  refine tr ?_
  exact ret2 rfl ok4 F4 (nil_lst (by (rw [if_neg (by assumption)])) q7) q8
 ·
  have hr := rowMay_ok.1 (Classical.not_not.1 c1); have hln := hr.le
  refine wp_skip ?_
  refine tn ?_
  refine wp_seq ?_
  refine reg (a := a3) (σ := s3) rfl (fun i_ => List.getD [(Ty.pr (Ty.val (Value.slice none 0 0)))] i_ Pr.any) ok3 rfl ⟨?_, trivial⟩ ?_
  · intro ax tx hs okx sm
    exact run_plain rfl (y_assign rfl)
  intro a5 s5 D5
  have ok5 := D5.ok
  have F5 := F3.step0 D5.stp
  have q9 : At (Ty.lst Ty.int r) s5 a5 (.tmp 0) := D5.kt q4 rfl
  have q10 : At (Ty.val (Value.slice none 0 0)) s5 a5 (.tmp 5) := D5.done 0
  clear D5
  refine tn ?_
  refine wp_seq ?_
  refine reg (a := a5) (σ := s5) rfl (fun i_ => List.getD [(Ty.pr (Ty.lst Ty.int r)), (Ty.pr (Ty.nat (List.length r))), (Pr.own 11 3 1 (List.length r) (List.map Ty.int (List.replicate (List.length r) 0))), (Pr.own 11 3 1 (List.length r) (List.map Ty.int (List.replicate (List.length r) 0)))] i_ Pr.any) ok5 rfl ⟨?_, ?_, ?_, ?_, trivial⟩ ?_
  · intro ax tx hs okx sm
    exact run_plain rfl (y_move (kp (sm 0 rfl) hs q9))
  · intro ax tx hs okx sm d0
    have e0 : At (Ty.lst Ty.int r) tx ax (.tmp 15) := d0 rfl
    exact run_plain rfl (y_len Try.underlying34 e0)
  · intro ax tx hs okx sm d0 d1
    have e1 : At (Ty.nat (List.length r)) tx ax (.tmp 16) := d0 rfl
    exact run_plain rfl ((y_make (k := 11) (T := Ty.int 0) (n := (List.length r)) Try.underlying34 Try.inf3 rfl (fun _ => rfl) e1 e1 (by omega) (by omega)).mono (fun _ _ h => cvo (by simp) (by simp) h))
  · intro ax tx hs okx sm d0 d1 d2 d3
    have e2 : (Pr.own 11 3 1 (List.length r) (List.map Ty.int (List.replicate (List.length r) 0))).has tx (ax.eval (.tmp 17)) := d0 rfl
    have e0 : At (Ty.lst Ty.int r) tx ax (.tmp 15) := d1 rfl
    have e1 : At (Ty.nat (List.length r)) tx ax (.tmp 16) := d2 rfl
    exact run_plain rfl (y_assign e2)
  intro a6 s6 D6
  have ok6 := D6.ok
  have F6 := F5.step0 D6.stp
  have q11 : At (Ty.lst Ty.int r) s6 a6 (.tmp 0) := D6.kt q9 rfl
  have q12 : At (Ty.val (Value.slice none 0 0)) s6 a6 (.tmp 5) := D6.kt q10 rfl
  have q13 : (Pr.own 11 3 1 (List.length r) (List.map Ty.int (List.replicate (List.length r) 0))).has s6 (a6.eval (.tmp 6)) := D6.done 3
  clear D6
  refine tn ?_
  refine wp_seq ?_
  refine wp_seq ?_
  refine reg (a := a6) (σ := s6) rfl (fun i_ => List.getD [(Ty.pr (Ty.lst Ty.int r)), (Ty.pr (Ty.nat (List.length r))), (Ty.pr (Ty.int (0 : Int)))] i_ Pr.any) ok6 rfl ⟨?_, ?_, ?_, trivial⟩ ?_
  · intro ax tx hs okx sm
    exact run_plain rfl (y_move (kp (sm 0 rfl) hs q11))
  · intro ax tx hs okx sm d0
    have e0 : At (Ty.lst Ty.int r) tx ax (.tmp 18) := d0 rfl
    exact run_plain rfl (y_len Try.underlying34 e0)
  · intro ax tx hs okx sm
    exact run_plain rfl (y_move rfl)
  intro a7 s7 D7
  have ok7 := D7.ok
  have F7 := F6.step0 D7.stp
  have q14 : At (Ty.lst Ty.int r) s7 a7 (.tmp 0) := D7.kt q11 rfl
  have q15 : At (Ty.val (Value.slice none 0 0)) s7 a7 (.tmp 5) := D7.kt q12 rfl
  have q16 : (Pr.own 11 3 1 (List.length r) (List.map Ty.int (List.replicate (List.length r) 0))).has s7 (a7.eval (.tmp 6)) := D7.ko q13 rfl
  have q17 : At (Ty.nat (List.length r)) s7 a7 (.tmp 19) := D7.done 1
  have q18 : At (Ty.int (0 : Int)) s7 a7 (.tmp 20) := D7.done 2
  clear D7
  refine tn ?_
  refine wp_block ?_
  refine loop (fun n1 a8 w1 => ∃ (t1 : GW) (i : Nat), t1.w = w1 ∧ From s0 t1 ∧ Ok 52 a8 ∧ At (Ty.nat i) t1 a8 (.tmp 20) ∧ (Pr.own 2 34 1 (List.length (cyclesTo r i)) (List.map Ty.ints (cyclesTo r i))).has t1 (a8.eval (.tmp 5)) ∧ (Pr.own 11 3 1 (List.length (doneL r i 0)) (List.map Ty.int (doneL r i 0))).has t1 (a8.eval (.tmp 6)) ∧ At (Ty.lst Ty.int r) t1 a8 (.tmp 0) ∧ At (Ty.nat (List.length r)) t1 a8 (.tmp 19) ∧ (i ≤ r.length) ∧ n1 = r.length - i) (r.length - (0)) ?_ ?_
  ·
   exact ⟨s7, 0, rfl, F7, ok7, (cvi (by (first | rfl | omega | (simp_all; done) | (simp_all; omega))) q18), (by have e : a7.eval (.tmp 5) = _ := q15; rw [e]; exact Own.nil _ _ _ _), (cvo (by (simp [doneL_zero])) (by (simp [doneL_zero])) q16), q14, q17, by omega, rfl⟩
  ·
   rintro n2 a9 w2 ⟨t2, i, rfl, F8, ok8, q19, q20, q21, q22, q23, hk, rfl⟩
   have hcl := cyclesTo_len r i
   have hdl := doneL_len r i 0
   refine wp_seq ?_
   refine reg (a := a9) (σ := t2) rfl (fun i_ => List.getD [(Ty.pr (Ty.bool (decide (((i : Nat) : Int) < (((List.length r) : Nat) : Int)))))] i_ Pr.any) ok8 rfl ⟨?_, trivial⟩ ?_
   · intro ax tx hs okx sm
     exact run_plain rfl (y_lss (kp (sm 20 rfl) hs q19) (kp (sm 19 rfl) hs q23))
   intro a10 s8 D8
   have ok9 := D8.ok
   have F9 := F8.step0 D8.stp
   have q24 : At (Ty.nat i) s8 a10 (.tmp 20) := D8.kt q19 rfl
   have q25 : (Pr.own 2 34 1 (List.length (cyclesTo r i)) (List.map Ty.ints (cyclesTo r i))).has s8 (a10.eval (.tmp 5)) := D8.ko q20 rfl
   have q26 : (Pr.own 11 3 1 (List.length (doneL r i 0)) (List.map Ty.int (doneL r i 0))).has s8 (a10.eval (.tmp 6)) := D8.ko q21 rfl
   have q27 : At (Ty.lst Ty.int r) s8 a10 (.tmp 0) := D8.kt q22 rfl
   have q28 : At (Ty.nat (List.length r)) s8 a10 (.tmp 19) := D8.kt q23 rfl
   have q29 : At (Ty.bool (decide (((i : Nat) : Int) < (((List.length r) : Nat) : Int)))) s8 a10 (.tmp 21) := D8.done 0
   clear D8
   refine tn ?_
   refine wp_seq ?_
   refine cond_p (p := (((i : Nat) : Int) < (((List.length r) : Nat) : Int))) q29 (fun c2 => ?_) (fun c2 => ?_)
   ·
    have hper := per_spec hr (show i < r.length by omega)
    refine wp_skip ?_
    refine tn ?_
    refine wp_seq ?_
    refine wp_block ?_
    refine wp_seq ?_
    refine reg (a := a10) (σ := s8) rfl (fun i_ => List.getD [(Ty.pr (Ty.nat i)), (Ty.pr (Ty.nat i))] i_ Pr.any) ok9 rfl ⟨?_, ?_, trivial⟩ ?_
    · intro ax tx hs okx sm
      exact run_plain rfl (y_move (kp (sm 20 rfl) hs q24))
    · intro ax tx hs okx sm d0 d1
      have e0 : At (Ty.nat i) tx ax (.tmp 22) := d0 rfl
      exact run_plain rfl (y_assign e0)
    intro a11 s9 D9
    have ok10 := D9.ok
    have F10 := F9.step0 D9.stp
    have q30 : At (Ty.nat i) s9 a11 (.tmp 20) := D9.kt q24 rfl
    have q31 : (Pr.own 2 34 1 (List.length (cyclesTo r i)) (List.map Ty.ints (cyclesTo r i))).has s9 (a11.eval (.tmp 5)) := D9.ko q25 rfl
    have q32 : (Pr.own 11 3 1 (List.length (doneL r i 0)) (List.map Ty.int (doneL r i 0))).has s9 (a11.eval (.tmp 6)) := D9.ko q26 rfl
    have q33 : At (Ty.lst Ty.int r) s9 a11 (.tmp 0) := D9.kt q27 rfl
    have q34 : At (Ty.nat (List.length r)) s9 a11 (.tmp 19) := D9.kt q28 rfl
    have q35 : At (Ty.nat i) s9 a11 (.tmp 7) := D9.done 1
    clear D9
    refine tn ?_
    refine wp_seq ?_
    refine reg (a := a11) (σ := s9) rfl (fun i_ => List.getD [(Ty.pr (Ty.val (Value.slice none 0 0)))] i_ Pr.any) ok10 rfl ⟨?_, trivial⟩ ?_
    · intro ax tx hs okx sm
      exact run_plain rfl (y_assign rfl)
    intro a12 s10 D10
    have ok11 := D10.ok
    have F11 := F10.step0 D10.stp
    have q36 : At (Ty.nat i) s10 a12 (.tmp 20) := D10.kt q30 rfl
    have q37 : (Pr.own 2 34 1 (List.length (cyclesTo r i)) (List.map Ty.ints (cyclesTo r i))).has s10 (a12.eval (.tmp 5)) := D10.ko q31 rfl
    have q38 : (Pr.own 11 3 1 (List.length (doneL r i 0)) (List.map Ty.int (doneL r i 0))).has s10 (a12.eval (.tmp 6)) := D10.ko q32 rfl
    have q39 : At (Ty.lst Ty.int r) s10 a12 (.tmp 0) := D10.kt q33 rfl
    have q40 : At (Ty.nat (List.length r)) s10 a12 (.tmp 19) := D10.kt q34 rfl
    have q41 : At (Ty.nat i) s10 a12 (.tmp 7) := D10.kt q35 rfl
    have q42 : At (Ty.val (Value.slice none 0 0)) s10 a12 (.tmp 8) := D10.done 0
    clear D10
    refine tn ?_
    refine wp_seq ?_
    refine wp_seq ?_
    refine reg (a := a12) (σ := s10) rfl (fun i_ => List.getD [(Ty.pr (Ty.nat i)), (Ty.pr (Ty.nat i))] i_ Pr.any) ok11 rfl ⟨?_, ?_, trivial⟩ ?_
    · intro ax tx hs okx sm
      exact run_plain rfl (y_move (kp (sm 7 rfl) hs q41))
    · intro ax tx hs okx sm d0 d1
      have e0 : At (Ty.nat i) tx ax (.tmp 23) := d0 rfl
      exact run_plain rfl (y_assign e0)
    intro a13 s11 D11
    have ok12 := D11.ok
    have F12 := F11.step0 D11.stp
    have q43 : At (Ty.nat i) s11 a13 (.tmp 20) := D11.kt q36 rfl
    have q44 : (Pr.own 2 34 1 (List.length (cyclesTo r i)) (List.map Ty.ints (cyclesTo r i))).has s11 (a13.eval (.tmp 5)) := D11.ko q37 rfl
    have q45 : (Pr.own 11 3 1 (List.length (doneL r i 0)) (List.map Ty.int (doneL r i 0))).has s11 (a13.eval (.tmp 6)) := D11.ko q38 rfl
    have q46 : At (Ty.lst Ty.int r) s11 a13 (.tmp 0) := D11.kt q39 rfl
    have q47 : At (Ty.nat (List.length r)) s11 a13 (.tmp 19) := D11.kt q40 rfl
    have q48 : At (Ty.val (Value.slice none 0 0)) s11 a13 (.tmp 8) := D11.kt q42 rfl
    have q49 : At (Ty.nat i) s11 a13 (.tmp 9) := D11.done 1
    clear D11
    refine tn ?_
    refine wp_block ?_
    refine loop (fun n3 a14 w3 => ∃ (t3 : GW) (m : Nat), t3.w = w3 ∧ From s0 t3 ∧ Ok 52 a14 ∧ (Pr.own 11 3 1 (List.length (doneL r i m)) (List.map Ty.int (doneL r i m))).has t3 (a14.eval (.tmp 6)) ∧ (Pr.own 3 3 1 (List.length (orbTo r i m)) (List.map Ty.int (orbTo r i m))).has t3 (a14.eval (.tmp 8)) ∧ At (Ty.nat (itr r i m)) t3 a14 (.tmp 9) ∧ At (Ty.nat i) t3 a14 (.tmp 20) ∧ (Pr.own 2 34 1 (List.length (cyclesTo r i)) (List.map Ty.ints (cyclesTo r i))).has t3 (a14.eval (.tmp 5)) ∧ At (Ty.lst Ty.int r) t3 a14 (.tmp 0) ∧ At (Ty.nat (List.length r)) t3 a14 (.tmp 19) ∧ (m ≤ per r i) ∧ (m = 0 ∨ least r i = true) ∧ n3 = per r i + 1 - m) (per r i + 1 - (0)) ?_ ?_
    ·
     exact ⟨s11, 0, rfl, F12, ok12, (cvo (by (simp)) (by (simp)) q45), (by have e : a13.eval (.tmp 8) = _ := q48; rw [e]; exact Own.nil _ _ _ _), (cvi (by (first | rfl | omega | (simp_all; done) | (simp_all; omega))) q49), q43, q44, q46, q47, by omega, .inl rfl, rfl⟩
    ·
     rintro n4 a15 w4 ⟨t4, m, rfl, F13, ok13, q50, q51, q52, q53, q54, q55, q56, hm, hml, rfl⟩
     have hdm := doneL_len r i m
     have hit := itr_lt hr (show i < r.length by omega) m
     have h01 := doneL_01 r i m (itr r i m)
     have hol := orbTo_len r i m
     refine wp_seq ?_
     refine wp_seq ?_
     refine reg (a := a15) (σ := t4) rfl (fun i_ => List.getD [(Ty.pr (Ty.val (a15.eval (.tmp 6)))), (Ty.pr (Ty.nat (itr r i m))), (Ty.pr (Ty.val (cellPtr (a15.eval (.tmp 6)) (itr r i m)))), (Ty.pr (Ty.int ((doneL r i m).getD (itr r i m) 0))), (Ty.pr (Ty.bool (decide (((doneL r i m).getD (itr r i m) 0) = (0 : Int)))))] i_ Pr.any) ok13 rfl ⟨?_, ?_, ?_, ?_, ?_, trivial⟩ ?_
     · intro ax tx hs okx sm
       exact run_plain rfl (y_move (sm 6 rfl))
     · intro ax tx hs okx sm
       exact run_plain rfl (y_move (kp (sm 9 rfl) hs q52))
     · intro ax tx hs okx sm d0 d1
       have e0 : At (Ty.val (a15.eval (.tmp 6))) tx ax (.tmp 24) := d0 rfl
       have e1 : At (Ty.nat (itr r i m)) tx ax (.tmp 25) := d1 rfl
       exact run_plain rfl (own_index1 (i := (((itr r i m) : Nat) : Int)) Try.underlying34 Try.inf3 ((Pr.own 11 3 1 (List.length (doneL r i m)) (List.map Ty.int (doneL r i m))).up hs q50) e0 e1 (by omega) (by omega))
     · intro ax tx hs okx sm d0
       have e2 : At (Ty.val (cellPtr (a15.eval (.tmp 6)) (itr r i m))) tx ax (.tmp 26) := d0 rfl
       exact run_plain rfl (own_load Try.underlying3 rfl ((Pr.own 11 3 1 (List.length (doneL r i m)) (List.map Ty.int (doneL r i m))).up hs q50) e2 (lst_get Ty.int (doneL r i m) 0 (itr r i m) (by omega)))
     · intro ax tx hs okx sm d0
       have e3 : At (Ty.int ((doneL r i m).getD (itr r i m) 0)) tx ax (.tmp 27) := d0 rfl
       exact run_plain rfl (y_eql e3 rfl)
     intro a16 s12 D12
     have ok14 := D12.ok
     have F14 := F13.step0 D12.stp
     have q57 : (Pr.own 11 3 1 (List.length (doneL r i m)) (List.map Ty.int (doneL r i m))).has s12 (a16.eval (.tmp 6)) := D12.ko q50 rfl
     have q58 : (Pr.own 3 3 1 (List.length (orbTo r i m)) (List.map Ty.int (orbTo r i m))).has s12 (a16.eval (.tmp 8)) := D12.ko q51 rfl
     have q59 : At (Ty.nat (itr r i m)) s12 a16 (.tmp 9) := D12.kt q52 rfl
     have q60 : At (Ty.nat i) s12 a16 (.tmp 20) := D12.kt q53 rfl
     have q61 : (Pr.own 2 34 1 (List.length (cyclesTo r i)) (List.map Ty.ints (cyclesTo r i))).has s12 (a16.eval (.tmp 5)) := D12.ko q54 rfl
     have q62 : At (Ty.lst Ty.int r) s12 a16 (.tmp 0) := D12.kt q55 rfl
     have q63 : At (Ty.nat (List.length r)) s12 a16 (.tmp 19) := D12.kt q56 rfl
     have q64 : At (Ty.bool (decide (((doneL r i m).getD (itr r i m) 0) = (0 : Int)))) s12 a16 (.tmp 28) := D12.done 4
     clear D12
     refine tn ?_
     refine cond_p (p := (((doneL r i m).getD (itr r i m) 0) = (0 : Int))) q64 (fun c3 => ?_) (fun c3 => ?_)
     ·
      have hq := hr.at (itr_lt hr (show i < r.length by omega) m)
      refine wp_skip ?_
      refine tn ?_
      refine wp_seq ?_
      refine wp_block ?_
      refine wp_seq ?_
      refine reg2 (a := a16) (σ := s12) rfl 6 (fun i_ => List.getD [(Ty.pr (Ty.val (a16.eval (.tmp 6)))), (Ty.pr (Ty.nat (itr r i m))), (Ty.pr (Ty.val (cellPtr (a16.eval (.tmp 6)) (itr r i m)))), (Ty.pr (Ty.int ((doneL r i m).getD (itr r i m) 0))), (Ty.pr (Ty.int (((doneL r i m).getD (itr r i m) 0) + (1 : Int)))), (Ty.pr (Ty.val (cellPtr (a16.eval (.tmp 6)) (itr r i m))))] i_ Pr.any) ok14 rfl (by decide) rfl ⟨?_, ?_, ?_, ?_, ?_, ?_, trivial⟩ ?_
      · intro ax tx hs okx sm
        exact run_plain rfl (y_move (sm 6 rfl))
      · intro ax tx hs okx sm
        exact run_plain rfl (y_move (kp (sm 9 rfl) hs q59))
      · intro ax tx hs okx sm d0 d1
        have e0 : At (Ty.val (a16.eval (.tmp 6))) tx ax (.tmp 33) := d0 rfl
        have e1 : At (Ty.nat (itr r i m)) tx ax (.tmp 34) := d1 rfl
        exact run_plain rfl (own_index1 (i := (((itr r i m) : Nat) : Int)) Try.underlying34 Try.inf3 ((Pr.own 11 3 1 (List.length (doneL r i m)) (List.map Ty.int (doneL r i m))).up hs q57) e0 e1 (by omega) (by omega))
      · intro ax tx hs okx sm d0
        have e2 : At (Ty.val (cellPtr (a16.eval (.tmp 6)) (itr r i m))) tx ax (.tmp 35) := d0 rfl
        exact run_plain rfl (own_load Try.underlying3 rfl ((Pr.own 11 3 1 (List.length (doneL r i m)) (List.map Ty.int (doneL r i m))).up hs q57) e2 (lst_get Ty.int (doneL r i m) 0 (itr r i m) (by omega)))
      · intro ax tx hs okx sm d0
        have e3 : At (Ty.int ((doneL r i m).getD (itr r i m) 0)) tx ax (.tmp 36) := d0 rfl
        exact run_plain rfl (y_add e3 rfl (w64 (by omega) (by omega)))
      · intro ax tx hs okx sm d0 d1 d2 d3 d4 d5 d6
        have e0 : At (Ty.val (a16.eval (.tmp 6))) tx ax (.tmp 33) := d0 rfl
        have e1 : At (Ty.nat (itr r i m)) tx ax (.tmp 34) := d1 rfl
        have e2 : At (Ty.val (cellPtr (a16.eval (.tmp 6)) (itr r i m))) tx ax (.tmp 35) := d4 rfl
        have e3 : At (Ty.int ((doneL r i m).getD (itr r i m) 0)) tx ax (.tmp 36) := d5 rfl
        have e4 : At (Ty.int (((doneL r i m).getD (itr r i m) 0) + (1 : Int))) tx ax (.tmp 37) := d6 rfl
        exact run_plain rfl (own_index1 (i := (((itr r i m) : Nat) : Int)) Try.underlying34 Try.inf3 ((Pr.own 11 3 1 (List.length (doneL r i m)) (List.map Ty.int (doneL r i m))).up hs q57) e0 e1 (by omega) (by omega))
      intro a17 s13 D13
      have ok15 := D13.ok
      have F15 := F14.step0 D13.stp
      have q65 := (Pr.own 11 3 1 (List.length (doneL r i m)) (List.map Ty.int (doneL r i m))).up D13.stp q57
      have q66 := (Pr.own 3 3 1 (List.length (orbTo r i m)) (List.map Ty.int (orbTo r i m))).up D13.stp q58
      have q67 := (Pr.own 2 34 1 (List.length (cyclesTo r i)) (List.map Ty.ints (cyclesTo r i))).up D13.stp q61
      have q68 : a17.eval (.tmp 6) = a16.eval (.tmp 6) := D13.same 6 rfl
      have q69 : a17.eval (.tmp 8) = a16.eval (.tmp 8) := D13.same 8 rfl
      have q70 : At (Ty.nat (itr r i m)) s13 a17 (.tmp 9) := D13.kt q59 rfl
      have q71 : At (Ty.nat i) s13 a17 (.tmp 20) := D13.kt q60 rfl
      have q72 : a17.eval (.tmp 5) = a16.eval (.tmp 5) := D13.same 5 rfl
      have q73 : At (Ty.lst Ty.int r) s13 a17 (.tmp 0) := D13.kt q62 rfl
      have q74 : At (Ty.nat (List.length r)) s13 a17 (.tmp 19) := D13.kt q63 rfl
      have q75 : At (Ty.int (((doneL r i m).getD (itr r i m) 0) + (1 : Int))) s13 a17 (.tmp 37) := D13.done 4 (by decide)
      have q76 : At (Ty.val (cellPtr (a16.eval (.tmp 6)) (itr r i m))) s13 a17 (.tmp 38) := D13.done 5 (by decide)
      clear D13
      refine tail_step0 (m := 11) (R := (fun _ τ => Own τ 11 3 1 (a16.eval (.tmp 6)) (List.length (doneL r i m)) ((List.map Ty.int (doneL r i m)).set (itr r i m) (Ty.int (((doneL r i m).getD (itr r i m) 0) + (1 : Int)))))) rfl rfl (m_store Try.inf3 (by decide) q65 q76 (by simp only [List.length_map, List.length_set]; omega) q75 (one_val rfl)) (fun v1 s14 hs1 r1 => ?_)
      have F16 := F15.step hs1 (by decide)
      have q77 : At (Ty.nat (itr r i m)) s14 a17 (.tmp 9) := kpm hs1 (by decide) rfl q70
      have q78 : At (Ty.nat i) s14 a17 (.tmp 20) := kpm hs1 (by decide) rfl q71
      have q79 : At (Ty.lst Ty.int r) s14 a17 (.tmp 0) := kpm hs1 (by decide) rfl q73
      have q80 : At (Ty.nat (List.length r)) s14 a17 (.tmp 19) := kpm hs1 (by decide) rfl q74
      have q81 : At (Ty.int (((doneL r i m).getD (itr r i m) 0) + (1 : Int))) s14 a17 (.tmp 37) := kpm hs1 (by decide) rfl q75
      have q82 : (Pr.own 11 3 1 (List.length ((doneL r i m).set (itr r i m) (((doneL r i m).getD (itr r i m) 0) + (1 : Int)))) (List.map Ty.int ((doneL r i m).set (itr r i m) (((doneL r i m).getD (itr r i m) 0) + (1 : Int))))).has s14 (a16.eval (.tmp 6)) := (cvo (by simp) (by simp) r1)
      have q83 := Own.keep q66 hs1 (by decide) (.inr (by decide))
      have q84 := Own.keep q67 hs1 (by decide) (.inr (by decide))
      refine wpList_nil ?_
      have q85 : (Pr.own 11 3 1 (List.length ((doneL r i m).set (itr r i m) (((doneL r i m).getD (itr r i m) 0) + (1 : Int)))) (List.map Ty.int ((doneL r i m).set (itr r i m) (((doneL r i m).getD (itr r i m) 0) + (1 : Int))))).has s14 (a17.eval (.tmp 6)) := al q68 q82
      have q86 : (Pr.own 3 3 1 (List.length (orbTo r i m)) (List.map Ty.int (orbTo r i m))).has s14 (a17.eval (.tmp 8)) := al q69 q83
      have q87 : (Pr.own 2 34 1 (List.length (cyclesTo r i)) (List.map Ty.ints (cyclesTo r i))).has s14 (a17.eval (.tmp 5)) := al q72 q84
      refine tn ?_
      refine reg2 (a := a17) (σ := s14) rfl 3 (fun i_ => List.getD [(Ty.pr (Ty.val (a17.eval (.tmp 8)))), (Ty.pr (Ty.nat (itr r i m))), (Ty.pr (Ty.sl 1 1 [(Ty.nat (itr r i m))]))] i_ Pr.any) ok15 rfl (by decide) rfl ⟨?_, ?_, ?_, trivial⟩ ?_
      · intro ax tx hs okx sm
        exact run_plain rfl (y_move (sm 8 rfl))
      · intro ax tx hs okx sm
        exact run_plain rfl (y_move (kp (sm 9 rfl) hs q77))
      · intro ax tx hs okx sm d0
        have e1 : At (Ty.nat (itr r i m)) tx ax (.tmp 40) := d0 rfl
        exact run_plain rfl (y_build1o Try.underlying34 Try.inf3 rfl (one_val rfl) e1)
      intro a19 s15 D14
      have ok17 := D14.ok
      have F17 := F16.step0 D14.stp
      have q88 := (Pr.own 11 3 1 (List.length ((doneL r i m).set (itr r i m) (((doneL r i m).getD (itr r i m) 0) + (1 : Int)))) (List.map Ty.int ((doneL r i m).set (itr r i m) (((doneL r i m).getD (itr r i m) 0) + (1 : Int))))).up D14.stp q85
      have q89 := (Pr.own 3 3 1 (List.length (orbTo r i m)) (List.map Ty.int (orbTo r i m))).up D14.stp q86
      have q90 := (Pr.own 2 34 1 (List.length (cyclesTo r i)) (List.map Ty.ints (cyclesTo r i))).up D14.stp q87
      have q91 : a19.eval (.tmp 6) = a17.eval (.tmp 6) := D14.same 6 rfl
      have q92 : a19.eval (.tmp 8) = a17.eval (.tmp 8) := D14.same 8 rfl
      have q93 : At (Ty.nat (itr r i m)) s15 a19 (.tmp 9) := D14.kt q77 rfl
      have q94 : At (Ty.nat i) s15 a19 (.tmp 20) := D14.kt q78 rfl
      have q95 : a19.eval (.tmp 5) = a17.eval (.tmp 5) := D14.same 5 rfl
      have q96 : At (Ty.lst Ty.int r) s15 a19 (.tmp 0) := D14.kt q79 rfl
      have q97 : At (Ty.nat (List.length r)) s15 a19 (.tmp 19) := D14.kt q80 rfl
      have q98 : At (Ty.val (a17.eval (.tmp 8))) s15 a19 (.tmp 39) := D14.done 0 (by decide)
      have q99 : At (Ty.sl 1 1 [(Ty.nat (itr r i m))]) s15 a19 (.tmp 41) := D14.done 2 (by decide)
      clear D14
      refine tail_step (m := 3) (R := (fun v τ => Own τ 3 3 1 v ((List.length (orbTo r i m)) + 1) ((List.map Ty.int (orbTo r i m)) ++ [(Ty.nat (itr r i m))]))) rfl rfl (by decide) ok17 (m_append Try.underlying34 Try.inf3 (by decide) rfl (by decide) (al q98 q89) q99 (by intro U hU; simp at hU;  subst hU; exact one_val rfl) (by omega) (by omega)) (fun a20 s16 hs2 ok18 r2 sm2 => ?_)
      have F18 := F17.step hs2 (by decide)
      have q100 := Own.keep q88 hs2 (by decide) (.inr (by decide))
      have q101 := Own.keep q90 hs2 (by decide) (.inr (by decide))
      have q102 := (sm2 6 (by decide)).trans q91
      have q103 : At (Ty.nat (itr r i m)) s16 a20 (.tmp 9) := kpm hs2 (by decide) (sm2 9 (by decide)) q93
      have q104 : At (Ty.nat i) s16 a20 (.tmp 20) := kpm hs2 (by decide) (sm2 20 (by decide)) q94
      have q105 := (sm2 5 (by decide)).trans q95
      have q106 : At (Ty.lst Ty.int r) s16 a20 (.tmp 0) := kpm hs2 (by decide) (sm2 0 (by decide)) q96
      have q107 : At (Ty.nat (List.length r)) s16 a20 (.tmp 19) := kpm hs2 (by decide) (sm2 19 (by decide)) q97
      have q108 : At (Ty.sl 1 1 [(Ty.nat (itr r i m))]) s16 a20 (.tmp 41) := kpm hs2 (by decide) (sm2 41 (by decide)) q99
      have q109 : (Pr.own 3 3 1 (List.length ((orbTo r i m) ++ [(((itr r i m) : Nat) : Int)])) (List.map Ty.int ((orbTo r i m) ++ [(((itr r i m) : Nat) : Int)]))).has s16 (a20.eval (.tmp 42)) := (cvo (by simp) (by first | (rw [List.map_append]; rfl) | simp) r2)
      refine tail_step (m := 0) (R := (fun v τ => Pr.has (Pr.own 3 3 1 (List.length ((orbTo r i m) ++ [(((itr r i m) : Nat) : Int)])) (List.map Ty.int ((orbTo r i m) ++ [(((itr r i m) : Nat) : Int)]))) τ v)) rfl rfl (by decide) ok18 (Yld.toM (y_assign q109)) (fun a21 s17 hs3 ok19 r3 sm3 => ?_)
      have F19 := F18.step hs3 (by decide)
      have q110 := Own.keep q100 hs3 (by decide) (.inl rfl)
      have q111 := Own.keep q101 hs3 (by decide) (.inl rfl)
      have q112 := (sm3 6 (by decide)).trans q102
      have q113 : At (Ty.nat (itr r i m)) s17 a21 (.tmp 9) := kpm hs3 (by decide) (sm3 9 (by decide)) q103
      have q114 : At (Ty.nat i) s17 a21 (.tmp 20) := kpm hs3 (by decide) (sm3 20 (by decide)) q104
      have q115 := (sm3 5 (by decide)).trans q105
      have q116 : At (Ty.lst Ty.int r) s17 a21 (.tmp 0) := kpm hs3 (by decide) (sm3 0 (by decide)) q106
      have q117 : At (Ty.nat (List.length r)) s17 a21 (.tmp 19) := kpm hs3 (by decide) (sm3 19 (by decide)) q107
      have q118 : At (Ty.sl 1 1 [(Ty.nat (itr r i m))]) s17 a21 (.tmp 41) := kpm hs3 (by decide) (sm3 41 (by decide)) q108
      have q119 : (Pr.own 3 3 1 (List.length ((orbTo r i m) ++ [(((itr r i m) : Nat) : Int)])) (List.map Ty.int ((orbTo r i m) ++ [(((itr r i m) : Nat) : Int)]))).has s17 (a21.eval (.tmp 42)) := kpmo hs3 (by decide) (.inl rfl) (sm3 42 (by decide)) q109
      have q120 : (Pr.own 3 3 1 (List.length ((orbTo r i m) ++ [(((itr r i m) : Nat) : Int)])) (List.map Ty.int ((orbTo r i m) ++ [(((itr r i m) : Nat) : Int)]))).has s17 (a21.eval (.tmp 8)) := r3
      refine wpList_nil ?_
      have q121 : (Pr.own 11 3 1 (List.length ((doneL r i m).set (itr r i m) (((doneL r i m).getD (itr r i m) 0) + (1 : Int)))) (List.map Ty.int ((doneL r i m).set (itr r i m) (((doneL r i m).getD (itr r i m) 0) + (1 : Int))))).has s17 (a21.eval (.tmp 6)) := al q112 q110
      have q122 : (Pr.own 2 34 1 (List.length (cyclesTo r i)) (List.map Ty.ints (cyclesTo r i))).has s17 (a21.eval (.tmp 5)) := al q115 q111
      refine bn ?_
      refine tn ?_
      refine reg (a := a21) (σ := s17) rfl (fun i_ => List.getD [(Ty.pr (Ty.lst Ty.int r)), (Ty.pr (Ty.nat (itr r i m))), (Ty.pr (Ty.ref [(Ty.int (r.getD (itr r i m) 0))])), (Ty.pr (Ty.int (r.getD (itr r i m) 0))), (Ty.pr (Ty.int (r.getD (itr r i m) 0)))] i_ Pr.any) ok19 rfl ⟨?_, ?_, ?_, ?_, ?_, trivial⟩ ?_
      · intro ax tx hs okx sm
        exact run_plain rfl (y_move (kp (sm 0 rfl) hs q116))
      · intro ax tx hs okx sm
        exact run_plain rfl (y_move (kp (sm 9 rfl) hs q113))
      · intro ax tx hs okx sm d0 d1
        have e0 : At (Ty.lst Ty.int r) tx ax (.tmp 29) := d0 rfl
        have e1 : At (Ty.nat (itr r i m)) tx ax (.tmp 30) := d1 rfl
        exact run_plain rfl (y_index1 Try.underlying34 Try.inf3 e0 e1 (by omega) (lst_get Ty.int r 0 (itr r i m) (by omega)))
      · intro ax tx hs okx sm d0
        have e2 : At (Ty.ref [(Ty.int (r.getD (itr r i m) 0))]) tx ax (.tmp 31) := d0 rfl
        exact run_plain rfl (y_load Try.underlying3 rfl e2 rfl)
      · intro ax tx hs okx sm d0 d1 d2 d3 d4
        have e3 : At (Ty.int (r.getD (itr r i m) 0)) tx ax (.tmp 32) := d0 rfl
        have e0 : At (Ty.lst Ty.int r) tx ax (.tmp 29) := d1 rfl
        have e1 : At (Ty.nat (itr r i m)) tx ax (.tmp 30) := d2 rfl
        have e2 : At (Ty.ref [(Ty.int (r.getD (itr r i m) 0))]) tx ax (.tmp 31) := d3 rfl
        exact run_plain rfl (y_assign e3)
      intro a22 s18 D15
      have ok20 := D15.ok
      have F20 := F19.step0 D15.stp
      have q123 : (Pr.own 11 3 1 (List.length ((doneL r i m).set (itr r i m) (((doneL r i m).getD (itr r i m) 0) + (1 : Int)))) (List.map Ty.int ((doneL r i m).set (itr r i m) (((doneL r i m).getD (itr r i m) 0) + (1 : Int))))).has s18 (a22.eval (.tmp 6)) := D15.ko q121 rfl
      have q124 : At (Ty.nat i) s18 a22 (.tmp 20) := D15.kt q114 rfl
      have q125 : (Pr.own 2 34 1 (List.length (cyclesTo r i)) (List.map Ty.ints (cyclesTo r i))).has s18 (a22.eval (.tmp 5)) := D15.ko q122 rfl
      have q126 : At (Ty.lst Ty.int r) s18 a22 (.tmp 0) := D15.kt q116 rfl
      have q127 : At (Ty.nat (List.length r)) s18 a22 (.tmp 19) := D15.kt q117 rfl
      have q128 : (Pr.own 3 3 1 (List.length ((orbTo r i m) ++ [(((itr r i m) : Nat) : Int)])) (List.map Ty.int ((orbTo r i m) ++ [(((itr r i m) : Nat) : Int)]))).has s18 (a22.eval (.tmp 8)) := D15.ko q120 rfl
      have q129 : At (Ty.int (r.getD (itr r i m) 0)) s18 a22 (.tmp 9) := D15.done 4
      clear D15
      have hlst := cyc_least hr (show i < r.length by omega) hml c3
      have hlt := (done_mid hr (show i < r.length by omega) hlst hm).1 c3
      exact tn ⟨per r i + 1 - ((m+1)), by omega, s18, (m+1), rfl, F20, ok20, (cvo (by (first | (rw [c3]; exact congrArg _ (doneL_step hr (by omega) c3)) | (rw [c3]; exact congrArg _ (congrArg _ (doneL_step hr (by omega) c3))))) (by (first | (rw [c3]; exact congrArg _ (doneL_step hr (by omega) c3)) | (rw [c3]; exact congrArg _ (congrArg _ (doneL_step hr (by omega) c3))))) q123), (cvo (by (rw [orbTo_succ])) (by (rw [orbTo_succ])) q128), (cvi (by (exact (nxt_int hr (by omega)).symm)) q129), q124, q125, q126, q127, by omega, .inr hlst, rfl⟩
     ·
      refine wp_exit ?_
      refine tx ?_
      refine tx ?_
      refine bx ?_
      refine tn ?_
      refine wp_seq ?_
      refine reg (a := a16) (σ := s12) rfl (fun i_ => List.getD [(Ty.pr (Ty.val (a16.eval (.tmp 8)))), (Ty.pr (Ty.nat (List.length (orbTo r i m)))), (Ty.pr (Ty.bool (decide ((0 : Int) < (((List.length (orbTo r i m)) : Nat) : Int)))))] i_ Pr.any) ok14 rfl ⟨?_, ?_, ?_, trivial⟩ ?_
      · intro ax tx hs okx sm
        exact run_plain rfl (y_move (sm 8 rfl))
      · intro ax tx hs okx sm d0
        have e0 : At (Ty.val (a16.eval (.tmp 8))) tx ax (.tmp 43) := d0 rfl
        exact run_plain rfl (own_len Try.underlying34 (al e0 ((Pr.own 3 3 1 (List.length (orbTo r i m)) (List.map Ty.int (orbTo r i m))).up hs q58)))
      · intro ax tx hs okx sm d0
        have e1 : At (Ty.nat (List.length (orbTo r i m))) tx ax (.tmp 44) := d0 rfl
        exact run_plain rfl (y_gtr e1 rfl)
      intro a23 s19 D16
      have ok21 := D16.ok
      have F21 := F14.step0 D16.stp
      have q130 : (Pr.own 11 3 1 (List.length (doneL r i m)) (List.map Ty.int (doneL r i m))).has s19 (a23.eval (.tmp 6)) := D16.ko q57 rfl
      have q131 : (Pr.own 3 3 1 (List.length (orbTo r i m)) (List.map Ty.int (orbTo r i m))).has s19 (a23.eval (.tmp 8)) := D16.ko q58 rfl
      have q132 : At (Ty.nat i) s19 a23 (.tmp 20) := D16.kt q60 rfl
      have q133 : (Pr.own 2 34 1 (List.length (cyclesTo r i)) (List.map Ty.ints (cyclesTo r i))).has s19 (a23.eval (.tmp 5)) := D16.ko q61 rfl
      have q134 : At (Ty.lst Ty.int r) s19 a23 (.tmp 0) := D16.kt q62 rfl
      have q135 : At (Ty.nat (List.length r)) s19 a23 (.tmp 19) := D16.kt q63 rfl
      have q136 : At (Ty.bool (decide ((0 : Int) < (((List.length (orbTo r i m)) : Nat) : Int)))) s19 a23 (.tmp 45) := D16.done 2
      clear D16
      refine tn ?_
      refine cond_p (p := ((0 : Int) < (((List.length (orbTo r i m)) : Nat) : Int))) q136 (fun c4 => ?_) (fun c4 => ?_)
      ·
       have hml2 := cyc_some hr (by omega) hm hml c3 (by simpa [orbTo_len] using c4)
       obtain ⟨t5, e1, h1, q137⟩ := Own.seal q131 (by decide)
       rw [← e1]
       have F22 := F21.step h1 (by decide)
       have q138 := Own.keep q130 h1 (by decide) (.inr (by decide))
       have q139 := Ty.up (Ty.nat i) (h1.le (by decide)) q132
       have q140 := Own.keep q133 h1 (by decide) (.inr (by decide))
       have q141 := Ty.up (Ty.lst Ty.int r) (h1.le (by decide)) q134
       have q142 := Ty.up (Ty.nat (List.length r)) (h1.le (by decide)) q135
       have q143 := Ty.up (Ty.bool (decide ((0 : Int) < (((List.length (orbTo r i m)) : Nat) : Int)))) (h1.le (by decide)) q136
       refine reg2 (a := a23) (σ := t5) rfl 3 (fun i_ => List.getD [(Ty.pr (Ty.val (a23.eval (.tmp 5)))), (Ty.pr (Ty.lst Ty.int (orbTo r i m))), (Ty.pr (Ty.sl 1 1 [(Ty.lst Ty.int (orbTo r i m))]))] i_ Pr.any) ok21 rfl (by decide) rfl ⟨?_, ?_, ?_, trivial⟩ ?_
       · intro ax tx hs okx sm
         exact run_plain rfl (y_move (sm 5 rfl))
       · intro ax tx hs okx sm
         exact run_plain rfl (y_move (kp (sm 8 rfl) hs q137))
       · intro ax tx hs okx sm d0
         have e1 : At (Ty.lst Ty.int (orbTo r i m)) tx ax (.tmp 47) := d0 rfl
         exact run_plain rfl (y_build1o Try.underlying33 Try.inf34 rfl (one_sl) e1)
       intro a24 s20 D17
       have ok22 := D17.ok
       have F23 := F22.step0 D17.stp
       have q144 := (Pr.own 11 3 1 (List.length (doneL r i m)) (List.map Ty.int (doneL r i m))).up D17.stp q138
       have q145 := (Pr.own 2 34 1 (List.length (cyclesTo r i)) (List.map Ty.ints (cyclesTo r i))).up D17.stp q140
       have q146 : a24.eval (.tmp 6) = a23.eval (.tmp 6) := D17.same 6 rfl
       have q147 : At (Ty.nat i) s20 a24 (.tmp 20) := D17.kt q139 rfl
       have q148 : a24.eval (.tmp 5) = a23.eval (.tmp 5) := D17.same 5 rfl
       have q149 : At (Ty.lst Ty.int r) s20 a24 (.tmp 0) := D17.kt q141 rfl
       have q150 : At (Ty.nat (List.length r)) s20 a24 (.tmp 19) := D17.kt q142 rfl
       have q151 : At (Ty.val (a23.eval (.tmp 5))) s20 a24 (.tmp 46) := D17.done 0 (by decide)
       have q152 : At (Ty.sl 1 1 [(Ty.lst Ty.int (orbTo r i m))]) s20 a24 (.tmp 48) := D17.done 2 (by decide)
       clear D17
       refine tail_step (m := 2) (R := (fun v τ => Own τ 2 34 1 v ((List.length (cyclesTo r i)) + 1) ((List.map Ty.ints (cyclesTo r i)) ++ [(Ty.lst Ty.int (orbTo r i m))]))) rfl rfl (by decide) ok22 (m_append Try.underlying33 Try.inf34 (by decide) rfl (by decide) (al q151 q145) q152 (by intro U hU; simp at hU;  subst hU; exact one_sl) (by omega) (by omega)) (fun a25 s21 hs4 ok23 r4 sm4 => ?_)
       have F24 := F23.step hs4 (by decide)
       have q153 := Own.keep q144 hs4 (by decide) (.inr (by decide))
       have q154 := (sm4 6 (by decide)).trans q146
       have q155 : At (Ty.nat i) s21 a25 (.tmp 20) := kpm hs4 (by decide) (sm4 20 (by decide)) q147
       have q156 : At (Ty.lst Ty.int r) s21 a25 (.tmp 0) := kpm hs4 (by decide) (sm4 0 (by decide)) q149
       have q157 : At (Ty.nat (List.length r)) s21 a25 (.tmp 19) := kpm hs4 (by decide) (sm4 19 (by decide)) q150
       have q158 : At (Ty.sl 1 1 [(Ty.lst Ty.int (orbTo r i m))]) s21 a25 (.tmp 48) := kpm hs4 (by decide) (sm4 48 (by decide)) q152
       have q159 : (Pr.own 2 34 1 (List.length ((cyclesTo r i) ++ [(orbTo r i m)])) (List.map Ty.ints ((cyclesTo r i) ++ [(orbTo r i m)]))).has s21 (a25.eval (.tmp 49)) := (cvo (by simp) (by first | (rw [List.map_append]; rfl) | simp) r4)
       refine tail_step (m := 0) (R := (fun v τ => Pr.has (Pr.own 2 34 1 (List.length ((cyclesTo r i) ++ [(orbTo r i m)])) (List.map Ty.ints ((cyclesTo r i) ++ [(orbTo r i m)]))) τ v)) rfl rfl (by decide) ok23 (Yld.toM (y_assign q159)) (fun a26 s22 hs5 ok24 r5 sm5 => ?_)
       have F25 := F24.step hs5 (by decide)
       have q160 := Own.keep q153 hs5 (by decide) (.inl rfl)
       have q161 := (sm5 6 (by decide)).trans q154
       have q162 : At (Ty.nat i) s22 a26 (.tmp 20) := kpm hs5 (by decide) (sm5 20 (by decide)) q155
       have q163 : At (Ty.lst Ty.int r) s22 a26 (.tmp 0) := kpm hs5 (by decide) (sm5 0 (by decide)) q156
       have q164 : At (Ty.nat (List.length r)) s22 a26 (.tmp 19) := kpm hs5 (by decide) (sm5 19 (by decide)) q157
       have q165 : At (Ty.sl 1 1 [(Ty.lst Ty.int (orbTo r i m))]) s22 a26 (.tmp 48) := kpm hs5 (by decide) (sm5 48 (by decide)) q158
       have q166 : (Pr.own 2 34 1 (List.length ((cyclesTo r i) ++ [(orbTo r i m)])) (List.map Ty.ints ((cyclesTo r i) ++ [(orbTo r i m)]))).has s22 (a26.eval (.tmp 49)) := kpmo hs5 (by decide) (.inl rfl) (sm5 49 (by decide)) q159
       have q167 : (Pr.own 2 34 1 (List.length ((cyclesTo r i) ++ [(orbTo r i m)])) (List.map Ty.ints ((cyclesTo r i) ++ [(orbTo r i m)]))).has s22 (a26.eval (.tmp 5)) := r5
       refine wpList_nil ?_
       have q168 : (Pr.own 11 3 1 (List.length (doneL r i m)) (List.map Ty.int (doneL r i m))).has s22 (a26.eval (.tmp 6)) := al q161 q160
       refine bn ?_
       refine tn ?_
       refine reg (a := a26) (σ := s22) rfl (fun i_ => List.getD [(Ty.pr (Ty.int (((i : Nat) : Int) + (1 : Int)))), (Ty.pr (Ty.int (((i : Nat) : Int) + (1 : Int))))] i_ Pr.any) ok24 rfl ⟨?_, ?_, trivial⟩ ?_
       · intro ax tx hs okx sm
         exact run_plain rfl (y_add (kp (sm 20 rfl) hs q162) rfl (w64 (by omega) (by omega)))
       · intro ax tx hs okx sm d0
         have e0 : At (Ty.int (((i : Nat) : Int) + (1 : Int))) tx ax (.tmp 50) := d0 rfl
         exact run_plain rfl (y_move e0)
       intro a27 s23 D18
       have ok25 := D18.ok
       have F26 := F25.step0 D18.stp
       have q169 : (Pr.own 11 3 1 (List.length (doneL r i m)) (List.map Ty.int (doneL r i m))).has s23 (a27.eval (.tmp 6)) := D18.ko q168 rfl
       have q170 : At (Ty.lst Ty.int r) s23 a27 (.tmp 0) := D18.kt q163 rfl
       have q171 : At (Ty.nat (List.length r)) s23 a27 (.tmp 19) := D18.kt q164 rfl
       have q172 : (Pr.own 2 34 1 (List.length ((cyclesTo r i) ++ [(orbTo r i m)])) (List.map Ty.ints ((cyclesTo r i) ++ [(orbTo r i m)]))).has s23 (a27.eval (.tmp 5)) := D18.ko q167 rfl
       have q173 : At (Ty.int (((i : Nat) : Int) + (1 : Int))) s23 a27 (.tmp 20) := D18.done 1
       clear D18
       exact tn ⟨r.length - ((i+1)), by omega, s23, (i+1), rfl, F26, ok25, (cvi (by (first | rfl | omega | (simp_all; done) | (simp_all; omega))) q173), (cvo (by (rw [hml2.2, cyclesTo_yes r i hml2.1]; rfl)) (by (rw [hml2.2, cyclesTo_yes r i hml2.1]; rfl)) q172), (cvo (by (rw [hml2.2, done_next hr (by omega)])) (by (rw [hml2.2, done_next hr (by omega)])) q169), q170, q171, by omega, rfl⟩
      ·
       have hml2 := cyc_none hr (by omega) hm c3 (by simpa [orbTo_len] using c4)
       refine wp_skip ?_
       refine bn ?_
       refine tn ?_
       refine reg (a := a23) (σ := s19) rfl (fun i_ => List.getD [(Ty.pr (Ty.int (((i : Nat) : Int) + (1 : Int)))), (Ty.pr (Ty.int (((i : Nat) : Int) + (1 : Int))))] i_ Pr.any) ok21 rfl ⟨?_, ?_, trivial⟩ ?_
       · intro ax tx hs okx sm
         exact run_plain rfl (y_add (kp (sm 20 rfl) hs q132) rfl (w64 (by omega) (by omega)))
       · intro ax tx hs okx sm d0
         have e0 : At (Ty.int (((i : Nat) : Int) + (1 : Int))) tx ax (.tmp 50) := d0 rfl
         exact run_plain rfl (y_move e0)
       intro a28 s24 D19
       have ok26 := D19.ok
       have F27 := F21.step0 D19.stp
       have q174 : (Pr.own 11 3 1 (List.length (doneL r i m)) (List.map Ty.int (doneL r i m))).has s24 (a28.eval (.tmp 6)) := D19.ko q130 rfl
       have q175 : (Pr.own 2 34 1 (List.length (cyclesTo r i)) (List.map Ty.ints (cyclesTo r i))).has s24 (a28.eval (.tmp 5)) := D19.ko q133 rfl
       have q176 : At (Ty.lst Ty.int r) s24 a28 (.tmp 0) := D19.kt q134 rfl
       have q177 : At (Ty.nat (List.length r)) s24 a28 (.tmp 19) := D19.kt q135 rfl
       have q178 : At (Ty.int (((i : Nat) : Int) + (1 : Int))) s24 a28 (.tmp 20) := D19.done 1
       clear D19
       exact tn ⟨r.length - ((i+1)), by omega, s24, (i+1), rfl, F27, ok26, (cvi (by (first | rfl | omega | (simp_all; done) | (simp_all; omega))) q178), (cvo (by (rw [cyclesTo_no r i hml2.1])) (by (rw [cyclesTo_no r i hml2.1])) q175), (cvo (by (rw [hml2.2, done_skip hr (by omega) hml2.1])) (by (rw [hml2.2, done_skip hr (by omega) hml2.1])) q174), q176, q177, by omega, rfl⟩
   ·
    refine wp_exit ?_
    refine tx ?_
    refine tx ?_
    refine bx ?_
    refine tn ?_
    refine wp_seq ?_
    refine reg (a := a10) (σ := s8) rfl (fun i_ => List.getD [(Ty.pr (Ty.val (a10.eval (.tmp 5)))), (Ty.pr (Ty.val (a10.eval (.tmp 5)))), (Ty.pr (Ty.int (0 : Int)))] i_ Pr.any) ok9 rfl ⟨?_, ?_, ?_, trivial⟩ ?_
    · intro ax tx hs okx sm
      exact run_plain rfl (y_move (sm 5 rfl))
    · intro ax tx hs okx sm d0 d1
      have e0 : At (Ty.val (a10.eval (.tmp 5))) tx ax (.tmp 51) := d0 rfl
      exact run_plain rfl (y_assign e0)
    · intro ax tx hs okx sm d0 d1 d2
      have e1 : At (Ty.val (a10.eval (.tmp 5))) tx ax (.tmp 2) := d0 rfl
      have e0 : At (Ty.val (a10.eval (.tmp 5))) tx ax (.tmp 51) := d1 rfl
      exact run_plain rfl (y_assign rfl)
    intro a29 s25 D20
    have ok27 := D20.ok
    have F28 := F9.step0 D20.stp
    have q179 : (Pr.own 2 34 1 (List.length (cyclesTo r i)) (List.map Ty.ints (cyclesTo r i))).has s25 (a29.eval (.tmp 2)) := al (show _ = _ from D20.done 1) ((Pr.own 2 34 1 (List.length (cyclesTo r i)) (List.map Ty.ints (cyclesTo r i))).up D20.stp q25)
    have q180 : At (Ty.int (0 : Int)) s25 a29 (.tmp 3) := D20.done 2
    clear D20
    refine tn ?_
    refine wp_ret ?_
    obtain ⟨t6, e2, h2, q181⟩ := Own.seal q179 (by decide)
    rw [← e2]
    have F29 := F28.step h2 (by decide)
    have q182 := Ty.up (Ty.int (0 : Int)) (h2.le (by decide)) q180
    exact ret2 rfl ok27 F29 (cvt (by (obtain rfl : i = r.length := (by omega); rw [if_pos (Classical.not_not.1 c1)]; rfl)) q181) (cvi (by (exact (Classical.not_not.1 c1).symm)) q182)


set_option maxRecDepth 100000 in
theorem common_fn (a : Nat) (b : Nat) (σ : GW) (v0 v1 : Value) (hv0 : Ty.has (Ty.nat a) σ v0) (hv1 : Ty.has (Ty.nat b) σ v1) (ha : a ≤ 1000000000) (hb : b ≤ 1000000000) :
    FnC Try.prog 93 #[v0, v1] σ (Ty.nat (Nat.gcd a b)) := by
 refine fn_intro Try.func93 rfl Try.ntmps93 (Nat.le_of_ble_eq_true rfl) (fun s0 a0 hle F0 ok0 hargs => ?_)
 have p0 : At (Ty.nat a) s0 a0 (.tmp 0) := by have e := hargs 0 _ rfl; show Ty.has _ _ _; rw [e]; exact Ty.up _ hle hv0
 have p1 : At (Ty.nat b) s0 a0 (.tmp 1) := by have e := hargs 1 _ rfl; show Ty.has _ _ _; rw [e]; exact Ty.up _ hle hv1
 clear hargs
 refine wp_seq ?_
 refine reg (a := a0) (σ := s0) rfl (fun i_ => List.getD [(Ty.pr (Ty.int (0 : Int)))] i_ Pr.any) ok0 rfl ⟨?_, trivial⟩ ?_
 · intro ax tx hs okx sm
   exact run_plain rfl (y_assign rfl)
 intro a1 s1 D1
 have ok1 := D1.ok
 have F1 := F0.step0 D1.stp
 have q1 : At (Ty.nat a) s1 a1 (.tmp 0) := D1.kt p0 rfl
 have q2 : At (Ty.nat b) s1 a1 (.tmp 1) := D1.kt p1 rfl
 clear D1
 refine tn ?_
 refine wp_seq ?_
 refine wp_block ?_
 refine loop (fun n1 a2 w1 => ∃ (t1 : GW) (x : Nat) (y : Nat), t1.w = w1 ∧ From s0 t1 ∧ Ok 12 a2 ∧ At (Ty.nat x) t1 a2 (.tmp 0) ∧ At (Ty.nat y) t1 a2 (.tmp 1) ∧ (x ≤ 1000000000) ∧ (y ≤ 1000000000) ∧ (Nat.gcd x y = Nat.gcd a b) ∧ n1 = y + 1) ((b) + 1) ?_ ?_
 ·
  exact ⟨s1, a, b, rfl, F1, ok1, (cvi (by (first | rfl | omega | (simp_all; done) | (simp_all; omega))) q1), (cvi (by (first | rfl | omega | (simp_all; done) | (simp_all; omega))) q2), by omega, by omega, rfl, rfl⟩
 ·
  rintro n2 a3 w2 ⟨t2, x, y, rfl, F2, ok2, q3, q4, hx, hy, hg, rfl⟩
  refine wp_seq ?_
  refine wp_seq ?_
  refine reg (a := a3) (σ := t2) rfl (fun i_ => List.getD [(Ty.pr (Ty.nat y)), (Ty.pr (Ty.bool (decide ((0 : Int) < ((y : Nat) : Int)))))] i_ Pr.any) ok2 rfl ⟨?_, ?_, trivial⟩ ?_
  · intro ax tx hs okx sm
    exact run_plain rfl (y_move (kp (sm 1 rfl) hs q4))
  · intro ax tx hs okx sm d0
    have e0 : At (Ty.nat y) tx ax (.tmp 5) := d0 rfl
    exact run_plain rfl (y_gtr e0 rfl)
  intro a4 s2 D2
  have ok3 := D2.ok
  have F3 := F2.step0 D2.stp
  have q5 : At (Ty.nat x) s2 a4 (.tmp 0) := D2.kt q3 rfl
  have q6 : At (Ty.nat y) s2 a4 (.tmp 1) := D2.kt q4 rfl
  have q7 : At (Ty.bool (decide ((0 : Int) < ((y : Nat) : Int)))) s2 a4 (.tmp 6) := D2.done 1
  clear D2
  refine tn ?_
  refine cond_p (p := ((0 : Int) < ((y : Nat) : Int))) q7 (fun c1 => ?_) (fun c1 => ?_)
  ·
   refine wp_skip ?_
   refine tn ?_
   refine wp_block ?_
   refine reg (a := a4) (σ := s2) rfl (fun i_ => List.getD [(Ty.pr (Ty.nat y)), (Ty.pr (Ty.nat x)), (Ty.pr (Ty.nat y)), (Ty.pr (Ty.nat (x % y))), (Ty.pr (Ty.nat y)), (Ty.pr (Ty.nat (x % y)))] i_ Pr.any) ok3 rfl ⟨?_, ?_, ?_, ?_, ?_, ?_, trivial⟩ ?_
   · intro ax tx hs okx sm
     exact run_plain rfl (y_move (kp (sm 1 rfl) hs q6))
   · intro ax tx hs okx sm
     exact run_plain rfl (y_move (kp (sm 0 rfl) hs q5))
   · intro ax tx hs okx sm
     exact run_plain rfl (y_move (kp (sm 1 rfl) hs q6))
   · intro ax tx hs okx sm d0 d1
     have e1 : At (Ty.nat x) tx ax (.tmp 8) := d0 rfl
     have e2 : At (Ty.nat y) tx ax (.tmp 9) := d1 rfl
     exact run_plain rfl (y_remN e1 e2 (by omega))
   · intro ax tx hs okx sm d0 d1 d2 d3 d4
     have e0 : At (Ty.nat y) tx ax (.tmp 7) := d0 rfl
     have e1 : At (Ty.nat x) tx ax (.tmp 8) := d2 rfl
     exact run_plain rfl (y_assign e0)
   · intro ax tx hs okx sm d0 d1 d2 d3 d4 d5 d6
     have e3 : At (Ty.nat (x % y)) tx ax (.tmp 10) := d0 rfl
     have e4 : At (Ty.nat y) tx ax (.tmp 0) := d1 rfl
     have e0 : At (Ty.nat y) tx ax (.tmp 7) := d2 rfl
     have e1 : At (Ty.nat x) tx ax (.tmp 8) := d3 rfl
     have e2 : At (Ty.nat y) tx ax (.tmp 9) := d4 rfl
     exact run_plain rfl (y_assign e3)
   intro a5 s3 D3
   have ok4 := D3.ok
   have F4 := F3.step0 D3.stp
   have q8 : At (Ty.nat y) s3 a5 (.tmp 0) := D3.done 4
   have q9 : At (Ty.nat (x % y)) s3 a5 (.tmp 1) := D3.done 5
   clear D3
   refine bn ?_
   exact tn ⟨((x % y)) + 1, by have := Nat.mod_lt x (show 0 < y by omega); omega, s3, y, (x % y), rfl, F4, ok4, (cvi (by (first | rfl | omega | (simp_all; done) | (simp_all; omega))) q8), (cvi (by (omega)) q9), by omega, by have := Nat.mod_lt x (show 0 < y by omega); omega, by rw [← hg, Nat.gcd_comm x y, Nat.gcd_rec y x, Nat.gcd_comm], rfl⟩
  ·
   refine wp_exit ?_
   refine tx ?_
   refine tx ?_
   refine bx ?_
   refine tn ?_
   refine wp_seq ?_
   refine reg (a := a4) (σ := s2) rfl (fun i_ => List.getD [(Ty.pr (Ty.nat x)), (Ty.pr (Ty.nat x))] i_ Pr.any) ok3 rfl ⟨?_, ?_, trivial⟩ ?_
   · intro ax tx hs okx sm
     exact run_plain rfl (y_move (kp (sm 0 rfl) hs q5))
   · intro ax tx hs okx sm d0 d1
     have e0 : At (Ty.nat x) tx ax (.tmp 11) := d0 rfl
     exact run_plain rfl (y_assign e0)
   intro a6 s4 D4
   have ok5 := D4.ok
   have F5 := F3.step0 D4.stp
   have q10 : At (Ty.nat x) s4 a6 (.tmp 4) := D4.done 1
   clear D4
   refine tn ?_
   refine wp_ret ?_
   exact ret1 rfl ok5 F5 (cvi (by (obtain rfl : y = 0 := (by omega); rw [← hg, Nat.gcd_zero_right])) q10)


set_option maxRecDepth 100000 in
theorem order_fn (r : List Int) (σ : GW) (v0 : Value) (hv0 : Ty.has (Ty.lst Ty.int r) σ v0)  :
    FnC Try.prog 40 #[v0] σ (Ty.tup3 (Ty.nat (if rowMay r = 0 then ordL r else 0)) (Ty.bool (if rowMay r = 0 then oddL r else false)) (Ty.int (rowMay r))) := by
 refine fn_intro Try.func40 rfl Try.ntmps40 (Nat.le_of_ble_eq_true rfl) (fun s0 a0 hle F0 ok0 hargs => ?_)
 have p0 : At (Ty.lst Ty.int r) s0 a0 (.tmp 0) := by have e := hargs 0 _ rfl; show Ty.has _ _ _; rw [e]; exact Ty.up _ hle hv0
 have b1 := sl_le p0
 clear hargs
 refine wp_seq ?_
 refine reg (a := a0) (σ := s0) rfl (fun i_ => List.getD [(Ty.pr (Ty.int (0 : Int))), (Ty.pr (Ty.bool false)), (Ty.pr (Ty.int (0 : Int)))] i_ Pr.any) ok0 rfl ⟨?_, ?_, ?_, trivial⟩ ?_
 · intro ax tx hs okx sm
   exact run_plain rfl (y_assign rfl)
 · intro ax tx hs okx sm d0
   have e0 : At (Ty.int (0 : Int)) tx ax (.tmp 2) := d0 rfl
   exact run_plain rfl (y_assign rfl)
 · intro ax tx hs okx sm d0
   have e1 : At (Ty.bool false) tx ax (.tmp 3) := d0 rfl
   exact run_plain rfl (y_assign rfl)
 intro a1 s1 D1
 have ok1 := D1.ok
 have F1 := F0.step0 D1.stp
 have q1 : At (Ty.lst Ty.int r) s1 a1 (.tmp 0) := D1.kt p0 rfl
 have q2 : At (Ty.bool false) s1 a1 (.tmp 3) := D1.done 1
 clear D1
 refine tn ?_
 refine wp_seq ?_
 refine reg (a := a1) (σ := s1) rfl (fun i_ => List.getD [(Ty.pr (Ty.lst Ty.int r)), (Ty.pr (Ty.tup2 (Ty.lst Ty.ints (if rowMay r = 0 then cyclesL r else [])) (Ty.int (rowMay r)))), (Ty.pr (Ty.tup2 (Ty.lst Ty.ints (if rowMay r = 0 then cyclesL r else [])) (Ty.int (rowMay r)))), (Ty.pr (Ty.lst Ty.ints (if rowMay r = 0 then cyclesL r else []))), (Ty.pr (Ty.int (rowMay r))), (Ty.pr (Ty.lst Ty.ints (if rowMay r = 0 then cyclesL r else []))), (Ty.pr (Ty.int (rowMay r)))] i_ Pr.any) ok1 rfl ⟨?_, ?_, ?_, ?_, ?_, ?_, ?_, trivial⟩ ?_
 · intro ax tx hs okx sm
   exact run_plain rfl (y_move (kp (sm 0 rfl) hs q1))
 · intro ax tx hs okx sm d0
   have e0 : At (Ty.lst Ty.int r) tx ax (.tmp 9) := d0 rfl
   exact run_plain rfl (y_call #[ax.eval (.tmp 9)] Try.func39 rfl rfl (by simp only [List.map_toArray, List.map_cons, List.map_nil]) (cycles_fn (r) _ _ e0 ))
 · intro ax tx hs okx sm d0
   have e1 : At (Ty.tup2 (Ty.lst Ty.ints (if rowMay r = 0 then cyclesL r else [])) (Ty.int (rowMay r))) tx ax (.tmp 10) := d0 rfl
   exact run_plain rfl (y_move e1)
 · intro ax tx hs okx sm d0
   have e2 : At (Ty.tup2 (Ty.lst Ty.ints (if rowMay r = 0 then cyclesL r else [])) (Ty.int (rowMay r))) tx ax (.tmp 8) := d0 rfl
   exact run_plain rfl (y_ext2_0 e2)
 · intro ax tx hs okx sm d0 d1
   have e2 : At (Ty.tup2 (Ty.lst Ty.ints (if rowMay r = 0 then cyclesL r else [])) (Ty.int (rowMay r))) tx ax (.tmp 8) := d0 rfl
   exact run_plain rfl (y_ext2_1 e2)
 · intro ax tx hs okx sm d0 d1 d2 d3 d4 d5 d6
   have e3 : At (Ty.lst Ty.ints (if rowMay r = 0 then cyclesL r else [])) tx ax (.tmp 11) := d0 rfl
   have e1 : At (Ty.tup2 (Ty.lst Ty.ints (if rowMay r = 0 then cyclesL r else [])) (Ty.int (rowMay r))) tx ax (.tmp 10) := d1 rfl
   have e0 : At (Ty.lst Ty.int r) tx ax (.tmp 9) := d2 rfl
   have e2 : At (Ty.tup2 (Ty.lst Ty.ints (if rowMay r = 0 then cyclesL r else [])) (Ty.int (rowMay r))) tx ax (.tmp 8) := d4 rfl
   exact run_plain rfl (y_assign e3)
 · intro ax tx hs okx sm d0 d1 d2 d3 d4 d5 d6 d7
   have e4 : At (Ty.int (rowMay r)) tx ax (.tmp 12) := d0 rfl
   have e5 : At (Ty.lst Ty.ints (if rowMay r = 0 then cyclesL r else [])) tx ax (.tmp 5) := d1 rfl
   have e0 : At (Ty.lst Ty.int r) tx ax (.tmp 9) := d2 rfl
   have e1 : At (Ty.tup2 (Ty.lst Ty.ints (if rowMay r = 0 then cyclesL r else [])) (Ty.int (rowMay r))) tx ax (.tmp 10) := d3 rfl
   have e2 : At (Ty.tup2 (Ty.lst Ty.ints (if rowMay r = 0 then cyclesL r else [])) (Ty.int (rowMay r))) tx ax (.tmp 8) := d4 rfl
   have e3 : At (Ty.lst Ty.ints (if rowMay r = 0 then cyclesL r else [])) tx ax (.tmp 11) := d5 rfl
   exact run_plain rfl (y_assign e4)
 intro a2 s2 D2
 have ok2 := D2.ok
 have F2 := F1.step0 D2.stp
 have q3 : At (Ty.bool false) s2 a2 (.tmp 3) := D2.kt q2 rfl
 have q4 : At (Ty.lst Ty.ints (if rowMay r = 0 then cyclesL r else [])) s2 a2 (.tmp 5) := D2.done 5
 have q5 : At (Ty.int (rowMay r)) s2 a2 (.tmp 4) := D2.done 6
 clear D2
 refine tn ?_
 refine wp_seq ?_
 refine wp_seq ?_
 refine reg (a := a2) (σ := s2) rfl (fun i_ => List.getD [(Ty.pr (Ty.int (rowMay r))), (Ty.pr (Ty.bool (decide ((rowMay r) ≠ (0 : Int)))))] i_ Pr.any) ok2 rfl ⟨?_, ?_, trivial⟩ ?_
 · intro ax tx hs okx sm
   exact run_plain rfl (y_move (kp (sm 4 rfl) hs q5))
 · intro ax tx hs okx sm d0
   have e0 : At (Ty.int (rowMay r)) tx ax (.tmp 13) := d0 rfl
   exact run_plain rfl (y_neq e0 rfl)
 intro a3 s3 D3
 have ok3 := D3.ok
 have F3 := F2.step0 D3.stp
 have q6 : At (Ty.bool false) s3 a3 (.tmp 3) := D3.kt q3 rfl
 have q7 : At (Ty.lst Ty.ints (if rowMay r = 0 then cyclesL r else [])) s3 a3 (.tmp 5) := D3.kt q4 rfl
 have q8 : At (Ty.int (rowMay r)) s3 a3 (.tmp 4) := D3.kt q5 rfl
 have q9 : At (Ty.bool (decide ((rowMay r) ≠ (0 : Int)))) s3 a3 (.tmp 14) := D3.done 1
 clear D3
 refine tn ?_
 refine cond_p (p := ((rowMay r) ≠ (0 : Int))) q9 (fun c1 => ?_) (fun c1 => ?_)
 ·
  refine wp_seq ?_
  refine reg (a := a3) (σ := s3) rfl (fun i_ => List.getD [(Ty.pr (Ty.int (rowMay r))), (Ty.pr (Ty.int (0 : Int))), (Ty.pr (Ty.bool false)), (Ty.pr (Ty.int (rowMay r)))] i_ Pr.any) ok3 rfl ⟨?_, ?_, ?_, ?_, trivial⟩ ?_
  · intro ax tx hs okx sm d0
    exact run_plain rfl (y_move (kp (sm 4 rfl) hs q8))
  · intro ax tx hs okx sm d0
    exact run_plain rfl (y_assign rfl)
  · intro ax tx hs okx sm d0 d1 d2
    have e1 : At (Ty.int (0 : Int)) tx ax (.tmp 2) := d0 rfl
    exact run_plain rfl (y_assign rfl)
  · intro ax tx hs okx sm d0 d1 d2 d3 d4
    have e0 : At (Ty.int (rowMay r)) tx ax (.tmp 15) := d0 rfl
    have e2 : At (Ty.bool false) tx ax (.tmp 3) := d1 rfl
    have e1 : At (Ty.int (0 : Int)) tx ax (.tmp 2) := d3 rfl
    exact run_plain rfl (y_assign e0)
  intro a4 s4 D4
  have ok4 := D4.ok
  have F4 := F3.step0 D4.stp
  have q10 : At (Ty.int (0 : Int)) s4 a4 (.tmp 2) := D4.done 1
  have q11 : At (Ty.bool false) s4 a4 (.tmp 3) := D4.done 2
  have q12 : At (Ty.int (rowMay r)) s4 a4 (.tmp 4) := D4.done 3
  clear D4
  refine tn ?_
  refine wp_ret ?_
  refine tr ?_
  exact ret3 rfl ok4 F4 (cvi (by (rw [if_neg c1]; rfl)) q10) (cvb (by (rw [if_neg c1])) q11) q12
 ·
  have h0 := Classical.not_not.1 c1; have hr := rowMay_ok.1 h0; have ecl : (if rowMay r = 0 then cyclesL r else []) = cyclesL r := if_pos h0; have ecn := congrArg List.length ecl; have hcb : (cyclesL r).length ≤ r.length := cyclesTo_len r r.length; have hln := hr.le
  refine wp_skip ?_
  refine tn ?_
  refine wp_seq ?_
  refine reg (a := a3) (σ := s3) rfl (fun i_ => List.getD [(Ty.pr (Ty.int (1 : Int)))] i_ Pr.any) ok3 rfl ⟨?_, trivial⟩ ?_
  · intro ax tx hs okx sm
    exact run_plain rfl (y_assign rfl)
  intro a5 s5 D5
  have ok5 := D5.ok
  have F5 := F3.step0 D5.stp
  have q13 : At (Ty.bool false) s5 a5 (.tmp 3) := D5.kt q6 rfl
  have q14 : At (Ty.lst Ty.ints (if rowMay r = 0 then cyclesL r else [])) s5 a5 (.tmp 5) := D5.kt q7 rfl
  have q15 : At (Ty.int (1 : Int)) s5 a5 (.tmp 2) := D5.done 0
  clear D5
  refine tn ?_
  refine wp_seq ?_
  refine wp_seq ?_
  refine reg (a := a5) (σ := s5) rfl (fun i_ => List.getD [(Ty.pr (Ty.lst Ty.ints (if rowMay r = 0 then cyclesL r else []))), (Ty.pr (Ty.nat (List.length (if rowMay r = 0 then cyclesL r else [])))), (Ty.pr (Ty.int (0 : Int)))] i_ Pr.any) ok5 rfl ⟨?_, ?_, ?_, trivial⟩ ?_
  · intro ax tx hs okx sm
    exact run_plain rfl (y_move (kp (sm 5 rfl) hs q14))
  · intro ax tx hs okx sm d0
    have e0 : At (Ty.lst Ty.ints (if rowMay r = 0 then cyclesL r else [])) tx ax (.tmp 16) := d0 rfl
    exact run_plain rfl (y_len Try.underlying33 e0)
  · intro ax tx hs okx sm
    exact run_plain rfl (y_move rfl)
  intro a6 s6 D6
  have ok6 := D6.ok
  have F6 := F5.step0 D6.stp
  have q16 : At (Ty.bool false) s6 a6 (.tmp 3) := D6.kt q13 rfl
  have q17 : At (Ty.int (1 : Int)) s6 a6 (.tmp 2) := D6.kt q15 rfl
  have q18 : At (Ty.lst Ty.ints (if rowMay r = 0 then cyclesL r else [])) s6 a6 (.tmp 16) := D6.done 0
  have q19 : At (Ty.nat (List.length (if rowMay r = 0 then cyclesL r else []))) s6 a6 (.tmp 17) := D6.done 1
  have q20 : At (Ty.int (0 : Int)) s6 a6 (.tmp 18) := D6.done 2
  clear D6
  refine tn ?_
  refine wp_block ?_
  refine loop (fun n1 a7 w1 => ∃ (t1 : GW) (k : Nat), t1.w = w1 ∧ From s0 t1 ∧ Ok 40 a7 ∧ At (Ty.nat k) t1 a7 (.tmp 18) ∧ At (Ty.nat (ordTo (cyclesL r) k)) t1 a7 (.tmp 2) ∧ At (Ty.bool (oddTo (cyclesL r) k)) t1 a7 (.tmp 3) ∧ At (Ty.lst Ty.ints (if rowMay r = 0 then cyclesL r else [])) t1 a7 (.tmp 16) ∧ At (Ty.nat (List.length (if rowMay r = 0 then cyclesL r else []))) t1 a7 (.tmp 17) ∧ (k ≤ (cyclesL r).length) ∧ n1 = (cyclesL r).length - k) ((cyclesL r).length - (0)) ?_ ?_
  ·
   exact ⟨s6, 0, rfl, F6, ok6, (cvi (by (first | rfl | omega | (simp_all; done) | (simp_all; omega))) q20), (cvi (by (first | rfl | omega | (simp_all; done) | (simp_all; omega))) q17), (cvb (by (first | rfl | omega | (simp_all; done) | (simp_all; omega))) q16), q18, q19, by omega, rfl⟩
  ·
   rintro n2 a8 w2 ⟨t2, k, rfl, F7, ok7, q21, q22, q23, q24, q25, hk, rfl⟩
   refine wp_seq ?_
   refine reg (a := a8) (σ := t2) rfl (fun i_ => List.getD [(Ty.pr (Ty.bool (decide (((k : Nat) : Int) < (((List.length (if rowMay r = 0 then cyclesL r else [])) : Nat) : Int)))))] i_ Pr.any) ok7 rfl ⟨?_, trivial⟩ ?_
   · intro ax tx hs okx sm
     exact run_plain rfl (y_lss (kp (sm 18 rfl) hs q21) (kp (sm 17 rfl) hs q25))
   intro a9 s7 D7
   have ok8 := D7.ok
   have F8 := F7.step0 D7.stp
   have q26 : At (Ty.nat k) s7 a9 (.tmp 18) := D7.kt q21 rfl
   have q27 : At (Ty.nat (ordTo (cyclesL r) k)) s7 a9 (.tmp 2) := D7.kt q22 rfl
   have q28 : At (Ty.bool (oddTo (cyclesL r) k)) s7 a9 (.tmp 3) := D7.kt q23 rfl
   have q29 : At (Ty.lst Ty.ints (if rowMay r = 0 then cyclesL r else [])) s7 a9 (.tmp 16) := D7.kt q24 rfl
   have q30 : At (Ty.nat (List.length (if rowMay r = 0 then cyclesL r else []))) s7 a9 (.tmp 17) := D7.kt q25 rfl
   have q31 : At (Ty.bool (decide (((k : Nat) : Int) < (((List.length (if rowMay r = 0 then cyclesL r else [])) : Nat) : Int)))) s7 a9 (.tmp 19) := D7.done 0
   clear D7
   refine tn ?_
   refine wp_seq ?_
   refine cond_p (p := (((k : Nat) : Int) < (((List.length (if rowMay r = 0 then cyclesL r else [])) : Nat) : Int))) q31 (fun c2 => ?_) (fun c2 => ?_)
   ·
    obtain ⟨hf1, hf2, hf3, hf4, hf5, hf6, hf7, hf8, hf9⟩ := ord_facts h0 (k := k) (by omega)
    refine wp_skip ?_
    refine tn ?_
    refine wp_seq ?_
    refine wp_block ?_
    refine wp_seq ?_
    refine reg (a := a9) (σ := s7) rfl (fun i_ => List.getD [(Ty.pr (Ty.ref [(Ty.lst Ty.int ((if rowMay r = 0 then cyclesL r else []).getD k []))])), (Ty.pr (Ty.lst Ty.int ((if rowMay r = 0 then cyclesL r else []).getD k []))), (Ty.pr (Ty.lst Ty.int ((if rowMay r = 0 then cyclesL r else []).getD k [])))] i_ Pr.any) ok8 rfl ⟨?_, ?_, ?_, trivial⟩ ?_
    · intro ax tx hs okx sm
      exact run_plain rfl (y_index1 Try.underlying33 Try.inf34 (kp (sm 16 rfl) hs q29) (kp (sm 18 rfl) hs q26) (by omega) (lst_get Ty.ints (if rowMay r = 0 then cyclesL r else []) [] k (by omega)))
    · intro ax tx hs okx sm d0
      have e0 : At (Ty.ref [(Ty.lst Ty.int ((if rowMay r = 0 then cyclesL r else []).getD k []))]) tx ax (.tmp 20) := d0 rfl
      exact run_plain rfl (y_load Try.underlying34 rfl e0 rfl)
    · intro ax tx hs okx sm d0 d1 d2
      have e1 : At (Ty.lst Ty.int ((if rowMay r = 0 then cyclesL r else []).getD k [])) tx ax (.tmp 21) := d0 rfl
      have e0 : At (Ty.ref [(Ty.lst Ty.int ((if rowMay r = 0 then cyclesL r else []).getD k []))]) tx ax (.tmp 20) := d1 rfl
      exact run_plain rfl (y_assign e1)
    intro a10 s8 D8
    have ok9 := D8.ok
    have F9 := F8.step0 D8.stp
    have q32 : At (Ty.nat k) s8 a10 (.tmp 18) := D8.kt q26 rfl
    have q33 : At (Ty.nat (ordTo (cyclesL r) k)) s8 a10 (.tmp 2) := D8.kt q27 rfl
    have q34 : At (Ty.bool (oddTo (cyclesL r) k)) s8 a10 (.tmp 3) := D8.kt q28 rfl
    have q35 : At (Ty.lst Ty.ints (if rowMay r = 0 then cyclesL r else [])) s8 a10 (.tmp 16) := D8.kt q29 rfl
    have q36 : At (Ty.nat (List.length (if rowMay r = 0 then cyclesL r else []))) s8 a10 (.tmp 17) := D8.kt q30 rfl
    have q37 : At (Ty.lst Ty.int ((if rowMay r = 0 then cyclesL r else []).getD k [])) s8 a10 (.tmp 7) := D8.done 2
    clear D8
    refine tn ?_
    refine wp_seq ?_
    refine reg (a := a10) (σ := s8) rfl (fun i_ => List.getD [(Ty.pr (Ty.nat (ordTo (cyclesL r) k))), (Ty.pr (Ty.lst Ty.int ((if rowMay r = 0 then cyclesL r else []).getD k []))), (Ty.pr (Ty.nat (List.length ((if rowMay r = 0 then cyclesL r else []).getD k [])))), (Ty.pr (Ty.nat (ordTo (cyclesL r) k))), (Ty.pr (Ty.lst Ty.int ((if rowMay r = 0 then cyclesL r else []).getD k []))), (Ty.pr (Ty.nat (List.length ((if rowMay r = 0 then cyclesL r else []).getD k [])))), (Ty.pr (Ty.nat (Nat.gcd ((ordTo (cyclesL r) k)) ((List.length ((if rowMay r = 0 then cyclesL r else []).getD k [])))))), (Ty.pr (Ty.nat ((List.length ((if rowMay r = 0 then cyclesL r else []).getD k [])) / (Nat.gcd ((ordTo (cyclesL r) k)) ((List.length ((if rowMay r = 0 then cyclesL r else []).getD k []))))))), (Ty.pr (Ty.int ((((ordTo (cyclesL r) k) : Nat) : Int) * ((((List.length ((if rowMay r = 0 then cyclesL r else []).getD k [])) / (Nat.gcd ((ordTo (cyclesL r) k)) ((List.length ((if rowMay r = 0 then cyclesL r else []).getD k []))))) : Nat) : Int)))), (Ty.pr (Ty.int ((((ordTo (cyclesL r) k) : Nat) : Int) * ((((List.length ((if rowMay r = 0 then cyclesL r else []).getD k [])) / (Nat.gcd ((ordTo (cyclesL r) k)) ((List.length ((if rowMay r = 0 then cyclesL r else []).getD k []))))) : Nat) : Int))))] i_ Pr.any) ok9 rfl ⟨?_, ?_, ?_, ?_, ?_, ?_, ?_, ?_, ?_, ?_, trivial⟩ ?_
    · intro ax tx hs okx sm
      exact run_plain rfl (y_move (kp (sm 2 rfl) hs q33))
    · intro ax tx hs okx sm
      exact run_plain rfl (y_move (kp (sm 7 rfl) hs q37))
    · intro ax tx hs okx sm d0
      have e1 : At (Ty.lst Ty.int ((if rowMay r = 0 then cyclesL r else []).getD k [])) tx ax (.tmp 23) := d0 rfl
      exact run_plain rfl (y_len Try.underlying34 e1)
    · intro ax tx hs okx sm
      exact run_plain rfl (y_move (kp (sm 2 rfl) hs q33))
    · intro ax tx hs okx sm
      exact run_plain rfl (y_move (kp (sm 7 rfl) hs q37))
    · intro ax tx hs okx sm d0
      have e4 : At (Ty.lst Ty.int ((if rowMay r = 0 then cyclesL r else []).getD k [])) tx ax (.tmp 26) := d0 rfl
      exact run_plain rfl (y_len Try.underlying34 e4)
    · intro ax tx hs okx sm d0 d1
      have e3 : At (Ty.nat (ordTo (cyclesL r) k)) tx ax (.tmp 25) := d0 rfl
      have e5 : At (Ty.nat (List.length ((if rowMay r = 0 then cyclesL r else []).getD k []))) tx ax (.tmp 27) := d1 rfl
      exact run_plain rfl (y_call #[ax.eval (.tmp 25), ax.eval (.tmp 27)] Try.func93 rfl rfl (by simp only [List.map_toArray, List.map_cons, List.map_nil]) (common_fn ((ordTo (cyclesL r) k)) ((List.length ((if rowMay r = 0 then cyclesL r else []).getD k []))) _ _ _ e3 e5 (by omega) (by omega)))
    · intro ax tx hs okx sm d0 d1
      have e2 : At (Ty.nat (List.length ((if rowMay r = 0 then cyclesL r else []).getD k []))) tx ax (.tmp 24) := d0 rfl
      have e6 : At (Ty.nat (Nat.gcd ((ordTo (cyclesL r) k)) ((List.length ((if rowMay r = 0 then cyclesL r else []).getD k []))))) tx ax (.tmp 28) := d1 rfl
      exact run_plain rfl (y_quoN e2 e6 (by omega) (by omega))
    · intro ax tx hs okx sm d0 d1
      have e0 : At (Ty.nat (ordTo (cyclesL r) k)) tx ax (.tmp 22) := d0 rfl
      have e7 : At (Ty.nat ((List.length ((if rowMay r = 0 then cyclesL r else []).getD k [])) / (Nat.gcd ((ordTo (cyclesL r) k)) ((List.length ((if rowMay r = 0 then cyclesL r else []).getD k [])))))) tx ax (.tmp 29) := d1 rfl
      exact run_plain rfl (y_mul e0 e7 (w64 (by omega) (by omega)))
    · intro ax tx hs okx sm d0 d1 d2 d3 d4 d5 d6 d7 d8 d9 d10
      have e8 : At (Ty.int ((((ordTo (cyclesL r) k) : Nat) : Int) * ((((List.length ((if rowMay r = 0 then cyclesL r else []).getD k [])) / (Nat.gcd ((ordTo (cyclesL r) k)) ((List.length ((if rowMay r = 0 then cyclesL r else []).getD k []))))) : Nat) : Int))) tx ax (.tmp 30) := d0 rfl
      have e6 : At (Ty.nat (Nat.gcd ((ordTo (cyclesL r) k)) ((List.length ((if rowMay r = 0 then cyclesL r else []).getD k []))))) tx ax (.tmp 28) := d1 rfl
      have e0 : At (Ty.nat (ordTo (cyclesL r) k)) tx ax (.tmp 22) := d2 rfl
      have e1 : At (Ty.lst Ty.int ((if rowMay r = 0 then cyclesL r else []).getD k [])) tx ax (.tmp 23) := d3 rfl
      have e2 : At (Ty.nat (List.length ((if rowMay r = 0 then cyclesL r else []).getD k []))) tx ax (.tmp 24) := d4 rfl
      have e3 : At (Ty.nat (ordTo (cyclesL r) k)) tx ax (.tmp 25) := d5 rfl
      have e4 : At (Ty.lst Ty.int ((if rowMay r = 0 then cyclesL r else []).getD k [])) tx ax (.tmp 26) := d6 rfl
      have e5 : At (Ty.nat (List.length ((if rowMay r = 0 then cyclesL r else []).getD k []))) tx ax (.tmp 27) := d7 rfl
      have e7 : At (Ty.nat ((List.length ((if rowMay r = 0 then cyclesL r else []).getD k [])) / (Nat.gcd ((ordTo (cyclesL r) k)) ((List.length ((if rowMay r = 0 then cyclesL r else []).getD k [])))))) tx ax (.tmp 29) := d9 rfl
      exact run_plain rfl (y_assign e8)
    intro a11 s9 D9
    have ok10 := D9.ok
    have F10 := F9.step0 D9.stp
    have q38 : At (Ty.nat k) s9 a11 (.tmp 18) := D9.kt q32 rfl
    have q39 : At (Ty.bool (oddTo (cyclesL r) k)) s9 a11 (.tmp 3) := D9.kt q34 rfl
    have q40 : At (Ty.lst Ty.ints (if rowMay r = 0 then cyclesL r else [])) s9 a11 (.tmp 16) := D9.kt q35 rfl
    have q41 : At (Ty.nat (List.length (if rowMay r = 0 then cyclesL r else []))) s9 a11 (.tmp 17) := D9.kt q36 rfl
    have q42 : At (Ty.lst Ty.int ((if rowMay r = 0 then cyclesL r else []).getD k [])) s9 a11 (.tmp 7) := D9.kt q37 rfl
    have q43 : At (Ty.int ((((ordTo (cyclesL r) k) : Nat) : Int) * ((((List.length ((if rowMay r = 0 then cyclesL r else []).getD k [])) / (Nat.gcd ((ordTo (cyclesL r) k)) ((List.length ((if rowMay r = 0 then cyclesL r else []).getD k []))))) : Nat) : Int))) s9 a11 (.tmp 2) := D9.done 9
    clear D9
    refine tn ?_
    refine reg (a := a11) (σ := s9) rfl (fun i_ => List.getD [(Ty.pr (Ty.bool (oddTo (cyclesL r) k))), (Ty.pr (Ty.lst Ty.int ((if rowMay r = 0 then cyclesL r else []).getD k []))), (Ty.pr (Ty.nat (List.length ((if rowMay r = 0 then cyclesL r else []).getD k [])))), (Ty.pr (Ty.nat ((List.length ((if rowMay r = 0 then cyclesL r else []).getD k [])) % 2))), (Ty.pr (Ty.bool (decide (((((List.length ((if rowMay r = 0 then cyclesL r else []).getD k [])) % 2) : Nat) : Int) = (0 : Int))))), (Ty.pr (Ty.bool ((oddTo (cyclesL r) k) != (decide (((((List.length ((if rowMay r = 0 then cyclesL r else []).getD k [])) % 2) : Nat) : Int) = (0 : Int)))))), (Ty.pr (Ty.bool ((oddTo (cyclesL r) k) != (decide (((((List.length ((if rowMay r = 0 then cyclesL r else []).getD k [])) % 2) : Nat) : Int) = (0 : Int))))))] i_ Pr.any) ok10 rfl ⟨?_, ?_, ?_, ?_, ?_, ?_, ?_, trivial⟩ ?_
    · intro ax tx hs okx sm
      exact run_plain rfl (y_move (kp (sm 3 rfl) hs q39))
    · intro ax tx hs okx sm
      exact run_plain rfl (y_move (kp (sm 7 rfl) hs q42))
    · intro ax tx hs okx sm d0
      have e1 : At (Ty.lst Ty.int ((if rowMay r = 0 then cyclesL r else []).getD k [])) tx ax (.tmp 32) := d0 rfl
      exact run_plain rfl (y_len Try.underlying34 e1)
    · intro ax tx hs okx sm d0
      have e2 : At (Ty.nat (List.length ((if rowMay r = 0 then cyclesL r else []).getD k []))) tx ax (.tmp 33) := d0 rfl
      exact run_plain rfl (y_remN e2 (toN (σ := tx) rfl (by omega)) (by omega))
    · intro ax tx hs okx sm d0
      have e3 : At (Ty.nat ((List.length ((if rowMay r = 0 then cyclesL r else []).getD k [])) % 2)) tx ax (.tmp 34) := d0 rfl
      exact run_plain rfl (y_eql e3 rfl)
    · intro ax tx hs okx sm d0 d1
      have e0 : At (Ty.bool (oddTo (cyclesL r) k)) tx ax (.tmp 31) := d0 rfl
      have e4 : At (Ty.bool (decide (((((List.length ((if rowMay r = 0 then cyclesL r else []).getD k [])) % 2) : Nat) : Int) = (0 : Int)))) tx ax (.tmp 35) := d1 rfl
      exact run_plain rfl (y_neqB Try.underlying4 e0 e4)
    · intro ax tx hs okx sm d0 d1 d2 d3 d4 d5 d6
      have e5 : At (Ty.bool ((oddTo (cyclesL r) k) != (decide (((((List.length ((if rowMay r = 0 then cyclesL r else []).getD k [])) % 2) : Nat) : Int) = (0 : Int))))) tx ax (.tmp 36) := d0 rfl
      have e0 : At (Ty.bool (oddTo (cyclesL r) k)) tx ax (.tmp 31) := d1 rfl
      have e1 : At (Ty.lst Ty.int ((if rowMay r = 0 then cyclesL r else []).getD k [])) tx ax (.tmp 32) := d2 rfl
      have e2 : At (Ty.nat (List.length ((if rowMay r = 0 then cyclesL r else []).getD k []))) tx ax (.tmp 33) := d3 rfl
      have e3 : At (Ty.nat ((List.length ((if rowMay r = 0 then cyclesL r else []).getD k [])) % 2)) tx ax (.tmp 34) := d4 rfl
      have e4 : At (Ty.bool (decide (((((List.length ((if rowMay r = 0 then cyclesL r else []).getD k [])) % 2) : Nat) : Int) = (0 : Int)))) tx ax (.tmp 35) := d5 rfl
      exact run_plain rfl (y_assign e5)
    intro a12 s10 D10
    have ok11 := D10.ok
    have F11 := F10.step0 D10.stp
    have q44 : At (Ty.nat k) s10 a12 (.tmp 18) := D10.kt q38 rfl
    have q45 : At (Ty.lst Ty.ints (if rowMay r = 0 then cyclesL r else [])) s10 a12 (.tmp 16) := D10.kt q40 rfl
    have q46 : At (Ty.nat (List.length (if rowMay r = 0 then cyclesL r else []))) s10 a12 (.tmp 17) := D10.kt q41 rfl
    have q47 : At (Ty.int ((((ordTo (cyclesL r) k) : Nat) : Int) * ((((List.length ((if rowMay r = 0 then cyclesL r else []).getD k [])) / (Nat.gcd ((ordTo (cyclesL r) k)) ((List.length ((if rowMay r = 0 then cyclesL r else []).getD k []))))) : Nat) : Int))) s10 a12 (.tmp 2) := D10.kt q43 rfl
    have q48 : At (Ty.bool ((oddTo (cyclesL r) k) != (decide (((((List.length ((if rowMay r = 0 then cyclesL r else []).getD k [])) % 2) : Nat) : Int) = (0 : Int))))) s10 a12 (.tmp 3) := D10.done 6
    clear D10
    refine bn ?_
    refine tn ?_
    refine reg (a := a12) (σ := s10) rfl (fun i_ => List.getD [(Ty.pr (Ty.int (((k : Nat) : Int) + (1 : Int)))), (Ty.pr (Ty.int (((k : Nat) : Int) + (1 : Int))))] i_ Pr.any) ok11 rfl ⟨?_, ?_, trivial⟩ ?_
    · intro ax tx hs okx sm
      exact run_plain rfl (y_add (kp (sm 18 rfl) hs q44) rfl (w64 (by omega) (by omega)))
    · intro ax tx hs okx sm d0
      have e0 : At (Ty.int (((k : Nat) : Int) + (1 : Int))) tx ax (.tmp 37) := d0 rfl
      exact run_plain rfl (y_move e0)
    intro a13 s11 D11
    have ok12 := D11.ok
    have F12 := F11.step0 D11.stp
    have q49 : At (Ty.lst Ty.ints (if rowMay r = 0 then cyclesL r else [])) s11 a13 (.tmp 16) := D11.kt q45 rfl
    have q50 : At (Ty.nat (List.length (if rowMay r = 0 then cyclesL r else []))) s11 a13 (.tmp 17) := D11.kt q46 rfl
    have q51 : At (Ty.int ((((ordTo (cyclesL r) k) : Nat) : Int) * ((((List.length ((if rowMay r = 0 then cyclesL r else []).getD k [])) / (Nat.gcd ((ordTo (cyclesL r) k)) ((List.length ((if rowMay r = 0 then cyclesL r else []).getD k []))))) : Nat) : Int))) s11 a13 (.tmp 2) := D11.kt q47 rfl
    have q52 : At (Ty.bool ((oddTo (cyclesL r) k) != (decide (((((List.length ((if rowMay r = 0 then cyclesL r else []).getD k [])) % 2) : Nat) : Int) = (0 : Int))))) s11 a13 (.tmp 3) := D11.kt q48 rfl
    have q53 : At (Ty.int (((k : Nat) : Int) + (1 : Int))) s11 a13 (.tmp 18) := D11.done 1
    clear D11
    exact tn ⟨(cyclesL r).length - ((k+1)), by omega, s11, (k+1), rfl, F12, ok12, (cvi (by (first | rfl | omega | (simp_all; done) | (simp_all; omega))) q53), (cvi (by (rw [hf7, Int.natCast_mul])) q51), (cvb (by (rw [oddTo_succ _ k (by omega), ecl])) q52), q49, q50, by omega, rfl⟩
   ·
    refine wp_exit ?_
    refine tx ?_
    refine tx ?_
    refine bx ?_
    refine tn ?_
    refine wp_seq ?_
    refine reg (a := a9) (σ := s7) rfl (fun i_ => List.getD [(Ty.pr (Ty.nat (ordTo (cyclesL r) k))), (Ty.pr (Ty.bool (oddTo (cyclesL r) k))), (Ty.pr (Ty.nat (ordTo (cyclesL r) k))), (Ty.pr (Ty.bool (oddTo (cyclesL r) k))), (Ty.pr (Ty.int (0 : Int)))] i_ Pr.any) ok8 rfl ⟨?_, ?_, ?_, ?_, ?_, trivial⟩ ?_
    · intro ax tx hs okx sm
      exact run_plain rfl (y_move (kp (sm 2 rfl) hs q27))
    · intro ax tx hs okx sm d0
      exact run_plain rfl (y_move (kp (sm 3 rfl) hs q28))
    · intro ax tx hs okx sm d0 d1 d2
      have e0 : At (Ty.nat (ordTo (cyclesL r) k)) tx ax (.tmp 38) := d0 rfl
      exact run_plain rfl (y_assign e0)
    · intro ax tx hs okx sm d0 d1 d2 d3 d4
      have e1 : At (Ty.bool (oddTo (cyclesL r) k)) tx ax (.tmp 39) := d0 rfl
      have e2 : At (Ty.nat (ordTo (cyclesL r) k)) tx ax (.tmp 2) := d1 rfl
      have e0 : At (Ty.nat (ordTo (cyclesL r) k)) tx ax (.tmp 38) := d2 rfl
      exact run_plain rfl (y_assign e1)
    · intro ax tx hs okx sm d0 d1 d2 d3 d4
      have e3 : At (Ty.bool (oddTo (cyclesL r) k)) tx ax (.tmp 3) := d0 rfl
      have e0 : At (Ty.nat (ordTo (cyclesL r) k)) tx ax (.tmp 38) := d1 rfl
      have e1 : At (Ty.bool (oddTo (cyclesL r) k)) tx ax (.tmp 39) := d2 rfl
      have e2 : At (Ty.nat (ordTo (cyclesL r) k)) tx ax (.tmp 2) := d3 rfl
      exact run_plain rfl (y_assign rfl)
    intro a14 s12 D12
    have ok13 := D12.ok
    have F13 := F8.step0 D12.stp
    have q54 : At (Ty.nat (ordTo (cyclesL r) k)) s12 a14 (.tmp 2) := D12.done 2
    have q55 : At (Ty.bool (oddTo (cyclesL r) k)) s12 a14 (.tmp 3) := D12.done 3
    have q56 : At (Ty.int (0 : Int)) s12 a14 (.tmp 4) := D12.done 4
    clear D12
    refine tn ?_
    refine wp_ret ?_
    exact ret3 rfl ok13 F13 (cvi (by (rw [if_pos h0]; obtain rfl : k = (cyclesL r).length := (by omega); rfl)) q54) (cvb (by (rw [if_pos h0]; obtain rfl : k = (cyclesL r).length := (by omega); rfl)) q55) (cvi (by (exact h0.symm)) q56)


set_option maxRecDepth 100000 in
theorem rRounds_fn (n : Nat) (σ : GW) (v0 : Value) (hv0 : Ty.has (Ty.nat n) σ v0) (hn : n ≤ 1000000) :
    FnC Try.prog 24 #[v0] σ (Ty.lst Ty.int (roundsL n)) := by
 refine fn_intro Try.func24 rfl Try.ntmps24 (Nat.le_of_ble_eq_true rfl) (fun s0 a0 hle F0 ok0 hargs => ?_)
 have p0 : At (Ty.nat n) s0 a0 (.tmp 0) := by have e := hargs 0 _ rfl; show Ty.has _ _ _; rw [e]; exact Ty.up _ hle hv0
 clear hargs
 refine wp_seq ?_
 refine reg (a := a0) (σ := s0) rfl (fun i_ => List.getD [(Ty.pr (Ty.val (Value.slice none 0 0)))] i_ Pr.any) ok0 rfl ⟨?_, trivial⟩ ?_
 · intro ax tx hs okx sm
   exact run_plain rfl (y_assign rfl)
 intro a1 s1 D1
 have ok1 := D1.ok
 have F1 := F0.step0 D1.stp
 have q1 : At (Ty.nat n) s1 a1 (.tmp 0) := D1.kt p0 rfl
 clear D1
 refine tn ?_
 refine wp_seq ?_
 refine reg (a := a1) (σ := s1) rfl (fun i_ => List.getD [(Ty.pr (Ty.val (Value.slice none 0 0)))] i_ Pr.any) ok1 rfl ⟨?_, trivial⟩ ?_
 · intro ax tx hs okx sm
   exact run_plain rfl (y_assign rfl)
 intro a2 s2 D2
 have ok2 := D2.ok
 have F2 := F1.step0 D2.stp
 have q2 : At (Ty.nat n) s2 a2 (.tmp 0) := D2.kt q1 rfl
 have q3 : At (Ty.val (Value.slice none 0 0)) s2 a2 (.tmp 3) := D2.done 0
 clear D2
 refine tn ?_
 refine wp_seq ?_
 refine wp_seq ?_
 refine reg (a := a2) (σ := s2) rfl (fun i_ => List.getD [(Ty.pr (Ty.int (0 : Int)))] i_ Pr.any) ok2 rfl ⟨?_, trivial⟩ ?_
 · intro ax tx hs okx sm
   exact run_plain rfl (y_assign rfl)
 intro a3 s3 D3
 have ok3 := D3.ok
 have F3 := F2.step0 D3.stp
 have q4 : At (Ty.nat n) s3 a3 (.tmp 0) := D3.kt q2 rfl
 have q5 : At (Ty.val (Value.slice none 0 0)) s3 a3 (.tmp 3) := D3.kt q3 rfl
 have q6 : At (Ty.int (0 : Int)) s3 a3 (.tmp 4) := D3.done 0
 clear D3
 refine tn ?_
 refine wp_block ?_
 refine loop (fun n1 a4 w1 => ∃ (t1 : GW) (k : Nat), t1.w = w1 ∧ From s0 t1 ∧ Ok 15 a4 ∧ (Pr.own 2 3 1 (List.length (roundsL k)) (List.map Ty.int (roundsL k))).has t1 (a4.eval (.tmp 3)) ∧ At (Ty.nat k) t1 a4 (.tmp 4) ∧ At (Ty.nat n) t1 a4 (.tmp 0) ∧ (k ≤ n) ∧ n1 = n - k) (n - (0)) ?_ ?_
 ·
  exact ⟨s3, 0, rfl, F3, ok3, (by have e : a3.eval (.tmp 3) = _ := q5; rw [e]; exact Own.nil _ _ _ _), (cvi (by (first | rfl | omega | (simp_all; done) | (simp_all; omega))) q6), q4, by omega, rfl⟩
 ·
  rintro n2 a5 w2 ⟨t2, k, rfl, F4, ok4, q7, q8, q9, hk, rfl⟩
  have hp := roundsL_len k
  refine wp_seq ?_
  refine wp_seq ?_
  refine reg (a := a5) (σ := t2) rfl (fun i_ => List.getD [(Ty.pr (Ty.nat k)), (Ty.pr (Ty.nat n)), (Ty.pr (Ty.bool (decide (((k : Nat) : Int) < ((n : Nat) : Int)))))] i_ Pr.any) ok4 rfl ⟨?_, ?_, ?_, trivial⟩ ?_
  · intro ax tx hs okx sm
    exact run_plain rfl (y_move (kp (sm 4 rfl) hs q8))
  · intro ax tx hs okx sm
    exact run_plain rfl (y_move (kp (sm 0 rfl) hs q9))
  · intro ax tx hs okx sm d0 d1
    have e0 : At (Ty.nat k) tx ax (.tmp 5) := d0 rfl
    have e1 : At (Ty.nat n) tx ax (.tmp 6) := d1 rfl
    exact run_plain rfl (y_lss e0 e1)
  intro a6 s4 D4
  have ok5 := D4.ok
  have F5 := F4.step0 D4.stp
  have q10 : (Pr.own 2 3 1 (List.length (roundsL k)) (List.map Ty.int (roundsL k))).has s4 (a6.eval (.tmp 3)) := D4.ko q7 rfl
  have q11 : At (Ty.nat k) s4 a6 (.tmp 4) := D4.kt q8 rfl
  have q12 : At (Ty.nat n) s4 a6 (.tmp 0) := D4.kt q9 rfl
  have q13 : At (Ty.bool (decide (((k : Nat) : Int) < ((n : Nat) : Int)))) s4 a6 (.tmp 7) := D4.done 2
  clear D4
  refine tn ?_
  refine cond_p (p := (((k : Nat) : Int) < ((n : Nat) : Int))) q13 (fun c1 => ?_) (fun c1 => ?_)
  ·
   refine wp_skip ?_
   refine tn ?_
   refine wp_seq ?_
   refine wp_block ?_
   refine reg2 (a := a6) (σ := s4) rfl 3 (fun i_ => List.getD [(Ty.pr (Ty.val (a6.eval (.tmp 3)))), (Ty.pr (Ty.nat k)), (Ty.pr (Ty.sl 1 1 [(Ty.nat k)]))] i_ Pr.any) ok5 rfl (by decide) rfl ⟨?_, ?_, ?_, trivial⟩ ?_
   · intro ax tx hs okx sm
     exact run_plain rfl (y_move (sm 3 rfl))
   · intro ax tx hs okx sm
     exact run_plain rfl (y_move (kp (sm 4 rfl) hs q11))
   · intro ax tx hs okx sm d0
     have e1 : At (Ty.nat k) tx ax (.tmp 11) := d0 rfl
     exact run_plain rfl (y_build1o Try.underlying34 Try.inf3 rfl (one_val rfl) e1)
   intro a7 s5 D5
   have ok6 := D5.ok
   have F6 := F5.step0 D5.stp
   have q14 := (Pr.own 2 3 1 (List.length (roundsL k)) (List.map Ty.int (roundsL k))).up D5.stp q10
   have q15 : a7.eval (.tmp 3) = a6.eval (.tmp 3) := D5.same 3 rfl
   have q16 : At (Ty.nat k) s5 a7 (.tmp 4) := D5.kt q11 rfl
   have q17 : At (Ty.nat n) s5 a7 (.tmp 0) := D5.kt q12 rfl
   have q18 : At (Ty.val (a6.eval (.tmp 3))) s5 a7 (.tmp 10) := D5.done 0 (by decide)
   have q19 : At (Ty.sl 1 1 [(Ty.nat k)]) s5 a7 (.tmp 12) := D5.done 2 (by decide)
   clear D5
   refine tail_step (m := 2) (R := (fun v τ => Own τ 2 3 1 v ((List.length (roundsL k)) + 1) ((List.map Ty.int (roundsL k)) ++ [(Ty.nat k)]))) rfl rfl (by decide) ok6 (m_append Try.underlying34 Try.inf3 (by decide) rfl (by decide) (al q18 q14) q19 (by intro U hU; simp at hU;  subst hU; exact one_val rfl) (by omega) (by omega)) (fun a8 s6 hs1 ok7 r1 sm1 => ?_)
   have F7 := F6.step hs1 (by decide)
   have q20 : At (Ty.nat k) s6 a8 (.tmp 4) := kpm hs1 (by decide) (sm1 4 (by decide)) q16
   have q21 : At (Ty.nat n) s6 a8 (.tmp 0) := kpm hs1 (by decide) (sm1 0 (by decide)) q17
   have q22 : At (Ty.sl 1 1 [(Ty.nat k)]) s6 a8 (.tmp 12) := kpm hs1 (by decide) (sm1 12 (by decide)) q19
   have q23 : (Pr.own 2 3 1 (List.length ((roundsL k) ++ [((k : Nat) : Int)])) (List.map Ty.int ((roundsL k) ++ [((k : Nat) : Int)]))).has s6 (a8.eval (.tmp 13)) := (cvo (by simp) (by first | (rw [List.map_append]; rfl) | simp) r1)
   refine tail_step (m := 0) (R := (fun v τ => Pr.has (Pr.own 2 3 1 (List.length ((roundsL k) ++ [((k : Nat) : Int)])) (List.map Ty.int ((roundsL k) ++ [((k : Nat) : Int)]))) τ v)) rfl rfl (by decide) ok7 (Yld.toM (y_assign q23)) (fun a9 s7 hs2 ok8 r2 sm2 => ?_)
   have F8 := F7.step hs2 (by decide)
   have q24 : At (Ty.nat k) s7 a9 (.tmp 4) := kpm hs2 (by decide) (sm2 4 (by decide)) q20
   have q25 : At (Ty.nat n) s7 a9 (.tmp 0) := kpm hs2 (by decide) (sm2 0 (by decide)) q21
   have q26 : At (Ty.sl 1 1 [(Ty.nat k)]) s7 a9 (.tmp 12) := kpm hs2 (by decide) (sm2 12 (by decide)) q22
   have q27 : (Pr.own 2 3 1 (List.length ((roundsL k) ++ [((k : Nat) : Int)])) (List.map Ty.int ((roundsL k) ++ [((k : Nat) : Int)]))).has s7 (a9.eval (.tmp 13)) := kpmo hs2 (by decide) (.inl rfl) (sm2 13 (by decide)) q23
   have q28 : (Pr.own 2 3 1 (List.length ((roundsL k) ++ [((k : Nat) : Int)])) (List.map Ty.int ((roundsL k) ++ [((k : Nat) : Int)]))).has s7 (a9.eval (.tmp 3)) := r2
   refine wpList_nil ?_
   refine bn ?_
   refine tn ?_
   refine reg (a := a9) (σ := s7) rfl (fun i_ => List.getD [(Ty.pr (Ty.nat k)), (Ty.pr (Ty.int (((k : Nat) : Int) + (1 : Int)))), (Ty.pr (Ty.int (((k : Nat) : Int) + (1 : Int))))] i_ Pr.any) ok8 rfl ⟨?_, ?_, ?_, trivial⟩ ?_
   · intro ax tx hs okx sm
     exact run_plain rfl (y_move (kp (sm 4 rfl) hs q24))
   · intro ax tx hs okx sm d0
     have e0 : At (Ty.nat k) tx ax (.tmp 8) := d0 rfl
     exact run_plain rfl (y_add e0 rfl (w64 (by omega) (by omega)))
   · intro ax tx hs okx sm d0 d1 d2
     have e1 : At (Ty.int (((k : Nat) : Int) + (1 : Int))) tx ax (.tmp 9) := d0 rfl
     have e0 : At (Ty.nat k) tx ax (.tmp 8) := d1 rfl
     exact run_plain rfl (y_assign e1)
   intro a10 s8 D6
   have ok9 := D6.ok
   have F9 := F8.step0 D6.stp
   have q29 : At (Ty.nat n) s8 a10 (.tmp 0) := D6.kt q25 rfl
   have q30 : (Pr.own 2 3 1 (List.length ((roundsL k) ++ [((k : Nat) : Int)])) (List.map Ty.int ((roundsL k) ++ [((k : Nat) : Int)]))).has s8 (a10.eval (.tmp 3)) := D6.ko q28 rfl
   have q31 : At (Ty.int (((k : Nat) : Int) + (1 : Int))) s8 a10 (.tmp 4) := D6.done 2
   clear D6
   exact tn ⟨n - ((k+1)), by omega, s8, (k+1), rfl, F9, ok9, (cvo (by (rw [roundsL_succ k])) (by (rw [roundsL_succ k])) q30), (cvi (by (first | rfl | omega | (simp_all; done) | (simp_all; omega))) q31), q29, by omega, rfl⟩
  ·
   refine wp_exit ?_
   refine tx ?_
   refine tx ?_
   refine bx ?_
   refine tn ?_
   refine wp_seq ?_
   refine reg (a := a6) (σ := s4) rfl (fun i_ => List.getD [(Ty.pr (Ty.val (a6.eval (.tmp 3)))), (Ty.pr (Ty.val (a6.eval (.tmp 3))))] i_ Pr.any) ok5 rfl ⟨?_, ?_, trivial⟩ ?_
   · intro ax tx hs okx sm
     exact run_plain rfl (y_move (sm 3 rfl))
   · intro ax tx hs okx sm d0 d1
     have e0 : At (Ty.val (a6.eval (.tmp 3))) tx ax (.tmp 14) := d0 rfl
     exact run_plain rfl (y_assign e0)
   intro a11 s9 D7
   have ok10 := D7.ok
   have F10 := F5.step0 D7.stp
   have q32 : (Pr.own 2 3 1 (List.length (roundsL k)) (List.map Ty.int (roundsL k))).has s9 (a11.eval (.tmp 2)) := al (show _ = _ from D7.done 1) ((Pr.own 2 3 1 (List.length (roundsL k)) (List.map Ty.int (roundsL k))).up D7.stp q10)
   clear D7
   refine tn ?_
   refine wp_ret ?_
   obtain ⟨t3, e1, h1, q33⟩ := Own.seal q32 (by decide)
   rw [← e1]
   have F11 := F10.step h1 (by decide)
   exact ret1 rfl ok10 F11 (cvt (by (obtain rfl : k = n := (by omega); rfl)) q33)


end Go.Proofs.Ytlhnpkaohfoicaa
