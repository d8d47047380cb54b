/- The functions that the law CallMade reaches, each by its contract. Part 2. -/
import Derived.Test.YtbilebfnanlgfaaDoorCallMadeW1
namespace Go.Proofs.YtbilebfnanlgfaaDoor
open Go.KL

set_option maxRecDepth 100000 in
theorem mName_fn (s : ByteArray) (σ : GW) (v0 : Value) (hv0 : Ty.has (Ty.val (Value.string s)) σ v0) (E : s.size ≤ 1099511627776) :
    FnC Tryd.prog 44 #[v0] σ (Ty.bool (nameL s)) := by
 refine fn_intro Tryd.func44 rfl Tryd.ntmps44 (Nat.le_of_ble_eq_true rfl) (fun s0 a0 hle F0 ok0 hargs => ?_)
 have p0 : At (Ty.val (Value.string s)) s0 a0 (.tmp 0) := by have e := hargs 0 _ rfl; show Ty.has _ _ _; rw [e]; exact Ty.up _ hle hv0
 clear hargs; refine wp_seq ?_
 refine rg a0 s0 [(Ty.bool false)] ok0 ⟨?_, trivial⟩ ?_
 · intro A B E G H; exact rP (y_assign rfl)
 intro a1 s1 D1; have ok1 := D1.ok; have F1 := F0.step0 D1.stp; have q1 := D1.kt p0 rfl; clear D1; refine tn ?_; refine wp_seq ?_
 refine rg a1 s1 [(Ty.int (0 : Int))] ok1 ⟨?_, trivial⟩ ?_
 · intro A B E G H; exact rP (y_assign rfl)
 intro a2 s2 D2; have ok2 := D2.ok; have F2 := F1.step0 D2.stp; have q2 := D2.kt q1 rfl; have q3 := D2.dn 0 rfl rfl; clear D2; refine tn ?_; refine wp_seq ?_; refine wp_seq ?_
 refine reg (a := a2) (σ := s2) rfl (fun i_ => List.getD [(Ty.pr (Ty.val (Value.string s))), (Pr.iter 7 s 0)] i_ Pr.any) ok2 rfl ⟨?_, ?_, trivial⟩ ?_
 · intro A B E G H; exact rP (y_move (kp (H 0 rfl) E q2))
 · intro A B E G H d0; exact rP (y_range 7 Tryd.underlying9 (ed d0 rfl rfl rfl))
 intro a3 s3 D3; have ok3 := D3.ok; have F3 := F2.step0 D3.stp; have q4 := D3.kt q2 rfl; have q5 := D3.kt q3 rfl
 have q6 : (Pr.iter 7 s 0).has s3 (a3.eval (.tmp 7)) := D3.done 1
 clear D3; refine tn ?_; refine wp_block ?_
 refine loop (fun n1 a4 w1 => ∃ (t1 : GW) (xs : List Nat) (p : Nat) (f : Nat), t1.w = w1 ∧ From s0 t1 ∧ Ok 35 a4 ∧ (Pr.iter 7 s p).has t1 (a4.eval (.tmp 7)) ∧ At (Ty.nat xs.length) t1 a4 (.tmp 3) ∧ At (Ty.val (Value.string s)) t1 a4 (.tmp 0) ∧ (∀ c ∈ xs, letterB ((c : Nat) : Int) = true) ∧ (xs ++ runesF s f p = runesL s) ∧ (s.size ≤ f + p) ∧ (p ≤ s.size + 4) ∧ (xs.length ≤ p) ∧ (xs.length = 0 ∨ 0 < s.size) ∧ n1 = s.size + 8 - p) (s.size + 8 - (0)) ?_ ?_
 ·
  exact ⟨s3, ([] : List Nat), 0, s.size, rfl, F3, ok3, (cvit (by omega) q6), (cvi (by (first | rfl | omega | (simp_all; done) | (simp_all; omega))) q5), q4, fun c hc => by simp at hc, rfl, by omega, by omega, by simp, .inl rfl, rfl⟩
 ·
  rintro n2 a5 w2 ⟨t2, xs, p, f, rfl, F4, ok4, q7, q8, q9, hall, heq, hf, hp, hx, hz, rfl⟩
  have hw := wid_pos s p
  have hw2 := wid_le s p
  refine wp_seq ?_
  refine reg2 (a := a5) (σ := t2) rfl 0 (fun i_ => List.getD [] i_ Pr.any) ok4 rfl (by decide) rfl trivial ?_
  intro a6 s4 D4; have ok5 := D4.ok; have F5 := F4.step0 D4.stp; have q10 := (Pr.iter 7 s p).up D4.stp q7
  have q11 : a6.eval (.tmp 7) = a5.eval (.tmp 7) := D4.same 7 rfl
  have q12 := D4.kt q8 rfl; have q13 := D4.kt q9 rfl; clear D4
  refine tail_step (m := 7) (R := (fun v τ => (Ty.nxt (decide (p < s.size)) p (run1 s p)).has τ v ∧ Iter τ 7 (a5.eval (.tmp 7)) s (stepTo s p))) rfl rfl (by decide) ok5 (m_next (by decide) q10 q11) (fun a7 s5 hs1 ok6 r1 sm1 => ?_)
  have F6 := F5.step hs1 (by decide)
  have q14 : (Pr.iter 7 s (stepTo s p)).has s5 (a5.eval (.tmp 7)) := (r1).2
  have q15 := (sm1 7 (by decide)).trans q11
  have q16 : At (Ty.nat xs.length) s5 a7 (.tmp 3) := kpm hs1 (by decide) (sm1 3 (by decide)) q12
  have q17 : At (Ty.val (Value.string s)) s5 a7 (.tmp 0) := kpm hs1 (by decide) (sm1 0 (by decide)) q13
  have q18 : At (Ty.nxt (decide (p < s.size)) p (run1 s p)) s5 a7 (.tmp 8) := (r1).1
  refine tail_step (m := 0) (R := (fun v τ => Pr.has (Ty.pr (Ty.bool (decide (p < s.size)))) τ v)) rfl rfl (by decide) ok6 (Yld.toM (y_ext_n0 q18)) (fun a8 s6 hs2 ok7 r2 sm2 => ?_)
  have F7 := F6.step hs2 (by decide); have q19 := Iter.keep q14 hs2 (by decide) (.inl rfl); have q20 := (sm2 7 (by decide)).trans q15
  have q21 : At (Ty.nat xs.length) s6 a8 (.tmp 3) := kpm hs2 (by decide) (sm2 3 (by decide)) q16
  have q22 : At (Ty.val (Value.string s)) s6 a8 (.tmp 0) := kpm hs2 (by decide) (sm2 0 (by decide)) q17
  have q23 : At (Ty.nxt (decide (p < s.size)) p (run1 s p)) s6 a8 (.tmp 8) := kpm hs2 (by decide) (sm2 8 (by decide)) q18
  have q24 : At (Ty.bool (decide (p < s.size))) s6 a8 (.tmp 9) := r2
  refine wpList_nil ?_
  have q25 : (Pr.iter 7 s (stepTo s p)).has s6 (a8.eval (.tmp 7)) := al q20 q19
  refine tn ?_; refine wp_seq ?_
  refine cond_p (p := (p < s.size)) q24 (fun c1 => ?_) (fun c1 => ?_)
  ·
   refine wp_skip ?_; refine tn ?_; refine wp_block ?_; refine wp_seq ?_
   refine rg a8 s6 [(Ty.val (Value.int .i32 ((run1 s p : Nat) : Int))), (Ty.val (Value.int .i32 ((run1 s p : Nat) : Int)))] ok7 ⟨?_, ?_, trivial⟩ ?_
   · intro A B E G H; exact rP (y_ext_n2 (kp (H 8 rfl) E q23) (decide_eq_true (by omega)))
   · intro A B E G H d0 d1; exact rP (y_assign (ed d0 rfl rfl rfl))
   intro a9 s7 D5; have ok8 := D5.ok; have F8 := F7.step0 D5.stp
   have q26 : (Pr.iter 7 s (stepTo s p)).has s7 (a9.eval (.tmp 7)) := D5.ko q25 rfl
   have q27 := D5.kt q21 rfl; have q28 := D5.kt q22 rfl; have q29 := D5.dn 1 rfl rfl; clear D5; refine tn ?_; refine wp_seq ?_; refine wp_seq ?_
   refine rg a9 s7 [(Ty.val (Value.int .i32 ((run1 s p : Nat) : Int))), (Ty.bool (letterB (((run1 s p : Nat) : Int)))), (Ty.bool (!(letterB (((run1 s p : Nat) : Int)))))] ok8 ⟨?_, ?_, ?_, trivial⟩ ?_
   · intro A B E G H; exact rP (y_move (kp (H 5 rfl) E q29))
   · intro A B E G H d0; exact rP (y_call #[A.eval (.tmp 11)] Tryd.func59 rfl rfl (by simp only [List.map_toArray, List.map_cons, List.map_nil]) (letter_fn (((run1 s p : Nat) : Int)) _ _ (ed d0 rfl rfl rfl) ))
   · intro A B E G H d0; exact rP (y_not (ed d0 rfl rfl rfl))
   intro a10 s8 D6; have ok9 := D6.ok; have F9 := F8.step0 D6.stp
   have q30 : (Pr.iter 7 s (stepTo s p)).has s8 (a10.eval (.tmp 7)) := D6.ko q26 rfl
   have q31 := D6.kt q27 rfl; have q32 := D6.kt q28 rfl; have q33 := D6.dn 2 rfl rfl; clear D6; refine tn ?_
   refine cond_t q33 (fun c2 => ?_) (fun c2 => ?_)
   ·
    have hlet : letterB (run1 s p : Nat) = false := (by simpa using c2)
    refine wp_seq ?_
    refine rg a10 s8 [(Ty.bool false)] ok9 ⟨?_, trivial⟩ ?_
    · intro A B E G H; exact rP (y_assign rfl)
    intro a11 s9 D7; have ok10 := D7.ok; have F10 := F9.step0 D7.stp; have q34 := D7.dn 0 rfl rfl; clear D7; refine tn ?_; refine wp_ret ?_; refine tr ?_; refine br ?_; refine tr ?_; refine br ?_; refine tr ?_
    exact ret1 rfl ok10 F10 (cvb (by (exact (nameL_no heq (by omega) (by omega) hlet).symm)) q34)
   ·
    have hlet : letterB (run1 s p : Nat) = true := (by simpa using c2)
    refine wp_skip ?_; refine tn ?_
    refine rg a10 s8 [(Ty.nat xs.length), (Ty.int (((xs.length : Nat) : Int) + (1 : Int))), (Ty.int (((xs.length : Nat) : Int) + (1 : Int)))] ok9 ⟨?_, ?_, ?_, trivial⟩ ?_
    · intro A B E G H; exact rP (y_move (kp (H 3 rfl) E q31))
    · intro A B E G H d0; exact rP (y_add (ed d0 rfl rfl rfl) rfl (w64 (by omega) (by omega)))
    · intro A B E G H d0 d1 d2; exact rP (y_assign (ed d0 rfl rfl rfl))
    intro a12 s10 D8; have ok11 := D8.ok; have F11 := F9.step0 D8.stp
    have q35 : (Pr.iter 7 s (stepTo s p)).has s10 (a12.eval (.tmp 7)) := D8.ko q30 rfl
    have q36 := D8.kt q32 rfl; have q37 := D8.dn 2 rfl rfl; clear D8; refine bn ?_
    exact tn ⟨s.size + 8 - ((p + wid s p)), by omega, s10, (xs ++ [run1 s p]), (p + wid s p), (f - 1), rfl, F11, ok11, (cvit (by unfold stepTo; rw [if_pos (by omega)]) q35), (cvi (by (simp)) q37), q36, fun c hc => by (rcases List.mem_append.1 hc with h | h; exact hall c h; simp at h; subst h; exact hlet), runesF_step heq (by omega) (by omega), by omega, by omega, by simp; omega, .inr (by omega), rfl⟩
  ·
   refine wp_exit ?_; refine tx ?_; refine tx ?_; refine bx ?_; refine tn ?_; refine wp_seq ?_
   refine rg a8 s6 [(Ty.nat xs.length), (Ty.bool (decide ((1 : Int) ≤ ((xs.length : Nat) : Int)))), (Ty.bool (decide ((1 : Int) ≤ ((xs.length : Nat) : Int)))), (Ty.grd ((decide ((1 : Int) ≤ ((xs.length : Nat) : Int))) = true) (Ty.nat xs.length)), (Ty.grd ((decide ((1 : Int) ≤ ((xs.length : Nat) : Int))) = true) (Ty.bool (decide (((xs.length : Nat) : Int) ≤ (20 : Int))))), (Ty.bool ((decide ((1 : Int) ≤ ((xs.length : Nat) : Int))) && (decide (((xs.length : Nat) : Int) ≤ (20 : Int))))), (Ty.bool ((decide ((1 : Int) ≤ ((xs.length : Nat) : Int))) && (decide (((xs.length : Nat) : Int) ≤ (20 : Int))))), (Ty.grd (((decide ((1 : Int) ≤ ((xs.length : Nat) : Int))) && (decide (((xs.length : Nat) : Int) ≤ (20 : Int)))) = true) (Ty.val (Value.string s))), (Ty.grd (((decide ((1 : Int) ≤ ((xs.length : Nat) : Int))) && (decide (((xs.length : Nat) : Int) ≤ (20 : Int)))) = true) (Ty.val (Value.int .u8 (((s.get! ((0 : Int)).toNat).toNat : Nat) : Int)))), (Ty.grd (((decide ((1 : Int) ≤ ((xs.length : Nat) : Int))) && (decide (((xs.length : Nat) : Int) ≤ (20 : Int)))) = true) (Ty.bool (decide ((((s.get! ((0 : Int)).toNat).toNat : Nat) : Int) ≠ (32 : Int))))), (Ty.bool (((decide ((1 : Int) ≤ ((xs.length : Nat) : Int))) && (decide (((xs.length : Nat) : Int) ≤ (20 : Int)))) && (decide ((((s.get! ((0 : Int)).toNat).toNat : Nat) : Int) ≠ (32 : Int))))), (Ty.bool (((decide ((1 : Int) ≤ ((xs.length : Nat) : Int))) && (decide (((xs.length : Nat) : Int) ≤ (20 : Int)))) && (decide ((((s.get! ((0 : Int)).toNat).toNat : Nat) : Int) ≠ (32 : Int))))), (Ty.grd ((((decide ((1 : Int) ≤ ((xs.length : Nat) : Int))) && (decide (((xs.length : Nat) : Int) ≤ (20 : Int)))) && (decide ((((s.get! ((0 : Int)).toNat).toNat : Nat) : Int) ≠ (32 : Int)))) = true) (Ty.val (Value.string s))), (Ty.grd ((((decide ((1 : Int) ≤ ((xs.length : Nat) : Int))) && (decide (((xs.length : Nat) : Int) ≤ (20 : Int)))) && (decide ((((s.get! ((0 : Int)).toNat).toNat : Nat) : Int) ≠ (32 : Int)))) = true) (Ty.val (Value.string s))), (Ty.grd ((((decide ((1 : Int) ≤ ((xs.length : Nat) : Int))) && (decide (((xs.length : Nat) : Int) ≤ (20 : Int)))) && (decide ((((s.get! ((0 : Int)).toNat).toNat : Nat) : Int) ≠ (32 : Int)))) = true) (Ty.nat (ByteArray.size s))), (Ty.grd ((((decide ((1 : Int) ≤ ((xs.length : Nat) : Int))) && (decide (((xs.length : Nat) : Int) ≤ (20 : Int)))) && (decide ((((s.get! ((0 : Int)).toNat).toNat : Nat) : Int) ≠ (32 : Int)))) = true) (Ty.int ((((ByteArray.size s) : Nat) : Int) - (1 : Int)))), (Ty.grd ((((decide ((1 : Int) ≤ ((xs.length : Nat) : Int))) && (decide (((xs.length : Nat) : Int) ≤ (20 : Int)))) && (decide ((((s.get! ((0 : Int)).toNat).toNat : Nat) : Int) ≠ (32 : Int)))) = true) (Ty.val (Value.int .u8 (((s.get! (((((ByteArray.size s) : Nat) : Int) - (1 : Int))).toNat).toNat : Nat) : Int)))), (Ty.grd ((((decide ((1 : Int) ≤ ((xs.length : Nat) : Int))) && (decide (((xs.length : Nat) : Int) ≤ (20 : Int)))) && (decide ((((s.get! ((0 : Int)).toNat).toNat : Nat) : Int) ≠ (32 : Int)))) = true) (Ty.bool (decide ((((s.get! (((((ByteArray.size s) : Nat) : Int) - (1 : Int))).toNat).toNat : Nat) : Int) ≠ (32 : Int))))), (Ty.bool ((((decide ((1 : Int) ≤ ((xs.length : Nat) : Int))) && (decide (((xs.length : Nat) : Int) ≤ (20 : Int)))) && (decide ((((s.get! ((0 : Int)).toNat).toNat : Nat) : Int) ≠ (32 : Int)))) && (decide ((((s.get! (((((ByteArray.size s) : Nat) : Int) - (1 : Int))).toNat).toNat : Nat) : Int) ≠ (32 : Int))))), (Ty.bool ((((decide ((1 : Int) ≤ ((xs.length : Nat) : Int))) && (decide (((xs.length : Nat) : Int) ≤ (20 : Int)))) && (decide ((((s.get! ((0 : Int)).toNat).toNat : Nat) : Int) ≠ (32 : Int)))) && (decide ((((s.get! (((((ByteArray.size s) : Nat) : Int) - (1 : Int))).toNat).toNat : Nat) : Int) ≠ (32 : Int)))))] ok7 ⟨?_, ?_, ?_, ?_, ?_, ?_, ?_, ?_, ?_, ?_, ?_, ?_, ?_, ?_, ?_, ?_, ?_, ?_, ?_, ?_, trivial⟩ ?_
   · intro A B E G H; exact rP (y_move (kp (H 3 rfl) E q21))
   · intro A B E G H d0; exact rP (y_geq (ed d0 rfl rfl rfl) rfl)
   · intro A B E G H d0; exact rP (y_move (ed d0 rfl rfl rfl))
   · intro A B E G H d0
     refine run_guard G rfl rfl (by decide) (ed d0 rfl rfl rfl) (fun hg => ?_)
     have hp := of_decide_eq_true hg
     exact y_move (kp (H 3 rfl) E q21)
   · intro A B E G H d0 d1
     refine run_guard G rfl rfl (by decide) (ed d1 rfl rfl rfl) (fun hg => ?_)
     have hp := of_decide_eq_true hg
     exact y_leq ((ed d0 rfl rfl rfl).1 hg) rfl
   · intro A B E G H d0 d1; exact rP (y_pick_and (ed d0 rfl rfl rfl) (ed d1 rfl rfl rfl) rfl)
   · intro A B E G H d0 d1; exact rP (y_move (ed d0 rfl rfl rfl))
   · intro A B E G H d0
     refine run_guard G rfl rfl (by decide) (ed d0 rfl rfl rfl) (fun hg => ?_)
     obtain ⟨d1, d2⟩ := Bool.and_eq_true_iff.mp hg
     have d1 := of_decide_eq_true d1
     have d2 := of_decide_eq_true d2
     exact y_move (kp (H 0 rfl) E q22)
   · intro A B E G H d0 d1
     refine run_guard G rfl rfl (by decide) (ed d1 rfl rfl rfl) (fun hg => ?_)
     obtain ⟨d3, d4⟩ := Bool.and_eq_true_iff.mp hg
     have d3 := of_decide_eq_true d3
     have d4 := of_decide_eq_true d4
     exact y_sindex Tryd.underlying9 ((ed d0 rfl rfl rfl).1 hg) rfl (by omega) (by omega)
   · intro A B E G H d0 d1
     refine run_guard G rfl rfl (by decide) (ed d1 rfl rfl rfl) (fun hg => ?_)
     obtain ⟨d5, d6⟩ := Bool.and_eq_true_iff.mp hg
     have d5 := of_decide_eq_true d5
     have d6 := of_decide_eq_true d6
     exact y_neq ((ed d0 rfl rfl rfl).1 hg) rfl
   · intro A B E G H d0 d1; exact rP (y_pick_and (ed d0 rfl rfl rfl) (ed d1 rfl rfl rfl) rfl)
   · intro A B E G H d0 d1; exact rP (y_move (ed d0 rfl rfl rfl))
   · intro A B E G H d0
     refine run_guard G rfl rfl (by decide) (ed d0 rfl rfl rfl) (fun hg => ?_)
     obtain ⟨d7, d8⟩ := Bool.and_eq_true_iff.mp hg
     obtain ⟨d9, d10⟩ := Bool.and_eq_true_iff.mp d7
     have d9 := of_decide_eq_true d9
     have d10 := of_decide_eq_true d10
     have d8 := of_decide_eq_true d8
     exact y_move (kp (H 0 rfl) E q22)
   · intro A B E G H d0
     refine run_guard G rfl rfl (by decide) (ed d0 rfl rfl rfl) (fun hg => ?_)
     obtain ⟨d11, d12⟩ := Bool.and_eq_true_iff.mp hg
     obtain ⟨d13, d14⟩ := Bool.and_eq_true_iff.mp d11
     have d13 := of_decide_eq_true d13
     have d14 := of_decide_eq_true d14
     have d12 := of_decide_eq_true d12
     exact y_move (kp (H 0 rfl) E q22)
   · intro A B E G H d0 d1
     refine run_guard G rfl rfl (by decide) (ed d1 rfl rfl rfl) (fun hg => ?_)
     obtain ⟨d15, d16⟩ := Bool.and_eq_true_iff.mp hg
     obtain ⟨d17, d18⟩ := Bool.and_eq_true_iff.mp d15
     have d17 := of_decide_eq_true d17
     have d18 := of_decide_eq_true d18
     have d16 := of_decide_eq_true d16
     exact y_len_str Tryd.underlying9 ((ed d0 rfl rfl rfl).1 hg)
   · intro A B E G H d0 d1
     refine run_guard G rfl rfl (by decide) (ed d1 rfl rfl rfl) (fun hg => ?_)
     obtain ⟨d19, d20⟩ := Bool.and_eq_true_iff.mp hg
     obtain ⟨d21, d22⟩ := Bool.and_eq_true_iff.mp d19
     have d21 := of_decide_eq_true d21
     have d22 := of_decide_eq_true d22
     have d20 := of_decide_eq_true d20
     exact y_sub ((ed d0 rfl rfl rfl).1 hg) rfl (w64 (by omega) (by omega))
   · intro A B E G H d0 d1 d2
     refine run_guard G rfl rfl (by decide) (ed d2 rfl rfl rfl) (fun hg => ?_)
     obtain ⟨d23, d24⟩ := Bool.and_eq_true_iff.mp hg
     obtain ⟨d25, d26⟩ := Bool.and_eq_true_iff.mp d23
     have d25 := of_decide_eq_true d25
     have d26 := of_decide_eq_true d26
     have d24 := of_decide_eq_true d24
     exact y_sindex Tryd.underlying9 ((ed d0 rfl rfl rfl).1 hg) ((ed d1 rfl rfl rfl).1 hg) (by omega) (by omega)
   · intro A B E G H d0 d1
     refine run_guard G rfl rfl (by decide) (ed d1 rfl rfl rfl) (fun hg => ?_)
     obtain ⟨d27, d28⟩ := Bool.and_eq_true_iff.mp hg
     obtain ⟨d29, d30⟩ := Bool.and_eq_true_iff.mp d27
     have d29 := of_decide_eq_true d29
     have d30 := of_decide_eq_true d30
     have d28 := of_decide_eq_true d28
     exact y_neq ((ed d0 rfl rfl rfl).1 hg) rfl
   · intro A B E G H d0 d1; exact rP (y_pick_and (ed d0 rfl rfl rfl) (ed d1 rfl rfl rfl) rfl)
   · intro A B E G H d0 d1 d2 d3 d4 d5 d6 d7 d8 d9 d10 d11 d12 d13 d14 d15 d16 d17 d18 d19 d20; exact rP (y_assign (ed d0 rfl rfl rfl))
   intro a13 s11 D9; have ok12 := D9.ok; have F12 := F7.step0 D9.stp; have q38 := D9.dn 19 rfl rfl; clear D9; refine tn ?_; refine wp_ret ?_
   exact ret1 rfl ok12 F12 (cvb (by (rw [runesF_end (by omega), List.append_nil] at heq; rw [nameL_all (by rw [← heq]; exact hall), heq]; simp)) q38)


set_option maxRecDepth 100000 in
theorem pCheck_fn (n : Int) (l : List Int) (σ : GW) (v0 v1 : Value) (hv0 : Ty.has (Ty.int n) σ v0) (hv1 : Ty.has (Ty.lst Ty.int l) σ v1) (hn : -9223372036854775808 ≤ n ∧ n ≤ 9223372036854775807) :
    FnC Tryd.prog 27 #[v0, v1] σ (Ty.int (chgMay n l)) := by
 refine fn_intro Tryd.func27 rfl Tryd.ntmps27 (Nat.le_of_ble_eq_true rfl) (fun s0 a0 hle F0 ok0 hargs => ?_)
 have p0 : At (Ty.int n) s0 a0 (.tmp 0) := by have e := hargs 0 _ rfl; show Ty.has _ _ _; rw [e]; exact Ty.up _ hle hv0
 have p1 : At (Ty.lst Ty.int l) s0 a0 (.tmp 1) := by have e := hargs 1 _ rfl; show Ty.has _ _ _; rw [e]; exact Ty.up _ hle hv1
 have b1 := sl_le p1
 clear hargs; refine wp_seq ?_
 refine rg a0 s0 [(Ty.int (0 : Int))] ok0 ⟨?_, trivial⟩ ?_
 · intro A B E G H; exact rP (y_assign rfl)
 intro a1 s1 D1; have ok1 := D1.ok; have F1 := F0.step0 D1.stp; have q1 := D1.kt p0 rfl; have q2 := D1.kt p1 rfl; clear D1; refine tn ?_; refine wp_seq ?_; refine wp_seq ?_
 refine rg a1 s1 [(Ty.int n), (Ty.bool (decide (n < (1 : Int)))), (Ty.bool (decide (n < (1 : Int)))), (Ty.grd ((decide (n < (1 : Int))) = false) (Ty.int n)), (Ty.grd ((decide (n < (1 : Int))) = false) (Ty.bool (decide ((12 : Int) < n)))), (Ty.bool ((decide (n < (1 : Int))) || (decide ((12 : Int) < n))))] ok1 ⟨?_, ?_, ?_, ?_, ?_, ?_, trivial⟩ ?_
 · intro A B E G H; exact rP (y_move (kp (H 0 rfl) E q1))
 · intro A B E G H d0; exact rP (y_lss (ed d0 rfl rfl rfl) rfl)
 · intro A B E G H d0; exact rP (y_move (ed d0 rfl rfl rfl))
 · intro A B E G H d0
   refine run_guard G rfl rfl (by decide) (ed d0 rfl rfl rfl) (fun hg => ?_)
   have hp := of_decide_eq_false hg
   exact y_move (kp (H 0 rfl) E q1)
 · intro A B E G H d0 d1
   refine run_guard G rfl rfl (by decide) (ed d1 rfl rfl rfl) (fun hg => ?_)
   have hp := of_decide_eq_false hg
   exact y_gtr ((ed d0 rfl rfl rfl).1 hg) rfl
 · intro A B E G H d0 d1; exact rP (y_pick_or (ed d0 rfl rfl rfl) rfl (ed d1 rfl rfl rfl))
 intro a2 s2 D2; have ok2 := D2.ok; have F2 := F1.step0 D2.stp; have q3 := D2.kt q1 rfl; have q4 := D2.kt q2 rfl; have q5 := D2.dn 5 rfl rfl; clear D2; refine tn ?_
 refine cond_t q5 (fun c1 => ?_) (fun c1 => ?_)
 ·
  simp only [Bool.or_eq_true, decide_eq_true_eq] at c1
  refine wp_seq ?_
  refine rg a2 s2 [(Ty.int (1 : Int))] ok2 ⟨?_, trivial⟩ ?_
  · intro A B E G H; exact rP (y_assign rfl)
  intro a3 s3 D3; have ok3 := D3.ok; have F3 := F2.step0 D3.stp; have q6 := D3.dn 0 rfl rfl; clear D3; refine tn ?_; refine wp_ret ?_; refine tr ?_
  exact ret1 rfl ok3 F3 (cvi (by (exact (chgMay_cnt (by omega)).symm)) q6)
 ·
  obtain ⟨d1, d2⟩ := Bool.or_eq_false_iff.mp c1
  replace d1 := of_decide_eq_false d1
  replace d2 := of_decide_eq_false d2
  refine wp_skip ?_; refine tn ?_; refine wp_seq ?_
  refine rg a2 s2 [(Ty.int (0 : Int))] ok2 ⟨?_, trivial⟩ ?_
  · intro A B E G H; exact rP (y_assign rfl)
  intro a4 s4 D4; have ok4 := D4.ok; have F4 := F2.step0 D4.stp; have q7 := D4.kt q3 rfl; have q8 := D4.kt q4 rfl; have q9 := D4.dn 0 rfl rfl; clear D4; refine tn ?_; refine wp_seq ?_; refine wp_seq ?_
  refine rg a4 s4 [(Ty.lst Ty.int l), (Ty.nat (List.length l)), (Ty.int (0 : Int))] ok4 ⟨?_, ?_, ?_, trivial⟩ ?_
  · intro A B E G H; exact rP (y_move (kp (H 1 rfl) E q8))
  · intro A B E G H d0; exact rP (y_len Tryd.underlying26 (ed d0 rfl rfl rfl))
  · intro A B E G H; exact rP (y_move rfl)
  intro a5 s5 D5; have ok5 := D5.ok; have F5 := F4.step0 D5.stp; have q10 := D5.kt q7 rfl; have q11 := D5.kt q9 rfl; have q12 := D5.dn 0 rfl rfl; have q13 := D5.dn 1 rfl rfl; have q14 := D5.dn 2 rfl rfl; clear D5; refine tn ?_; refine wp_block ?_
  refine loop (fun n1 a6 w1 => ∃ (t1 : GW) (k : Nat) (z : Int), t1.w = w1 ∧ From s0 t1 ∧ Ok 42 a6 ∧ At (Ty.nat k) t1 a6 (.tmp 16) ∧ At (Ty.int z) t1 a6 (.tmp 5) ∧ At (Ty.int n) t1 a6 (.tmp 0) ∧ At (Ty.lst Ty.int l) t1 a6 (.tmp 14) ∧ At (Ty.nat (List.length l)) t1 a6 (.tmp 15) ∧ (k ≤ l.length) ∧ (scanTo n l k = some z) ∧ (0 ≤ z ∧ z ≤ n) ∧ n1 = l.length - k) (l.length - (0)) ?_ ?_
  ·
   exact ⟨s5, 0, 0, rfl, F5, ok5, (cvi (by (first | rfl | omega | (simp_all; done) | (simp_all; omega))) q14), (cvi (by (first | rfl | omega | (simp_all; done) | (simp_all; omega))) q11), q10, q12, q13, by omega, rfl, by omega, rfl⟩
  ·
   rintro n2 a7 w2 ⟨t2, k, z, rfl, F6, ok6, q15, q16, q17, q18, q19, hk, E, hz, rfl⟩
   refine wp_seq ?_
   refine reg (a := a7) (σ := t2) rfl (fun i_ => List.getD [(Ty.pr (Ty.bool (decide (((k : Nat) : Int) < (((List.length l) : Nat) : Int)))))] i_ Pr.any) ok6 rfl ⟨?_, trivial⟩ ?_
   · intro A B E G H; exact rP (y_lss (kp (H 16 rfl) E q15) (kp (H 15 rfl) E q19))
   intro a8 s6 D6; have ok7 := D6.ok; have F7 := F6.step0 D6.stp; have q20 := D6.kt q15 rfl; have q21 := D6.kt q16 rfl; have q22 := D6.kt q17 rfl; have q23 := D6.kt q18 rfl; have q24 := D6.kt q19 rfl; have q25 := D6.dn 0 rfl rfl; clear D6; refine tn ?_; refine wp_seq ?_
   refine cond_p (p := (((k : Nat) : Int) < (((List.length l) : Nat) : Int))) q25 (fun c2 => ?_) (fun c2 => ?_)
   ·
    refine wp_skip ?_; refine tn ?_; refine wp_seq ?_; refine wp_block ?_; refine wp_seq ?_
    refine rg a8 s6 [(Ty.ref [(Ty.int (l.getD k 0))]), (Ty.int (l.getD k 0)), (Ty.int (l.getD k 0))] ok7 ⟨?_, ?_, ?_, trivial⟩ ?_
    · intro A B E G H; exact rP (y_index1 Tryd.underlying26 Tryd.inf3 (kp (H 14 rfl) E q23) (kp (H 16 rfl) E q20) (by omega) (lst_get Ty.int l 0 k (by omega)))
    · intro A B E G H d0; exact rP (y_load Tryd.underlying3 rfl (ed d0 rfl rfl rfl) rfl)
    · intro A B E G H d0 d1 d2; exact rP (y_assign (ed d0 rfl rfl rfl))
    intro a9 s7 D7; have ok8 := D7.ok; have F8 := F7.step0 D7.stp; have q26 := D7.kt q20 rfl; have q27 := D7.kt q21 rfl; have q28 := D7.kt q22 rfl; have q29 := D7.kt q23 rfl; have q30 := D7.kt q24 rfl; have q31 := D7.dn 2 rfl rfl; clear D7; refine tn ?_; refine wp_seq ?_; refine wp_seq ?_
    refine rg a9 s7 [(Ty.int (l.getD k 0)), (Ty.int z), (Ty.bool (decide ((l.getD k 0) ≤ z))), (Ty.bool (decide ((l.getD k 0) ≤ z))), (Ty.grd ((decide ((l.getD k 0) ≤ z)) = false) (Ty.int (l.getD k 0))), (Ty.grd ((decide ((l.getD k 0) ≤ z)) = false) (Ty.int n)), (Ty.grd ((decide ((l.getD k 0) ≤ z)) = false) (Ty.bool (decide (n < (l.getD k 0))))), (Ty.bool ((decide ((l.getD k 0) ≤ z)) || (decide (n < (l.getD k 0))))), (Ty.bool ((decide ((l.getD k 0) ≤ z)) || (decide (n < (l.getD k 0))))), (Ty.grd (((decide ((l.getD k 0) ≤ z)) || (decide (n < (l.getD k 0)))) = false) (Ty.int (l.getD k 0))), (Ty.grd (((decide ((l.getD k 0) ≤ z)) || (decide (n < (l.getD k 0)))) = false) (Ty.int z)), (Ty.grd (((decide ((l.getD k 0) ≤ z)) || (decide (n < (l.getD k 0)))) = false) (Ty.int ((l.getD k 0) - z))), (Ty.grd (((decide ((l.getD k 0) ≤ z)) || (decide (n < (l.getD k 0)))) = false) (Ty.nat ((((l.getD k 0) - z)).toNat % 2))), (Ty.grd (((decide ((l.getD k 0) ≤ z)) || (decide (n < (l.getD k 0)))) = false) (Ty.bool (decide (((((((l.getD k 0) - z)).toNat % 2) : Nat) : Int) = (0 : Int))))), (Ty.bool (((decide ((l.getD k 0) ≤ z)) || (decide (n < (l.getD k 0)))) || (decide (((((((l.getD k 0) - z)).toNat % 2) : Nat) : Int) = (0 : Int)))))] ok8 ⟨?_, ?_, ?_, ?_, ?_, ?_, ?_, ?_, ?_, ?_, ?_, ?_, ?_, ?_, ?_, trivial⟩ ?_
    · intro A B E G H; exact rP (y_move (kp (H 7 rfl) E q31))
    · intro A B E G H; exact rP (y_move (kp (H 5 rfl) E q27))
    · intro A B E G H d0 d1; exact rP (y_leq (ed d0 rfl rfl rfl) (ed d1 rfl rfl rfl))
    · intro A B E G H d0; exact rP (y_move (ed d0 rfl rfl rfl))
    · intro A B E G H d0
      refine run_guard G rfl rfl (by decide) (ed d0 rfl rfl rfl) (fun hg => ?_)
      have hp := of_decide_eq_false hg
      exact y_move (kp (H 7 rfl) E q31)
    · intro A B E G H d0
      refine run_guard G rfl rfl (by decide) (ed d0 rfl rfl rfl) (fun hg => ?_)
      have hp := of_decide_eq_false hg
      exact y_move (kp (H 0 rfl) E q28)
    · intro A B E G H d0 d1 d2
      refine run_guard G rfl rfl (by decide) (ed d2 rfl rfl rfl) (fun hg => ?_)
      have hp := of_decide_eq_false hg
      exact y_gtr ((ed d0 rfl rfl rfl).1 hg) ((ed d1 rfl rfl rfl).1 hg)
    · intro A B E G H d0 d1; exact rP (y_pick_or (ed d0 rfl rfl rfl) rfl (ed d1 rfl rfl rfl))
    · intro A B E G H d0 d1; exact rP (y_move (ed d0 rfl rfl rfl))
    · intro A B E G H d0
      refine run_guard G rfl rfl (by decide) (ed d0 rfl rfl rfl) (fun hg => ?_)
      obtain ⟨d3, d4⟩ := Bool.or_eq_false_iff.mp hg
      have d3 := of_decide_eq_false d3
      have d4 := of_decide_eq_false d4
      exact y_move (kp (H 7 rfl) E q31)
    · intro A B E G H d0
      refine run_guard G rfl rfl (by decide) (ed d0 rfl rfl rfl) (fun hg => ?_)
      obtain ⟨d5, d6⟩ := Bool.or_eq_false_iff.mp hg
      have d5 := of_decide_eq_false d5
      have d6 := of_decide_eq_false d6
      exact y_move (kp (H 5 rfl) E q27)
    · intro A B E G H d0 d1 d2
      refine run_guard G rfl rfl (by decide) (ed d2 rfl rfl rfl) (fun hg => ?_)
      obtain ⟨d7, d8⟩ := Bool.or_eq_false_iff.mp hg
      have d7 := of_decide_eq_false d7
      have d8 := of_decide_eq_false d8
      exact y_sub ((ed d0 rfl rfl rfl).1 hg) ((ed d1 rfl rfl rfl).1 hg) (w64 (by omega) (by omega))
    · intro A B E G H d0 d1
      refine run_guard G rfl rfl (by decide) (ed d1 rfl rfl rfl) (fun hg => ?_)
      obtain ⟨d9, d10⟩ := Bool.or_eq_false_iff.mp hg
      have d9 := of_decide_eq_false d9
      have d10 := of_decide_eq_false d10
      exact y_remN (toN (σ := B) ((ed d0 rfl rfl rfl).1 hg) (by omega)) (toN (σ := B) rfl (by omega)) (by omega)
    · intro A B E G H d0 d1
      refine run_guard G rfl rfl (by decide) (ed d1 rfl rfl rfl) (fun hg => ?_)
      obtain ⟨d11, d12⟩ := Bool.or_eq_false_iff.mp hg
      have d11 := of_decide_eq_false d11
      have d12 := of_decide_eq_false d12
      exact y_eql ((ed d0 rfl rfl rfl).1 hg) rfl
    · intro A B E G H d0 d1; exact rP (y_pick_or (ed d0 rfl rfl rfl) rfl (ed d1 rfl rfl rfl))
    intro a10 s8 D8; have ok9 := D8.ok; have F9 := F8.step0 D8.stp; have q32 := D8.kt q26 rfl; have q33 := D8.kt q28 rfl; have q34 := D8.kt q29 rfl; have q35 := D8.kt q30 rfl; have q36 := D8.kt q31 rfl; have q37 := D8.dn 14 rfl rfl; clear D8; refine tn ?_
    refine cond_t q37 (fun c3 => ?_) (fun c3 => ?_)
    ·
     simp only [Bool.or_eq_true, decide_eq_true_eq] at c3
     refine wp_seq ?_
     refine rg a10 s8 [(Ty.int (6 : Int))] ok9 ⟨?_, trivial⟩ ?_
     · intro A B E G H; exact rP (y_assign rfl)
     intro a11 s9 D9; have ok10 := D9.ok; have F10 := F9.step0 D9.stp; have q38 := D9.dn 0 rfl rfl; clear D9; refine tn ?_; refine wp_ret ?_; refine tr ?_; refine br ?_; refine tr ?_; refine tr ?_; refine br ?_; refine tr ?_
     exact ret1 rfl ok10 F10 (cvi (by (exact (chgMay_scan (by omega) E (by omega) (by omega)).symm)) q38)
    ·
     obtain ⟨d13, d14⟩ := Bool.or_eq_false_iff.mp c3
     obtain ⟨d15, d16⟩ := Bool.or_eq_false_iff.mp d13
     replace d15 := of_decide_eq_false d15
     replace d16 := of_decide_eq_false d16
     replace d14 := of_decide_eq_false d14
     refine wp_skip ?_; refine tn ?_
     refine rg a10 s8 [(Ty.int (l.getD k 0)), (Ty.int (l.getD k 0))] ok9 ⟨?_, ?_, trivial⟩ ?_
     · intro A B E G H; exact rP (y_move (kp (H 7 rfl) E q36))
     · intro A B E G H d0 d1; exact rP (y_assign (ed d0 rfl rfl rfl))
     intro a12 s10 D10; have ok11 := D10.ok; have F11 := F9.step0 D10.stp; have q39 := D10.kt q32 rfl; have q40 := D10.kt q33 rfl; have q41 := D10.kt q34 rfl; have q42 := D10.kt q35 rfl; have q43 := D10.dn 1 rfl rfl; clear D10; refine bn ?_; refine tn ?_
     refine rg a12 s10 [(Ty.int (((k : Nat) : Int) + (1 : Int))), (Ty.int (((k : Nat) : Int) + (1 : Int)))] ok11 ⟨?_, ?_, trivial⟩ ?_
     · intro A B E G H; exact rP (y_add (kp (H 16 rfl) E q39) rfl (w64 (by omega) (by omega)))
     · intro A B E G H d0; exact rP (y_move (ed d0 rfl rfl rfl))
     intro a13 s11 D11; have ok12 := D11.ok; have F12 := F11.step0 D11.stp; have q44 := D11.kt q40 rfl; have q45 := D11.kt q41 rfl; have q46 := D11.kt q42 rfl; have q47 := D11.kt q43 rfl; have q48 := D11.dn 1 rfl rfl; clear D11
     have d1_ := (of_decide_eq_false (Bool.or_eq_false_iff.1 c3).2)
     have d2_ := of_decide_eq_false (Bool.or_eq_false_iff.1 (Bool.or_eq_false_iff.1 c3).1).1
     have d3_ := of_decide_eq_false (Bool.or_eq_false_iff.1 (Bool.or_eq_false_iff.1 c3).1).2
     exact tn ⟨l.length - ((k+1)), by omega, s11, (k+1), (l.getD k 0), rfl, F12, ok12, (cvi (by (first | rfl | omega | (simp_all; done) | (simp_all; omega))) q48), (cvi (by (first | rfl | omega | (simp_all; done) | (simp_all; omega))) q47), q44, q45, q46, by omega, scan_step E (by omega) (by omega) (by omega) d1_, by omega, rfl⟩
   ·
    have hk2 : k = l.length := (by omega)
    refine wp_exit ?_; refine tx ?_; refine tx ?_; refine bx ?_; refine tn ?_; refine wp_seq ?_; refine wp_seq ?_
    refine rg a8 s6 [(Ty.int n), (Ty.int z), (Ty.int (n - z)), (Ty.nat (((n - z)).toNat % 2)), (Ty.bool (decide ((((((n - z)).toNat % 2) : Nat) : Int) = (1 : Int))))] ok7 ⟨?_, ?_, ?_, ?_, ?_, trivial⟩ ?_
    · intro A B E G H; exact rP (y_move (kp (H 0 rfl) E q22))
    · intro A B E G H; exact rP (y_move (kp (H 5 rfl) E q21))
    · intro A B E G H d0 d1; exact rP (y_sub (ed d0 rfl rfl rfl) (ed d1 rfl rfl rfl) (w64 (by omega) (by omega)))
    · intro A B E G H d0; exact rP (y_remN (toN (σ := B) (ed d0 rfl rfl rfl) (by omega)) (toN (σ := B) rfl (by omega)) (by omega))
    · intro A B E G H d0; exact rP (y_eql (ed d0 rfl rfl rfl) rfl)
    intro a14 s12 D12; have ok13 := D12.ok; have F13 := F7.step0 D12.stp; have q49 := D12.dn 4 rfl rfl; clear D12; refine tn ?_
    refine cond_p (p := ((((((n - z)).toNat % 2) : Nat) : Int) = (1 : Int))) q49 (fun c4 => ?_) (fun c4 => ?_)
    ·
     refine wp_seq ?_
     refine rg a14 s12 [(Ty.int (6 : Int))] ok13 ⟨?_, trivial⟩ ?_
     · intro A B E G H; exact rP (y_assign rfl)
     intro a15 s13 D13; have ok14 := D13.ok; have F14 := F13.step0 D13.stp; have q50 := D13.dn 0 rfl rfl; clear D13; refine tn ?_; refine wp_ret ?_; refine tr ?_
     exact ret1 rfl ok14 F14 (cvi (by (exact (chgMay_odd (by omega) (by rw [← hk2]; exact E) (by omega)).symm)) q50)
    ·
     refine wp_skip ?_; refine tn ?_; refine wp_seq ?_
     refine rg a14 s12 [(Ty.int (0 : Int))] ok13 ⟨?_, trivial⟩ ?_
     · intro A B E G H; exact rP (y_assign rfl)
     intro a16 s14 D14; have ok15 := D14.ok; have F15 := F13.step0 D14.stp; have q51 := D14.dn 0 rfl rfl; clear D14; refine tn ?_; refine wp_ret ?_
     exact ret1 rfl ok15 F15 (cvi (by (exact (chgMay_ok (by omega) (by rw [← hk2]; exact E) (by omega)).symm)) q51)

theorem Tryd.inf9 : Info Tryd.prog 9 (.string ByteArray.empty) 1 16 := by unfold Info; kernel_rfl
theorem Tryd.inf22 : Info Tryd.prog 22 (.slice none 0 0) 1 24 := by unfold Info; kernel_rfl
theorem Tryd.fld24_0 : fieldOf Tryd.prog 24 0 = some (9, 0) := by kernel_rfl
theorem Tryd.fld24_1 : fieldOf Tryd.prog 24 1 = some (3, 1) := by kernel_rfl
theorem Tryd.fld24_2 : fieldOf Tryd.prog 24 2 = some (22, 2) := by kernel_rfl
set_option maxRecDepth 100000 in
theorem mCheck_fn (nm : ByteArray) (n : Int) (l : List (List Int)) (σ : GW) (v0 : Value) (hv0 : Ty.has (Ty.agg [(Ty.val (Value.string nm)), (Ty.int n), (Ty.lst Ty.ints l)]) σ v0) (hnm : nm.size ≤ 1099511627776) (hn : -9223372036854775808 ≤ n ∧ n ≤ 9223372036854775807) :
    FnC Tryd.prog 24 #[v0] σ (Ty.int (methMay nm n l)) := by
 refine fn_intro Tryd.func24 rfl Tryd.ntmps24 (Nat.le_of_ble_eq_true rfl) (fun s0 a0 hle F0 ok0 hargs => ?_)
 have p0 : At (Ty.agg [(Ty.val (Value.string nm)), (Ty.int n), (Ty.lst Ty.ints l)]) s0 a0 (.tmp 0) := by have e := hargs 0 _ rfl; show Ty.has _ _ _; rw [e]; exact Ty.up _ hle hv0
 clear hargs; refine wp_seq ?_
 refine rg a0 s0 [(Ty.ref [(Ty.val (Value.string nm)), (Ty.int n), (Ty.lst Ty.ints l)]), (Ty.int (0 : Int))] ok0 ⟨?_, ?_, trivial⟩ ?_
 · intro A B E G H; exact rP (y_boxagg (kp (H 0 rfl) E p0))
 · intro A B E G H; exact rP (y_assign rfl)
 intro a1 s1 D1; have ok1 := D1.ok; have F1 := F0.step0 D1.stp; have q1 := D1.dn 0 rfl rfl; clear D1; refine tn ?_; refine wp_seq ?_; refine wp_block ?_; refine wp_seq ?_
 refine rg a1 s1 [(Ty.ref [(Ty.val (Value.string nm)), (Ty.int n), (Ty.lst Ty.ints l)]), (Ty.val (Value.string nm)), (Ty.bool (nameL (nm))), (Ty.bool (!(nameL (nm)))), (Ty.bool (!(nameL (nm))))] ok1 ⟨?_, ?_, ?_, ?_, ?_, trivial⟩ ?_
 · intro A B E G H; exact rP (y_field Tryd.fld24_0 Tryd.inf9 (by decide) (kp (H 1 rfl) E q1) rfl)
 · intro A B E G H d0; exact rP (y_load Tryd.underlying9 rfl (ed d0 rfl rfl rfl) rfl)
 · intro A B E G H d0; exact rP (y_call #[A.eval (.tmp 8)] Tryd.func44 rfl rfl (by simp only [List.map_toArray, List.map_cons, List.map_nil]) (mName_fn (nm) _ _ (ed d0 rfl rfl rfl) (by first | omega | assumption)))
 · intro A B E G H d0; exact rP (y_not (ed d0 rfl rfl rfl))
 · intro A B E G H d0 d1; exact rP (y_assign (ed d0 rfl rfl rfl))
 intro a2 s2 D2; have ok2 := D2.ok; have F2 := F1.step0 D2.stp; have q2 := D2.kt q1 rfl; have q3 := D2.dn 4 rfl rfl; clear D2; refine tn ?_
 refine cond_t q3 (fun c1 => ?_) (fun c1 => ?_)
 ·
  have hnn : nameL nm = false := (by simpa using c1)
  refine wp_seq ?_
  refine rg a2 s2 [(Ty.int (7 : Int))] ok2 ⟨?_, trivial⟩ ?_
  · intro A B E G H; exact rP (y_assign rfl)
  intro a3 s3 D3; have ok3 := D3.ok; have F3 := F2.step0 D3.stp; have q4 := D3.dn 0 rfl rfl; clear D3; refine tn ?_; refine wp_ret ?_; refine br ?_; refine tr ?_
  exact ret1 rfl ok3 F3 (cvi (by (unfold methMay; rw [if_pos hnn])) q4)
 ·
  have hnn : ¬ nameL nm = false := (by simpa using c1)
  refine wp_seq ?_
  refine rg a2 s2 [(Ty.ref [(Ty.int n), (Ty.lst Ty.ints l)]), (Ty.int n), (Ty.bool (decide (n < (2 : Int)))), (Ty.bool (decide (n < (2 : Int)))), (Ty.grd ((decide (n < (2 : Int))) = false) (Ty.ref [(Ty.int n), (Ty.lst Ty.ints l)])), (Ty.grd ((decide (n < (2 : Int))) = false) (Ty.int n)), (Ty.grd ((decide (n < (2 : Int))) = false) (Ty.bool (decide ((12 : Int) < n)))), (Ty.bool ((decide (n < (2 : Int))) || (decide ((12 : Int) < n)))), (Ty.bool ((decide (n < (2 : Int))) || (decide ((12 : Int) < n)))), (Ty.grd (((decide (n < (2 : Int))) || (decide ((12 : Int) < n))) = false) (Ty.ref [(Ty.lst Ty.ints l)])), (Ty.grd (((decide (n < (2 : Int))) || (decide ((12 : Int) < n))) = false) (Ty.lst Ty.ints l)), (Ty.grd (((decide (n < (2 : Int))) || (decide ((12 : Int) < n))) = false) (Ty.nat (List.length l))), (Ty.grd (((decide (n < (2 : Int))) || (decide ((12 : Int) < n))) = false) (Ty.bool (decide ((((List.length l) : Nat) : Int) < (1 : Int))))), (Ty.bool (((decide (n < (2 : Int))) || (decide ((12 : Int) < n))) || (decide ((((List.length l) : Nat) : Int) < (1 : Int))))), (Ty.bool (((decide (n < (2 : Int))) || (decide ((12 : Int) < n))) || (decide ((((List.length l) : Nat) : Int) < (1 : Int))))), (Ty.grd ((((decide (n < (2 : Int))) || (decide ((12 : Int) < n))) || (decide ((((List.length l) : Nat) : Int) < (1 : Int)))) = false) (Ty.ref [(Ty.lst Ty.ints l)])), (Ty.grd ((((decide (n < (2 : Int))) || (decide ((12 : Int) < n))) || (decide ((((List.length l) : Nat) : Int) < (1 : Int)))) = false) (Ty.lst Ty.ints l)), (Ty.grd ((((decide (n < (2 : Int))) || (decide ((12 : Int) < n))) || (decide ((((List.length l) : Nat) : Int) < (1 : Int)))) = false) (Ty.nat (List.length l))), (Ty.grd ((((decide (n < (2 : Int))) || (decide ((12 : Int) < n))) || (decide ((((List.length l) : Nat) : Int) < (1 : Int)))) = false) (Ty.bool (decide ((200 : Int) < (((List.length l) : Nat) : Int))))), (Ty.bool ((((decide (n < (2 : Int))) || (decide ((12 : Int) < n))) || (decide ((((List.length l) : Nat) : Int) < (1 : Int)))) || (decide ((200 : Int) < (((List.length l) : Nat) : Int))))), (Ty.bool ((((decide (n < (2 : Int))) || (decide ((12 : Int) < n))) || (decide ((((List.length l) : Nat) : Int) < (1 : Int)))) || (decide ((200 : Int) < (((List.length l) : Nat) : Int)))))] ok2 ⟨?_, ?_, ?_, ?_, ?_, ?_, ?_, ?_, ?_, ?_, ?_, ?_, ?_, ?_, ?_, ?_, ?_, ?_, ?_, ?_, ?_, trivial⟩ ?_
  · intro A B E G H; exact rP (y_field Tryd.fld24_1 Tryd.inf3 (by decide) (kp (H 1 rfl) E q2) rfl)
  · intro A B E G H d0; exact rP (y_load Tryd.underlying3 rfl (ed d0 rfl rfl rfl) rfl)
  · intro A B E G H d0; exact rP (y_lss (ed d0 rfl rfl rfl) rfl)
  · intro A B E G H d0; exact rP (y_move (ed d0 rfl rfl rfl))
  · intro A B E G H d0
    refine run_guard G rfl rfl (by decide) (ed d0 rfl rfl rfl) (fun hg => ?_)
    have hp := of_decide_eq_false hg
    exact y_field Tryd.fld24_1 Tryd.inf3 (by decide) (kp (H 1 rfl) E q2) rfl
  · intro A B E G H d0 d1
    refine run_guard G rfl rfl (by decide) (ed d1 rfl rfl rfl) (fun hg => ?_)
    have hp := of_decide_eq_false hg
    exact y_load Tryd.underlying3 rfl ((ed d0 rfl rfl rfl).1 hg) rfl
  · intro A B E G H d0 d1
    refine run_guard G rfl rfl (by decide) (ed d1 rfl rfl rfl) (fun hg => ?_)
    have hp := of_decide_eq_false hg
    exact y_gtr ((ed d0 rfl rfl rfl).1 hg) rfl
  · intro A B E G H d0 d1; exact rP (y_pick_or (ed d0 rfl rfl rfl) rfl (ed d1 rfl rfl rfl))
  · intro A B E G H d0 d1; exact rP (y_move (ed d0 rfl rfl rfl))
  · intro A B E G H d0
    refine run_guard G rfl rfl (by decide) (ed d0 rfl rfl rfl) (fun hg => ?_)
    obtain ⟨d1, d2⟩ := Bool.or_eq_false_iff.mp hg
    have d1 := of_decide_eq_false d1
    have d2 := of_decide_eq_false d2
    exact y_field Tryd.fld24_2 Tryd.inf22 (by decide) (kp (H 1 rfl) E q2) rfl
  · intro A B E G H d0 d1
    refine run_guard G rfl rfl (by decide) (ed d1 rfl rfl rfl) (fun hg => ?_)
    obtain ⟨d3, d4⟩ := Bool.or_eq_false_iff.mp hg
    have d3 := of_decide_eq_false d3
    have d4 := of_decide_eq_false d4
    exact y_load Tryd.underlying22 rfl ((ed d0 rfl rfl rfl).1 hg) rfl
  · intro A B E G H d0 d1
    refine run_guard G rfl rfl (by decide) (ed d1 rfl rfl rfl) (fun hg => ?_)
    obtain ⟨d5, d6⟩ := Bool.or_eq_false_iff.mp hg
    have d5 := of_decide_eq_false d5
    have d6 := of_decide_eq_false d6
    exact y_len Tryd.underlying22 ((ed d0 rfl rfl rfl).1 hg)
  · intro A B E G H d0 d1
    refine run_guard G rfl rfl (by decide) (ed d1 rfl rfl rfl) (fun hg => ?_)
    obtain ⟨d7, d8⟩ := Bool.or_eq_false_iff.mp hg
    have d7 := of_decide_eq_false d7
    have d8 := of_decide_eq_false d8
    exact y_lss ((ed d0 rfl rfl rfl).1 hg) rfl
  · intro A B E G H d0 d1; exact rP (y_pick_or (ed d0 rfl rfl rfl) rfl (ed d1 rfl rfl rfl))
  · intro A B E G H d0 d1; exact rP (y_move (ed d0 rfl rfl rfl))
  · intro A B E G H d0
    refine run_guard G rfl rfl (by decide) (ed d0 rfl rfl rfl) (fun hg => ?_)
    obtain ⟨d9, d10⟩ := Bool.or_eq_false_iff.mp hg
    obtain ⟨d11, d12⟩ := Bool.or_eq_false_iff.mp d9
    have d11 := of_decide_eq_false d11
    have d12 := of_decide_eq_false d12
    have d10 := of_decide_eq_false d10
    exact y_field Tryd.fld24_2 Tryd.inf22 (by decide) (kp (H 1 rfl) E q2) rfl
  · intro A B E G H d0 d1
    refine run_guard G rfl rfl (by decide) (ed d1 rfl rfl rfl) (fun hg => ?_)
    obtain ⟨d13, d14⟩ := Bool.or_eq_false_iff.mp hg
    obtain ⟨d15, d16⟩ := Bool.or_eq_false_iff.mp d13
    have d15 := of_decide_eq_false d15
    have d16 := of_decide_eq_false d16
    have d14 := of_decide_eq_false d14
    exact y_load Tryd.underlying22 rfl ((ed d0 rfl rfl rfl).1 hg) rfl
  · intro A B E G H d0 d1
    refine run_guard G rfl rfl (by decide) (ed d1 rfl rfl rfl) (fun hg => ?_)
    obtain ⟨d17, d18⟩ := Bool.or_eq_false_iff.mp hg
    obtain ⟨d19, d20⟩ := Bool.or_eq_false_iff.mp d17
    have d19 := of_decide_eq_false d19
    have d20 := of_decide_eq_false d20
    have d18 := of_decide_eq_false d18
    exact y_len Tryd.underlying22 ((ed d0 rfl rfl rfl).1 hg)
  · intro A B E G H d0 d1
    refine run_guard G rfl rfl (by decide) (ed d1 rfl rfl rfl) (fun hg => ?_)
    obtain ⟨d21, d22⟩ := Bool.or_eq_false_iff.mp hg
    obtain ⟨d23, d24⟩ := Bool.or_eq_false_iff.mp d21
    have d23 := of_decide_eq_false d23
    have d24 := of_decide_eq_false d24
    have d22 := of_decide_eq_false d22
    exact y_gtr ((ed d0 rfl rfl rfl).1 hg) rfl
  · intro A B E G H d0 d1; exact rP (y_pick_or (ed d0 rfl rfl rfl) rfl (ed d1 rfl rfl rfl))
  · intro A B E G H d0 d1; exact rP (y_assign (ed d0 rfl rfl rfl))
  intro a4 s4 D4; have ok4 := D4.ok; have F4 := F2.step0 D4.stp; have q5 := D4.kt q2 rfl; have q6 := D4.dn 20 rfl rfl; clear D4; refine tn ?_
  refine cond_t q6 (fun c2 => ?_) (fun c2 => ?_)
  ·
   simp only [Bool.or_eq_true, decide_eq_true_eq] at c2; have h4 : n < 2 ∨ 12 < n ∨ l.length < 1 ∨ 200 < l.length := (by omega)
   refine wp_seq ?_
   refine rg a4 s4 [(Ty.int (1 : Int))] ok4 ⟨?_, trivial⟩ ?_
   · intro A B E G H; exact rP (y_assign rfl)
   intro a5 s5 D5; have ok5 := D5.ok; have F5 := F4.step0 D5.stp; have q7 := D5.dn 0 rfl rfl; clear D5; refine tn ?_; refine wp_ret ?_; refine br ?_; refine tr ?_
   exact ret1 rfl ok5 F5 (cvi (by (unfold methMay; rw [if_neg hnn, if_pos h4])) q7)
  ·
   obtain ⟨d25, d26⟩ := Bool.or_eq_false_iff.mp c2
   obtain ⟨d27, d28⟩ := Bool.or_eq_false_iff.mp d25
   obtain ⟨d29, d30⟩ := Bool.or_eq_false_iff.mp d27
   replace d29 := of_decide_eq_false d29
   replace d30 := of_decide_eq_false d30
   replace d28 := of_decide_eq_false d28
   replace d26 := of_decide_eq_false d26
   have h4 : ¬ (n < 2 ∨ 12 < n ∨ l.length < 1 ∨ 200 < l.length) := (by simp only [Bool.or_eq_false_iff, decide_eq_false_iff_not] at c2; omega); have hmm : methMay nm n l = allMay n l := (by unfold methMay; rw [if_neg hnn, if_neg h4])
   refine wp_skip ?_; refine bn ?_; refine tn ?_; refine wp_seq ?_; refine wp_seq ?_
   refine rg a4 s4 [(Ty.ref [(Ty.lst Ty.ints l)]), (Ty.lst Ty.ints l), (Ty.nat (List.length l)), (Ty.int (0 : Int))] ok4 ⟨?_, ?_, ?_, ?_, trivial⟩ ?_
   · intro A B E G H; exact rP (y_field Tryd.fld24_2 Tryd.inf22 (by decide) (kp (H 1 rfl) E q5) rfl)
   · intro A B E G H d0; exact rP (y_load Tryd.underlying22 rfl (ed d0 rfl rfl rfl) rfl)
   · intro A B E G H d0; exact rP (y_len Tryd.underlying22 (ed d0 rfl rfl rfl))
   · intro A B E G H; exact rP (y_move rfl)
   intro a6 s6 D6; have ok6 := D6.ok; have F6 := F4.step0 D6.stp; have q8 := D6.kt q5 rfl; have q9 := D6.dn 1 rfl rfl
   have b1 := sl_le q9
   have q10 := D6.dn 2 rfl rfl; have q11 := D6.dn 3 rfl rfl; clear D6; refine tn ?_; refine wp_block ?_
   refine loop (fun n1 a7 w1 => ∃ (t1 : GW) (k : Nat), t1.w = w1 ∧ From s0 t1 ∧ Ok 47 a7 ∧ At (Ty.nat k) t1 a7 (.tmp 35) ∧ At (Ty.ref [(Ty.val (Value.string nm)), (Ty.int n), (Ty.lst Ty.ints l)]) t1 a7 (.tmp 1) ∧ At (Ty.lst Ty.ints l) t1 a7 (.tmp 33) ∧ At (Ty.nat (List.length l)) t1 a7 (.tmp 34) ∧ (k ≤ l.length) ∧ (allMay n (l.drop k) = allMay n l) ∧ n1 = l.length - k) (l.length - (0)) ?_ ?_
   ·
    exact ⟨s6, 0, rfl, F6, ok6, (cvi (by (first | rfl | omega | (simp_all; done) | (simp_all; omega))) q11), q8, q9, q10, by omega, rfl, rfl⟩
   ·
    rintro n2 a8 w2 ⟨t2, k, rfl, F7, ok7, q12, q13, q14, q15, hk, ha, rfl⟩
    refine wp_seq ?_
    refine reg (a := a8) (σ := t2) rfl (fun i_ => List.getD [(Ty.pr (Ty.bool (decide (((k : Nat) : Int) < (((List.length l) : Nat) : Int)))))] i_ Pr.any) ok7 rfl ⟨?_, trivial⟩ ?_
    · intro A B E G H; exact rP (y_lss (kp (H 35 rfl) E q12) (kp (H 34 rfl) E q15))
    intro a9 s7 D7; have ok8 := D7.ok; have F8 := F7.step0 D7.stp; have q16 := D7.kt q12 rfl; have q17 := D7.kt q13 rfl; have q18 := D7.kt q14 rfl; have q19 := D7.kt q15 rfl; have q20 := D7.dn 0 rfl rfl; clear D7; refine tn ?_; refine wp_seq ?_
    refine cond_p (p := (((k : Nat) : Int) < (((List.length l) : Nat) : Int))) q20 (fun c3 => ?_) (fun c3 => ?_)
    ·
     refine wp_skip ?_; refine tn ?_; refine wp_seq ?_; refine wp_block ?_; refine wp_seq ?_
     refine rg a9 s7 [(Ty.ref [(Ty.lst Ty.int (l.getD k []))]), (Ty.lst Ty.int (l.getD k [])), (Ty.lst Ty.int (l.getD k []))] ok8 ⟨?_, ?_, ?_, trivial⟩ ?_
     · intro A B E G H; exact rP (y_index1 Tryd.underlying22 Tryd.inf26 (kp (H 33 rfl) E q18) (kp (H 35 rfl) E q16) (by omega) (lst_get Ty.ints l [] k (by omega)))
     · intro A B E G H d0; exact rP (y_load Tryd.underlying26 rfl (ed d0 rfl rfl rfl) rfl)
     · intro A B E G H d0 d1 d2; exact rP (y_assign (ed d0 rfl rfl rfl))
     intro a10 s8 D8; have ok9 := D8.ok; have F9 := F8.step0 D8.stp; have q21 := D8.kt q16 rfl; have q22 := D8.kt q17 rfl; have q23 := D8.kt q18 rfl; have q24 := D8.kt q19 rfl; have q25 := D8.dn 2 rfl rfl; clear D8; refine tn ?_; refine wp_seq ?_
     refine rg a10 s8 [(Ty.ref [(Ty.int n), (Ty.lst Ty.ints l)]), (Ty.int n), (Ty.lst Ty.int (l.getD k [])), (Ty.int (chgMay n ((l.getD k [])))), (Ty.int (chgMay n ((l.getD k []))))] ok9 ⟨?_, ?_, ?_, ?_, ?_, trivial⟩ ?_
     · intro A B E G H; exact rP (y_field Tryd.fld24_1 Tryd.inf3 (by decide) (kp (H 1 rfl) E q22) rfl)
     · intro A B E G H d0; exact rP (y_load Tryd.underlying3 rfl (ed d0 rfl rfl rfl) rfl)
     · intro A B E G H; exact rP (y_move (kp (H 4 rfl) E q25))
     · intro A B E G H d0 d1; exact rP (y_call #[A.eval (.tmp 40), A.eval (.tmp 41)] Tryd.func27 rfl rfl (by simp only [List.map_toArray, List.map_cons, List.map_nil]) (pCheck_fn (n) ((l.getD k [])) _ _ _ (ed d0 rfl rfl rfl) (ed d1 rfl rfl rfl) (by omega)))
     · intro A B E G H d0 d1 d2 d3 d4 d5; exact rP (y_assign (ed d0 rfl rfl rfl))
     intro a11 s9 D9; have ok10 := D9.ok; have F10 := F9.step0 D9.stp; have q26 := D9.kt q21 rfl; have q27 := D9.kt q22 rfl; have q28 := D9.kt q23 rfl; have q29 := D9.kt q24 rfl; have q30 := D9.dn 4 rfl rfl; clear D9; refine tn ?_; refine wp_seq ?_
     refine rg a11 s9 [(Ty.int (chgMay n ((l.getD k [])))), (Ty.bool (decide ((chgMay n ((l.getD k []))) ≠ (0 : Int))))] ok10 ⟨?_, ?_, trivial⟩ ?_
     · intro A B E G H; exact rP (y_move (kp (H 5 rfl) E q30))
     · intro A B E G H d0; exact rP (y_neq (ed d0 rfl rfl rfl) rfl)
     intro a12 s10 D10; have ok11 := D10.ok; have F11 := F10.step0 D10.stp; have q31 := D10.kt q26 rfl; have q32 := D10.kt q27 rfl; have q33 := D10.kt q28 rfl; have q34 := D10.kt q29 rfl; have q35 := D10.kt q30 rfl; have q36 := D10.dn 1 rfl rfl; clear D10; refine tn ?_
     refine cond_p (p := ((chgMay n ((l.getD k []))) ≠ (0 : Int))) q36 (fun c4 => ?_) (fun c4 => ?_)
     ·
      refine wp_seq ?_
      refine rg a12 s10 [(Ty.int (chgMay n ((l.getD k [])))), (Ty.int (chgMay n ((l.getD k []))))] ok11 ⟨?_, ?_, trivial⟩ ?_
      · intro A B E G H; exact rP (y_move (kp (H 5 rfl) E q35))
      · intro A B E G H d0 d1; exact rP (y_assign (ed d0 rfl rfl rfl))
      intro a13 s11 D11; have ok12 := D11.ok; have F12 := F11.step0 D11.stp; have q37 := D11.dn 1 rfl rfl; clear D11; refine tn ?_; refine wp_ret ?_; refine br ?_; refine tr ?_; refine tr ?_; refine br ?_; refine tr ?_
      exact ret1 rfl ok12 F12 (cvi (by (rw [hmm]; exact (allMay_stop ha (by omega) c4).symm)) q37)
     ·
      refine wp_skip ?_; refine bn ?_; refine tn ?_
      refine rg a12 s10 [(Ty.int (((k : Nat) : Int) + (1 : Int))), (Ty.int (((k : Nat) : Int) + (1 : Int)))] ok11 ⟨?_, ?_, trivial⟩ ?_
      · intro A B E G H; exact rP (y_add (kp (H 35 rfl) E q31) rfl (w64 (by omega) (by omega)))
      · intro A B E G H d0; exact rP (y_move (ed d0 rfl rfl rfl))
      intro a14 s12 D12; have ok13 := D12.ok; have F13 := F11.step0 D12.stp; have q38 := D12.kt q32 rfl; have q39 := D12.kt q33 rfl; have q40 := D12.kt q34 rfl; have q41 := D12.dn 1 rfl rfl; clear D12
      exact tn ⟨l.length - ((k+1)), by omega, s12, (k+1), rfl, F13, ok13, (cvi (by (first | rfl | omega | (simp_all; done) | (simp_all; omega))) q41), q38, q39, q40, by omega, allMay_step ha (by omega) c4, rfl⟩
    ·
     refine wp_exit ?_; refine tx ?_; refine tx ?_; refine bx ?_; refine tn ?_; refine wp_seq ?_
     refine rg a9 s7 [(Ty.int (0 : Int))] ok8 ⟨?_, trivial⟩ ?_
     · intro A B E G H; exact rP (y_assign rfl)
     intro a15 s13 D13; have ok14 := D13.ok; have F14 := F8.step0 D13.stp; have q42 := D13.dn 0 rfl rfl; clear D13; refine tn ?_; refine wp_ret ?_
     exact ret1 rfl ok14 F14 (cvi (by (rw [hmm]; exact (allMay_end ha (by omega)).symm)) q42)

theorem Tryd.inf21 : Info Tryd.prog 21 (.int .i32 0) 1 4 := by unfold Info; kernel_rfl
theorem Tryd.fld50_0 : fieldOf Tryd.prog 50 0 = some (21, 0) := by kernel_rfl
set_option maxHeartbeats 4000000 in
set_option maxRecDepth 100000 in
theorem callChk1_fn (sx : Int) (lx : List (List Int)) (sc : Int) (lc : List (List Int)) (σ : GW)  (v0 v1 : Value) (hv0 : Ty.has (Ty.agg [(Ty.val (Value.int .i32 sx)), (Ty.lst Ty.ints lx)]) σ v0) (hv1 : Ty.has (Ty.ref [(Ty.val (Value.int .i32 sc)), (Ty.lst Ty.ints lc)]) σ v1)   :
    FnC Tryd.prog 26 #[v0, v1] σ (Ty.bool (decide (sx = sc))) := by
 refine fn_intro0 Tryd.func26 rfl Tryd.ntmps26 (Nat.le_of_ble_eq_true rfl) (fun s0 a0 hle F0 ok0 hargs => ?_)
 have p0 : At (Ty.agg [(Ty.val (Value.int .i32 sx)), (Ty.lst Ty.ints lx)]) s0 a0 (.tmp 0) := by have e := hargs 0 _ rfl; show Ty.has _ _ _; rw [e]; exact Ty.up _ hle hv0
 have p1 : At (Ty.ref [(Ty.val (Value.int .i32 sc)), (Ty.lst Ty.ints lc)]) s0 a0 (.tmp 1) := by have e := hargs 1 _ rfl; show Ty.has _ _ _; rw [e]; exact Ty.up _ hle hv1
 clear hargs; refine wp_seq ?_
 refine rg a0 s0 [(Ty.ref [(Ty.val (Value.int .i32 sx)), (Ty.lst Ty.ints lx)]), (Ty.bool false)] ok0 ⟨?_, ?_, trivial⟩ ?_
 · intro A B E G H; exact rP (y_boxagg (kp (H 0 rfl) E p0))
 · intro A B E G H; exact rP (y_assign rfl)
 intro a1 s1 D1; have ok1 := D1.ok; have F1 := F0.step0 D1.stp; have q1 := D1.kt p1 rfl; have q2 := D1.dn 0 rfl rfl; clear D1; refine tn ?_; refine wp_seq ?_
 refine rg a1 s1 [(Ty.ref [(Ty.val (Value.int .i32 sx)), (Ty.lst Ty.ints lx)]), (Ty.val (Value.int .i32 sx)), (Ty.ref [(Ty.val (Value.int .i32 sc)), (Ty.lst Ty.ints lc)]), (Ty.val (Value.int .i32 sc)), (Ty.bool (decide (sx = sc))), (Ty.bool (decide (sx = sc)))] ok1 ⟨?_, ?_, ?_, ?_, ?_, ?_, trivial⟩ ?_
 · intro A B E G H; exact rP (y_field Tryd.fld50_0 Tryd.inf21 (by decide) (kp (H 2 rfl) E q2) rfl)
 · intro A B E G H d0; exact rP (y_load Tryd.underlying21 rfl (ed d0 rfl rfl rfl) rfl)
 · intro A B E G H; exact rP (y_field Tryd.fld50_0 Tryd.inf21 (by decide) (kp (H 1 rfl) E q1) rfl)
 · intro A B E G H d0; exact rP (y_load Tryd.underlying21 rfl (ed d0 rfl rfl rfl) rfl)
 · intro A B E G H d0 d1; exact rP (y_eql (ed d0 rfl rfl rfl) (ed d1 rfl rfl rfl))
 · intro A B E G H d0 d1 d2 d3 d4 d5; exact rP (y_assign (ed d0 rfl rfl rfl))
 intro a2 s2 D2; have ok2 := D2.ok; have F2 := F1.step0 D2.stp; have q3 := D2.dn 5 rfl rfl; clear D2; refine tn ?_; refine wp_ret ?_
 exact retL1 rfl ok2 F2 q3


set_option maxHeartbeats 4000000 in
set_option maxRecDepth 100000 in
theorem idxCall_fn (cs : List BCall) (sc : Int) (lc : List (List Int)) (σ : GW)  (v0 v1 : Value) (hv0 : Ty.has (Ty.lstc 2 callC cs) σ v0) (hv1 : Ty.has (Ty.clo 26 [(Ty.val (Value.int .i32 sc)), (Ty.lst Ty.ints lc)]) σ v1)   :
    FnC Tryd.prog 45 #[v0, v1] σ (Ty.int (indexL (cs.map (·.1)) sc)) := by
 refine fn_intro0 Tryd.func45 rfl Tryd.ntmps45 (Nat.le_of_ble_eq_true rfl) (fun s0 a0 hle F0 ok0 hargs => ?_)
 have p0 : At (Ty.lstc 2 callC cs) s0 a0 (.tmp 0) := by have e := hargs 0 _ rfl; show Ty.has _ _ _; rw [e]; exact Ty.up _ hle hv0
 have b1 := sl_le p0
 have p1 : At (Ty.clo 26 [(Ty.val (Value.int .i32 sc)), (Ty.lst Ty.ints lc)]) s0 a0 (.tmp 1) := by have e := hargs 1 _ rfl; show Ty.has _ _ _; rw [e]; exact Ty.up _ hle hv1
 clear hargs; refine wp_seq ?_
 refine rg a0 s0 [(Ty.int (0 : Int))] ok0 ⟨?_, trivial⟩ ?_
 · intro A B E G H; exact rP (y_assign rfl)
 intro a1 s1 D1; have ok1 := D1.ok; have F1 := F0.step0 D1.stp; have q1 := D1.kt p0 rfl; have q2 := D1.kt p1 rfl; clear D1; refine tn ?_; refine wp_seq ?_; refine wp_seq ?_
 refine rg a1 s1 [(Ty.lstc 2 callC cs), (Ty.nat (List.length cs)), (Ty.int (0 : Int))] ok1 ⟨?_, ?_, ?_, trivial⟩ ?_
 · intro A B E G H; exact rP (y_move (kp (H 0 rfl) E q1))
 · intro A B E G H d0; exact rP (y_len Tryd.underlying25 (ed d0 rfl rfl rfl))
 · intro A B E G H; exact rP (y_move rfl)
 intro a2 s2 D2; have ok2 := D2.ok; have F2 := F1.step0 D2.stp; have q3 := D2.kt q1 rfl; have q4 := D2.kt q2 rfl; have q5 := D2.dn 1 rfl rfl; have q6 := D2.dn 2 rfl rfl; clear D2; refine tn ?_; refine wp_block ?_
 refine loop (fun n1 a3 w1 => ∃ (t1 : GW) (i : Nat), t1.w = w1 ∧ FromL [] s0 t1 ∧ Ok 19 a3 ∧ At (Ty.nat i) t1 a3 (.tmp 8) ∧ At (Ty.lstc 2 callC cs) t1 a3 (.tmp 0) ∧ At (Ty.clo 26 [(Ty.val (Value.int .i32 sc)), (Ty.lst Ty.ints lc)]) t1 a3 (.tmp 1) ∧ At (Ty.nat (List.length cs)) t1 a3 (.tmp 7) ∧ (i ≤ cs.length) ∧ (∀ j, j < i → (cs.getD j D0).1 ≠ sc) ∧ n1 = cs.length - i) (cs.length - (0)) ?_ ?_
 ·
  exact ⟨s2, 0, rfl, F2, ok2, (cvi (by (first | rfl | omega | (simp_all; done) | (simp_all; omega))) q6), q3, q4, q5, by omega, fun j hj => absurd hj (Nat.not_lt_zero j), rfl⟩
 ·
  rintro n2 a4 w2 ⟨t2, i, rfl, F3, ok3, q7, q8, q9, q10, hi, hno, rfl⟩
  refine wp_seq ?_
  refine reg (a := a4) (σ := t2) rfl (fun i_ => List.getD [(Ty.pr (Ty.bool (decide (((i : Nat) : Int) < (((List.length cs) : Nat) : Int)))))] i_ Pr.any) ok3 rfl ⟨?_, trivial⟩ ?_
  · intro A B E G H; exact rP (y_lss (kp (H 8 rfl) E q7) (kp (H 7 rfl) E q10))
  intro a5 s3 D3; have ok4 := D3.ok; have F4 := F3.step0 D3.stp; have q11 := D3.kt q7 rfl; have q12 := D3.kt q8 rfl; have q13 := D3.kt q9 rfl; have q14 := D3.kt q10 rfl; have q15 := D3.dn 0 rfl rfl; clear D3; refine tn ?_; refine wp_seq ?_
  refine cond_p (p := (((i : Nat) : Int) < (((List.length cs) : Nat) : Int))) q15 (fun c1 => ?_) (fun c1 => ?_)
  ·
   refine wp_skip ?_; refine tn ?_; refine wp_seq ?_; refine wp_block ?_; refine wp_seq ?_
   refine rg a5 s3 [(Ty.nat i), (Ty.nat i)] ok4 ⟨?_, ?_, trivial⟩ ?_
   · intro A B E G H; exact rP (y_move (kp (H 8 rfl) E q11))
   · intro A B E G H d0 d1; exact rP (y_assign (ed d0 rfl rfl rfl))
   intro a6 s4 D4; have ok5 := D4.ok; have F5 := F4.step0 D4.stp; have q16 := D4.kt q11 rfl; have q17 := D4.kt q12 rfl; have q18 := D4.kt q13 rfl; have q19 := D4.kt q14 rfl; have q20 := D4.dn 1 rfl rfl; clear D4; refine tn ?_; refine wp_seq ?_
   refine rg a6 s4 [(Ty.clo 26 [(Ty.val (Value.int .i32 sc)), (Ty.lst Ty.ints lc)]), (Ty.lstc 2 callC cs), (Ty.nat i), (Ty.ref [(Ty.val (Value.int .i32 ((cs.getD i D0)).1)), (Ty.lst Ty.ints ((cs.getD i D0)).2)]), (Ty.agg [(Ty.val (Value.int .i32 ((cs.getD i D0)).1)), (Ty.lst Ty.ints ((cs.getD i D0)).2)]), (Ty.bool (decide ((((cs.getD i D0)).1) = sc)))] ok5 ⟨?_, ?_, ?_, ?_, ?_, ?_, trivial⟩ ?_
   · intro A B E G H; exact rP (y_move (kp (H 1 rfl) E q18))
   · intro A B E G H; exact rP (y_move (kp (H 0 rfl) E q17))
   · intro A B E G H; exact rP (y_move (kp (H 5 rfl) E q20))
   · intro A B E G H d0 d1; exact rP (y_indexc (i := ((i : Nat) : Int)) D0 Tryd.underlying25 Tryd.inf50 (ed d0 rfl rfl rfl) (ed d1 rfl rfl rfl) (by omega) (by omega) (by decide) (fun _ => rfl))
   · intro A B E G H d0; exact rP (y_loadagg Tryd.underlying50 Tryd.inf50 (ed d0 rfl rfl rfl))
   · intro A B E G H d0 d1; exact rP (y_callv (fun p_ => #[A.eval (.tmp 15), p_]) (ed d0 rfl rfl rfl) Tryd.func26 rfl rfl (fun p_ => by simp only [List.map_toArray, List.map_cons, List.map_nil, List.append_toArray, List.cons_append, List.nil_append]) (fun p_ hp_ => callChk1_fn (((cs.getD i D0)).1) (((cs.getD i D0)).2) (sc) (lc) _ _ _ (ed d1 rfl rfl rfl) hp_ ))
   intro a7 s5 D5; have ok6 := D5.ok; have F6 := F5.step0 D5.stp; have q21 := D5.kt q16 rfl; have q22 := D5.kt q17 rfl; have q23 := D5.kt q18 rfl; have q24 := D5.kt q19 rfl; have q25 := D5.kt q20 rfl; have q26 := D5.dn 5 rfl rfl; clear D5; refine tn ?_
   refine cond_p (p := ((((cs.getD i D0)).1) = sc)) q26 (fun c2 => ?_) (fun c2 => ?_)
   ·
    refine wp_seq ?_
    refine rg a7 s5 [(Ty.nat i), (Ty.nat i)] ok6 ⟨?_, ?_, trivial⟩ ?_
    · intro A B E G H; exact rP (y_move (kp (H 5 rfl) E q25))
    · intro A B E G H d0 d1; exact rP (y_assign (ed d0 rfl rfl rfl))
    intro a8 s6 D6; have ok7 := D6.ok; have F7 := F6.step0 D6.stp; have q27 := D6.dn 1 rfl rfl; clear D6; refine tn ?_; refine wp_ret ?_; refine br ?_; refine tr ?_; refine tr ?_; refine br ?_; refine tr ?_
    exact retL1 rfl ok7 F7 (cvi (by (exact (idxC_yes (by omega) (by assumption) hno).symm)) q27)
   ·
    refine wp_skip ?_; refine bn ?_; refine tn ?_
    refine rg a7 s5 [(Ty.int (((i : Nat) : Int) + (1 : Int))), (Ty.int (((i : Nat) : Int) + (1 : Int)))] ok6 ⟨?_, ?_, trivial⟩ ?_
    · intro A B E G H; exact rP (y_add (kp (H 8 rfl) E q21) rfl (w64 (by omega) (by omega)))
    · intro A B E G H d0; exact rP (y_move (ed d0 rfl rfl rfl))
    intro a9 s7 D7; have ok8 := D7.ok; have F8 := F6.step0 D7.stp; have q28 := D7.kt q22 rfl; have q29 := D7.kt q23 rfl; have q30 := D7.kt q24 rfl; have q31 := D7.dn 1 rfl rfl; clear D7
    exact tn ⟨cs.length - ((i+1)), by omega, s7, (i+1), rfl, F8, ok8, (cvi (by (first | rfl | omega | (simp_all; done) | (simp_all; omega))) q31), q28, q29, q30, by omega, fun j hj => by (by_cases e : j = i; subst e; assumption; exact hno j (by omega)), rfl⟩
  ·
   refine wp_exit ?_; refine tx ?_; refine tx ?_; refine bx ?_; refine tn ?_; refine wp_seq ?_
   refine rg a5 s3 [(Ty.int (-1 : Int))] ok4 ⟨?_, trivial⟩ ?_
   · intro A B E G H; exact rP (y_assign rfl)
   intro a10 s8 D8; have ok9 := D8.ok; have F9 := F4.step0 D8.stp; have q32 := D8.dn 0 rfl rfl; clear D8; refine tn ?_; refine wp_ret ?_
   exact retL1 rfl ok9 F9 (cvi (by (exact (idxC_no (fun j hj => hno j (by omega))).symm)) q32)


set_option maxHeartbeats 4000000 in
set_option maxRecDepth 100000 in
theorem hasCall_fn (cs : List BCall) (sc : Int) (lc : List (List Int)) (σ : GW)  (v0 v1 : Value) (hv0 : Ty.has (Ty.lstc 2 callC cs) σ v0) (hv1 : Ty.has (Ty.clo 26 [(Ty.val (Value.int .i32 sc)), (Ty.lst Ty.ints lc)]) σ v1)   :
    FnC Tryd.prog 25 #[v0, v1] σ (Ty.bool (decide (sc ∈ cs.map (·.1)))) := by
 refine fn_intro0 Tryd.func25 rfl Tryd.ntmps25 (Nat.le_of_ble_eq_true rfl) (fun s0 a0 hle F0 ok0 hargs => ?_)
 have p0 : At (Ty.lstc 2 callC cs) s0 a0 (.tmp 0) := by have e := hargs 0 _ rfl; show Ty.has _ _ _; rw [e]; exact Ty.up _ hle hv0
 have b1 := sl_le p0
 have p1 : At (Ty.clo 26 [(Ty.val (Value.int .i32 sc)), (Ty.lst Ty.ints lc)]) s0 a0 (.tmp 1) := by have e := hargs 1 _ rfl; show Ty.has _ _ _; rw [e]; exact Ty.up _ hle hv1
 clear hargs; refine wp_seq ?_
 refine rg a0 s0 [(Ty.bool false)] ok0 ⟨?_, trivial⟩ ?_
 · intro A B E G H; exact rP (y_assign rfl)
 intro a1 s1 D1; have ok1 := D1.ok; have F1 := F0.step0 D1.stp; have q1 := D1.kt p0 rfl; have q2 := D1.kt p1 rfl; clear D1; refine tn ?_; refine wp_seq ?_
 refine rg a1 s1 [(Ty.lstc 2 callC cs), (Ty.clo 26 [(Ty.val (Value.int .i32 sc)), (Ty.lst Ty.ints lc)]), (Ty.int (indexL (cs.map (·.1)) sc)), (Ty.bool (decide ((0 : Int) ≤ (indexL (cs.map (·.1)) sc)))), (Ty.bool (decide ((0 : Int) ≤ (indexL (cs.map (·.1)) sc))))] ok1 ⟨?_, ?_, ?_, ?_, ?_, trivial⟩ ?_
 · intro A B E G H; exact rP (y_move (kp (H 0 rfl) E q1))
 · intro A B E G H; exact rP (y_move (kp (H 1 rfl) E q2))
 · intro A B E G H d0 d1; exact rP (y_call #[A.eval (.tmp 5), A.eval (.tmp 6)] Tryd.func45 rfl rfl (by simp only [List.map_toArray, List.map_cons, List.map_nil]) (idxCall_fn (cs) (sc) (lc) _ _ _ (ed d0 rfl rfl rfl) (ed d1 rfl rfl rfl) ))
 · intro A B E G H d0; exact rP (y_geq (ed d0 rfl rfl rfl) rfl)
 · intro A B E G H d0 d1 d2 d3 d4 d5; exact rP (y_assign (ed d0 rfl rfl rfl))
 intro a2 s2 D2; have ok2 := D2.ok; have F2 := F1.step0 D2.stp; have q3 := D2.dn 4 rfl rfl; clear D2; refine tn ?_; refine wp_ret ?_
 exact retL1 rfl ok2 F2 (cvb (by (rw [decide_eq_decide]; exact indexL_iff)) q3)


theorem Tryd.fld50_1 : fieldOf Tryd.prog 50 1 = some (22, 1) := by kernel_rfl
set_option maxHeartbeats 4000000 in
set_option maxRecDepth 100000 in
theorem callCheck_fn (nm : ByteArray) (n : Int) (l : List (List Int)) (cs : List BCall) (σ : GW)  (v0 v1 : Value) (hv0 : Ty.has (Ty.agg [(Ty.val (Value.string nm)), (Ty.int n), (Ty.lst Ty.ints l)]) σ v0) (hv1 : Ty.has (Ty.lstc 2 callC cs) σ v1)  (hnm : nm.size ≤ 1099511627776) (hn : -9223372036854775808 ≤ n ∧ n ≤ 9223372036854775807) :
    FnC Tryd.prog 8 #[v0, v1] σ (Ty.int (callsMay nm n l cs)) := by
 refine fn_intro0 Tryd.func8 rfl Tryd.ntmps8 (Nat.le_of_ble_eq_true rfl) (fun s0 a0 hle F0 ok0 hargs => ?_)
 have p0 : At (Ty.agg [(Ty.val (Value.string nm)), (Ty.int n), (Ty.lst Ty.ints l)]) s0 a0 (.tmp 0) := by have e := hargs 0 _ rfl; show Ty.has _ _ _; rw [e]; exact Ty.up _ hle hv0
 have p1 : At (Ty.lstc 2 callC cs) s0 a0 (.tmp 1) := by have e := hargs 1 _ rfl; show Ty.has _ _ _; rw [e]; exact Ty.up _ hle hv1
 have b1 := sl_le p1
 clear hargs; refine wp_seq ?_
 refine rg a0 s0 [(Ty.ref [(Ty.val (Value.string nm)), (Ty.int n), (Ty.lst Ty.ints l)]), (Ty.int (0 : Int))] ok0 ⟨?_, ?_, trivial⟩ ?_
 · intro A B E G H; exact rP (y_boxagg (kp (H 0 rfl) E p0))
 · intro A B E G H; exact rP (y_assign rfl)
 intro a1 s1 D1; have ok1 := D1.ok; have F1 := F0.step0 D1.stp; have q1 := D1.kt p1 rfl; have q2 := D1.dn 0 rfl rfl; clear D1; refine tn ?_; refine wp_seq ?_; refine wp_seq ?_
 refine rg a1 s1 [(Ty.agg [(Ty.val (Value.string nm)), (Ty.int n), (Ty.lst Ty.ints l)]), (Ty.int (methMay nm n l)), (Ty.int (methMay nm n l))] ok1 ⟨?_, ?_, ?_, trivial⟩ ?_
 · intro A B E G H; exact rP (y_loadagg Tryd.underlying24 Tryd.inf24 (kp (H 2 rfl) E q2))
 · intro A B E G H d0; exact rP (y_call #[A.eval (.tmp 11)] Tryd.func24 rfl rfl (by simp only [List.map_toArray, List.map_cons, List.map_nil]) (mCheck_fn (nm) (n) (l) _ _ (ed d0 rfl rfl rfl) (by first | omega | assumption) (by first | omega | assumption)))
 · intro A B E G H d0 d1 d2 d3; exact rP (y_assign (ed d0 rfl rfl rfl))
 intro a2 s2 D2; have ok2 := D2.ok; have F2 := F1.step0 D2.stp; have q3 := D2.kt q1 rfl; have q4 := D2.kt q2 rfl; have q5 := D2.dn 2 rfl rfl; clear D2; refine tn ?_; refine wp_seq ?_
 refine rg a2 s2 [(Ty.int (methMay nm n l)), (Ty.bool (decide ((methMay nm n l) ≠ (0 : Int))))] ok2 ⟨?_, ?_, trivial⟩ ?_
 · intro A B E G H; exact rP (y_move (kp (H 5 rfl) E q5))
 · intro A B E G H d0; exact rP (y_neq (ed d0 rfl rfl rfl) rfl)
 intro a3 s3 D3; have ok3 := D3.ok; have F3 := F2.step0 D3.stp; have q6 := D3.kt q3 rfl; have q7 := D3.kt q4 rfl; have q8 := D3.kt q5 rfl; have q9 := D3.dn 1 rfl rfl; clear D3; refine tn ?_
 refine cond_p (p := ((methMay nm n l) ≠ (0 : Int))) q9 (fun c1 => ?_) (fun c1 => ?_)
 ·
  have hm := callsMay_meth (cs := cs) c1
  refine wp_seq ?_
  refine rg a3 s3 [(Ty.int (methMay nm n l)), (Ty.int (methMay nm n l))] ok3 ⟨?_, ?_, trivial⟩ ?_
  · intro A B E G H; exact rP (y_move (kp (H 5 rfl) E q8))
  · intro A B E G H d0 d1; exact rP (y_assign (ed d0 rfl rfl rfl))
  intro a4 s4 D4; have ok4 := D4.ok; have F4 := F3.step0 D4.stp; have q10 := D4.dn 1 rfl rfl; clear D4; refine tn ?_; refine wp_ret ?_; refine tr ?_
  exact retL1 rfl ok4 F4 (cvi (by (exact hm.symm)) q10)
 ·
  refine wp_skip ?_; refine tn ?_; refine wp_seq ?_; refine wp_seq ?_
  refine rg a3 s3 [(Ty.lstc 2 callC cs), (Ty.nat (List.length cs)), (Ty.bool (decide ((((List.length cs) : Nat) : Int) < (1 : Int)))), (Ty.bool (decide ((((List.length cs) : Nat) : Int) < (1 : Int)))), (Ty.grd ((decide ((((List.length cs) : Nat) : Int) < (1 : Int))) = false) (Ty.lstc 2 callC cs)), (Ty.grd ((decide ((((List.length cs) : Nat) : Int) < (1 : Int))) = false) (Ty.nat (List.length cs))), (Ty.grd ((decide ((((List.length cs) : Nat) : Int) < (1 : Int))) = false) (Ty.bool (decide ((8 : Int) < (((List.length cs) : Nat) : Int))))), (Ty.bool ((decide ((((List.length cs) : Nat) : Int) < (1 : Int))) || (decide ((8 : Int) < (((List.length cs) : Nat) : Int)))))] ok3 ⟨?_, ?_, ?_, ?_, ?_, ?_, ?_, ?_, trivial⟩ ?_
  · intro A B E G H; exact rP (y_move (kp (H 1 rfl) E q6))
  · intro A B E G H d0; exact rP (y_len Tryd.underlying25 (ed d0 rfl rfl rfl))
  · intro A B E G H d0; exact rP (y_lss (ed d0 rfl rfl rfl) rfl)
  · intro A B E G H d0; exact rP (y_move (ed d0 rfl rfl rfl))
  · intro A B E G H d0
    refine run_guard G rfl rfl (by decide) (ed d0 rfl rfl rfl) (fun hg => ?_)
    have hp := of_decide_eq_false hg
    exact y_move (kp (H 1 rfl) E q6)
  · intro A B E G H d0 d1
    refine run_guard G rfl rfl (by decide) (ed d1 rfl rfl rfl) (fun hg => ?_)
    have hp := of_decide_eq_false hg
    exact y_len Tryd.underlying25 ((ed d0 rfl rfl rfl).1 hg)
  · intro A B E G H d0 d1
    refine run_guard G rfl rfl (by decide) (ed d1 rfl rfl rfl) (fun hg => ?_)
    have hp := of_decide_eq_false hg
    exact y_gtr ((ed d0 rfl rfl rfl).1 hg) rfl
  · intro A B E G H d0 d1; exact rP (y_pick_or (ed d0 rfl rfl rfl) rfl (ed d1 rfl rfl rfl))
  intro a5 s5 D5; have ok5 := D5.ok; have F5 := F3.step0 D5.stp; have q11 := D5.kt q6 rfl; have q12 := D5.kt q7 rfl; have q13 := D5.dn 7 rfl rfl; clear D5; refine tn ?_
  refine cond_t q13 (fun c2 => ?_) (fun c2 => ?_)
  ·
   simp only [Bool.or_eq_true, decide_eq_true_eq] at c2; have hm := callsMay_cnt (cs := cs) c1 (by omega)
   refine wp_seq ?_
   refine rg a5 s5 [(Ty.int (1 : Int))] ok5 ⟨?_, trivial⟩ ?_
   · intro A B E G H; exact rP (y_assign rfl)
   intro a6 s6 D6; have ok6 := D6.ok; have F6 := F5.step0 D6.stp; have q14 := D6.dn 0 rfl rfl; clear D6; refine tn ?_; refine wp_ret ?_; refine tr ?_
   exact retL1 rfl ok6 F6 (cvi (by (exact hm.symm)) q14)
  ·
   obtain ⟨d1, d2⟩ := Bool.or_eq_false_iff.mp c2
   replace d1 := of_decide_eq_false d1
   replace d2 := of_decide_eq_false d2
   have hx2 : ¬ (cs.length < 1 ∨ 8 < cs.length) := (by simp only [Bool.or_eq_false_iff, decide_eq_false_iff_not] at c2; omega); have hm := callsMay_all c1 hx2
   refine wp_skip ?_; refine tn ?_; refine wp_seq ?_; refine wp_seq ?_
   refine rg a5 s5 [(Ty.lstc 2 callC cs), (Ty.nat (List.length cs)), (Ty.int (0 : Int))] ok5 ⟨?_, ?_, ?_, trivial⟩ ?_
   · intro A B E G H; exact rP (y_move (kp (H 1 rfl) E q11))
   · intro A B E G H d0; exact rP (y_len Tryd.underlying25 (ed d0 rfl rfl rfl))
   · intro A B E G H; exact rP (y_move rfl)
   intro a7 s7 D7; have ok7 := D7.ok; have F7 := F5.step0 D7.stp; have q15 := D7.kt q11 rfl; have q16 := D7.kt q12 rfl; have q17 := D7.dn 0 rfl rfl; have q18 := D7.dn 1 rfl rfl; have q19 := D7.dn 2 rfl rfl; clear D7; refine tn ?_; refine wp_block ?_
   refine loop (fun n1 a8 w1 => ∃ (t1 : GW) (i : Nat), t1.w = w1 ∧ FromL [] s0 t1 ∧ Ok 66 a8 ∧ At (Ty.nat i) t1 a8 (.tmp 26) ∧ At (Ty.lstc 2 callC cs) t1 a8 (.tmp 1) ∧ At (Ty.ref [(Ty.val (Value.string nm)), (Ty.int n), (Ty.lst Ty.ints l)]) t1 a8 (.tmp 2) ∧ At (Ty.lstc 2 callC cs) t1 a8 (.tmp 24) ∧ At (Ty.nat (List.length cs)) t1 a8 (.tmp 25) ∧ (i ≤ cs.length) ∧ (callsTo n l.length ((cs.take i).map (·.1)) (cs.drop i) = callsTo n l.length [] cs) ∧ n1 = cs.length - i) (cs.length - (0)) ?_ ?_
   ·
    exact ⟨s7, 0, rfl, F7, ok7, (cvi (by (first | rfl | omega | (simp_all; done) | (simp_all; omega))) q19), q15, q16, q17, q18, by omega, rfl, rfl⟩
   ·
    rintro n2 a9 w2 ⟨t2, i, rfl, F8, ok8, q20, q21, q22, q23, q24, hi, hc, rfl⟩
    refine wp_seq ?_
    refine reg (a := a9) (σ := t2) rfl (fun i_ => List.getD [(Ty.pr (Ty.bool (decide (((i : Nat) : Int) < (((List.length cs) : Nat) : Int)))))] i_ Pr.any) ok8 rfl ⟨?_, trivial⟩ ?_
    · intro A B E G H; exact rP (y_lss (kp (H 26 rfl) E q20) (kp (H 25 rfl) E q24))
    intro a10 s8 D8; have ok9 := D8.ok; have F9 := F8.step0 D8.stp; have q25 := D8.kt q20 rfl; have q26 := D8.kt q21 rfl; have q27 := D8.kt q22 rfl; have q28 := D8.kt q23 rfl; have q29 := D8.kt q24 rfl; have q30 := D8.dn 0 rfl rfl; clear D8; refine tn ?_; refine wp_seq ?_
    refine cond_p (p := (((i : Nat) : Int) < (((List.length cs) : Nat) : Int))) q30 (fun c3 => ?_) (fun c3 => ?_)
    ·
     refine wp_skip ?_; refine tn ?_; refine wp_seq ?_; refine wp_block ?_; refine wp_seq ?_
     refine reg2 (a := a10) (σ := s8) rfl 5 (fun i_ => List.getD [(Ty.pr (Ty.nat i)), (Ty.pr (Ty.ref [(Ty.val (Value.int .i32 ((cs.getD i D0)).1)), (Ty.lst Ty.ints ((cs.getD i D0)).2)])), (Ty.pr (Ty.agg [(Ty.val (Value.int .i32 ((cs.getD i D0)).1)), (Ty.lst Ty.ints ((cs.getD i D0)).2)])), (Pr.ownp 5 [(Ty.val (Value.int .i32 0)), (Ty.val (Value.slice none 0 0))]), (Ty.pr (Ty.nat i))] i_ Pr.any) ok9 rfl (by decide) rfl ⟨?_, ?_, ?_, ?_, ?_, trivial⟩ ?_
     · intro A B E G H; exact rP (y_move (kp (H 26 rfl) E q25))
     · intro A B E G H; exact rP (y_indexc (i := ((i : Nat) : Int)) D0 Tryd.underlying25 Tryd.inf50 (kp (H 24 rfl) E q28) (kp (H 26 rfl) E q25) (by omega) (by omega) (by decide) (fun _ => rfl))
     · intro A B E G H d0; exact rP (y_loadagg Tryd.underlying50 Tryd.inf50 (ed d0 rfl rfl rfl))
     · intro A B E G H; exact rP (y_alloc Tryd.inf50 rfl (alloc_vals (vs := [.int .i32 0, .slice none 0 0]) rfl))
     · intro A B E G H d0 d1 d2 d3 d4; exact rP (y_assign (ed d0 rfl rfl rfl))
     intro a11 s9 D9; have ok10 := D9.ok; have F10 := F9.step0 D9.stp; have q31 := D9.kt q25 rfl; have q32 := D9.kt q26 rfl; have q33 := D9.kt q27 rfl; have q34 := D9.kt q28 rfl; have q35 := D9.kt q29 rfl; have q36 := D9.dn 2 (by decide) rfl rfl
     obtain ⟨x1, hx1⟩ : ∃ x, a11.eval (.tmp 7) = x := ⟨_, rfl⟩
     have q37 : At (Ty.val x1) s9 a11 (.tmp 7) := hx1
     have o1 : OwnP s9 5 x1 [(Ty.val (Value.int .i32 0)), (Ty.val (Value.slice none 0 0))] := al2 (R := (Pr.ownp 5 [(Ty.val (Value.int .i32 0)), (Ty.val (Value.slice none 0 0))])) hx1 (D9.done 3 (by decide))
     have q38 := D9.dn 4 (by decide) rfl rfl; clear D9
     refine tailL0 (L := [5]) (R := (fun _ τ => OwnP τ 5 x1 [(Ty.val (Value.int .i32 ((cs.getD i D0)).1)), (Ty.lst Ty.ints ((cs.getD i D0)).2)])) rfl rfl (YldM.toL (m_storeagg Tryd.inf50 (by decide) o1 q37 rfl q36 (by intro U hU; simp only [List.mem_cons, List.not_mem_nil, or_false] at hU; rcases hU with rfl | rfl <;> first | exact one_val rfl | exact one_sl | exact one_ref))) (fun v1 s10 hs1 r1 => ?_)
     have F11 := F10.stepL hs1 (by decide); have q39 := kpL hs1 (by decide) rfl q31; have q40 := kpL hs1 (by decide) rfl q32; have q41 := kpL hs1 (by decide) rfl q33; have q42 := kpL hs1 (by decide) rfl q34; have q43 := kpL hs1 (by decide) rfl q35; have q44 := kpL hs1 (by decide) rfl q37; have q45 := kpL hs1 (by decide) rfl q38
     have o2 : OwnP s10 5 x1 [(Ty.val (Value.int .i32 ((cs.getD i D0)).1)), (Ty.lst Ty.ints ((cs.getD i D0)).2)] := r1
     clear r1; refine wpList_nil ?_; refine tn ?_; refine wp_seq ?_; refine wp_block ?_; refine wp_seq ?_
     refine rg a11 s10 [(Ty.val (ptrAt x1 0)), (Ty.val (Value.int .i32 ((cs.getD i D0)).1)), (Ty.bool (signMay (((cs.getD i D0)).1))), (Ty.bool (!(signMay (((cs.getD i D0)).1)))), (Ty.bool (!(signMay (((cs.getD i D0)).1))))] ok10 ⟨?_, ?_, ?_, ?_, ?_, trivial⟩ ?_
     · intro A B E G H; exact rP (ownp_field Tryd.fld50_0 Tryd.inf21 (by decide) (OwnP.k0 o2 E) (kp (H 7 rfl) E q44))
     · intro A B E G H d0; exact rP (ownp_load Tryd.underlying21 rfl (OwnP.k0 o2 E) (ed d0 rfl rfl rfl) rfl)
     · intro A B E G H d0; exact rP (y_call #[A.eval (.tmp 33)] Tryd.func6 rfl rfl (by simp only [List.map_toArray, List.map_cons, List.map_nil]) (callSign_fn (((cs.getD i D0)).1) _ _ (cvi (σ := B) (by omega) (ed d0 rfl rfl rfl)) ))
     · intro A B E G H d0; exact rP (y_not (ed d0 rfl rfl rfl))
     · intro A B E G H d0 d1; exact rP (y_assign (ed d0 rfl rfl rfl))
     intro a12 s11 D10; have ok11 := D10.ok; have F12 := F11.step0 D10.stp; have q47 := D10.kt q39 rfl; have q48 := D10.kt q40 rfl; have q49 := D10.kt q41 rfl; have q50 := D10.kt q42 rfl; have q51 := D10.kt q43 rfl; have q52 := D10.kt q44 rfl; have q53 := D10.kt q45 rfl; have o3 := OwnP.k0 o2 D10.stp; have q54 := D10.dn 4 rfl rfl; clear D10; refine tn ?_
     refine cond_t q54 (fun c4 => ?_) (fun c4 => ?_)
     ·
      have hs4 : signMay (cs.getD i D0).1 = false := (by simpa using c4); have hv := calls_at hc (by omega) (step_sign hs4) (by decide)
      refine wp_seq ?_
      refine rg a12 s11 [(Ty.int (4 : Int))] ok11 ⟨?_, trivial⟩ ?_
      · intro A B E G H; exact rP (y_assign rfl)
      intro a13 s12 D11; have ok12 := D11.ok; have F13 := F12.step0 D11.stp; have o4 := OwnP.k0 o3 D11.stp; have q55 := D11.dn 0 rfl rfl; clear D11; refine tn ?_; refine wp_ret ?_; refine br ?_; refine tr ?_; refine br ?_; refine tr ?_; refine tr ?_; refine br ?_; refine tr ?_
      exact retL1 rfl ok12 F13 (cvi (by (rw [hm]; exact hv.symm)) q55)
     ·
      have hs4 : signMay (cs.getD i D0).1 = true := (by simpa using c4)
      refine wp_seq ?_
      obtain ⟨t3, e1, h1, q56⟩ := OwnP.seal o3 (by decide)
      rw [← e1]
      have F14 := F12.step h1 (by decide); have q57 := Ty.up (Ty.nat i) (h1.le (by decide)) q47; have q58 := Ty.up (Ty.lstc 2 callC cs) (h1.le (by decide)) q48; have q59 := Ty.up (Ty.ref [(Ty.val (Value.string nm)), (Ty.int n), (Ty.lst Ty.ints l)]) (h1.le (by decide)) q49; have q60 := Ty.up (Ty.lstc 2 callC cs) (h1.le (by decide)) q50; have q61 := Ty.up (Ty.nat (List.length cs)) (h1.le (by decide)) q51
      have q62 : At (Ty.ref [(Ty.val (Value.int .i32 ((cs.getD i D0)).1)), (Ty.lst Ty.ints ((cs.getD i D0)).2)]) t3 a12 (.tmp 7) := by have e : a12.eval (.tmp 7) = x1 := q52; show Ty.has _ _ _; rw [e]; exact q56
      have q63 := Ty.up (Ty.nat i) (h1.le (by decide)) q53; have q64 := Ty.up (Ty.bool (!(signMay (((cs.getD i D0)).1)))) (h1.le (by decide)) q54
      refine reg (a := a12) (σ := t3) rfl (fun i_ => List.getD [(Ty.pr (Ty.lstc 2 callC cs)), (Ty.pr (Ty.nat i)), (Ty.pr (Ty.lstc 2 callC (cs.take i))), (Ty.pr (Ty.clo 26 [(Ty.val (Value.int .i32 ((cs.getD i D0)).1)), (Ty.lst Ty.ints ((cs.getD i D0)).2)])), (Ty.pr (Ty.bool (decide ((((cs.getD i D0)).1) ∈ ((cs.take i)).map (·.1))))), (Ty.pr (Ty.bool (decide ((((cs.getD i D0)).1) ∈ ((cs.take i)).map (·.1)))))] i_ Pr.any) ok11 rfl ⟨?_, ?_, ?_, ?_, ?_, ?_, trivial⟩ ?_
      · intro A B E G H; exact rP (y_move (kp (H 1 rfl) E q58))
      · intro A B E G H; exact rP (y_move (kp (H 6 rfl) E q63))
      · intro A B E G H d0 d1; exact rP (y_takec Tryd.underlying25 Tryd.inf50 (ed d0 rfl rfl rfl) (ed d1 rfl rfl rfl) (by omega) (fun _ => rfl))
      · intro A B E G H; exact rP (y_clo (kp (H 7 rfl) E q62))
      · intro A B E G H d0 d1; exact rP (y_call #[A.eval (.tmp 39), A.eval (.tmp 40)] Tryd.func25 rfl rfl (by simp only [List.map_toArray, List.map_cons, List.map_nil]) (hasCall_fn ((cs.take i)) (((cs.getD i D0)).1) (((cs.getD i D0)).2) _ _ _ (ed d0 rfl rfl rfl) (ed d1 rfl rfl rfl) ))
      · intro A B E G H d0 d1; exact rP (y_assign (ed d0 rfl rfl rfl))
      intro a14 s13 D12; have ok13 := D12.ok; have F15 := F14.step0 D12.stp; have q65 := D12.kt q57 rfl; have q66 := D12.kt q58 rfl; have q67 := D12.kt q59 rfl; have q68 := D12.kt q60 rfl; have q69 := D12.kt q61 rfl; have q70 := D12.kt q62 rfl; have q71 := D12.dn 5 rfl rfl; clear D12; refine tn ?_
      refine cond_t q71 (fun c5 => ?_) (fun c5 => ?_)
      ·
       have hs5 : (cs.getD i D0).1 ∈ ((cs.take i).map (·.1)) := (by simpa using c5); have hv := calls_at hc (by omega) (step_dbl hs4 hs5) (by decide)
       refine wp_seq ?_
       refine rg a14 s13 [(Ty.int (8 : Int))] ok13 ⟨?_, trivial⟩ ?_
       · intro A B E G H; exact rP (y_assign rfl)
       intro a15 s14 D13; have ok14 := D13.ok; have F16 := F15.step0 D13.stp; have q72 := D13.dn 0 rfl rfl; clear D13; refine tn ?_; refine wp_ret ?_; refine br ?_; refine tr ?_; refine br ?_; refine tr ?_; refine tr ?_; refine br ?_; refine tr ?_
       exact retL1 rfl ok14 F16 (cvi (by (rw [hm]; exact hv.symm)) q72)
      ·
       have hs5 : (cs.getD i D0).1 ∉ ((cs.take i).map (·.1)) := (by simpa using c5)
       refine wp_seq ?_
       refine rg a14 s13 [(Ty.ref [(Ty.lst Ty.ints ((cs.getD i D0)).2)]), (Ty.lst Ty.ints ((cs.getD i D0)).2), (Ty.nat (List.length ((cs.getD i D0)).2)), (Ty.ref [(Ty.lst Ty.ints l)]), (Ty.lst Ty.ints l), (Ty.nat (List.length l)), (Ty.bool (decide ((((List.length l) : Nat) : Int) < (((List.length ((cs.getD i D0)).2) : Nat) : Int)))), (Ty.bool (decide ((((List.length l) : Nat) : Int) < (((List.length ((cs.getD i D0)).2) : Nat) : Int))))] ok13 ⟨?_, ?_, ?_, ?_, ?_, ?_, ?_, ?_, trivial⟩ ?_
       · intro A B E G H; exact rP (y_field Tryd.fld50_1 Tryd.inf22 (by decide) (kp (H 7 rfl) E q70) rfl)
       · intro A B E G H d0; exact rP (y_load Tryd.underlying22 rfl (ed d0 rfl rfl rfl) rfl)
       · intro A B E G H d0; exact rP (y_len Tryd.underlying22 (ed d0 rfl rfl rfl))
       · intro A B E G H; exact rP (y_field Tryd.fld24_2 Tryd.inf22 (by decide) (kp (H 2 rfl) E q67) rfl)
       · intro A B E G H d0; exact rP (y_load Tryd.underlying22 rfl (ed d0 rfl rfl rfl) rfl)
       · intro A B E G H d0; exact rP (y_len Tryd.underlying22 (ed d0 rfl rfl rfl))
       · intro A B E G H d0 d1; exact rP (y_gtr (ed d0 rfl rfl rfl) (ed d1 rfl rfl rfl))
       · intro A B E G H d0; exact rP (y_assign (ed d0 rfl rfl rfl))
       intro a16 s15 D14; have ok15 := D14.ok; have F17 := F15.step0 D14.stp; have q73 := D14.kt q65 rfl; have q74 := D14.kt q66 rfl; have q75 := D14.kt q67 rfl; have q76 := D14.kt q68 rfl; have q77 := D14.kt q69 rfl; have q78 := D14.kt q70 rfl; have q79 := D14.dn 7 rfl rfl; clear D14; refine tn ?_
       refine cond_p (p := ((((List.length l) : Nat) : Int) < (((List.length ((cs.getD i D0)).2) : Nat) : Int))) q79 (fun c6 => ?_) (fun c6 => ?_)
       ·
        have hs6 : l.length < (cs.getD i D0).2.length := (by omega); have hv := calls_at hc (by omega) (step_long hs4 hs5 hs6) (by decide)
        refine wp_seq ?_
        refine rg a16 s15 [(Ty.int (1 : Int))] ok15 ⟨?_, trivial⟩ ?_
        · intro A B E G H; exact rP (y_assign rfl)
        intro a17 s16 D15; have ok16 := D15.ok; have F18 := F17.step0 D15.stp; have q80 := D15.dn 0 rfl rfl; clear D15; refine tn ?_; refine wp_ret ?_; refine br ?_; refine tr ?_; refine br ?_; refine tr ?_; refine tr ?_; refine br ?_; refine tr ?_
        exact retL1 rfl ok16 F18 (cvi (by (rw [hm]; exact hv.symm)) q80)
       ·
        have hs6 : ¬ l.length < (cs.getD i D0).2.length := (by omega)
        refine wp_skip ?_; refine bn ?_; refine tn ?_; refine wp_seq ?_
        refine rg a16 s15 [(Ty.ref [(Ty.lst Ty.ints ((cs.getD i D0)).2)]), (Ty.lst Ty.ints ((cs.getD i D0)).2), (Ty.nat (List.length ((cs.getD i D0)).2)), (Ty.int (0 : Int))] ok15 ⟨?_, ?_, ?_, ?_, trivial⟩ ?_
        · intro A B E G H; exact rP (y_field Tryd.fld50_1 Tryd.inf22 (by decide) (kp (H 7 rfl) E q78) rfl)
        · intro A B E G H d0; exact rP (y_load Tryd.underlying22 rfl (ed d0 rfl rfl rfl) rfl)
        · intro A B E G H d0; exact rP (y_len Tryd.underlying22 (ed d0 rfl rfl rfl))
        · intro A B E G H; exact rP (y_move rfl)
        intro a18 s17 D16; have ok17 := D16.ok; have F19 := F17.step0 D16.stp; have q81 := D16.kt q73 rfl; have q82 := D16.kt q74 rfl; have q83 := D16.kt q75 rfl; have q84 := D16.kt q76 rfl; have q85 := D16.kt q77 rfl; have q86 := D16.dn 1 rfl rfl
        have b2 := sl_le q86
        have q87 := D16.dn 2 rfl rfl; have q88 := D16.dn 3 rfl rfl; clear D16; refine tn ?_; refine wp_block ?_
        refine loop (fun n3 a19 w3 => ∃ (t4 : GW) (k : Nat), t4.w = w3 ∧ FromL [] s0 t4 ∧ Ok 66 a19 ∧ At (Ty.nat k) t4 a19 (.tmp 53) ∧ At (Ty.nat i) t4 a19 (.tmp 26) ∧ At (Ty.lstc 2 callC cs) t4 a19 (.tmp 1) ∧ At (Ty.ref [(Ty.val (Value.string nm)), (Ty.int n), (Ty.lst Ty.ints l)]) t4 a19 (.tmp 2) ∧ At (Ty.lstc 2 callC cs) t4 a19 (.tmp 24) ∧ At (Ty.nat (List.length cs)) t4 a19 (.tmp 25) ∧ At (Ty.lst Ty.ints ((cs.getD i D0)).2) t4 a19 (.tmp 51) ∧ At (Ty.nat (List.length ((cs.getD i D0)).2)) t4 a19 (.tmp 52) ∧ (k ≤ (cs.getD i D0).2.length) ∧ (allMay n ((cs.getD i D0).2.drop k) = allMay n (cs.getD i D0).2) ∧ n3 = (cs.getD i D0).2.length - k) ((cs.getD i D0).2.length - (0)) ?_ ?_
        ·
         exact ⟨s17, 0, rfl, F19, ok17, (cvi (by (first | rfl | omega | (simp_all; done) | (simp_all; omega))) q88), q81, q82, q83, q84, q85, q86, q87, by omega, rfl, rfl⟩
        ·
         rintro n4 a20 w4 ⟨t5, k, rfl, F20, ok18, q89, q90, q91, q92, q93, q94, q95, q96, hk, ha, rfl⟩
         refine wp_seq ?_
         refine reg (a := a20) (σ := t5) rfl (fun i_ => List.getD [(Ty.pr (Ty.bool (decide (((k : Nat) : Int) < (((List.length ((cs.getD i D0)).2) : Nat) : Int)))))] i_ Pr.any) ok18 rfl ⟨?_, trivial⟩ ?_
         · intro A B E G H; exact rP (y_lss (kp (H 53 rfl) E q89) (kp (H 52 rfl) E q96))
         intro a21 s18 D17; have ok19 := D17.ok; have F21 := F20.step0 D17.stp; have q97 := D17.kt q89 rfl; have q98 := D17.kt q90 rfl; have q99 := D17.kt q91 rfl; have q100 := D17.kt q92 rfl; have q101 := D17.kt q93 rfl; have q102 := D17.kt q94 rfl; have q103 := D17.kt q95 rfl; have q104 := D17.kt q96 rfl; have q105 := D17.dn 0 rfl rfl; clear D17; refine tn ?_; refine wp_seq ?_
         refine cond_p (p := (((k : Nat) : Int) < (((List.length ((cs.getD i D0)).2) : Nat) : Int))) q105 (fun c7 => ?_) (fun c7 => ?_)
         ·
          refine wp_skip ?_; refine tn ?_; refine wp_seq ?_; refine wp_block ?_; refine wp_seq ?_
          refine rg a21 s18 [(Ty.ref [(Ty.lst Ty.int (((cs.getD i D0)).2.getD k []))]), (Ty.lst Ty.int (((cs.getD i D0)).2.getD k [])), (Ty.lst Ty.int (((cs.getD i D0)).2.getD k []))] ok19 ⟨?_, ?_, ?_, trivial⟩ ?_
          · intro A B E G H; exact rP (y_index1 Tryd.underlying22 Tryd.inf26 (kp (H 51 rfl) E q103) (kp (H 53 rfl) E q97) (by omega) (lst_get Ty.ints ((cs.getD i D0)).2 [] k (by omega)))
          · intro A B E G H d0; exact rP (y_load Tryd.underlying26 rfl (ed d0 rfl rfl rfl) rfl)
          · intro A B E G H d0 d1 d2; exact rP (y_assign (ed d0 rfl rfl rfl))
          intro a22 s19 D18; have ok20 := D18.ok; have F22 := F21.step0 D18.stp; have q106 := D18.kt q97 rfl; have q107 := D18.kt q98 rfl; have q108 := D18.kt q99 rfl; have q109 := D18.kt q100 rfl; have q110 := D18.kt q101 rfl; have q111 := D18.kt q102 rfl; have q112 := D18.kt q103 rfl; have q113 := D18.kt q104 rfl; have q114 := D18.dn 2 rfl rfl; clear D18; refine tn ?_; refine wp_seq ?_
          refine rg a22 s19 [(Ty.ref [(Ty.int n), (Ty.lst Ty.ints l)]), (Ty.int n), (Ty.lst Ty.int (((cs.getD i D0)).2.getD k [])), (Ty.int (chgMay n ((((cs.getD i D0)).2.getD k [])))), (Ty.int (chgMay n ((((cs.getD i D0)).2.getD k []))))] ok20 ⟨?_, ?_, ?_, ?_, ?_, trivial⟩ ?_
          · intro A B E G H; exact rP (y_field Tryd.fld24_1 Tryd.inf3 (by decide) (kp (H 2 rfl) E q109) rfl)
          · intro A B E G H d0; exact rP (y_load Tryd.underlying3 rfl (ed d0 rfl rfl rfl) rfl)
          · intro A B E G H; exact rP (y_move (kp (H 9 rfl) E q114))
          · intro A B E G H d0 d1; exact rP (y_call #[A.eval (.tmp 58), A.eval (.tmp 59)] Tryd.func27 rfl rfl (by simp only [List.map_toArray, List.map_cons, List.map_nil]) (pCheck_fn (n) ((((cs.getD i D0)).2.getD k [])) _ _ _ (ed d0 rfl rfl rfl) (ed d1 rfl rfl rfl) (by omega)))
          · intro A B E G H d0 d1 d2 d3 d4 d5; exact rP (y_assign (ed d0 rfl rfl rfl))
          intro a23 s20 D19; have ok21 := D19.ok; have F23 := F22.step0 D19.stp; have q115 := D19.kt q106 rfl; have q116 := D19.kt q107 rfl; have q117 := D19.kt q108 rfl; have q118 := D19.kt q109 rfl; have q119 := D19.kt q110 rfl; have q120 := D19.kt q111 rfl; have q121 := D19.kt q112 rfl; have q122 := D19.kt q113 rfl; have q123 := D19.dn 4 rfl rfl; clear D19; refine tn ?_; refine wp_seq ?_
          refine rg a23 s20 [(Ty.int (chgMay n ((((cs.getD i D0)).2.getD k [])))), (Ty.bool (decide ((chgMay n ((((cs.getD i D0)).2.getD k []))) ≠ (0 : Int))))] ok21 ⟨?_, ?_, trivial⟩ ?_
          · intro A B E G H; exact rP (y_move (kp (H 10 rfl) E q123))
          · intro A B E G H d0; exact rP (y_neq (ed d0 rfl rfl rfl) rfl)
          intro a24 s21 D20; have ok22 := D20.ok; have F24 := F23.step0 D20.stp; have q124 := D20.kt q115 rfl; have q125 := D20.kt q116 rfl; have q126 := D20.kt q117 rfl; have q127 := D20.kt q118 rfl; have q128 := D20.kt q119 rfl; have q129 := D20.kt q120 rfl; have q130 := D20.kt q121 rfl; have q131 := D20.kt q122 rfl; have q132 := D20.kt q123 rfl; have q133 := D20.dn 1 rfl rfl; clear D20; refine tn ?_
          refine cond_p (p := ((chgMay n ((((cs.getD i D0)).2.getD k []))) ≠ (0 : Int))) q133 (fun c8 => ?_) (fun c8 => ?_)
          ·
           have hae := allMay_stop ha (by omega) c8; have hv := calls_at hc (by omega) ((step_all hs4 hs5 hs6).trans hae) c8
           refine wp_seq ?_
           refine rg a24 s21 [(Ty.int (chgMay n ((((cs.getD i D0)).2.getD k [])))), (Ty.int (chgMay n ((((cs.getD i D0)).2.getD k []))))] ok22 ⟨?_, ?_, trivial⟩ ?_
           · intro A B E G H; exact rP (y_move (kp (H 10 rfl) E q132))
           · intro A B E G H d0 d1; exact rP (y_assign (ed d0 rfl rfl rfl))
           intro a25 s22 D21; have ok23 := D21.ok; have F25 := F24.step0 D21.stp; have q134 := D21.dn 1 rfl rfl; clear D21; refine tn ?_; refine wp_ret ?_; refine br ?_; refine tr ?_; refine tr ?_; refine br ?_; refine br ?_; refine tr ?_; refine tr ?_; refine br ?_; refine tr ?_
           exact retL1 rfl ok23 F25 (cvi (by (rw [hm]; exact hv.symm)) q134)
          ·
           refine wp_skip ?_; refine bn ?_; refine tn ?_
           refine rg a24 s21 [(Ty.nat (k + 1)), (Ty.nat (k + 1))] ok22 ⟨?_, ?_, trivial⟩ ?_
           · intro A B E G H; exact rP ((y_add (kp (H 53 rfl) E q124) rfl (w64 (by omega) (by omega))).mono (fun τ _ h => cvi (σ := τ) (by first | omega | exact (Int.natCast_mul _ _).symm) h))
           · intro A B E G H d0; exact rP (y_move (ed d0 rfl rfl rfl))
           intro a26 s23 D22; have ok24 := D22.ok; have F26 := F24.step0 D22.stp; have q135 := D22.kt q125 rfl; have q136 := D22.kt q126 rfl; have q137 := D22.kt q127 rfl; have q138 := D22.kt q128 rfl; have q139 := D22.kt q129 rfl; have q140 := D22.kt q130 rfl; have q141 := D22.kt q131 rfl; have q142 := D22.dn 1 rfl rfl; clear D22
           exact tn ⟨(cs.getD i D0).2.length - ((k+1)), by omega, s23, (k+1), rfl, F26, ok24, (cvi (by (first | rfl | omega | (simp_all; done) | (simp_all; omega))) q142), q135, q136, q137, q138, q139, q140, q141, by omega, allMay_step ha (by omega) (by assumption), rfl⟩
         ·
          have ha0 := allMay_end ha (by omega)
          refine wp_exit ?_; refine tx ?_; refine tx ?_; refine bx ?_; refine bn ?_; refine tn ?_
          refine rg a21 s18 [(Ty.nat (i + 1)), (Ty.nat (i + 1))] ok19 ⟨?_, ?_, trivial⟩ ?_
          · intro A B E G H; exact rP ((y_add (kp (H 26 rfl) E q98) rfl (w64 (by omega) (by omega))).mono (fun τ _ h => cvi (σ := τ) (by first | omega | exact (Int.natCast_mul _ _).symm) h))
          · intro A B E G H d0; exact rP (y_move (ed d0 rfl rfl rfl))
          intro a27 s24 D23; have ok25 := D23.ok; have F27 := F21.step0 D23.stp; have q143 := D23.kt q99 rfl; have q144 := D23.kt q100 rfl; have q145 := D23.kt q101 rfl; have q146 := D23.kt q102 rfl; have q147 := D23.dn 1 rfl rfl; clear D23
          exact tn ⟨cs.length - ((i+1)), by omega, s24, (i+1), rfl, F27, ok25, (cvi (by (first | rfl | omega | (simp_all; done) | (simp_all; omega))) q147), q143, q144, q145, q146, by omega, calls_step hc (by omega) (by rw [step_all hs4 hs5 hs6]; exact ha0), rfl⟩
    ·
     refine wp_exit ?_; refine tx ?_; refine tx ?_; refine bx ?_; refine tn ?_; refine wp_seq ?_
     refine rg a10 s8 [(Ty.int (0 : Int))] ok9 ⟨?_, trivial⟩ ?_
     · intro A B E G H; exact rP (y_assign rfl)
     intro a28 s25 D24; have ok26 := D24.ok; have F28 := F9.step0 D24.stp; have q148 := D24.dn 0 rfl rfl; clear D24; refine tn ?_; refine wp_ret ?_
     exact retL1 rfl ok26 F28 (cvi (by (rw [hm]; exact (calls_end hc (by omega)).symm)) q148)


end Go.Proofs.YtbilebfnanlgfaaDoor
