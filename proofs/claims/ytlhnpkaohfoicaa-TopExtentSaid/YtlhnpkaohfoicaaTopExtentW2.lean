/- The functions that the law TopExtent reaches, each by its contract. Part 2. -/
import Derived.Test.YtlhnpkaohfoicaaTopExtentW1
namespace Go.Proofs.Ytlhnpkaohfoicaa
open Go.KL

set_option maxRecDepth 100000 in
theorem product_fn (a : List Int) (b : List Int) (σ : GW) (v0 v1 : Value) (hv0 : Ty.has (Ty.lst Ty.int a) σ v0) (hv1 : Ty.has (Ty.lst Ty.int b) σ v1) (hl : a.length = b.length) (hbd : ∀ i, i < b.length → 0 ≤ b.getD i 0 ∧ b.getD i 0 < a.length) (hs : a.length ≤ 1000000) :
    FnC Try.prog 98 #[v0, v1] σ (Ty.lst Ty.int (byL a b)) := by
 refine fn_intro Try.func98 rfl Try.ntmps98 (Nat.le_of_ble_eq_true rfl) (fun s0 a0 hle F0 ok0 hargs => ?_)
 have p0 : At (Ty.lst Ty.int a) s0 a0 (.tmp 0) := by have e := hargs 0 _ rfl; show Ty.has _ _ _; rw [e]; exact Ty.up _ hle hv0
 have b1 := sl_le p0
 have p1 : At (Ty.lst Ty.int b) s0 a0 (.tmp 1) := by have e := hargs 1 _ rfl; show Ty.has _ _ _; rw [e]; exact Ty.up _ hle hv1
 have b2 := sl_le p1
 clear hargs
 refine wp_seq ?_
 refine reg (a := a0) (σ := s0) rfl (fun i_ => List.getD [(Ty.pr (Ty.val (Value.slice none 0 0)))] i_ Pr.any) ok0 rfl ⟨?_, trivial⟩ ?_
 · intro ax tx hs okx sm
   exact run_plain rfl (y_assign rfl)
 intro a1 s1 D1
 have ok1 := D1.ok
 have F1 := F0.step0 D1.stp
 have q1 : At (Ty.lst Ty.int a) s1 a1 (.tmp 0) := D1.kt p0 rfl
 have q2 : At (Ty.lst Ty.int b) s1 a1 (.tmp 1) := D1.kt p1 rfl
 clear D1
 refine tn ?_
 refine wp_seq ?_
 refine reg (a := a1) (σ := s1) rfl (fun i_ => List.getD [(Ty.pr (Ty.lst Ty.int a)), (Ty.pr (Ty.nat (List.length a))), (Pr.own 11 3 1 (List.length a) (List.map Ty.int (List.replicate (List.length a) 0))), (Pr.own 11 3 1 (List.length a) (List.map Ty.int (List.replicate (List.length a) 0)))] i_ Pr.any) ok1 rfl ⟨?_, ?_, ?_, ?_, trivial⟩ ?_
 · intro ax tx hs okx sm
   exact run_plain rfl (y_move (kp (sm 0 rfl) hs q1))
 · intro ax tx hs okx sm d0
   have e0 : At (Ty.lst Ty.int a) tx ax (.tmp 8) := d0 rfl
   exact run_plain rfl (y_len Try.underlying34 e0)
 · intro ax tx hs okx sm d0 d1
   have e1 : At (Ty.nat (List.length a)) tx ax (.tmp 9) := d0 rfl
   exact run_plain rfl ((y_make (k := 11) (T := Ty.int 0) (n := (List.length a)) Try.underlying34 Try.inf3 rfl (fun _ => rfl) e1 e1 (by omega) (by omega)).mono (fun _ _ h => cvo (by simp) (by simp) h))
 · intro ax tx hs okx sm d0 d1 d2 d3
   have e2 : (Pr.own 11 3 1 (List.length a) (List.map Ty.int (List.replicate (List.length a) 0))).has tx (ax.eval (.tmp 10)) := d0 rfl
   have e0 : At (Ty.lst Ty.int a) tx ax (.tmp 8) := d1 rfl
   have e1 : At (Ty.nat (List.length a)) tx ax (.tmp 9) := d2 rfl
   exact run_plain rfl (y_assign e2)
 intro a2 s2 D2
 have ok2 := D2.ok
 have F2 := F1.step0 D2.stp
 have q3 : At (Ty.lst Ty.int a) s2 a2 (.tmp 0) := D2.kt q1 rfl
 have q4 : At (Ty.lst Ty.int b) s2 a2 (.tmp 1) := D2.kt q2 rfl
 have q5 : (Pr.own 11 3 1 (List.length a) (List.map Ty.int (List.replicate (List.length a) 0))).has s2 (a2.eval (.tmp 5)) := D2.done 3
 clear D2
 refine tn ?_
 refine wp_seq ?_
 refine wp_seq ?_
 refine reg (a := a2) (σ := s2) rfl (fun i_ => List.getD [(Ty.pr (Ty.lst Ty.int b)), (Ty.pr (Ty.nat (List.length b))), (Ty.pr (Ty.int (0 : Int)))] i_ Pr.any) ok2 rfl ⟨?_, ?_, ?_, trivial⟩ ?_
 · intro ax tx hs okx sm
   exact run_plain rfl (y_move (kp (sm 1 rfl) hs q4))
 · intro ax tx hs okx sm d0
   have e0 : At (Ty.lst Ty.int b) tx ax (.tmp 11) := d0 rfl
   exact run_plain rfl (y_len Try.underlying34 e0)
 · intro ax tx hs okx sm
   exact run_plain rfl (y_move rfl)
 intro a3 s3 D3
 have ok3 := D3.ok
 have F3 := F2.step0 D3.stp
 have q6 : At (Ty.lst Ty.int a) s3 a3 (.tmp 0) := D3.kt q3 rfl
 have q7 : (Pr.own 11 3 1 (List.length a) (List.map Ty.int (List.replicate (List.length a) 0))).has s3 (a3.eval (.tmp 5)) := D3.ko q5 rfl
 have q8 : At (Ty.lst Ty.int b) s3 a3 (.tmp 11) := D3.done 0
 have q9 : At (Ty.nat (List.length b)) s3 a3 (.tmp 12) := D3.done 1
 have q10 : At (Ty.int (0 : Int)) s3 a3 (.tmp 13) := D3.done 2
 clear D3
 refine tn ?_
 refine wp_block ?_
 refine loop (fun n1 a4 w1 => ∃ (t1 : GW) (k : Nat), t1.w = w1 ∧ From s0 t1 ∧ Ok 27 a4 ∧ At (Ty.nat k) t1 a4 (.tmp 13) ∧ (Pr.own 11 3 1 (List.length (byTo a b k)) (List.map Ty.int (byTo a b k))).has t1 (a4.eval (.tmp 5)) ∧ At (Ty.lst Ty.int a) t1 a4 (.tmp 0) ∧ At (Ty.lst Ty.int b) t1 a4 (.tmp 11) ∧ At (Ty.nat (List.length b)) t1 a4 (.tmp 12) ∧ (k ≤ b.length) ∧ n1 = b.length - k) (b.length - (0)) ?_ ?_
 ·
  exact ⟨s3, 0, rfl, F3, ok3, (cvi (by (first | rfl | omega | (simp_all; done) | (simp_all; omega))) q10), (cvo (by (simp [byTo_zero])) (by (simp [byTo_zero])) q7), q6, q8, q9, by omega, rfl⟩
 ·
  rintro n2 a5 w2 ⟨t2, k, rfl, F4, ok4, q11, q12, q13, q14, q15, hk, rfl⟩
  have hp := byTo_len a b k
  refine wp_seq ?_
  refine reg (a := a5) (σ := t2) rfl (fun i_ => List.getD [(Ty.pr (Ty.bool (decide (((k : Nat) : Int) < (((List.length b) : Nat) : Int)))))] i_ Pr.any) ok4 rfl ⟨?_, trivial⟩ ?_
  · intro ax tx hs okx sm
    exact run_plain rfl (y_lss (kp (sm 13 rfl) hs q11) (kp (sm 12 rfl) hs q15))
  intro a6 s4 D4
  have ok5 := D4.ok
  have F5 := F4.step0 D4.stp
  have q16 : At (Ty.nat k) s4 a6 (.tmp 13) := D4.kt q11 rfl
  have q17 : (Pr.own 11 3 1 (List.length (byTo a b k)) (List.map Ty.int (byTo a b k))).has s4 (a6.eval (.tmp 5)) := D4.ko q12 rfl
  have q18 : At (Ty.lst Ty.int a) s4 a6 (.tmp 0) := D4.kt q13 rfl
  have q19 : At (Ty.lst Ty.int b) s4 a6 (.tmp 11) := D4.kt q14 rfl
  have q20 : At (Ty.nat (List.length b)) s4 a6 (.tmp 12) := D4.kt q15 rfl
  have q21 : At (Ty.bool (decide (((k : Nat) : Int) < (((List.length b) : Nat) : Int)))) s4 a6 (.tmp 14) := D4.done 0
  clear D4
  refine tn ?_
  refine wp_seq ?_
  refine cond_p (p := (((k : Nat) : Int) < (((List.length b) : Nat) : Int))) q21 (fun c1 => ?_) (fun c1 => ?_)
  ·
   have hq := hbd k (by omega)
   refine wp_skip ?_
   refine tn ?_
   refine wp_seq ?_
   refine wp_block ?_
   refine wp_seq ?_
   refine reg (a := a6) (σ := s4) rfl (fun i_ => List.getD [(Ty.pr (Ty.nat k)), (Ty.pr (Ty.ref [(Ty.int (b.getD k 0))])), (Ty.pr (Ty.int (b.getD k 0))), (Ty.pr (Ty.nat k)), (Ty.pr (Ty.int (b.getD k 0)))] i_ Pr.any) ok5 rfl ⟨?_, ?_, ?_, ?_, ?_, trivial⟩ ?_
   · intro ax tx hs okx sm
     exact run_plain rfl (y_move (kp (sm 13 rfl) hs q16))
   · intro ax tx hs okx sm
     exact run_plain rfl (y_index1 Try.underlying34 Try.inf3 (kp (sm 11 rfl) hs q19) (kp (sm 13 rfl) hs q16) (by omega) (lst_get Ty.int b 0 k (by omega)))
   · intro ax tx hs okx sm d0
     have e1 : At (Ty.ref [(Ty.int (b.getD k 0))]) tx ax (.tmp 16) := d0 rfl
     exact run_plain rfl (y_load Try.underlying3 rfl e1 rfl)
   · intro ax tx hs okx sm d0 d1 d2 d3
     have e0 : At (Ty.nat k) tx ax (.tmp 15) := d0 rfl
     have e1 : At (Ty.ref [(Ty.int (b.getD k 0))]) tx ax (.tmp 16) := d2 rfl
     have e2 : At (Ty.int (b.getD k 0)) tx ax (.tmp 17) := d3 rfl
     exact run_plain rfl (y_assign e0)
   · intro ax tx hs okx sm d0 d1 d2 d3 d4 d5
     have e2 : At (Ty.int (b.getD k 0)) tx ax (.tmp 17) := d0 rfl
     have e3 : At (Ty.nat k) tx ax (.tmp 6) := d1 rfl
     have e0 : At (Ty.nat k) tx ax (.tmp 15) := d2 rfl
     have e1 : At (Ty.ref [(Ty.int (b.getD k 0))]) tx ax (.tmp 16) := d3 rfl
     exact run_plain rfl (y_assign e2)
   intro a7 s5 D5
   have ok6 := D5.ok
   have F6 := F5.step0 D5.stp
   have q22 : At (Ty.nat k) s5 a7 (.tmp 13) := D5.kt q16 rfl
   have q23 : (Pr.own 11 3 1 (List.length (byTo a b k)) (List.map Ty.int (byTo a b k))).has s5 (a7.eval (.tmp 5)) := D5.ko q17 rfl
   have q24 : At (Ty.lst Ty.int a) s5 a7 (.tmp 0) := D5.kt q18 rfl
   have q25 : At (Ty.lst Ty.int b) s5 a7 (.tmp 11) := D5.kt q19 rfl
   have q26 : At (Ty.nat (List.length b)) s5 a7 (.tmp 12) := D5.kt q20 rfl
   have q27 : At (Ty.nat k) s5 a7 (.tmp 6) := D5.done 3
   have q28 : At (Ty.int (b.getD k 0)) s5 a7 (.tmp 7) := D5.done 4
   clear D5
   refine tn ?_
   refine reg2 (a := a7) (σ := s5) rfl 7 (fun i_ => List.getD [(Ty.pr (Ty.val (a7.eval (.tmp 5)))), (Ty.pr (Ty.nat k)), (Ty.pr (Ty.lst Ty.int a)), (Ty.pr (Ty.int (b.getD k 0))), (Ty.pr (Ty.ref [(Ty.int (a.getD ((b.getD k 0)).toNat 0))])), (Ty.pr (Ty.int (a.getD ((b.getD k 0)).toNat 0))), (Ty.pr (Ty.val (cellPtr (a7.eval (.tmp 5)) k)))] i_ Pr.any) ok6 rfl (by decide) rfl ⟨?_, ?_, ?_, ?_, ?_, ?_, ?_, trivial⟩ ?_
   · intro ax tx hs okx sm
     exact run_plain rfl (y_move (sm 5 rfl))
   · intro ax tx hs okx sm
     exact run_plain rfl (y_move (kp (sm 6 rfl) hs q27))
   · intro ax tx hs okx sm
     exact run_plain rfl (y_move (kp (sm 0 rfl) hs q24))
   · intro ax tx hs okx sm
     exact run_plain rfl (y_move (kp (sm 7 rfl) hs q28))
   · intro ax tx hs okx sm d0 d1
     have e2 : At (Ty.lst Ty.int a) tx ax (.tmp 20) := d0 rfl
     have e3 : At (Ty.int (b.getD k 0)) tx ax (.tmp 21) := d1 rfl
     exact run_plain rfl (y_index1 Try.underlying34 Try.inf3 e2 e3 (by omega) (lst_get Ty.int a 0 ((b.getD k 0)).toNat (by omega)))
   · intro ax tx hs okx sm d0
     have e4 : At (Ty.ref [(Ty.int (a.getD ((b.getD k 0)).toNat 0))]) tx ax (.tmp 22) := d0 rfl
     exact run_plain rfl (y_load Try.underlying3 rfl e4 rfl)
   · intro ax tx hs okx sm d0 d1 d2 d3 d4 d5 d6 d7
     have e0 : At (Ty.val (a7.eval (.tmp 5))) tx ax (.tmp 18) := d0 rfl
     have e1 : At (Ty.nat k) tx ax (.tmp 19) := d1 rfl
     have e2 : At (Ty.lst Ty.int a) tx ax (.tmp 20) := d4 rfl
     have e3 : At (Ty.int (b.getD k 0)) tx ax (.tmp 21) := d5 rfl
     have e4 : At (Ty.ref [(Ty.int (a.getD ((b.getD k 0)).toNat 0))]) tx ax (.tmp 22) := d6 rfl
     have e5 : At (Ty.int (a.getD ((b.getD k 0)).toNat 0)) tx ax (.tmp 23) := d7 rfl
     exact run_plain rfl (own_index1 (i := ((k : Nat) : Int)) Try.underlying34 Try.inf3 ((Pr.own 11 3 1 (List.length (byTo a b k)) (List.map Ty.int (byTo a b k))).up hs q23) e0 e1 (by omega) (by omega))
   intro a8 s6 D6
   have ok7 := D6.ok
   have F7 := F6.step0 D6.stp
   have q29 := (Pr.own 11 3 1 (List.length (byTo a b k)) (List.map Ty.int (byTo a b k))).up D6.stp q23
   have q30 : At (Ty.nat k) s6 a8 (.tmp 13) := D6.kt q22 rfl
   have q31 : a8.eval (.tmp 5) = a7.eval (.tmp 5) := D6.same 5 rfl
   have q32 : At (Ty.lst Ty.int a) s6 a8 (.tmp 0) := D6.kt q24 rfl
   have q33 : At (Ty.lst Ty.int b) s6 a8 (.tmp 11) := D6.kt q25 rfl
   have q34 : At (Ty.nat (List.length b)) s6 a8 (.tmp 12) := D6.kt q26 rfl
   have q35 : At (Ty.int (a.getD ((b.getD k 0)).toNat 0)) s6 a8 (.tmp 23) := D6.done 5 (by decide)
   have q36 : At (Ty.val (cellPtr (a7.eval (.tmp 5)) k)) s6 a8 (.tmp 24) := D6.done 6 (by decide)
   clear D6
   refine tail_step0 (m := 11) (R := (fun _ τ => Own τ 11 3 1 (a7.eval (.tmp 5)) (List.length (byTo a b k)) ((List.map Ty.int (byTo a b k)).set k (Ty.int (a.getD ((b.getD k 0)).toNat 0))))) rfl rfl (m_store Try.inf3 (by decide) q29 q36 (by simp only [List.length_map, List.length_set]; omega) q35 (one_val rfl)) (fun v1 s7 hs1 r1 => ?_)
   have F8 := F7.step hs1 (by decide)
   have q37 : At (Ty.nat k) s7 a8 (.tmp 13) := kpm hs1 (by decide) rfl q30
   have q38 : At (Ty.lst Ty.int a) s7 a8 (.tmp 0) := kpm hs1 (by decide) rfl q32
   have q39 : At (Ty.lst Ty.int b) s7 a8 (.tmp 11) := kpm hs1 (by decide) rfl q33
   have q40 : At (Ty.nat (List.length b)) s7 a8 (.tmp 12) := kpm hs1 (by decide) rfl q34
   have q41 : At (Ty.int (a.getD ((b.getD k 0)).toNat 0)) s7 a8 (.tmp 23) := kpm hs1 (by decide) rfl q35
   have q42 : (Pr.own 11 3 1 (List.length ((byTo a b k).set k (a.getD ((b.getD k 0)).toNat 0))) (List.map Ty.int ((byTo a b k).set k (a.getD ((b.getD k 0)).toNat 0)))).has s7 (a7.eval (.tmp 5)) := (cvo (by simp) (by simp) r1)
   refine wpList_nil ?_
   have q43 : (Pr.own 11 3 1 (List.length ((byTo a b k).set k (a.getD ((b.getD k 0)).toNat 0))) (List.map Ty.int ((byTo a b k).set k (a.getD ((b.getD k 0)).toNat 0)))).has s7 (a8.eval (.tmp 5)) := al q31 q42
   refine bn ?_
   refine tn ?_
   refine reg (a := a8) (σ := s7) rfl (fun i_ => List.getD [(Ty.pr (Ty.int (((k : Nat) : Int) + (1 : Int)))), (Ty.pr (Ty.int (((k : Nat) : Int) + (1 : Int))))] i_ Pr.any) ok7 rfl ⟨?_, ?_, trivial⟩ ?_
   · intro ax tx hs okx sm
     exact run_plain rfl (y_add (kp (sm 13 rfl) hs q37) rfl (w64 (by omega) (by omega)))
   · intro ax tx hs okx sm d0
     have e0 : At (Ty.int (((k : Nat) : Int) + (1 : Int))) tx ax (.tmp 25) := d0 rfl
     exact run_plain rfl (y_move e0)
   intro a10 s8 D7
   have ok9 := D7.ok
   have F9 := F8.step0 D7.stp
   have q44 : (Pr.own 11 3 1 (List.length ((byTo a b k).set k (a.getD ((b.getD k 0)).toNat 0))) (List.map Ty.int ((byTo a b k).set k (a.getD ((b.getD k 0)).toNat 0)))).has s8 (a10.eval (.tmp 5)) := D7.ko q43 rfl
   have q45 : At (Ty.lst Ty.int a) s8 a10 (.tmp 0) := D7.kt q38 rfl
   have q46 : At (Ty.lst Ty.int b) s8 a10 (.tmp 11) := D7.kt q39 rfl
   have q47 : At (Ty.nat (List.length b)) s8 a10 (.tmp 12) := D7.kt q40 rfl
   have q48 : At (Ty.int (((k : Nat) : Int) + (1 : Int))) s8 a10 (.tmp 13) := D7.done 1
   clear D7
   exact tn ⟨b.length - ((k+1)), by omega, s8, (k+1), rfl, F9, ok9, (cvi (by (first | rfl | omega | (simp_all; done) | (simp_all; omega))) q48), (cvo (by (rw [byTo_step a b k])) (by (rw [byTo_step a b k])) q44), q45, q46, q47, by omega, rfl⟩
  ·
   refine wp_exit ?_
   refine tx ?_
   refine tx ?_
   refine bx ?_
   refine tn ?_
   refine wp_seq ?_
   refine reg (a := a6) (σ := s4) rfl (fun i_ => List.getD [(Ty.pr (Ty.val (a6.eval (.tmp 5)))), (Ty.pr (Ty.val (a6.eval (.tmp 5))))] i_ Pr.any) ok5 rfl ⟨?_, ?_, trivial⟩ ?_
   · intro ax tx hs okx sm
     exact run_plain rfl (y_move (sm 5 rfl))
   · intro ax tx hs okx sm d0 d1
     have e0 : At (Ty.val (a6.eval (.tmp 5))) tx ax (.tmp 26) := d0 rfl
     exact run_plain rfl (y_assign e0)
   intro a11 s9 D8
   have ok10 := D8.ok
   have F10 := F5.step0 D8.stp
   have q49 : (Pr.own 11 3 1 (List.length (byTo a b k)) (List.map Ty.int (byTo a b k))).has s9 (a11.eval (.tmp 4)) := al (show _ = _ from D8.done 1) ((Pr.own 11 3 1 (List.length (byTo a b k)) (List.map Ty.int (byTo a b k))).up D8.stp q17)
   clear D8
   refine tn ?_
   refine wp_ret ?_
   obtain ⟨t3, e1, h1, q50⟩ := Own.seal q49 (by decide)
   rw [← e1]
   have F11 := F10.step h1 (by decide)
   exact ret1 rfl ok10 F11 (cvt (by (obtain rfl : k = b.length := (by omega); rw [byTo_all a b hl])) q50)


set_option maxRecDepth 100000 in
theorem rowPlace_fn (r : List Int) (σ : GW)  (v0 : Value) (hv0 : Ty.has (Ty.lst Ty.int r) σ v0)  (hr : r.length ≤ 12) :
    FnC Try.prog 94 #[v0] σ (Ty.nat (rankL r)) := by
 refine fn_intro0 Try.func94 rfl Try.ntmps94 (Nat.le_of_ble_eq_true rfl) (fun s0 a0 hle F0 ok0 hargs => ?_)
 have p0 : At (Ty.lst Ty.int r) s0 a0 (.tmp 0) := by have e := hargs 0 _ rfl; show Ty.has _ _ _; rw [e]; exact Ty.up _ hle hv0
 have b1 := sl_le p0
 clear hargs
 refine wp_seq ?_
 refine reg (a := a0) (σ := s0) rfl (fun i_ => List.getD [(Ty.pr (Ty.int (0 : Int)))] i_ Pr.any) ok0 rfl ⟨?_, trivial⟩ ?_
 · intro ax tx hs okx sm
   exact run_plain rfl (y_assign rfl)
 intro a1 s1 D1
 have ok1 := D1.ok
 have F1 := F0.step0 D1.stp
 have q1 : At (Ty.lst Ty.int r) s1 a1 (.tmp 0) := D1.kt p0 rfl
 clear D1
 refine tn ?_
 refine wp_seq ?_
 refine reg (a := a1) (σ := s1) rfl (fun i_ => List.getD [(Ty.pr (Ty.int (0 : Int)))] i_ Pr.any) ok1 rfl ⟨?_, trivial⟩ ?_
 · intro ax tx hs okx sm
   exact run_plain rfl (y_assign rfl)
 intro a2 s2 D2
 have ok2 := D2.ok
 have F2 := F1.step0 D2.stp
 have q2 : At (Ty.lst Ty.int r) s2 a2 (.tmp 0) := D2.kt q1 rfl
 have q3 : At (Ty.int (0 : Int)) s2 a2 (.tmp 3) := D2.done 0
 clear D2
 refine tn ?_
 refine wp_seq ?_
 refine wp_seq ?_
 refine reg (a := a2) (σ := s2) rfl (fun i_ => List.getD [(Ty.pr (Ty.lst Ty.int r)), (Ty.pr (Ty.nat (List.length r))), (Ty.pr (Ty.int (0 : Int)))] i_ Pr.any) ok2 rfl ⟨?_, ?_, ?_, trivial⟩ ?_
 · intro ax tx hs okx sm
   exact run_plain rfl (y_move (kp (sm 0 rfl) hs q2))
 · intro ax tx hs okx sm d0
   have e0 : At (Ty.lst Ty.int r) tx ax (.tmp 9) := d0 rfl
   exact run_plain rfl (y_len Try.underlying34 e0)
 · intro ax tx hs okx sm
   exact run_plain rfl (y_move rfl)
 intro a3 s3 D3
 have ok3 := D3.ok
 have F3 := F2.step0 D3.stp
 have q4 : At (Ty.lst Ty.int r) s3 a3 (.tmp 0) := D3.kt q2 rfl
 have q5 : At (Ty.int (0 : Int)) s3 a3 (.tmp 3) := D3.kt q3 rfl
 have q6 : At (Ty.lst Ty.int r) s3 a3 (.tmp 9) := D3.done 0
 have q7 : At (Ty.nat (List.length r)) s3 a3 (.tmp 10) := D3.done 1
 have q8 : At (Ty.int (0 : Int)) s3 a3 (.tmp 11) := D3.done 2
 clear D3
 refine tn ?_
 refine wp_block ?_
 refine loop (fun n1 a4 w1 => ∃ (t1 : GW) (i : Nat) (q : Nat), t1.w = w1 ∧ FromL [] s0 t1 ∧ Ok 41 a4 ∧ At (Ty.nat i) t1 a4 (.tmp 11) ∧ At (Ty.nat q) t1 a4 (.tmp 3) ∧ At (Ty.lst Ty.int r) t1 a4 (.tmp 0) ∧ At (Ty.lst Ty.int r) t1 a4 (.tmp 9) ∧ At (Ty.nat (List.length r)) t1 a4 (.tmp 10) ∧ (i ≤ r.length) ∧ (q * fct (r.length - i) + rankL (r.drop i) = rankL r) ∧ n1 = r.length - i) (r.length - (0)) ?_ ?_
 ·
  exact ⟨s3, 0, 0, rfl, F3, ok3, (cvi (by (first | rfl | omega | (simp_all; done) | (simp_all; omega))) q8), (cvi (by (first | rfl | omega | (simp_all; done) | (simp_all; omega))) q5), q4, q6, q7, by omega, by simp, rfl⟩
 ·
  rintro n2 a5 w2 ⟨t2, i, q, rfl, F4, ok4, q9, q10, q11, q12, q13, hi, hq, rfl⟩
  have hpl := place_le hq
  have hrl := rank_le12 hr
  refine wp_seq ?_
  refine reg (a := a5) (σ := t2) rfl (fun i_ => List.getD [(Ty.pr (Ty.bool (decide (((i : Nat) : Int) < (((List.length r) : Nat) : Int)))))] i_ Pr.any) ok4 rfl ⟨?_, trivial⟩ ?_
  · intro ax tx hs okx sm
    exact run_plain rfl (y_lss (kp (sm 11 rfl) hs q9) (kp (sm 10 rfl) hs q13))
  intro a6 s4 D4
  have ok5 := D4.ok
  have F5 := F4.step0 D4.stp
  have q14 : At (Ty.nat i) s4 a6 (.tmp 11) := D4.kt q9 rfl
  have q15 : At (Ty.nat q) s4 a6 (.tmp 3) := D4.kt q10 rfl
  have q16 : At (Ty.lst Ty.int r) s4 a6 (.tmp 0) := D4.kt q11 rfl
  have q17 : At (Ty.lst Ty.int r) s4 a6 (.tmp 9) := D4.kt q12 rfl
  have q18 : At (Ty.nat (List.length r)) s4 a6 (.tmp 10) := D4.kt q13 rfl
  have q19 : At (Ty.bool (decide (((i : Nat) : Int) < (((List.length r) : Nat) : Int)))) s4 a6 (.tmp 12) := D4.done 0
  clear D4
  refine tn ?_
  refine wp_seq ?_
  refine cond_p (p := (((i : Nat) : Int) < (((List.length r) : Nat) : Int))) q19 (fun c1 => ?_) (fun c1 => ?_)
  ·
   have hmb := place_mul hr (by omega) hq
   refine wp_skip ?_
   refine tn ?_
   refine wp_seq ?_
   refine wp_block ?_
   refine wp_seq ?_
   refine reg (a := a6) (σ := s4) rfl (fun i_ => List.getD [(Ty.pr (Ty.nat i)), (Ty.pr (Ty.ref [(Ty.int (r.getD i 0))])), (Ty.pr (Ty.int (r.getD i 0))), (Ty.pr (Ty.nat i)), (Ty.pr (Ty.int (r.getD i 0)))] i_ Pr.any) ok5 rfl ⟨?_, ?_, ?_, ?_, ?_, trivial⟩ ?_
   · intro ax tx hs okx sm
     exact run_plain rfl (y_move (kp (sm 11 rfl) hs q14))
   · intro ax tx hs okx sm
     exact run_plain rfl (y_index1 Try.underlying34 Try.inf3 (kp (sm 9 rfl) hs q17) (kp (sm 11 rfl) hs q14) (by omega) (lst_get Ty.int r 0 i (by omega)))
   · intro ax tx hs okx sm d0
     have e1 : At (Ty.ref [(Ty.int (r.getD i 0))]) tx ax (.tmp 14) := d0 rfl
     exact run_plain rfl (y_load Try.underlying3 rfl e1 rfl)
   · intro ax tx hs okx sm d0 d1 d2 d3
     have e0 : At (Ty.nat i) tx ax (.tmp 13) := d0 rfl
     have e1 : At (Ty.ref [(Ty.int (r.getD i 0))]) tx ax (.tmp 14) := d2 rfl
     have e2 : At (Ty.int (r.getD i 0)) tx ax (.tmp 15) := d3 rfl
     exact run_plain rfl (y_assign e0)
   · intro ax tx hs okx sm d0 d1 d2 d3 d4 d5
     have e2 : At (Ty.int (r.getD i 0)) tx ax (.tmp 15) := d0 rfl
     have e3 : At (Ty.nat i) tx ax (.tmp 4) := d1 rfl
     have e0 : At (Ty.nat i) tx ax (.tmp 13) := d2 rfl
     have e1 : At (Ty.ref [(Ty.int (r.getD i 0))]) tx ax (.tmp 14) := d3 rfl
     exact run_plain rfl (y_assign e2)
   intro a7 s5 D5
   have ok6 := D5.ok
   have F6 := F5.step0 D5.stp
   have q20 : At (Ty.nat i) s5 a7 (.tmp 11) := D5.kt q14 rfl
   have q21 : At (Ty.nat q) s5 a7 (.tmp 3) := D5.kt q15 rfl
   have q22 : At (Ty.lst Ty.int r) s5 a7 (.tmp 0) := D5.kt q16 rfl
   have q23 : At (Ty.lst Ty.int r) s5 a7 (.tmp 9) := D5.kt q17 rfl
   have q24 : At (Ty.nat (List.length r)) s5 a7 (.tmp 10) := D5.kt q18 rfl
   have q25 : At (Ty.nat i) s5 a7 (.tmp 4) := D5.done 3
   have q26 : At (Ty.int (r.getD i 0)) s5 a7 (.tmp 5) := D5.done 4
   clear D5
   refine tn ?_
   refine wp_seq ?_
   refine reg (a := a7) (σ := s5) rfl (fun i_ => List.getD [(Ty.pr (Ty.int (0 : Int)))] i_ Pr.any) ok6 rfl ⟨?_, trivial⟩ ?_
   · intro ax tx hs okx sm
     exact run_plain rfl (y_assign rfl)
   intro a8 s6 D6
   have ok7 := D6.ok
   have F7 := F6.step0 D6.stp
   have q27 : At (Ty.nat i) s6 a8 (.tmp 11) := D6.kt q20 rfl
   have q28 : At (Ty.nat q) s6 a8 (.tmp 3) := D6.kt q21 rfl
   have q29 : At (Ty.lst Ty.int r) s6 a8 (.tmp 0) := D6.kt q22 rfl
   have q30 : At (Ty.lst Ty.int r) s6 a8 (.tmp 9) := D6.kt q23 rfl
   have q31 : At (Ty.nat (List.length r)) s6 a8 (.tmp 10) := D6.kt q24 rfl
   have q32 : At (Ty.nat i) s6 a8 (.tmp 4) := D6.kt q25 rfl
   have q33 : At (Ty.int (r.getD i 0)) s6 a8 (.tmp 5) := D6.kt q26 rfl
   have q34 : At (Ty.int (0 : Int)) s6 a8 (.tmp 6) := D6.done 0
   clear D6
   refine tn ?_
   refine wp_seq ?_
   refine wp_seq ?_
   refine reg (a := a8) (σ := s6) rfl (fun i_ => List.getD [(Ty.pr (Ty.lst Ty.int r)), (Ty.pr (Ty.nat i)), (Ty.pr (Ty.nat (i + 1))), (Ty.pr (Ty.lst Ty.int (r.drop (i + 1)))), (Ty.pr (Ty.nat (List.length (r.drop (i + 1))))), (Ty.pr (Ty.int (0 : Int)))] i_ Pr.any) ok7 rfl ⟨?_, ?_, ?_, ?_, ?_, ?_, trivial⟩ ?_
   · intro ax tx hs okx sm
     exact run_plain rfl (y_move (kp (sm 0 rfl) hs q29))
   · intro ax tx hs okx sm
     exact run_plain rfl (y_move (kp (sm 4 rfl) hs q32))
   · intro ax tx hs okx sm d0
     have e1 : At (Ty.nat i) tx ax (.tmp 17) := d0 rfl
     exact run_plain rfl ((y_add e1 rfl (w64 (by omega) (by omega))).mono (fun τ _ h => cvi (σ := τ) (by first | omega | exact (Int.natCast_mul _ _).symm) h))
   · intro ax tx hs okx sm d0 d1
     have e0 : At (Ty.lst Ty.int r) tx ax (.tmp 16) := d0 rfl
     have e2 : At (Ty.nat (i + 1)) tx ax (.tmp 18) := d1 rfl
     exact run_plain rfl (y_drop Try.underlying34 Try.inf3 e0 e2 (by omega))
   · intro ax tx hs okx sm d0
     have e3 : At (Ty.lst Ty.int (r.drop (i + 1))) tx ax (.tmp 19) := d0 rfl
     exact run_plain rfl (y_len Try.underlying34 e3)
   · intro ax tx hs okx sm
     exact run_plain rfl (y_move rfl)
   intro a9 s7 D7
   have ok8 := D7.ok
   have F8 := F7.step0 D7.stp
   have q35 : At (Ty.nat i) s7 a9 (.tmp 11) := D7.kt q27 rfl
   have q36 : At (Ty.nat q) s7 a9 (.tmp 3) := D7.kt q28 rfl
   have q37 : At (Ty.lst Ty.int r) s7 a9 (.tmp 0) := D7.kt q29 rfl
   have q38 : At (Ty.lst Ty.int r) s7 a9 (.tmp 9) := D7.kt q30 rfl
   have q39 : At (Ty.nat (List.length r)) s7 a9 (.tmp 10) := D7.kt q31 rfl
   have q40 : At (Ty.nat i) s7 a9 (.tmp 4) := D7.kt q32 rfl
   have q41 : At (Ty.int (r.getD i 0)) s7 a9 (.tmp 5) := D7.kt q33 rfl
   have q42 : At (Ty.int (0 : Int)) s7 a9 (.tmp 6) := D7.kt q34 rfl
   have q43 : At (Ty.lst Ty.int (r.drop (i + 1))) s7 a9 (.tmp 19) := D7.done 3
   have b2 := sl_le q43
   have q44 : At (Ty.nat (List.length (r.drop (i + 1)))) s7 a9 (.tmp 20) := D7.done 4
   have q45 : At (Ty.int (0 : Int)) s7 a9 (.tmp 21) := D7.done 5
   clear D7
   refine tn ?_
   refine wp_block ?_
   refine loop (fun n3 a10 w3 => ∃ (t3 : GW) (j : Nat), t3.w = w3 ∧ FromL [] s0 t3 ∧ Ok 41 a10 ∧ At (Ty.nat j) t3 a10 (.tmp 21) ∧ At (Ty.nat (lessN (r.getD i 0) ((r.drop (i + 1)).take j))) t3 a10 (.tmp 6) ∧ At (Ty.nat i) t3 a10 (.tmp 11) ∧ At (Ty.nat q) t3 a10 (.tmp 3) ∧ At (Ty.lst Ty.int r) t3 a10 (.tmp 0) ∧ At (Ty.lst Ty.int r) t3 a10 (.tmp 9) ∧ At (Ty.nat (List.length r)) t3 a10 (.tmp 10) ∧ At (Ty.nat i) t3 a10 (.tmp 4) ∧ At (Ty.int (r.getD i 0)) t3 a10 (.tmp 5) ∧ At (Ty.lst Ty.int (r.drop (i + 1))) t3 a10 (.tmp 19) ∧ At (Ty.nat (List.length (r.drop (i + 1)))) t3 a10 (.tmp 20) ∧ (j ≤ (r.drop (i + 1)).length) ∧ n3 = (r.drop (i + 1)).length - j) ((r.drop (i + 1)).length - (0)) ?_ ?_
   ·
    exact ⟨s7, 0, rfl, F8, ok8, (cvi (by (first | rfl | omega | (simp_all; done) | (simp_all; omega))) q45), (cvi (by (simp [lessN])) q42), q35, q36, q37, q38, q39, q40, q41, q43, q44, by omega, rfl⟩
   ·
    rintro n4 a11 w4 ⟨t4, j, rfl, F9, ok9, q46, q47, q48, q49, q50, q51, q52, q53, q54, q55, q56, hj, rfl⟩
    have hll := lessN_le (r.getD i 0) ((r.drop (i + 1)).take j)
    have htl := List.length_take_le j (r.drop (i + 1))
    have hdl : (r.drop (i + 1)).length = r.length - (i + 1) := List.length_drop
    refine wp_seq ?_
    refine reg (a := a11) (σ := t4) rfl (fun i_ => List.getD [(Ty.pr (Ty.bool (decide (((j : Nat) : Int) < (((List.length (r.drop (i + 1))) : Nat) : Int)))))] i_ Pr.any) ok9 rfl ⟨?_, trivial⟩ ?_
    · intro ax tx hs okx sm
      exact run_plain rfl (y_lss (kp (sm 21 rfl) hs q46) (kp (sm 20 rfl) hs q56))
    intro a12 s8 D8
    have ok10 := D8.ok
    have F10 := F9.step0 D8.stp
    have q57 : At (Ty.nat j) s8 a12 (.tmp 21) := D8.kt q46 rfl
    have q58 : At (Ty.nat (lessN (r.getD i 0) ((r.drop (i + 1)).take j))) s8 a12 (.tmp 6) := D8.kt q47 rfl
    have q59 : At (Ty.nat i) s8 a12 (.tmp 11) := D8.kt q48 rfl
    have q60 : At (Ty.nat q) s8 a12 (.tmp 3) := D8.kt q49 rfl
    have q61 : At (Ty.lst Ty.int r) s8 a12 (.tmp 0) := D8.kt q50 rfl
    have q62 : At (Ty.lst Ty.int r) s8 a12 (.tmp 9) := D8.kt q51 rfl
    have q63 : At (Ty.nat (List.length r)) s8 a12 (.tmp 10) := D8.kt q52 rfl
    have q64 : At (Ty.nat i) s8 a12 (.tmp 4) := D8.kt q53 rfl
    have q65 : At (Ty.int (r.getD i 0)) s8 a12 (.tmp 5) := D8.kt q54 rfl
    have q66 : At (Ty.lst Ty.int (r.drop (i + 1))) s8 a12 (.tmp 19) := D8.kt q55 rfl
    have q67 : At (Ty.nat (List.length (r.drop (i + 1)))) s8 a12 (.tmp 20) := D8.kt q56 rfl
    have q68 : At (Ty.bool (decide (((j : Nat) : Int) < (((List.length (r.drop (i + 1))) : Nat) : Int)))) s8 a12 (.tmp 22) := D8.done 0
    clear D8
    refine tn ?_
    refine wp_seq ?_
    refine cond_p (p := (((j : Nat) : Int) < (((List.length (r.drop (i + 1))) : Nat) : Int))) q68 (fun c2 => ?_) (fun c2 => ?_)
    ·
     refine wp_skip ?_
     refine tn ?_
     refine wp_seq ?_
     refine wp_block ?_
     refine wp_seq ?_
     refine reg (a := a12) (σ := s8) rfl (fun i_ => List.getD [(Ty.pr (Ty.ref [(Ty.int ((r.drop (i + 1)).getD j 0))])), (Ty.pr (Ty.int ((r.drop (i + 1)).getD j 0))), (Ty.pr (Ty.int ((r.drop (i + 1)).getD j 0)))] i_ Pr.any) ok10 rfl ⟨?_, ?_, ?_, trivial⟩ ?_
     · intro ax tx hs okx sm
       exact run_plain rfl (y_index1 Try.underlying34 Try.inf3 (kp (sm 19 rfl) hs q66) (kp (sm 21 rfl) hs q57) (by omega) (lst_get Ty.int (r.drop (i + 1)) 0 j (by omega)))
     · intro ax tx hs okx sm d0
       have e0 : At (Ty.ref [(Ty.int ((r.drop (i + 1)).getD j 0))]) tx ax (.tmp 23) := d0 rfl
       exact run_plain rfl (y_load Try.underlying3 rfl e0 rfl)
     · intro ax tx hs okx sm d0 d1 d2
       have e1 : At (Ty.int ((r.drop (i + 1)).getD j 0)) tx ax (.tmp 24) := d0 rfl
       have e0 : At (Ty.ref [(Ty.int ((r.drop (i + 1)).getD j 0))]) tx ax (.tmp 23) := d1 rfl
       exact run_plain rfl (y_assign e1)
     intro a13 s9 D9
     have ok11 := D9.ok
     have F11 := F10.step0 D9.stp
     have q69 : At (Ty.nat j) s9 a13 (.tmp 21) := D9.kt q57 rfl
     have q70 : At (Ty.nat (lessN (r.getD i 0) ((r.drop (i + 1)).take j))) s9 a13 (.tmp 6) := D9.kt q58 rfl
     have q71 : At (Ty.nat i) s9 a13 (.tmp 11) := D9.kt q59 rfl
     have q72 : At (Ty.nat q) s9 a13 (.tmp 3) := D9.kt q60 rfl
     have q73 : At (Ty.lst Ty.int r) s9 a13 (.tmp 0) := D9.kt q61 rfl
     have q74 : At (Ty.lst Ty.int r) s9 a13 (.tmp 9) := D9.kt q62 rfl
     have q75 : At (Ty.nat (List.length r)) s9 a13 (.tmp 10) := D9.kt q63 rfl
     have q76 : At (Ty.nat i) s9 a13 (.tmp 4) := D9.kt q64 rfl
     have q77 : At (Ty.int (r.getD i 0)) s9 a13 (.tmp 5) := D9.kt q65 rfl
     have q78 : At (Ty.lst Ty.int (r.drop (i + 1))) s9 a13 (.tmp 19) := D9.kt q66 rfl
     have q79 : At (Ty.nat (List.length (r.drop (i + 1)))) s9 a13 (.tmp 20) := D9.kt q67 rfl
     have q80 : At (Ty.int ((r.drop (i + 1)).getD j 0)) s9 a13 (.tmp 8) := D9.done 2
     clear D9
     refine tn ?_
     refine wp_seq ?_
     refine reg (a := a13) (σ := s9) rfl (fun i_ => List.getD [(Ty.pr (Ty.int ((r.drop (i + 1)).getD j 0))), (Ty.pr (Ty.int (r.getD i 0))), (Ty.pr (Ty.bool (decide (((r.drop (i + 1)).getD j 0) < (r.getD i 0)))))] i_ Pr.any) ok11 rfl ⟨?_, ?_, ?_, trivial⟩ ?_
     · intro ax tx hs okx sm
       exact run_plain rfl (y_move (kp (sm 8 rfl) hs q80))
     · intro ax tx hs okx sm
       exact run_plain rfl (y_move (kp (sm 5 rfl) hs q77))
     · intro ax tx hs okx sm d0 d1
       have e0 : At (Ty.int ((r.drop (i + 1)).getD j 0)) tx ax (.tmp 25) := d0 rfl
       have e1 : At (Ty.int (r.getD i 0)) tx ax (.tmp 26) := d1 rfl
       exact run_plain rfl (y_lss e0 e1)
     intro a14 s10 D10
     have ok12 := D10.ok
     have F12 := F11.step0 D10.stp
     have q81 : At (Ty.nat j) s10 a14 (.tmp 21) := D10.kt q69 rfl
     have q82 : At (Ty.nat (lessN (r.getD i 0) ((r.drop (i + 1)).take j))) s10 a14 (.tmp 6) := D10.kt q70 rfl
     have q83 : At (Ty.nat i) s10 a14 (.tmp 11) := D10.kt q71 rfl
     have q84 : At (Ty.nat q) s10 a14 (.tmp 3) := D10.kt q72 rfl
     have q85 : At (Ty.lst Ty.int r) s10 a14 (.tmp 0) := D10.kt q73 rfl
     have q86 : At (Ty.lst Ty.int r) s10 a14 (.tmp 9) := D10.kt q74 rfl
     have q87 : At (Ty.nat (List.length r)) s10 a14 (.tmp 10) := D10.kt q75 rfl
     have q88 : At (Ty.nat i) s10 a14 (.tmp 4) := D10.kt q76 rfl
     have q89 : At (Ty.int (r.getD i 0)) s10 a14 (.tmp 5) := D10.kt q77 rfl
     have q90 : At (Ty.lst Ty.int (r.drop (i + 1))) s10 a14 (.tmp 19) := D10.kt q78 rfl
     have q91 : At (Ty.nat (List.length (r.drop (i + 1)))) s10 a14 (.tmp 20) := D10.kt q79 rfl
     have q92 : At (Ty.bool (decide (((r.drop (i + 1)).getD j 0) < (r.getD i 0)))) s10 a14 (.tmp 27) := D10.done 2
     clear D10
     refine tn ?_
     refine cond_p (p := (((r.drop (i + 1)).getD j 0) < (r.getD i 0))) q92 (fun c3 => ?_) (fun c3 => ?_)
     ·
      refine reg (a := a14) (σ := s10) rfl (fun i_ => List.getD [(Ty.pr (Ty.nat (lessN (r.getD i 0) ((r.drop (i + 1)).take j)))), (Ty.pr (Ty.nat ((lessN (r.getD i 0) ((r.drop (i + 1)).take j)) + 1))), (Ty.pr (Ty.nat ((lessN (r.getD i 0) ((r.drop (i + 1)).take j)) + 1)))] i_ Pr.any) ok12 rfl ⟨?_, ?_, ?_, trivial⟩ ?_
      · intro ax tx hs okx sm
        exact run_plain rfl (y_move (kp (sm 6 rfl) hs q82))
      · intro ax tx hs okx sm d0
        have e0 : At (Ty.nat (lessN (r.getD i 0) ((r.drop (i + 1)).take j))) tx ax (.tmp 28) := d0 rfl
        exact run_plain rfl ((y_add e0 rfl (w64 (by omega) (by omega))).mono (fun τ _ h => cvi (σ := τ) (by first | omega | exact (Int.natCast_mul _ _).symm) h))
      · intro ax tx hs okx sm d0 d1 d2
        have e1 : At (Ty.nat ((lessN (r.getD i 0) ((r.drop (i + 1)).take j)) + 1)) tx ax (.tmp 29) := d0 rfl
        have e0 : At (Ty.nat (lessN (r.getD i 0) ((r.drop (i + 1)).take j))) tx ax (.tmp 28) := d1 rfl
        exact run_plain rfl (y_assign e1)
      intro a15 s11 D11
      have ok13 := D11.ok
      have F13 := F12.step0 D11.stp
      have q93 : At (Ty.nat j) s11 a15 (.tmp 21) := D11.kt q81 rfl
      have q94 : At (Ty.nat i) s11 a15 (.tmp 11) := D11.kt q83 rfl
      have q95 : At (Ty.nat q) s11 a15 (.tmp 3) := D11.kt q84 rfl
      have q96 : At (Ty.lst Ty.int r) s11 a15 (.tmp 0) := D11.kt q85 rfl
      have q97 : At (Ty.lst Ty.int r) s11 a15 (.tmp 9) := D11.kt q86 rfl
      have q98 : At (Ty.nat (List.length r)) s11 a15 (.tmp 10) := D11.kt q87 rfl
      have q99 : At (Ty.nat i) s11 a15 (.tmp 4) := D11.kt q88 rfl
      have q100 : At (Ty.int (r.getD i 0)) s11 a15 (.tmp 5) := D11.kt q89 rfl
      have q101 : At (Ty.lst Ty.int (r.drop (i + 1))) s11 a15 (.tmp 19) := D11.kt q90 rfl
      have q102 : At (Ty.nat (List.length (r.drop (i + 1)))) s11 a15 (.tmp 20) := D11.kt q91 rfl
      have q103 : At (Ty.nat ((lessN (r.getD i 0) ((r.drop (i + 1)).take j)) + 1)) s11 a15 (.tmp 6) := D11.done 2
      clear D11
      refine bn ?_
      refine tn ?_
      refine reg (a := a15) (σ := s11) rfl (fun i_ => List.getD [(Ty.pr (Ty.nat (j + 1))), (Ty.pr (Ty.nat (j + 1)))] i_ Pr.any) ok13 rfl ⟨?_, ?_, trivial⟩ ?_
      · intro ax tx hs okx sm
        exact run_plain rfl ((y_add (kp (sm 21 rfl) hs q93) rfl (w64 (by omega) (by omega))).mono (fun τ _ h => cvi (σ := τ) (by first | omega | exact (Int.natCast_mul _ _).symm) h))
      · intro ax tx hs okx sm d0
        have e0 : At (Ty.nat (j + 1)) tx ax (.tmp 30) := d0 rfl
        exact run_plain rfl (y_move e0)
      intro a16 s12 D12
      have ok14 := D12.ok
      have F14 := F13.step0 D12.stp
      have q104 : At (Ty.nat i) s12 a16 (.tmp 11) := D12.kt q94 rfl
      have q105 : At (Ty.nat q) s12 a16 (.tmp 3) := D12.kt q95 rfl
      have q106 : At (Ty.lst Ty.int r) s12 a16 (.tmp 0) := D12.kt q96 rfl
      have q107 : At (Ty.lst Ty.int r) s12 a16 (.tmp 9) := D12.kt q97 rfl
      have q108 : At (Ty.nat (List.length r)) s12 a16 (.tmp 10) := D12.kt q98 rfl
      have q109 : At (Ty.nat i) s12 a16 (.tmp 4) := D12.kt q99 rfl
      have q110 : At (Ty.int (r.getD i 0)) s12 a16 (.tmp 5) := D12.kt q100 rfl
      have q111 : At (Ty.lst Ty.int (r.drop (i + 1))) s12 a16 (.tmp 19) := D12.kt q101 rfl
      have q112 : At (Ty.nat (List.length (r.drop (i + 1)))) s12 a16 (.tmp 20) := D12.kt q102 rfl
      have q113 : At (Ty.nat ((lessN (r.getD i 0) ((r.drop (i + 1)).take j)) + 1)) s12 a16 (.tmp 6) := D12.kt q103 rfl
      have q114 : At (Ty.nat (j + 1)) s12 a16 (.tmp 21) := D12.done 1
      clear D12
      exact tn ⟨(r.drop (i + 1)).length - ((j+1)), by omega, s12, (j+1), rfl, F14, ok14, (cvi (by (first | rfl | omega | (simp_all; done) | (simp_all; omega))) q114), (cvi (by (rw [lessN_snoc _ _ _ (by omega), if_pos (by assumption)])) q113), q104, q105, q106, q107, q108, q109, q110, q111, q112, by omega, rfl⟩
     ·
      refine wp_skip ?_
      refine bn ?_
      refine tn ?_
      refine reg (a := a14) (σ := s10) rfl (fun i_ => List.getD [(Ty.pr (Ty.nat (j + 1))), (Ty.pr (Ty.nat (j + 1)))] i_ Pr.any) ok12 rfl ⟨?_, ?_, trivial⟩ ?_
      · intro ax tx hs okx sm
        exact run_plain rfl ((y_add (kp (sm 21 rfl) hs q81) rfl (w64 (by omega) (by omega))).mono (fun τ _ h => cvi (σ := τ) (by first | omega | exact (Int.natCast_mul _ _).symm) h))
      · intro ax tx hs okx sm d0
        have e0 : At (Ty.nat (j + 1)) tx ax (.tmp 30) := d0 rfl
        exact run_plain rfl (y_move e0)
      intro a17 s13 D13
      have ok15 := D13.ok
      have F15 := F12.step0 D13.stp
      have q115 : At (Ty.nat (lessN (r.getD i 0) ((r.drop (i + 1)).take j))) s13 a17 (.tmp 6) := D13.kt q82 rfl
      have q116 : At (Ty.nat i) s13 a17 (.tmp 11) := D13.kt q83 rfl
      have q117 : At (Ty.nat q) s13 a17 (.tmp 3) := D13.kt q84 rfl
      have q118 : At (Ty.lst Ty.int r) s13 a17 (.tmp 0) := D13.kt q85 rfl
      have q119 : At (Ty.lst Ty.int r) s13 a17 (.tmp 9) := D13.kt q86 rfl
      have q120 : At (Ty.nat (List.length r)) s13 a17 (.tmp 10) := D13.kt q87 rfl
      have q121 : At (Ty.nat i) s13 a17 (.tmp 4) := D13.kt q88 rfl
      have q122 : At (Ty.int (r.getD i 0)) s13 a17 (.tmp 5) := D13.kt q89 rfl
      have q123 : At (Ty.lst Ty.int (r.drop (i + 1))) s13 a17 (.tmp 19) := D13.kt q90 rfl
      have q124 : At (Ty.nat (List.length (r.drop (i + 1)))) s13 a17 (.tmp 20) := D13.kt q91 rfl
      have q125 : At (Ty.nat (j + 1)) s13 a17 (.tmp 21) := D13.done 1
      clear D13
      exact tn ⟨(r.drop (i + 1)).length - ((j+1)), by omega, s13, (j+1), rfl, F15, ok15, (cvi (by (first | rfl | omega | (simp_all; done) | (simp_all; omega))) q125), (cvi (by (rw [lessN_snoc _ _ _ (by omega), if_neg (by assumption)]; rfl)) q115), q116, q117, q118, q119, q120, q121, q122, q123, q124, by omega, rfl⟩
    ·
     refine wp_exit ?_
     refine tx ?_
     refine tx ?_
     refine bx ?_
     refine tn ?_
     refine reg (a := a12) (σ := s8) rfl (fun i_ => List.getD [(Ty.pr (Ty.nat q)), (Ty.pr (Ty.lst Ty.int r)), (Ty.pr (Ty.nat (List.length r))), (Ty.pr (Ty.nat i)), (Ty.pr (Ty.nat ((List.length r) - i))), (Ty.pr (Ty.nat (q * ((List.length r) - i)))), (Ty.pr (Ty.nat (lessN (r.getD i 0) ((r.drop (i + 1)).take j)))), (Ty.pr (Ty.nat ((q * ((List.length r) - i)) + (lessN (r.getD i 0) ((r.drop (i + 1)).take j))))), (Ty.pr (Ty.nat ((q * ((List.length r) - i)) + (lessN (r.getD i 0) ((r.drop (i + 1)).take j)))))] i_ Pr.any) ok10 rfl ⟨?_, ?_, ?_, ?_, ?_, ?_, ?_, ?_, ?_, trivial⟩ ?_
     · intro ax tx hs okx sm
       exact run_plain rfl (y_move (kp (sm 3 rfl) hs q60))
     · intro ax tx hs okx sm
       exact run_plain rfl (y_move (kp (sm 0 rfl) hs q61))
     · intro ax tx hs okx sm d0
       have e1 : At (Ty.lst Ty.int r) tx ax (.tmp 32) := d0 rfl
       exact run_plain rfl (y_len Try.underlying34 e1)
     · intro ax tx hs okx sm
       exact run_plain rfl (y_move (kp (sm 4 rfl) hs q64))
     · intro ax tx hs okx sm d0 d1
       have e2 : At (Ty.nat (List.length r)) tx ax (.tmp 33) := d0 rfl
       have e3 : At (Ty.nat i) tx ax (.tmp 34) := d1 rfl
       exact run_plain rfl ((y_sub e2 e3 (w64 (by omega) (by omega))).mono (fun τ _ h => cvi (σ := τ) (by omega) h))
     · intro ax tx hs okx sm d0 d1
       have e0 : At (Ty.nat q) tx ax (.tmp 31) := d0 rfl
       have e4 : At (Ty.nat ((List.length r) - i)) tx ax (.tmp 35) := d1 rfl
       exact run_plain rfl ((y_mul e0 e4 (w64 (by omega) (by omega))).mono (fun τ _ h => cvi (σ := τ) (by first | omega | exact (Int.natCast_mul _ _).symm) h))
     · intro ax tx hs okx sm
       exact run_plain rfl (y_move (kp (sm 6 rfl) hs q58))
     · intro ax tx hs okx sm d0 d1
       have e5 : At (Ty.nat (q * ((List.length r) - i))) tx ax (.tmp 36) := d0 rfl
       have e6 : At (Ty.nat (lessN (r.getD i 0) ((r.drop (i + 1)).take j))) tx ax (.tmp 37) := d1 rfl
       exact run_plain rfl ((y_add e5 e6 (w64 (by omega) (by omega))).mono (fun τ _ h => cvi (σ := τ) (by first | omega | exact (Int.natCast_mul _ _).symm) h))
     · intro ax tx hs okx sm d0 d1 d2 d3 d4 d5 d6 d7 d8
       have e7 : At (Ty.nat ((q * ((List.length r) - i)) + (lessN (r.getD i 0) ((r.drop (i + 1)).take j)))) tx ax (.tmp 38) := d0 rfl
       have e0 : At (Ty.nat q) tx ax (.tmp 31) := d1 rfl
       have e1 : At (Ty.lst Ty.int r) tx ax (.tmp 32) := d2 rfl
       have e2 : At (Ty.nat (List.length r)) tx ax (.tmp 33) := d3 rfl
       have e3 : At (Ty.nat i) tx ax (.tmp 34) := d4 rfl
       have e4 : At (Ty.nat ((List.length r) - i)) tx ax (.tmp 35) := d5 rfl
       have e5 : At (Ty.nat (q * ((List.length r) - i))) tx ax (.tmp 36) := d6 rfl
       have e6 : At (Ty.nat (lessN (r.getD i 0) ((r.drop (i + 1)).take j))) tx ax (.tmp 37) := d7 rfl
       exact run_plain rfl (y_assign e7)
     intro a18 s14 D14
     have ok16 := D14.ok
     have F16 := F10.step0 D14.stp
     have q126 : At (Ty.nat i) s14 a18 (.tmp 11) := D14.kt q59 rfl
     have q127 : At (Ty.lst Ty.int r) s14 a18 (.tmp 0) := D14.kt q61 rfl
     have q128 : At (Ty.lst Ty.int r) s14 a18 (.tmp 9) := D14.kt q62 rfl
     have q129 : At (Ty.nat (List.length r)) s14 a18 (.tmp 10) := D14.kt q63 rfl
     have q130 : At (Ty.nat ((q * ((List.length r) - i)) + (lessN (r.getD i 0) ((r.drop (i + 1)).take j)))) s14 a18 (.tmp 3) := D14.done 8
     clear D14
     refine bn ?_
     refine tn ?_
     refine reg (a := a18) (σ := s14) rfl (fun i_ => List.getD [(Ty.pr (Ty.nat (i + 1))), (Ty.pr (Ty.nat (i + 1)))] i_ Pr.any) ok16 rfl ⟨?_, ?_, trivial⟩ ?_
     · intro ax tx hs okx sm
       exact run_plain rfl ((y_add (kp (sm 11 rfl) hs q126) rfl (w64 (by omega) (by omega))).mono (fun τ _ h => cvi (σ := τ) (by first | omega | exact (Int.natCast_mul _ _).symm) h))
     · intro ax tx hs okx sm d0
       have e0 : At (Ty.nat (i + 1)) tx ax (.tmp 39) := d0 rfl
       exact run_plain rfl (y_move e0)
     intro a19 s15 D15
     have ok17 := D15.ok
     have F17 := F16.step0 D15.stp
     have q131 : At (Ty.lst Ty.int r) s15 a19 (.tmp 0) := D15.kt q127 rfl
     have q132 : At (Ty.lst Ty.int r) s15 a19 (.tmp 9) := D15.kt q128 rfl
     have q133 : At (Ty.nat (List.length r)) s15 a19 (.tmp 10) := D15.kt q129 rfl
     have q134 : At (Ty.nat ((q * ((List.length r) - i)) + (lessN (r.getD i 0) ((r.drop (i + 1)).take j)))) s15 a19 (.tmp 3) := D15.kt q130 rfl
     have q135 : At (Ty.nat (i + 1)) s15 a19 (.tmp 11) := D15.done 1
     clear D15
     obtain rfl : j = (r.drop (i + 1)).length := (by omega)
     exact tn ⟨r.length - ((i+1)), by omega, s15, (i+1), (q * (r.length - i) + lessN (r.getD i 0) (r.drop (i + 1))), rfl, F17, ok17, (cvi (by (first | rfl | omega | (simp_all; done) | (simp_all; omega))) q135), (cvi (by (rw [List.take_length])) q134), q131, q132, q133, by omega, place_step (by omega) hq, rfl⟩
  ·
   refine wp_exit ?_
   refine tx ?_
   refine tx ?_
   refine bx ?_
   refine tn ?_
   refine wp_seq ?_
   refine reg (a := a6) (σ := s4) rfl (fun i_ => List.getD [(Ty.pr (Ty.nat q)), (Ty.pr (Ty.nat q))] i_ Pr.any) ok5 rfl ⟨?_, ?_, trivial⟩ ?_
   · intro ax tx hs okx sm
     exact run_plain rfl (y_move (kp (sm 3 rfl) hs q15))
   · intro ax tx hs okx sm d0 d1
     have e0 : At (Ty.nat q) tx ax (.tmp 40) := d0 rfl
     exact run_plain rfl (y_assign e0)
   intro a20 s16 D16
   have ok18 := D16.ok
   have F18 := F5.step0 D16.stp
   have q136 : At (Ty.nat q) s16 a20 (.tmp 2) := D16.done 1
   clear D16
   refine tn ?_
   refine wp_ret ?_
   exact retL1 rfl ok18 F18 (cvi (by (obtain rfl : i = r.length := (by omega); exact congrArg _ (place_end hq))) q136)

theorem Try.inf33 : Info Try.prog 33 (.slice none 0 0) 1 24 := by unfold Info; kernel_rfl
theorem Try.inf126 : Info Try.prog 126 (.map none) 1 8 := by unfold Info; kernel_rfl
theorem Try.fld128_0 : fieldOf Try.prog 128 0 = some (33, 0) := by kernel_rfl
theorem Try.fld128_1 : fieldOf Try.prog 128 1 = some (126, 1) := by kernel_rfl
theorem Try.fld128_2 : fieldOf Try.prog 128 2 = some (34, 2) := by kernel_rfl
theorem Try.fld128_3 : fieldOf Try.prog 128 3 = some (3, 3) := by kernel_rfl
set_option maxRecDepth 100000 in
theorem tour_fn : ∀ (m : Nat) (t mp pt : Value) (n : Nat) (cs : List (List Int)) (rows : List (List Int)) (path : List Int) (r : List Int) (fm : Int → Option Int) (σ : GW) (hlow : Low [40, 41, 42] σ) (v0 v1 : Value) (hv0 : Ty.has (Ty.val t) σ v0) (hv1 : Ty.has (Ty.lst Ty.int r) σ v1) (ho_t : OwnP σ 40 t [(Ty.lst Ty.ints cs), (Ty.val mp), (Ty.val pt), (Ty.nat (fct n))]) (ho_mp : OwnM Ty.int kI σ 41 mp fm) (ho_pt : Own σ 42 3 1 pt (List.length path) (List.map Ty.int path)) (hm : m + path.length = fct n) (ht : Tour n cs rows path r) (hs0 : SeenT n rows fm), FnL Try.prog 85 #[v0, v1] σ [40, 41, 42] (fun v τ => ∃ (fz : Int → Option Int), ∃ (pz : Value), (Ty.has (Ty.bool (circF cs (fct n) m rows path).isSome) τ v) ∧ (OwnP τ 40 t [(Ty.lst Ty.ints cs), (Ty.val mp), (Ty.val pz), (Ty.nat (fct n))]) ∧ (OwnM Ty.int kI τ 41 mp fz) ∧ (Own τ 42 3 1 pz (List.length ((circF cs (fct n) m rows path).getD path)) (List.map Ty.int ((circF cs (fct n) m rows path).getD path))) ∧ (circF cs (fct n) m rows path = none → SeenT n rows fz)) := by
 intro m
 induction m using Nat.strongRecOn with
 | _ m ih =>
 intro t mp pt n cs rows path r fm σ hlow v0 v1 hv0 hv1 ho_t ho_mp ho_pt hm ht hs0
 have hlt := ht.lt
 obtain ⟨f, rfl⟩ : ∃ f, m = f + 1 := ⟨m - 1, by omega⟩
 have hrr := ht.rr
 have hcl := ht.cl
 have hn4 := ht.nn
 refine fn_introL hlow Try.func85 rfl Try.ntmps85 (Nat.le_of_ble_eq_true rfl) (fun a0 F0 ok0 hargs => ?_)
 have p0 : At (Ty.val t) σ a0 (.tmp 0) := by have e := hargs 0 _ rfl; show Ty.has _ _ _; rw [e]; exact hv0
 have p1 : At (Ty.lst Ty.int r) σ a0 (.tmp 1) := by have e := hargs 1 _ rfl; show Ty.has _ _ _; rw [e]; exact hv1
 have b1 := sl_le p1
 clear hargs
 refine wp_seq ?_
 refine reg (a := a0) (σ := σ) rfl (fun i_ => List.getD [(Ty.pr (Ty.bool false))] i_ Pr.any) ok0 rfl ⟨?_, trivial⟩ ?_
 · intro ax tx hs okx sm
   exact run_plain rfl (y_assign rfl)
 intro a1 s1 D1
 have ok1 := D1.ok
 have F1 := F0.step0 D1.stp
 have q1 : At (Ty.val t) s1 a1 (.tmp 0) := D1.kt p0 rfl
 have q2 : At (Ty.lst Ty.int r) s1 a1 (.tmp 1) := D1.kt p1 rfl
 have o1 := OwnP.k0 ho_t D1.stp
 have o2 := OwnM.k0 ho_mp D1.stp
 have o3 := Own.k0 ho_pt D1.stp
 clear D1
 refine tn ?_
 refine wp_seq ?_
 refine wp_seq ?_
 refine reg (a := a1) (σ := s1) rfl (fun i_ => List.getD [(Ty.pr (Ty.val t)), (Ty.pr (Ty.val t)), (Ty.pr (Ty.val (ptrAt t 0))), (Ty.pr (Ty.lst Ty.ints cs)), (Ty.pr (Ty.nat (List.length cs))), (Ty.pr (Ty.int (0 : Int)))] i_ Pr.any) ok1 rfl ⟨?_, ?_, ?_, ?_, ?_, ?_, trivial⟩ ?_
 · intro ax tx hs okx sm
   exact run_plain rfl (y_move (kp (sm 0 rfl) hs q1))
 · intro ax tx hs okx sm d0
   have e0 : At (Ty.val t) tx ax (.tmp 9) := d0 rfl
   exact run_plain rfl (y_nilp (OwnP.k0 o1 hs) e0)
 · intro ax tx hs okx sm d0
   have e1 : At (Ty.val t) tx ax (.tmp 10) := d0 rfl
   exact run_plain rfl (ownp_field Try.fld128_0 Try.inf33 (by decide) (OwnP.k0 o1 hs) e1)
 · intro ax tx hs okx sm d0
   have e2 : At (Ty.val (ptrAt t 0)) tx ax (.tmp 11) := d0 rfl
   exact run_plain rfl (ownp_load Try.underlying33 rfl (OwnP.k0 o1 hs) e2 rfl)
 · intro ax tx hs okx sm d0
   have e3 : At (Ty.lst Ty.ints cs) tx ax (.tmp 12) := d0 rfl
   exact run_plain rfl (y_len Try.underlying33 e3)
 · intro ax tx hs okx sm
   exact run_plain rfl (y_move rfl)
 intro a2 s2 D2
 have ok2 := D2.ok
 have F2 := F1.step0 D2.stp
 have q3 : At (Ty.val t) s2 a2 (.tmp 0) := D2.kt q1 rfl
 have q4 : At (Ty.lst Ty.int r) s2 a2 (.tmp 1) := D2.kt q2 rfl
 have o4 := OwnP.k0 o1 D2.stp
 have o5 := OwnM.k0 o2 D2.stp
 have o6 := Own.k0 o3 D2.stp
 have q5 : At (Ty.lst Ty.ints cs) s2 a2 (.tmp 12) := D2.done 3
 have b2 := sl_le q5
 have q6 : At (Ty.nat (List.length cs)) s2 a2 (.tmp 13) := D2.done 4
 have q7 : At (Ty.int (0 : Int)) s2 a2 (.tmp 14) := D2.done 5
 clear D2
 refine tn ?_
 refine wp_block ?_
 refine loop (fun n1 a3 w1 => ∃ (t1 : GW) (k : Nat) (fk : Int → Option Int) (pt : Value), t1.w = w1 ∧ FromL [40, 41, 42] σ t1 ∧ Ok 83 a3 ∧ At (Ty.nat k) t1 a3 (.tmp 14) ∧ At (Ty.val t) t1 a3 (.tmp 0) ∧ At (Ty.lst Ty.int r) t1 a3 (.tmp 1) ∧ At (Ty.lst Ty.ints cs) t1 a3 (.tmp 12) ∧ At (Ty.nat (List.length cs)) t1 a3 (.tmp 13) ∧ OwnP t1 40 t [(Ty.lst Ty.ints cs), (Ty.val mp), (Ty.val pt), (Ty.nat (fct n))] ∧ OwnM Ty.int kI t1 41 mp fk ∧ Own t1 42 3 1 pt (List.length path) (List.map Ty.int path) ∧ (k ≤ cs.length) ∧ (∀ j, j < k → circK (circF cs (fct n) f) cs (fct n) rows path j = none) ∧ (SeenT n rows fk) ∧ n1 = cs.length - k) (cs.length - (0)) ?_ ?_
 ·
  exact ⟨s2, 0, fm, pt, rfl, F2, ok2, (cvi (by (first | rfl | omega | (simp_all; done) | (simp_all; omega))) q7), q3, q4, q5, q6, o4, (cvm (by (rfl)) o5), o6, by omega, fun j hj => absurd hj (Nat.not_lt_zero j), hs0, rfl⟩
 ·
  rintro n2 a4 w2 ⟨t2, k, fk, pt, rfl, F3, ok3, q8, q9, q10, q11, q12, o7, o8, o9, hk, hno, hs, rfl⟩
  refine wp_seq ?_
  refine reg (a := a4) (σ := t2) rfl (fun i_ => List.getD [(Ty.pr (Ty.bool (decide (((k : Nat) : Int) < (((List.length cs) : Nat) : Int)))))] i_ Pr.any) ok3 rfl ⟨?_, trivial⟩ ?_
  · intro ax tx hs okx sm
    exact run_plain rfl (y_lss (kp (sm 14 rfl) hs q8) (kp (sm 13 rfl) hs q12))
  intro a5 s3 D3
  have ok4 := D3.ok
  have F4 := F3.step0 D3.stp
  have q13 : At (Ty.nat k) s3 a5 (.tmp 14) := D3.kt q8 rfl
  have q14 : At (Ty.val t) s3 a5 (.tmp 0) := D3.kt q9 rfl
  have q15 : At (Ty.lst Ty.int r) s3 a5 (.tmp 1) := D3.kt q10 rfl
  have q16 : At (Ty.lst Ty.ints cs) s3 a5 (.tmp 12) := D3.kt q11 rfl
  have q17 : At (Ty.nat (List.length cs)) s3 a5 (.tmp 13) := D3.kt q12 rfl
  have o10 := OwnP.k0 o7 D3.stp
  have o11 := OwnM.k0 o8 D3.stp
  have o12 := Own.k0 o9 D3.stp
  have q18 : At (Ty.bool (decide (((k : Nat) : Int) < (((List.length cs) : Nat) : Int)))) s3 a5 (.tmp 15) := D3.done 0
  clear D3
  refine tn ?_
  refine wp_seq ?_
  refine cond_p (p := (((k : Nat) : Int) < (((List.length cs) : Nat) : Int))) q18 (fun c1 => ?_) (fun c1 => ?_)
  ·
   have hk2 := ht.csr k (by omega); have hx := ht.x (k := k) (by omega); have hxl := hx.1.le; have hbd : ∀ i, i < (cs.getD k []).length → 0 ≤ (cs.getD k []).getD i 0 ∧ (cs.getD k []).getD i 0 < r.length := (fun i hi => by rw [hrr.2, ← hk2.2]; exact hk2.1.at hi)
   refine wp_skip ?_
   refine tn ?_
   refine wp_seq ?_
   refine wp_block ?_
   refine wp_seq ?_
   refine reg (a := a5) (σ := s3) rfl (fun i_ => List.getD [(Ty.pr (Ty.nat k)), (Ty.pr (Ty.ref [(Ty.lst Ty.int (cs.getD k []))])), (Ty.pr (Ty.lst Ty.int (cs.getD k []))), (Ty.pr (Ty.nat k)), (Ty.pr (Ty.lst Ty.int (cs.getD k [])))] i_ Pr.any) ok4 rfl ⟨?_, ?_, ?_, ?_, ?_, trivial⟩ ?_
   · intro ax tx hs okx sm
     exact run_plain rfl (y_move (kp (sm 14 rfl) hs q13))
   · intro ax tx hs okx sm
     exact run_plain rfl (y_index1 Try.underlying33 Try.inf34 (kp (sm 12 rfl) hs q16) (kp (sm 14 rfl) hs q13) (by omega) (lst_get Ty.ints cs [] k (by omega)))
   · intro ax tx hs okx sm d0
     have e1 : At (Ty.ref [(Ty.lst Ty.int (cs.getD k []))]) tx ax (.tmp 17) := d0 rfl
     exact run_plain rfl (y_load Try.underlying34 rfl e1 rfl)
   · intro ax tx hs okx sm d0 d1 d2 d3
     have e0 : At (Ty.nat k) tx ax (.tmp 16) := d0 rfl
     have e1 : At (Ty.ref [(Ty.lst Ty.int (cs.getD k []))]) tx ax (.tmp 17) := d2 rfl
     have e2 : At (Ty.lst Ty.int (cs.getD k [])) tx ax (.tmp 18) := d3 rfl
     exact run_plain rfl (y_assign e0)
   · intro ax tx hs okx sm d0 d1 d2 d3 d4 d5
     have e2 : At (Ty.lst Ty.int (cs.getD k [])) tx ax (.tmp 18) := d0 rfl
     have e3 : At (Ty.nat k) tx ax (.tmp 5) := d1 rfl
     have e0 : At (Ty.nat k) tx ax (.tmp 16) := d2 rfl
     have e1 : At (Ty.ref [(Ty.lst Ty.int (cs.getD k []))]) tx ax (.tmp 17) := d3 rfl
     exact run_plain rfl (y_assign e2)
   intro a6 s4 D4
   have ok5 := D4.ok
   have F5 := F4.step0 D4.stp
   have q19 : At (Ty.nat k) s4 a6 (.tmp 14) := D4.kt q13 rfl
   have q20 : At (Ty.val t) s4 a6 (.tmp 0) := D4.kt q14 rfl
   have q21 : At (Ty.lst Ty.int r) s4 a6 (.tmp 1) := D4.kt q15 rfl
   have q22 : At (Ty.lst Ty.ints cs) s4 a6 (.tmp 12) := D4.kt q16 rfl
   have q23 : At (Ty.nat (List.length cs)) s4 a6 (.tmp 13) := D4.kt q17 rfl
   have o13 := OwnP.k0 o10 D4.stp
   have o14 := OwnM.k0 o11 D4.stp
   have o15 := Own.k0 o12 D4.stp
   have q24 : At (Ty.nat k) s4 a6 (.tmp 5) := D4.done 3
   have q25 : At (Ty.lst Ty.int (cs.getD k [])) s4 a6 (.tmp 6) := D4.done 4
   clear D4
   refine tn ?_
   refine wp_seq ?_
   refine reg (a := a6) (σ := s4) rfl (fun i_ => List.getD [(Ty.pr (Ty.lst Ty.int r)), (Ty.pr (Ty.lst Ty.int (cs.getD k []))), (Ty.pr (Ty.lst Ty.int (byL (r) ((cs.getD k []))))), (Ty.pr (Ty.lst Ty.int (byL (r) ((cs.getD k [])))))] i_ Pr.any) ok5 rfl ⟨?_, ?_, ?_, ?_, trivial⟩ ?_
   · intro ax tx hs okx sm
     exact run_plain rfl (y_move (kp (sm 1 rfl) hs q21))
   · intro ax tx hs okx sm
     exact run_plain rfl (y_move (kp (sm 6 rfl) hs q25))
   · intro ax tx hs okx sm d0 d1
     have e0 : At (Ty.lst Ty.int r) tx ax (.tmp 19) := d0 rfl
     have e1 : At (Ty.lst Ty.int (cs.getD k [])) tx ax (.tmp 20) := d1 rfl
     exact run_plain rfl (y_call #[ax.eval (.tmp 19), ax.eval (.tmp 20)] Try.func98 rfl rfl (by simp only [List.map_toArray, List.map_cons, List.map_nil]) (product_fn (r) ((cs.getD k [])) _ _ _ e0 e1 (by first | assumption | omega) (by first | assumption | omega) (by first | assumption | omega)))
   · intro ax tx hs okx sm d0 d1 d2 d3 d4
     have e2 : At (Ty.lst Ty.int (byL (r) ((cs.getD k [])))) tx ax (.tmp 21) := d0 rfl
     have e0 : At (Ty.lst Ty.int r) tx ax (.tmp 19) := d2 rfl
     have e1 : At (Ty.lst Ty.int (cs.getD k [])) tx ax (.tmp 20) := d3 rfl
     exact run_plain rfl (y_assign e2)
   intro a7 s5 D5
   have ok6 := D5.ok
   have F6 := F5.step0 D5.stp
   have q26 : At (Ty.nat k) s5 a7 (.tmp 14) := D5.kt q19 rfl
   have q27 : At (Ty.val t) s5 a7 (.tmp 0) := D5.kt q20 rfl
   have q28 : At (Ty.lst Ty.int r) s5 a7 (.tmp 1) := D5.kt q21 rfl
   have q29 : At (Ty.lst Ty.ints cs) s5 a7 (.tmp 12) := D5.kt q22 rfl
   have q30 : At (Ty.nat (List.length cs)) s5 a7 (.tmp 13) := D5.kt q23 rfl
   have q31 : At (Ty.nat k) s5 a7 (.tmp 5) := D5.kt q24 rfl
   have o16 := OwnP.k0 o13 D5.stp
   have o17 := OwnM.k0 o14 D5.stp
   have o18 := Own.k0 o15 D5.stp
   have q32 : At (Ty.lst Ty.int (byL (r) ((cs.getD k [])))) s5 a7 (.tmp 7) := D5.done 3
   clear D5
   refine tn ?_
   refine wp_seq ?_
   refine reg (a := a7) (σ := s5) rfl (fun i_ => List.getD [(Ty.pr (Ty.lst Ty.int (byL (r) ((cs.getD k []))))), (Ty.pr (Ty.nat (rankL ((byL (r) ((cs.getD k []))))))), (Ty.pr (Ty.nat (rankL ((byL (r) ((cs.getD k [])))))))] i_ Pr.any) ok6 rfl ⟨?_, ?_, ?_, trivial⟩ ?_
   · intro ax tx hs okx sm
     exact run_plain rfl (y_move (kp (sm 7 rfl) hs q32))
   · intro ax tx hs okx sm d0
     have e0 : At (Ty.lst Ty.int (byL (r) ((cs.getD k [])))) tx ax (.tmp 22) := d0 rfl
     exact run_plain rfl (y_call #[ax.eval (.tmp 22)] Try.func94 rfl rfl (by simp only [List.map_toArray, List.map_cons, List.map_nil]) (rowPlace_fn ((byL (r) ((cs.getD k [])))) _ _ e0 (by omega)))
   · intro ax tx hs okx sm d0 d1 d2 d3
     have e1 : At (Ty.nat (rankL ((byL (r) ((cs.getD k [])))))) tx ax (.tmp 23) := d0 rfl
     have e0 : At (Ty.lst Ty.int (byL (r) ((cs.getD k [])))) tx ax (.tmp 22) := d2 rfl
     exact run_plain rfl (y_assign e1)
   intro a8 s6 D6
   have ok7 := D6.ok
   have F7 := F6.step0 D6.stp
   have q33 : At (Ty.nat k) s6 a8 (.tmp 14) := D6.kt q26 rfl
   have q34 : At (Ty.val t) s6 a8 (.tmp 0) := D6.kt q27 rfl
   have q35 : At (Ty.lst Ty.int r) s6 a8 (.tmp 1) := D6.kt q28 rfl
   have q36 : At (Ty.lst Ty.ints cs) s6 a8 (.tmp 12) := D6.kt q29 rfl
   have q37 : At (Ty.nat (List.length cs)) s6 a8 (.tmp 13) := D6.kt q30 rfl
   have q38 : At (Ty.nat k) s6 a8 (.tmp 5) := D6.kt q31 rfl
   have q39 : At (Ty.lst Ty.int (byL (r) ((cs.getD k [])))) s6 a8 (.tmp 7) := D6.kt q32 rfl
   have o19 := OwnP.k0 o16 D6.stp
   have o20 := OwnM.k0 o17 D6.stp
   have o21 := Own.k0 o18 D6.stp
   have q40 : At (Ty.nat (rankL ((byL (r) ((cs.getD k [])))))) s6 a8 (.tmp 8) := D6.done 2
   clear D6
   refine tn ?_
   refine wp_seq ?_
   refine reg2 (a := a8) (σ := s6) rfl 7 (fun i_ => List.getD [(Ty.pr (Ty.val t)), (Ty.pr (Ty.val t)), (Ty.pr (Ty.val t)), (Ty.pr (Ty.val (ptrAt t 2))), (Ty.pr (Ty.val pt)), (Ty.pr (Ty.nat k)), (Ty.pr (Ty.sl 1 1 [(Ty.nat k)]))] i_ Pr.any) ok7 rfl (by decide) rfl ⟨?_, ?_, ?_, ?_, ?_, ?_, ?_, trivial⟩ ?_
   · intro ax tx hs okx sm
     exact run_plain rfl (y_move (kp (sm 0 rfl) hs q34))
   · intro ax tx hs okx sm
     exact run_plain rfl (y_move (kp (sm 0 rfl) hs q34))
   · intro ax tx hs okx sm d0
     have e1 : At (Ty.val t) tx ax (.tmp 25) := d0 rfl
     exact run_plain rfl (y_nilp (OwnP.k0 o19 hs) e1)
   · intro ax tx hs okx sm d0
     have e2 : At (Ty.val t) tx ax (.tmp 26) := d0 rfl
     exact run_plain rfl (ownp_field Try.fld128_2 Try.inf34 (by decide) (OwnP.k0 o19 hs) e2)
   · intro ax tx hs okx sm d0
     have e3 : At (Ty.val (ptrAt t 2)) tx ax (.tmp 27) := d0 rfl
     exact run_plain rfl (ownp_load Try.underlying34 rfl (OwnP.k0 o19 hs) e3 rfl)
   · intro ax tx hs okx sm
     exact run_plain rfl (y_move (kp (sm 5 rfl) hs q38))
   · intro ax tx hs okx sm d0
     have e5 : At (Ty.nat k) tx ax (.tmp 29) := d0 rfl
     exact run_plain rfl (y_build1o Try.underlying34 Try.inf3 rfl (one_val rfl) e5)
   intro a9 s7 D7
   have ok8 := D7.ok
   have F8 := F7.step0 D7.stp
   have q41 : At (Ty.nat k) s7 a9 (.tmp 14) := D7.kt q33 rfl
   have q42 : At (Ty.val t) s7 a9 (.tmp 0) := D7.kt q34 rfl
   have q43 : At (Ty.lst Ty.int r) s7 a9 (.tmp 1) := D7.kt q35 rfl
   have q44 : At (Ty.lst Ty.ints cs) s7 a9 (.tmp 12) := D7.kt q36 rfl
   have q45 : At (Ty.nat (List.length cs)) s7 a9 (.tmp 13) := D7.kt q37 rfl
   have q46 : At (Ty.lst Ty.int (byL (r) ((cs.getD k [])))) s7 a9 (.tmp 7) := D7.kt q39 rfl
   have q47 : At (Ty.nat (rankL ((byL (r) ((cs.getD k [])))))) s7 a9 (.tmp 8) := D7.kt q40 rfl
   have o22 := OwnP.k0 o19 D7.stp
   have o23 := OwnM.k0 o20 D7.stp
   have o24 := Own.k0 o21 D7.stp
   have q48 : At (Ty.val t) s7 a9 (.tmp 24) := D7.done 0 (by decide)
   have q49 : At (Ty.val pt) s7 a9 (.tmp 28) := D7.done 4 (by decide)
   have q50 : At (Ty.sl 1 1 [(Ty.nat k)]) s7 a9 (.tmp 30) := D7.done 6 (by decide)
   have b3 := sl_le q50
   clear D7
   refine tailL (L := [42]) (R := (fun v τ => Own τ 42 3 1 v ((List.length path) + 1) ((List.map Ty.int path) ++ [(Ty.nat k)]))) rfl rfl (by decide) ok8 (YldM.toL (m_append Try.underlying34 Try.inf3 (by decide) rfl (by decide) (al (R := (Pr.own 42 3 1 (List.length path) (List.map Ty.int path))) q49 o24) q50 (by intro U hU; simp at hU; subst hU; exact one_val rfl) (by omega) (by omega))) (fun a10 s8 hs1 ok9 r1 sm1 => ?_)
   have F9 := F8.stepL hs1 (by decide)
   have q51 : At (Ty.nat k) s8 a10 (.tmp 14) := kpL hs1 (by decide) (sm1 14 (by decide)) q41
   have q52 : At (Ty.val t) s8 a10 (.tmp 0) := kpL hs1 (by decide) (sm1 0 (by decide)) q42
   have q53 : At (Ty.lst Ty.int r) s8 a10 (.tmp 1) := kpL hs1 (by decide) (sm1 1 (by decide)) q43
   have q54 : At (Ty.lst Ty.ints cs) s8 a10 (.tmp 12) := kpL hs1 (by decide) (sm1 12 (by decide)) q44
   have q55 : At (Ty.nat (List.length cs)) s8 a10 (.tmp 13) := kpL hs1 (by decide) (sm1 13 (by decide)) q45
   have q56 : At (Ty.lst Ty.int (byL (r) ((cs.getD k [])))) s8 a10 (.tmp 7) := kpL hs1 (by decide) (sm1 7 (by decide)) q46
   have q57 : At (Ty.nat (rankL ((byL (r) ((cs.getD k [])))))) s8 a10 (.tmp 8) := kpL hs1 (by decide) (sm1 8 (by decide)) q47
   have q58 : At (Ty.val t) s8 a10 (.tmp 24) := kpL hs1 (by decide) (sm1 24 (by decide)) q48
   have o26 := OwnP.keepL o22 hs1 (by decide) (by decide)
   have o27 := OwnM.keepL o23 hs1 (by decide) (by decide)
   obtain ⟨x1, hx1⟩ : ∃ x, a10.eval (.tmp 31) = x := ⟨_, rfl⟩
   have q59 : At (Ty.val x1) s8 a10 (.tmp 31) := hx1
   have o25 : Own s8 42 3 1 x1 (List.length (path ++ [((k : Nat) : Int)])) (List.map Ty.int (path ++ [((k : Nat) : Int)])) := al2 (R := (Pr.own 42 3 1 (List.length (path ++ [((k : Nat) : Int)])) (List.map Ty.int (path ++ [((k : Nat) : Int)])))) hx1 (cvo (by simp) (by first | (rw [List.map_append]; rfl) | simp) r1)
   clear r1
   refine tailL (L := []) (R := (fun v τ => Pr.has (Ty.pr (Ty.val t)) τ v)) rfl rfl (by decide) ok9 (Yld.toL (y_nilp o26 q58)) (fun a11 s9 hs2 ok10 r2 sm2 => ?_)
   have F10 := F9.stepL hs2 (by decide)
   have q60 : At (Ty.nat k) s9 a11 (.tmp 14) := kpL hs2 (by decide) (sm2 14 (by decide)) q51
   have q61 : At (Ty.val t) s9 a11 (.tmp 0) := kpL hs2 (by decide) (sm2 0 (by decide)) q52
   have q62 : At (Ty.lst Ty.int r) s9 a11 (.tmp 1) := kpL hs2 (by decide) (sm2 1 (by decide)) q53
   have q63 : At (Ty.lst Ty.ints cs) s9 a11 (.tmp 12) := kpL hs2 (by decide) (sm2 12 (by decide)) q54
   have q64 : At (Ty.nat (List.length cs)) s9 a11 (.tmp 13) := kpL hs2 (by decide) (sm2 13 (by decide)) q55
   have q65 : At (Ty.lst Ty.int (byL (r) ((cs.getD k [])))) s9 a11 (.tmp 7) := kpL hs2 (by decide) (sm2 7 (by decide)) q56
   have q66 : At (Ty.nat (rankL ((byL (r) ((cs.getD k [])))))) s9 a11 (.tmp 8) := kpL hs2 (by decide) (sm2 8 (by decide)) q57
   have q67 : At (Ty.val x1) s9 a11 (.tmp 31) := kpL hs2 (by decide) (sm2 31 (by decide)) q59
   have o28 := OwnP.keepL o26 hs2 (by decide) (by decide)
   have o29 := OwnM.keepL o27 hs2 (by decide) (by decide)
   have o30 := Own.keepL o25 hs2 (by decide) (by decide)
   have q68 : At (Ty.val t) s9 a11 (.tmp 32) := r2
   clear r2
   refine tailL (L := []) (R := (fun v τ => Pr.has (Ty.pr (Ty.val (ptrAt t 2))) τ v)) rfl rfl (by decide) ok10 (Yld.toL (ownp_field Try.fld128_2 Try.inf34 (by decide) o28 q68)) (fun a12 s10 hs3 ok11 r3 sm3 => ?_)
   have F11 := F10.stepL hs3 (by decide)
   have q69 : At (Ty.nat k) s10 a12 (.tmp 14) := kpL hs3 (by decide) (sm3 14 (by decide)) q60
   have q70 : At (Ty.val t) s10 a12 (.tmp 0) := kpL hs3 (by decide) (sm3 0 (by decide)) q61
   have q71 : At (Ty.lst Ty.int r) s10 a12 (.tmp 1) := kpL hs3 (by decide) (sm3 1 (by decide)) q62
   have q72 : At (Ty.lst Ty.ints cs) s10 a12 (.tmp 12) := kpL hs3 (by decide) (sm3 12 (by decide)) q63
   have q73 : At (Ty.nat (List.length cs)) s10 a12 (.tmp 13) := kpL hs3 (by decide) (sm3 13 (by decide)) q64
   have q74 : At (Ty.lst Ty.int (byL (r) ((cs.getD k [])))) s10 a12 (.tmp 7) := kpL hs3 (by decide) (sm3 7 (by decide)) q65
   have q75 : At (Ty.nat (rankL ((byL (r) ((cs.getD k [])))))) s10 a12 (.tmp 8) := kpL hs3 (by decide) (sm3 8 (by decide)) q66
   have q76 : At (Ty.val x1) s10 a12 (.tmp 31) := kpL hs3 (by decide) (sm3 31 (by decide)) q67
   have o31 := OwnP.keepL o28 hs3 (by decide) (by decide)
   have o32 := OwnM.keepL o29 hs3 (by decide) (by decide)
   have o33 := Own.keepL o30 hs3 (by decide) (by decide)
   have q77 : At (Ty.val (ptrAt t 2)) s10 a12 (.tmp 33) := r3
   clear r3
   refine tailL0 (L := [40]) (R := (fun _ τ => OwnP τ 40 t ([(Ty.lst Ty.ints cs), (Ty.val mp), (Ty.val pt), (Ty.nat (fct n))].set 2 (Ty.val x1)))) rfl rfl (YldM.toL (m_storep Try.inf34 (by decide) o31 q77 (Nat.le_of_ble_eq_true rfl) q76 (one_val (Own.one o33)))) (fun v1 s11 hs4 r4 => ?_)
   have F12 := F11.stepL hs4 (by decide)
   have q78 : At (Ty.nat k) s11 a12 (.tmp 14) := kpL hs4 (by decide) rfl q69
   have q79 : At (Ty.val t) s11 a12 (.tmp 0) := kpL hs4 (by decide) rfl q70
   have q80 : At (Ty.lst Ty.int r) s11 a12 (.tmp 1) := kpL hs4 (by decide) rfl q71
   have q81 : At (Ty.lst Ty.ints cs) s11 a12 (.tmp 12) := kpL hs4 (by decide) rfl q72
   have q82 : At (Ty.nat (List.length cs)) s11 a12 (.tmp 13) := kpL hs4 (by decide) rfl q73
   have q83 : At (Ty.lst Ty.int (byL (r) ((cs.getD k [])))) s11 a12 (.tmp 7) := kpL hs4 (by decide) rfl q74
   have q84 : At (Ty.nat (rankL ((byL (r) ((cs.getD k [])))))) s11 a12 (.tmp 8) := kpL hs4 (by decide) rfl q75
   have o35 := OwnM.keepL o32 hs4 (by decide) (by decide)
   have o36 := Own.keepL o33 hs4 (by decide) (by decide)
   have o34 : OwnP s11 40 t [(Ty.lst Ty.ints cs), (Ty.val mp), (Ty.val x1), (Ty.nat (fct n))] := r4
   clear r4
   refine wpList_nil ?_
   have hpl1 : (path ++ [((k : Nat) : Int)]).length = path.length + 1 := (by simp)
   refine tn ?_
   refine wp_seq ?_
   refine wp_seq ?_
   refine reg (a := a12) (σ := s11) rfl (fun i_ => List.getD [(Ty.pr (Ty.val t)), (Ty.pr (Ty.val t)), (Ty.pr (Ty.val (ptrAt t 2))), (Ty.pr (Ty.val x1)), (Ty.pr (Ty.nat (List.length (path ++ [((k : Nat) : Int)])))), (Ty.pr (Ty.val t)), (Ty.pr (Ty.val t)), (Ty.pr (Ty.val (ptrAt t 3))), (Ty.pr (Ty.nat (fct n))), (Ty.pr (Ty.bool (decide ((((List.length (path ++ [((k : Nat) : Int)])) : Nat) : Int) = (((fct n) : Nat) : Int))))), (Ty.pr (Ty.bool (decide ((((List.length (path ++ [((k : Nat) : Int)])) : Nat) : Int) = (((fct n) : Nat) : Int))))), (Ty.pr (Ty.grd ((decide ((((List.length (path ++ [((k : Nat) : Int)])) : Nat) : Int) = (((fct n) : Nat) : Int))) = true) (Ty.nat (rankL ((byL (r) ((cs.getD k [])))))))), (Ty.pr (Ty.grd ((decide ((((List.length (path ++ [((k : Nat) : Int)])) : Nat) : Int) = (((fct n) : Nat) : Int))) = true) (Ty.bool (decide ((((rankL ((byL (r) ((cs.getD k []))))) : Nat) : Int) = (0 : Int)))))), (Ty.pr (Ty.bool ((decide ((((List.length (path ++ [((k : Nat) : Int)])) : Nat) : Int) = (((fct n) : Nat) : Int))) && (decide ((((rankL ((byL (r) ((cs.getD k []))))) : Nat) : Int) = (0 : Int))))))] i_ Pr.any) ok11 rfl ⟨?_, ?_, ?_, ?_, ?_, ?_, ?_, ?_, ?_, ?_, ?_, ?_, ?_, ?_, trivial⟩ ?_
   · intro ax tx hs okx sm
     exact run_plain rfl (y_move (kp (sm 0 rfl) hs q79))
   · intro ax tx hs okx sm d0
     have e0 : At (Ty.val t) tx ax (.tmp 34) := d0 rfl
     exact run_plain rfl (y_nilp (OwnP.k0 o34 hs) e0)
   · intro ax tx hs okx sm d0
     have e1 : At (Ty.val t) tx ax (.tmp 35) := d0 rfl
     exact run_plain rfl (ownp_field Try.fld128_2 Try.inf34 (by decide) (OwnP.k0 o34 hs) e1)
   · intro ax tx hs okx sm d0
     have e2 : At (Ty.val (ptrAt t 2)) tx ax (.tmp 36) := d0 rfl
     exact run_plain rfl (ownp_load Try.underlying34 rfl (OwnP.k0 o34 hs) e2 rfl)
   · intro ax tx hs okx sm d0
     have e3 : At (Ty.val x1) tx ax (.tmp 37) := d0 rfl
     exact run_plain rfl (own_len Try.underlying34 (al (R := (Pr.own 42 3 1 (List.length (path ++ [((k : Nat) : Int)])) (List.map Ty.int (path ++ [((k : Nat) : Int)])))) e3 (Own.k0 o36 hs)))
   · intro ax tx hs okx sm
     exact run_plain rfl (y_move (kp (sm 0 rfl) hs q79))
   · intro ax tx hs okx sm d0
     have e5 : At (Ty.val t) tx ax (.tmp 39) := d0 rfl
     exact run_plain rfl (y_nilp (OwnP.k0 o34 hs) e5)
   · intro ax tx hs okx sm d0
     have e6 : At (Ty.val t) tx ax (.tmp 40) := d0 rfl
     exact run_plain rfl (ownp_field Try.fld128_3 Try.inf3 (by decide) (OwnP.k0 o34 hs) e6)
   · intro ax tx hs okx sm d0
     have e7 : At (Ty.val (ptrAt t 3)) tx ax (.tmp 41) := d0 rfl
     exact run_plain rfl (ownp_load Try.underlying3 rfl (OwnP.k0 o34 hs) e7 rfl)
   · intro ax tx hs okx sm d0 d1
     have e4 : At (Ty.nat (List.length (path ++ [((k : Nat) : Int)]))) tx ax (.tmp 38) := d0 rfl
     have e8 : At (Ty.nat (fct n)) tx ax (.tmp 42) := d1 rfl
     exact run_plain rfl (y_eql e4 e8)
   · intro ax tx hs okx sm d0
     have e9 : At (Ty.bool (decide ((((List.length (path ++ [((k : Nat) : Int)])) : Nat) : Int) = (((fct n) : Nat) : Int)))) tx ax (.tmp 43) := d0 rfl
     exact run_plain rfl (y_move e9)
   · intro ax tx hs okx sm d0
     have e10 : At (Ty.bool (decide ((((List.length (path ++ [((k : Nat) : Int)])) : Nat) : Int) = (((fct n) : Nat) : Int)))) tx ax (.tmp 44) := d0 rfl
     refine run_guard (T := (Ty.nat (rankL ((byL (r) ((cs.getD k []))))))) okx rfl rfl (by decide) e10 (fun hg => ?_)
     have hp := of_decide_eq_true hg
     exact y_move (kp (sm 8 rfl) hs q84)
   · intro ax tx hs okx sm d0 d1
     have e11 : At (Ty.grd ((decide ((((List.length (path ++ [((k : Nat) : Int)])) : Nat) : Int) = (((fct n) : Nat) : Int))) = true) (Ty.nat (rankL ((byL (r) ((cs.getD k []))))))) tx ax (.tmp 45) := d0 rfl
     have e10 : At (Ty.bool (decide ((((List.length (path ++ [((k : Nat) : Int)])) : Nat) : Int) = (((fct n) : Nat) : Int)))) tx ax (.tmp 44) := d1 rfl
     refine run_guard (T := (Ty.bool (decide ((((rankL ((byL (r) ((cs.getD k []))))) : Nat) : Int) = (0 : Int))))) okx rfl rfl (by decide) e10 (fun hg => ?_)
     have hp := of_decide_eq_true hg
     exact y_eql (e11.1 hg) rfl
   · intro ax tx hs okx sm d0 d1
     have e10 : At (Ty.bool (decide ((((List.length (path ++ [((k : Nat) : Int)])) : Nat) : Int) = (((fct n) : Nat) : Int)))) tx ax (.tmp 44) := d0 rfl
     have e12 : At (Ty.grd ((decide ((((List.length (path ++ [((k : Nat) : Int)])) : Nat) : Int) = (((fct n) : Nat) : Int))) = true) (Ty.bool (decide ((((rankL ((byL (r) ((cs.getD k []))))) : Nat) : Int) = (0 : Int))))) tx ax (.tmp 46) := d1 rfl
     exact run_plain rfl (y_pick_and e10 e12 rfl)
   intro a13 s12 D8
   have ok12 := D8.ok
   have F13 := F12.step0 D8.stp
   have q86 : At (Ty.nat k) s12 a13 (.tmp 14) := D8.kt q78 rfl
   have q87 : At (Ty.val t) s12 a13 (.tmp 0) := D8.kt q79 rfl
   have q88 : At (Ty.lst Ty.int r) s12 a13 (.tmp 1) := D8.kt q80 rfl
   have q89 : At (Ty.lst Ty.ints cs) s12 a13 (.tmp 12) := D8.kt q81 rfl
   have q90 : At (Ty.nat (List.length cs)) s12 a13 (.tmp 13) := D8.kt q82 rfl
   have q91 : At (Ty.lst Ty.int (byL (r) ((cs.getD k [])))) s12 a13 (.tmp 7) := D8.kt q83 rfl
   have q92 : At (Ty.nat (rankL ((byL (r) ((cs.getD k [])))))) s12 a13 (.tmp 8) := D8.kt q84 rfl
   have o37 := OwnM.k0 o35 D8.stp
   have o38 := Own.k0 o36 D8.stp
   have o39 := OwnP.k0 o34 D8.stp
   have q93 : At (Ty.bool ((decide ((((List.length (path ++ [((k : Nat) : Int)])) : Nat) : Int) = (((fct n) : Nat) : Int))) && (decide ((((rankL ((byL (r) ((cs.getD k []))))) : Nat) : Int) = (0 : Int))))) s12 a13 (.tmp 47) := D8.done 13
   clear D8
   refine tn ?_
   refine cond_t q93 (fun c2 => ?_) (fun c2 => ?_)
   ·
    obtain ⟨d1, d2⟩ := Bool.and_eq_true_iff.mp c2
    replace d1 := of_decide_eq_true d1
    replace d2 := of_decide_eq_true d2
    simp only [Bool.and_eq_true, decide_eq_true_eq, List.length_append, List.length_cons, List.length_nil] at c2
    refine wp_seq ?_
    refine reg (a := a13) (σ := s12) rfl (fun i_ => List.getD [(Ty.pr (Ty.bool true))] i_ Pr.any) ok12 rfl ⟨?_, trivial⟩ ?_
    · intro ax tx hs okx sm
      exact run_plain rfl (y_assign rfl)
    intro a14 s13 D9
    have ok13 := D9.ok
    have F14 := F13.step0 D9.stp
    have o40 := OwnM.k0 o37 D9.stp
    have o41 := Own.k0 o38 D9.stp
    have o42 := OwnP.k0 o39 D9.stp
    have q94 : At (Ty.bool true) s13 a14 (.tmp 4) := D9.done 0
    clear D9
    refine tn ?_
    refine wp_ret ?_
    refine tr ?_
    refine br ?_
    refine tr ?_
    refine tr ?_
    refine br ?_
    refine tr ?_
    exact retL1 rfl ok13 F14 ⟨fk, x1, (cvb (by (rw [circ_found hno (by omega) (circK_hit ht.last (by omega) (by omega))]; rfl)) q94), o42, (cvm (by (rfl)) o40), (cvo (by (rw [circ_found hno (by omega) (circK_hit ht.last (by omega) (by omega))]; rfl)) (by (rw [circ_found hno (by omega) (circK_hit ht.last (by omega) (by omega))]; rfl)) o41), (by intro h; rw [circ_found hno (by omega) (circK_hit ht.last (by omega) (by omega))] at h; cases h)⟩
   ·
    have hc2 : ¬ (path.length + 1 = fct n ∧ rankL (byL r (cs.getD k [])) = 0) := (by intro h; simp only [Bool.and_eq_false_iff, decide_eq_false_iff_not, List.length_append, List.length_cons, List.length_nil] at c2; omega)
    refine wp_skip ?_
    refine tn ?_
    refine wp_seq ?_
    refine wp_seq ?_
    refine reg (a := a13) (σ := s12) rfl (fun i_ => List.getD [(Ty.pr (Ty.val t)), (Ty.pr (Ty.val t)), (Ty.pr (Ty.val (ptrAt t 1))), (Ty.pr (Ty.val mp)), (Ty.pr (Ty.nat (rankL ((byL (r) ((cs.getD k []))))))), (Ty.pr (Ty.int ((fk (((rankL ((byL (r) ((cs.getD k []))))) : Nat) : Int)).getD 0))), (Ty.pr (Ty.bool (decide (((fk (((rankL ((byL (r) ((cs.getD k []))))) : Nat) : Int)).getD 0) = (0 : Int)))))] i_ Pr.any) ok12 rfl ⟨?_, ?_, ?_, ?_, ?_, ?_, ?_, trivial⟩ ?_
    · intro ax tx hs okx sm
      exact run_plain rfl (y_move (kp (sm 0 rfl) hs q87))
    · intro ax tx hs okx sm d0
      have e0 : At (Ty.val t) tx ax (.tmp 48) := d0 rfl
      exact run_plain rfl (y_nilp (OwnP.k0 o39 hs) e0)
    · intro ax tx hs okx sm d0
      have e1 : At (Ty.val t) tx ax (.tmp 49) := d0 rfl
      exact run_plain rfl (ownp_field Try.fld128_1 Try.inf126 (by decide) (OwnP.k0 o39 hs) e1)
    · intro ax tx hs okx sm d0
      have e2 : At (Ty.val (ptrAt t 1)) tx ax (.tmp 50) := d0 rfl
      exact run_plain rfl (ownp_load Try.underlying126 rfl (OwnP.k0 o39 hs) e2 rfl)
    · intro ax tx hs okx sm
      exact run_plain rfl (y_move (kp (sm 8 rfl) hs q92))
    · intro ax tx hs okx sm d0 d1
      have e3 : At (Ty.val mp) tx ax (.tmp 51) := d0 rfl
      have e4 : At (Ty.nat (rankL ((byL (r) ((cs.getD k [])))))) tx ax (.tmp 52) := d1 rfl
      exact run_plain rfl (y_lookup (i := (((rankL ((byL (r) ((cs.getD k []))))) : Nat) : Int)) (z := 0) Try.underlying126 (keyInt Try.underlying3) Try.inf3 (fun _ => rfl) (OwnM.k0 o37 hs) e3 e4)
    · intro ax tx hs okx sm d0
      have e5 : At (Ty.int ((fk (((rankL ((byL (r) ((cs.getD k []))))) : Nat) : Int)).getD 0)) tx ax (.tmp 53) := d0 rfl
      exact run_plain rfl (y_eql e5 rfl)
    intro a15 s14 D10
    have ok14 := D10.ok
    have F15 := F13.step0 D10.stp
    have q95 : At (Ty.nat k) s14 a15 (.tmp 14) := D10.kt q86 rfl
    have q96 : At (Ty.val t) s14 a15 (.tmp 0) := D10.kt q87 rfl
    have q97 : At (Ty.lst Ty.int r) s14 a15 (.tmp 1) := D10.kt q88 rfl
    have q98 : At (Ty.lst Ty.ints cs) s14 a15 (.tmp 12) := D10.kt q89 rfl
    have q99 : At (Ty.nat (List.length cs)) s14 a15 (.tmp 13) := D10.kt q90 rfl
    have q100 : At (Ty.lst Ty.int (byL (r) ((cs.getD k [])))) s14 a15 (.tmp 7) := D10.kt q91 rfl
    have q101 : At (Ty.nat (rankL ((byL (r) ((cs.getD k [])))))) s14 a15 (.tmp 8) := D10.kt q92 rfl
    have o43 := OwnM.k0 o37 D10.stp
    have o44 := Own.k0 o38 D10.stp
    have o45 := OwnP.k0 o39 D10.stp
    have q102 : At (Ty.bool (decide (((fk (((rankL ((byL (r) ((cs.getD k []))))) : Nat) : Int)).getD 0) = (0 : Int)))) s14 a15 (.tmp 54) := D10.done 6
    clear D10
    refine tn ?_
    refine cond_p (p := (((fk (((rankL ((byL (r) ((cs.getD k []))))) : Nat) : Int)).getD 0) = (0 : Int))) q102 (fun c3 => ?_) (fun c3 => ?_)
    ·
     have hxn := (hs.in' hx).1 c3; have hfull := ht.full hx hxn; have hnx := ht.next (k := k) (by omega) hxn; have hsn := hs.put hx
     refine wp_seq ?_
     refine reg2 (a := a15) (σ := s14) rfl 5 (fun i_ => List.getD [(Ty.pr (Ty.val t)), (Ty.pr (Ty.val t)), (Ty.pr (Ty.val (ptrAt t 1))), (Ty.pr (Ty.val mp)), (Ty.pr (Ty.nat (rankL ((byL (r) ((cs.getD k [])))))))] i_ Pr.any) ok14 rfl (by decide) rfl ⟨?_, ?_, ?_, ?_, ?_, trivial⟩ ?_
     · intro ax tx hs okx sm
       exact run_plain rfl (y_move (kp (sm 0 rfl) hs q96))
     · intro ax tx hs okx sm d0
       have e0 : At (Ty.val t) tx ax (.tmp 55) := d0 rfl
       exact run_plain rfl (y_nilp (OwnP.k0 o45 hs) e0)
     · intro ax tx hs okx sm d0
       have e1 : At (Ty.val t) tx ax (.tmp 56) := d0 rfl
       exact run_plain rfl (ownp_field Try.fld128_1 Try.inf126 (by decide) (OwnP.k0 o45 hs) e1)
     · intro ax tx hs okx sm d0
       have e2 : At (Ty.val (ptrAt t 1)) tx ax (.tmp 57) := d0 rfl
       exact run_plain rfl (ownp_load Try.underlying126 rfl (OwnP.k0 o45 hs) e2 rfl)
     · intro ax tx hs okx sm
       exact run_plain rfl (y_move (kp (sm 8 rfl) hs q101))
     intro a16 s15 D11
     have ok15 := D11.ok
     have F16 := F15.step0 D11.stp
     have q103 : At (Ty.nat k) s15 a16 (.tmp 14) := D11.kt q95 rfl
     have q104 : At (Ty.val t) s15 a16 (.tmp 0) := D11.kt q96 rfl
     have q105 : At (Ty.lst Ty.int r) s15 a16 (.tmp 1) := D11.kt q97 rfl
     have q106 : At (Ty.lst Ty.ints cs) s15 a16 (.tmp 12) := D11.kt q98 rfl
     have q107 : At (Ty.nat (List.length cs)) s15 a16 (.tmp 13) := D11.kt q99 rfl
     have q108 : At (Ty.lst Ty.int (byL (r) ((cs.getD k [])))) s15 a16 (.tmp 7) := D11.kt q100 rfl
     have q109 : At (Ty.nat (rankL ((byL (r) ((cs.getD k [])))))) s15 a16 (.tmp 8) := D11.kt q101 rfl
     have o46 := OwnM.k0 o43 D11.stp
     have o47 := Own.k0 o44 D11.stp
     have o48 := OwnP.k0 o45 D11.stp
     have q110 : At (Ty.val mp) s15 a16 (.tmp 58) := D11.done 3 (by decide)
     have q111 : At (Ty.nat (rankL ((byL (r) ((cs.getD k [])))))) s15 a16 (.tmp 59) := D11.done 4 (by decide)
     clear D11
     refine tailL0 (L := [41]) (R := (fun _ τ => OwnM Ty.int kI τ 41 mp (fun x_ => if x_ = (((rankL ((byL (r) ((cs.getD k []))))) : Nat) : Int) then some (1 : Int) else fk x_))) rfl rfl (YldM.toL (m_mapset (i := (((rankL ((byL (r) ((cs.getD k []))))) : Nat) : Int)) Try.underlying126 (keyInt Try.underlying3) (by decide) o46 q110 q111 rfl)) (fun v2 s16 hs5 r5 => ?_)
     have F17 := F16.stepL hs5 (by decide)
     have q112 : At (Ty.nat k) s16 a16 (.tmp 14) := kpL hs5 (by decide) rfl q103
     have q113 : At (Ty.val t) s16 a16 (.tmp 0) := kpL hs5 (by decide) rfl q104
     have q114 : At (Ty.lst Ty.int r) s16 a16 (.tmp 1) := kpL hs5 (by decide) rfl q105
     have q115 : At (Ty.lst Ty.ints cs) s16 a16 (.tmp 12) := kpL hs5 (by decide) rfl q106
     have q116 : At (Ty.nat (List.length cs)) s16 a16 (.tmp 13) := kpL hs5 (by decide) rfl q107
     have q117 : At (Ty.lst Ty.int (byL (r) ((cs.getD k [])))) s16 a16 (.tmp 7) := kpL hs5 (by decide) rfl q108
     have q118 : At (Ty.nat (rankL ((byL (r) ((cs.getD k [])))))) s16 a16 (.tmp 8) := kpL hs5 (by decide) rfl q109
     have o50 := Own.keepL o47 hs5 (by decide) (by decide)
     have o51 := OwnP.keepL o48 hs5 (by decide) (by decide)
     have o49 : OwnM Ty.int kI s16 41 mp (fun x_ => if x_ = (((rankL ((byL (r) ((cs.getD k []))))) : Nat) : Int) then some (1 : Int) else fk x_) := r5
     clear r5
     refine wpList_nil ?_
     refine tn ?_
     refine wp_seq ?_
     refine wp_seq ?_
     refine reg2 (a := a16) (σ := s16) rfl 2 (fun i_ => List.getD [(Ty.pr (Ty.val t)), (Ty.pr (Ty.lst Ty.int (byL (r) ((cs.getD k [])))))] i_ Pr.any) ok15 rfl (by decide) rfl ⟨?_, ?_, trivial⟩ ?_
     · intro ax tx hs okx sm
       exact run_plain rfl (y_move (kp (sm 0 rfl) hs q113))
     · intro ax tx hs okx sm
       exact run_plain rfl (y_move (kp (sm 7 rfl) hs q117))
     intro a17 s17 D12
     have ok16 := D12.ok
     have F18 := F17.step0 D12.stp
     have q120 : At (Ty.nat k) s17 a17 (.tmp 14) := D12.kt q112 rfl
     have q121 : At (Ty.val t) s17 a17 (.tmp 0) := D12.kt q113 rfl
     have q122 : At (Ty.lst Ty.int r) s17 a17 (.tmp 1) := D12.kt q114 rfl
     have q123 : At (Ty.lst Ty.ints cs) s17 a17 (.tmp 12) := D12.kt q115 rfl
     have q124 : At (Ty.nat (List.length cs)) s17 a17 (.tmp 13) := D12.kt q116 rfl
     have q125 : At (Ty.nat (rankL ((byL (r) ((cs.getD k [])))))) s17 a17 (.tmp 8) := D12.kt q118 rfl
     have o52 := Own.k0 o50 D12.stp
     have o53 := OwnP.k0 o51 D12.stp
     have o54 := OwnM.k0 o49 D12.stp
     have q126 : At (Ty.val t) s17 a17 (.tmp 60) := D12.done 0 (by decide)
     have q127 : At (Ty.lst Ty.int (byL (r) ((cs.getD k [])))) s17 a17 (.tmp 61) := D12.done 1 (by decide)
     clear D12
     refine tailL (L := [40, 41, 42]) (R := (fun v τ' => ∃ τ, (fun v τ => ∃ (fz : Int → Option Int), ∃ (pz : Value), (Ty.has (Ty.bool (circF cs (fct n) (f) ((rows ++ [(byL r (cs.getD k []))])) ((path ++ [((k : Nat) : Int)]))).isSome) τ v) ∧ (OwnP τ 40 t [(Ty.lst Ty.ints cs), (Ty.val mp), (Ty.val pz), (Ty.nat (fct n))]) ∧ (OwnM Ty.int kI τ 41 mp fz) ∧ (Own τ 42 3 1 pz (List.length ((circF cs (fct n) (f) ((rows ++ [(byL r (cs.getD k []))])) ((path ++ [((k : Nat) : Int)]))).getD ((path ++ [((k : Nat) : Int)])))) (List.map Ty.int ((circF cs (fct n) (f) ((rows ++ [(byL r (cs.getD k []))])) ((path ++ [((k : Nat) : Int)]))).getD ((path ++ [((k : Nat) : Int)]))))) ∧ (circF cs (fct n) (f) ((rows ++ [(byL r (cs.getD k []))])) ((path ++ [((k : Nat) : Int)])) = none → SeenT n ((rows ++ [(byL r (cs.getD k []))])) fz)) v τ ∧ Back [(40, 40), (41, 41), (42, 42)] τ τ')) rfl rfl (by decide) ok16 (y_callL (L := [40, 41, 42]) [(40, 40), (41, 41), (42, 42)] [(40, 40), (41, 41), (42, 42)] #[a17.eval (.tmp 60), a17.eval (.tmp 61)] rfl (by decide) Try.func85 rfl rfl (by simp only [List.map_toArray, List.map_cons, List.map_nil]) (ih (f) (by omega) (t) (mp) (x1) (_) (cs) ((rows ++ [(byL r (cs.getD k []))])) ((path ++ [((k : Nat) : Int)])) ((byL (r) ((cs.getD k [])))) ((fun x_ => if x_ = (((rankL ((byL (r) ((cs.getD k []))))) : Nat) : Int) then some (1 : Int) else fk x_)) _ (GW.low_lend _ (by decide)) _ _ (Ty.up _ (GW.le_lend _ _) q126) (Ty.up _ (GW.le_lend _ _) q127) (OwnP.ren o53 (GW.ren_lend _ _ (by decide) rfl)) (OwnM.ren (cvm (by (rfl)) o54) (GW.ren_lend _ _ (by decide) rfl)) (Own.ren (cvo (by (simp)) (by (simp)) o52) (GW.ren_lend _ _ (by decide) rfl)) (by first | omega | assumption | (simp only [List.length_append, List.length_cons, List.length_nil]; omega)) (by first | omega | assumption | (simp only [List.length_append, List.length_cons, List.length_nil]; omega)) (by first | omega | assumption | (simp only [List.length_append, List.length_cons, List.length_nil]; omega)))) (fun a18 s18 hs6 ok17 r6 sm4 => ?_)
     have F19 := F18.stepL hs6 (by decide)
     have q128 : At (Ty.nat k) s18 a18 (.tmp 14) := kpL hs6 (by decide) (sm4 14 (by decide)) q120
     have q129 : At (Ty.val t) s18 a18 (.tmp 0) := kpL hs6 (by decide) (sm4 0 (by decide)) q121
     have q130 : At (Ty.lst Ty.int r) s18 a18 (.tmp 1) := kpL hs6 (by decide) (sm4 1 (by decide)) q122
     have q131 : At (Ty.lst Ty.ints cs) s18 a18 (.tmp 12) := kpL hs6 (by decide) (sm4 12 (by decide)) q123
     have q132 : At (Ty.nat (List.length cs)) s18 a18 (.tmp 13) := kpL hs6 (by decide) (sm4 13 (by decide)) q124
     have q133 : At (Ty.nat (rankL ((byL (r) ((cs.getD k [])))))) s18 a18 (.tmp 8) := kpL hs6 (by decide) (sm4 8 (by decide)) q125
     obtain ⟨t3, ⟨g1, x2, hT1, o55, o56, o57, hp1⟩, B1⟩ := r6
     have q134 : At (Ty.bool (circF cs (fct n) (f) ((rows ++ [(byL r (cs.getD k []))])) ((path ++ [((k : Nat) : Int)]))).isSome) s18 a18 (.tmp 62) := Ty.up _ B1.le hT1
     have o58 : OwnP s18 40 t [(Ty.lst Ty.ints cs), (Ty.val mp), (Ty.val x2), (Ty.nat (fct n))] := OwnP.ren o55 (B1.ren (by decide) rfl)
     have o59 : OwnM Ty.int kI s18 41 mp (g1) := OwnM.ren o56 (B1.ren (by decide) rfl)
     have o60 : Own s18 42 3 1 x2 (List.length ((circF cs (fct n) (f) ((rows ++ [(byL r (cs.getD k []))])) ((path ++ [((k : Nat) : Int)]))).getD ((path ++ [((k : Nat) : Int)])))) (List.map Ty.int ((circF cs (fct n) (f) ((rows ++ [(byL r (cs.getD k []))])) ((path ++ [((k : Nat) : Int)]))).getD ((path ++ [((k : Nat) : Int)])))) := Own.ren o57 (B1.ren (by decide) rfl)
     refine wpList_nil ?_
     refine tn ?_
     refine cond_t q134 (fun c4 => ?_) (fun c4 => ?_)
     ·
      obtain ⟨p, hp⟩ := Option.isSome_iff_exists.1 c4; have hcf := circ_found hno (by omega) ((circK_on ht.last (by omega) hxn).trans hp)
      refine wp_seq ?_
      refine reg (a := a18) (σ := s18) rfl (fun i_ => List.getD [(Ty.pr (Ty.bool true))] i_ Pr.any) ok17 rfl ⟨?_, trivial⟩ ?_
      · intro ax tx hs okx sm
        exact run_plain rfl (y_assign rfl)
      intro a19 s19 D13
      have ok18 := D13.ok
      have F20 := F19.step0 D13.stp
      have o61 := OwnP.k0 o58 D13.stp
      have o62 := OwnM.k0 o59 D13.stp
      have o63 := Own.k0 o60 D13.stp
      have q135 : At (Ty.bool true) s19 a19 (.tmp 4) := D13.done 0
      clear D13
      refine tn ?_
      refine wp_ret ?_
      refine tr ?_
      refine tr ?_
      refine br ?_
      refine tr ?_
      refine tr ?_
      refine br ?_
      refine tr ?_
      exact retL1 rfl ok18 F20 ⟨(g1), x2, (cvb (by (rw [hcf]; rfl)) q135), o61, (cvm (by (rfl)) o62), (cvo (by (rw [hcf, hp]; rfl)) (by (rw [hcf, hp]; rfl)) o63), (by intro h; rw [hcf] at h; cases h)⟩
     ·
      have hnn := opt_nof c4
      have o64 : Own s18 42 3 1 x2 (List.length (path ++ [((k : Nat) : Int)])) (List.map Ty.int (path ++ [((k : Nat) : Int)])) := (cvo (by (rw [hnn]; rfl)) (by (rw [hnn]; rfl)) o60)
      refine wp_skip ?_
      refine tn ?_
      refine reg2 (a := a18) (σ := s18) rfl 5 (fun i_ => List.getD [(Ty.pr (Ty.val t)), (Ty.pr (Ty.val t)), (Ty.pr (Ty.val (ptrAt t 1))), (Ty.pr (Ty.val mp)), (Ty.pr (Ty.nat (rankL ((byL (r) ((cs.getD k [])))))))] i_ Pr.any) ok17 rfl (by decide) rfl ⟨?_, ?_, ?_, ?_, ?_, trivial⟩ ?_
      · intro ax tx hs okx sm
        exact run_plain rfl (y_move (kp (sm 0 rfl) hs q129))
      · intro ax tx hs okx sm d0
        have e0 : At (Ty.val t) tx ax (.tmp 63) := d0 rfl
        exact run_plain rfl (y_nilp (OwnP.k0 o58 hs) e0)
      · intro ax tx hs okx sm d0
        have e1 : At (Ty.val t) tx ax (.tmp 64) := d0 rfl
        exact run_plain rfl (ownp_field Try.fld128_1 Try.inf126 (by decide) (OwnP.k0 o58 hs) e1)
      · intro ax tx hs okx sm d0
        have e2 : At (Ty.val (ptrAt t 1)) tx ax (.tmp 65) := d0 rfl
        exact run_plain rfl (ownp_load Try.underlying126 rfl (OwnP.k0 o58 hs) e2 rfl)
      · intro ax tx hs okx sm
        exact run_plain rfl (y_move (kp (sm 8 rfl) hs q133))
      intro a20 s20 D14
      have ok19 := D14.ok
      have F21 := F19.step0 D14.stp
      have q136 : At (Ty.nat k) s20 a20 (.tmp 14) := D14.kt q128 rfl
      have q137 : At (Ty.val t) s20 a20 (.tmp 0) := D14.kt q129 rfl
      have q138 : At (Ty.lst Ty.int r) s20 a20 (.tmp 1) := D14.kt q130 rfl
      have q139 : At (Ty.lst Ty.ints cs) s20 a20 (.tmp 12) := D14.kt q131 rfl
      have q140 : At (Ty.nat (List.length cs)) s20 a20 (.tmp 13) := D14.kt q132 rfl
      have o65 := OwnP.k0 o58 D14.stp
      have o66 := OwnM.k0 o59 D14.stp
      have o67 := Own.k0 o64 D14.stp
      have q141 : At (Ty.val mp) s20 a20 (.tmp 66) := D14.done 3 (by decide)
      have q142 : At (Ty.nat (rankL ((byL (r) ((cs.getD k [])))))) s20 a20 (.tmp 67) := D14.done 4 (by decide)
      clear D14
      refine tailL0 (L := [41]) (R := (fun _ τ => OwnM Ty.int kI τ 41 mp (fun x_ => if x_ = (((rankL ((byL (r) ((cs.getD k []))))) : Nat) : Int) then some (0 : Int) else (g1) x_))) rfl rfl (YldM.toL (m_mapset (i := (((rankL ((byL (r) ((cs.getD k []))))) : Nat) : Int)) Try.underlying126 (keyInt Try.underlying3) (by decide) o66 q141 q142 rfl)) (fun v3 s21 hs7 r7 => ?_)
      have F22 := F21.stepL hs7 (by decide)
      have q143 : At (Ty.nat k) s21 a20 (.tmp 14) := kpL hs7 (by decide) rfl q136
      have q144 : At (Ty.val t) s21 a20 (.tmp 0) := kpL hs7 (by decide) rfl q137
      have q145 : At (Ty.lst Ty.int r) s21 a20 (.tmp 1) := kpL hs7 (by decide) rfl q138
      have q146 : At (Ty.lst Ty.ints cs) s21 a20 (.tmp 12) := kpL hs7 (by decide) rfl q139
      have q147 : At (Ty.nat (List.length cs)) s21 a20 (.tmp 13) := kpL hs7 (by decide) rfl q140
      have o69 := OwnP.keepL o65 hs7 (by decide) (by decide)
      have o70 := Own.keepL o67 hs7 (by decide) (by decide)
      have o68 : OwnM Ty.int kI s21 41 mp (fun x_ => if x_ = (((rankL ((byL (r) ((cs.getD k []))))) : Nat) : Int) then some (0 : Int) else (g1) x_) := r7
      clear r7
      refine wpList_nil ?_
      refine tn ?_
      refine reg2 (a := a20) (σ := s21) rfl 14 (fun i_ => List.getD [(Ty.pr (Ty.val t)), (Ty.pr (Ty.val t)), (Ty.pr (Ty.val t)), (Ty.pr (Ty.val (ptrAt t 2))), (Ty.pr (Ty.val x2)), (Ty.pr (Ty.val t)), (Ty.pr (Ty.val t)), (Ty.pr (Ty.val (ptrAt t 2))), (Ty.pr (Ty.val x2)), (Ty.pr (Ty.nat (List.length (path ++ [((k : Nat) : Int)])))), (Ty.pr (Ty.nat ((List.length (path ++ [((k : Nat) : Int)])) - 1))), (Pr.own 42 3 1 (List.length ((path ++ [((k : Nat) : Int)]).take ((List.length (path ++ [((k : Nat) : Int)])) - 1))) (List.map Ty.int ((path ++ [((k : Nat) : Int)]).take ((List.length (path ++ [((k : Nat) : Int)])) - 1)))), (Ty.pr (Ty.val t)), (Ty.pr (Ty.val (ptrAt t 2)))] i_ Pr.any) ok19 rfl (by decide) rfl ⟨?_, ?_, ?_, ?_, ?_, ?_, ?_, ?_, ?_, ?_, ?_, ?_, ?_, ?_, trivial⟩ ?_
      · intro ax tx hs okx sm
        exact run_plain rfl (y_move (kp (sm 0 rfl) hs q144))
      · intro ax tx hs okx sm
        exact run_plain rfl (y_move (kp (sm 0 rfl) hs q144))
      · intro ax tx hs okx sm d0
        have e1 : At (Ty.val t) tx ax (.tmp 69) := d0 rfl
        exact run_plain rfl (y_nilp (OwnP.k0 o69 hs) e1)
      · intro ax tx hs okx sm d0
        have e2 : At (Ty.val t) tx ax (.tmp 70) := d0 rfl
        exact run_plain rfl (ownp_field Try.fld128_2 Try.inf34 (by decide) (OwnP.k0 o69 hs) e2)
      · intro ax tx hs okx sm d0
        have e3 : At (Ty.val (ptrAt t 2)) tx ax (.tmp 71) := d0 rfl
        exact run_plain rfl (ownp_load Try.underlying34 rfl (OwnP.k0 o69 hs) e3 rfl)
      · intro ax tx hs okx sm
        exact run_plain rfl (y_move (kp (sm 0 rfl) hs q144))
      · intro ax tx hs okx sm d0
        have e5 : At (Ty.val t) tx ax (.tmp 73) := d0 rfl
        exact run_plain rfl (y_nilp (OwnP.k0 o69 hs) e5)
      · intro ax tx hs okx sm d0
        have e6 : At (Ty.val t) tx ax (.tmp 74) := d0 rfl
        exact run_plain rfl (ownp_field Try.fld128_2 Try.inf34 (by decide) (OwnP.k0 o69 hs) e6)
      · intro ax tx hs okx sm d0
        have e7 : At (Ty.val (ptrAt t 2)) tx ax (.tmp 75) := d0 rfl
        exact run_plain rfl (ownp_load Try.underlying34 rfl (OwnP.k0 o69 hs) e7 rfl)
      · intro ax tx hs okx sm d0
        have e8 : At (Ty.val x2) tx ax (.tmp 76) := d0 rfl
        exact run_plain rfl (own_len Try.underlying34 (al (R := (Pr.own 42 3 1 (List.length (path ++ [((k : Nat) : Int)])) (List.map Ty.int (path ++ [((k : Nat) : Int)])))) e8 (Own.k0 o70 hs)))
      · intro ax tx hs okx sm d0
        have e9 : At (Ty.nat (List.length (path ++ [((k : Nat) : Int)]))) tx ax (.tmp 77) := d0 rfl
        exact run_plain rfl ((y_sub e9 rfl (w64 (by omega) (by omega))).mono (fun τ _ h => cvi (σ := τ) (by omega) h))
      · intro ax tx hs okx sm d0 d1
        have e4 : At (Ty.val x2) tx ax (.tmp 72) := d0 rfl
        have e10 : At (Ty.nat ((List.length (path ++ [((k : Nat) : Int)])) - 1)) tx ax (.tmp 78) := d1 rfl
        exact run_plain rfl ((y_otake (h := ((List.length (path ++ [((k : Nat) : Int)])) - 1)) Try.underlying34 Try.inf3 (Own.k0 o70 hs) e4 e10 (by omega)).mono (fun _ _ h => own_lst_take (by omega) h))
      · intro ax tx hs okx sm d0 d1 d2 d3 d4 d5 d6 d7 d8 d9 d10 d11 d12
        have e0 : At (Ty.val t) tx ax (.tmp 68) := d0 rfl
        have e1 : At (Ty.val t) tx ax (.tmp 69) := d2 rfl
        have e2 : At (Ty.val t) tx ax (.tmp 70) := d3 rfl
        have e3 : At (Ty.val (ptrAt t 2)) tx ax (.tmp 71) := d4 rfl
        have e4 : At (Ty.val x2) tx ax (.tmp 72) := d5 rfl
        have e5 : At (Ty.val t) tx ax (.tmp 73) := d6 rfl
        have e6 : At (Ty.val t) tx ax (.tmp 74) := d7 rfl
        have e7 : At (Ty.val (ptrAt t 2)) tx ax (.tmp 75) := d8 rfl
        have e8 : At (Ty.val x2) tx ax (.tmp 76) := d9 rfl
        have e9 : At (Ty.nat (List.length (path ++ [((k : Nat) : Int)]))) tx ax (.tmp 77) := d10 rfl
        have e10 : At (Ty.nat ((List.length (path ++ [((k : Nat) : Int)])) - 1)) tx ax (.tmp 78) := d11 rfl
        exact run_plain rfl (y_nilp (OwnP.k0 o69 hs) e0)
      · intro ax tx hs okx sm d0 d1 d2 d3 d4 d5 d6 d7 d8 d9 d10 d11 d12
        have e12 : At (Ty.val t) tx ax (.tmp 80) := d0 rfl
        have e0 : At (Ty.val t) tx ax (.tmp 68) := d1 rfl
        have e1 : At (Ty.val t) tx ax (.tmp 69) := d2 rfl
        have e2 : At (Ty.val t) tx ax (.tmp 70) := d3 rfl
        have e3 : At (Ty.val (ptrAt t 2)) tx ax (.tmp 71) := d4 rfl
        have e4 : At (Ty.val x2) tx ax (.tmp 72) := d5 rfl
        have e5 : At (Ty.val t) tx ax (.tmp 73) := d6 rfl
        have e6 : At (Ty.val t) tx ax (.tmp 74) := d7 rfl
        have e7 : At (Ty.val (ptrAt t 2)) tx ax (.tmp 75) := d8 rfl
        have e8 : At (Ty.val x2) tx ax (.tmp 76) := d9 rfl
        have e9 : At (Ty.nat (List.length (path ++ [((k : Nat) : Int)]))) tx ax (.tmp 77) := d10 rfl
        have e10 : At (Ty.nat ((List.length (path ++ [((k : Nat) : Int)])) - 1)) tx ax (.tmp 78) := d11 rfl
        exact run_plain rfl (ownp_field Try.fld128_2 Try.inf34 (by decide) (OwnP.k0 o69 hs) e12)
      intro a21 s22 D15
      have ok20 := D15.ok
      have F23 := F22.step0 D15.stp
      have q149 : At (Ty.nat k) s22 a21 (.tmp 14) := D15.kt q143 rfl
      have q150 : At (Ty.val t) s22 a21 (.tmp 0) := D15.kt q144 rfl
      have q151 : At (Ty.lst Ty.int r) s22 a21 (.tmp 1) := D15.kt q145 rfl
      have q152 : At (Ty.lst Ty.ints cs) s22 a21 (.tmp 12) := D15.kt q146 rfl
      have q153 : At (Ty.nat (List.length cs)) s22 a21 (.tmp 13) := D15.kt q147 rfl
      have o71 := OwnP.k0 o69 D15.stp
      have o72 := Own.k0 o70 D15.stp
      have o73 := OwnM.k0 o68 D15.stp
      obtain ⟨x3, hx2⟩ : ∃ x, a21.eval (.tmp 79) = x := ⟨_, rfl⟩
      have q154 : At (Ty.val x3) s22 a21 (.tmp 79) := hx2
      have o74 : Own s22 42 3 1 x3 (List.length ((path ++ [((k : Nat) : Int)]).take ((List.length (path ++ [((k : Nat) : Int)])) - 1))) (List.map Ty.int ((path ++ [((k : Nat) : Int)]).take ((List.length (path ++ [((k : Nat) : Int)])) - 1))) := al2 (R := (Pr.own 42 3 1 (List.length ((path ++ [((k : Nat) : Int)]).take ((List.length (path ++ [((k : Nat) : Int)])) - 1))) (List.map Ty.int ((path ++ [((k : Nat) : Int)]).take ((List.length (path ++ [((k : Nat) : Int)])) - 1))))) hx2 (D15.done 11 (by decide))
      have q155 : At (Ty.val (ptrAt t 2)) s22 a21 (.tmp 81) := D15.done 13 (by decide)
      clear D15
      refine tailL0 (L := [40]) (R := (fun _ τ => OwnP τ 40 t ([(Ty.lst Ty.ints cs), (Ty.val mp), (Ty.val x2), (Ty.nat (fct n))].set 2 (Ty.val x3)))) rfl rfl (YldM.toL (m_storep Try.inf34 (by decide) o71 q155 (Nat.le_of_ble_eq_true rfl) q154 (one_val (Own.one o74)))) (fun v4 s23 hs8 r8 => ?_)
      have F24 := F23.stepL hs8 (by decide)
      have q156 : At (Ty.nat k) s23 a21 (.tmp 14) := kpL hs8 (by decide) rfl q149
      have q157 : At (Ty.val t) s23 a21 (.tmp 0) := kpL hs8 (by decide) rfl q150
      have q158 : At (Ty.lst Ty.int r) s23 a21 (.tmp 1) := kpL hs8 (by decide) rfl q151
      have q159 : At (Ty.lst Ty.ints cs) s23 a21 (.tmp 12) := kpL hs8 (by decide) rfl q152
      have q160 : At (Ty.nat (List.length cs)) s23 a21 (.tmp 13) := kpL hs8 (by decide) rfl q153
      have o76 := Own.keepL o72 hs8 (by decide) (by decide)
      have o77 := OwnM.keepL o73 hs8 (by decide) (by decide)
      have o78 := Own.keepL o74 hs8 (by decide) (by decide)
      have o75 : OwnP s23 40 t [(Ty.lst Ty.ints cs), (Ty.val mp), (Ty.val x3), (Ty.nat (fct n))] := r8
      clear r8
      refine wpList_nil ?_
      refine bn ?_
      refine tn ?_
      refine reg (a := a21) (σ := s23) rfl (fun i_ => List.getD [(Ty.pr (Ty.nat (k + 1))), (Ty.pr (Ty.nat (k + 1)))] i_ Pr.any) ok20 rfl ⟨?_, ?_, trivial⟩ ?_
      · intro ax tx hs okx sm
        exact run_plain rfl ((y_add (kp (sm 14 rfl) hs q156) rfl (w64 (by omega) (by omega))).mono (fun τ _ h => cvi (σ := τ) (by first | omega | exact (Int.natCast_mul _ _).symm) h))
      · intro ax tx hs okx sm d0
        have e0 : At (Ty.nat (k + 1)) tx ax (.tmp 82) := d0 rfl
        exact run_plain rfl (y_move e0)
      intro a22 s24 D16
      have ok21 := D16.ok
      have F25 := F24.step0 D16.stp
      have q162 : At (Ty.val t) s24 a22 (.tmp 0) := D16.kt q157 rfl
      have q163 : At (Ty.lst Ty.int r) s24 a22 (.tmp 1) := D16.kt q158 rfl
      have q164 : At (Ty.lst Ty.ints cs) s24 a22 (.tmp 12) := D16.kt q159 rfl
      have q165 : At (Ty.nat (List.length cs)) s24 a22 (.tmp 13) := D16.kt q160 rfl
      have o79 := OwnM.k0 o77 D16.stp
      have o80 := Own.k0 o78 D16.stp
      have o81 := OwnP.k0 o75 D16.stp
      have q166 : At (Ty.nat (k + 1)) s24 a22 (.tmp 14) := D16.done 1
      clear D16
      exact tn ⟨cs.length - ((k+1)), by omega, s24, (k+1), (fun x_ => if x_ = ((rankL (byL r (cs.getD k [])) : Nat) : Int) then some (0 : Int) else g1 x_), x3, rfl, F25, ok21, (cvi (by (first | rfl | omega | (simp_all; done) | (simp_all; omega))) q166), q162, q163, q164, q165, o81, (cvm (by (rfl)) o79), (cvo (by (simp)) (by (simp)) o80), by omega, no_snoc hno ((circK_on ht.last (by omega) hxn).trans hnn), SeenT.drop (hp1 hnn) hx hxn, rfl⟩
    ·
     have hxi : byL r (cs.getD k []) ∈ rows := Classical.byContradiction fun h => c3 ((hs.in' hx).2 h)
     refine wp_skip ?_
     refine tn ?_
     refine reg2 (a := a15) (σ := s14) rfl 14 (fun i_ => List.getD [(Ty.pr (Ty.val t)), (Ty.pr (Ty.val t)), (Ty.pr (Ty.val t)), (Ty.pr (Ty.val (ptrAt t 2))), (Ty.pr (Ty.val x1)), (Ty.pr (Ty.val t)), (Ty.pr (Ty.val t)), (Ty.pr (Ty.val (ptrAt t 2))), (Ty.pr (Ty.val x1)), (Ty.pr (Ty.nat (List.length (path ++ [((k : Nat) : Int)])))), (Ty.pr (Ty.nat ((List.length (path ++ [((k : Nat) : Int)])) - 1))), (Pr.own 42 3 1 (List.length ((path ++ [((k : Nat) : Int)]).take ((List.length (path ++ [((k : Nat) : Int)])) - 1))) (List.map Ty.int ((path ++ [((k : Nat) : Int)]).take ((List.length (path ++ [((k : Nat) : Int)])) - 1)))), (Ty.pr (Ty.val t)), (Ty.pr (Ty.val (ptrAt t 2)))] i_ Pr.any) ok14 rfl (by decide) rfl ⟨?_, ?_, ?_, ?_, ?_, ?_, ?_, ?_, ?_, ?_, ?_, ?_, ?_, ?_, trivial⟩ ?_
     · intro ax tx hs okx sm
       exact run_plain rfl (y_move (kp (sm 0 rfl) hs q96))
     · intro ax tx hs okx sm
       exact run_plain rfl (y_move (kp (sm 0 rfl) hs q96))
     · intro ax tx hs okx sm d0
       have e1 : At (Ty.val t) tx ax (.tmp 69) := d0 rfl
       exact run_plain rfl (y_nilp (OwnP.k0 o45 hs) e1)
     · intro ax tx hs okx sm d0
       have e2 : At (Ty.val t) tx ax (.tmp 70) := d0 rfl
       exact run_plain rfl (ownp_field Try.fld128_2 Try.inf34 (by decide) (OwnP.k0 o45 hs) e2)
     · intro ax tx hs okx sm d0
       have e3 : At (Ty.val (ptrAt t 2)) tx ax (.tmp 71) := d0 rfl
       exact run_plain rfl (ownp_load Try.underlying34 rfl (OwnP.k0 o45 hs) e3 rfl)
     · intro ax tx hs okx sm
       exact run_plain rfl (y_move (kp (sm 0 rfl) hs q96))
     · intro ax tx hs okx sm d0
       have e5 : At (Ty.val t) tx ax (.tmp 73) := d0 rfl
       exact run_plain rfl (y_nilp (OwnP.k0 o45 hs) e5)
     · intro ax tx hs okx sm d0
       have e6 : At (Ty.val t) tx ax (.tmp 74) := d0 rfl
       exact run_plain rfl (ownp_field Try.fld128_2 Try.inf34 (by decide) (OwnP.k0 o45 hs) e6)
     · intro ax tx hs okx sm d0
       have e7 : At (Ty.val (ptrAt t 2)) tx ax (.tmp 75) := d0 rfl
       exact run_plain rfl (ownp_load Try.underlying34 rfl (OwnP.k0 o45 hs) e7 rfl)
     · intro ax tx hs okx sm d0
       have e8 : At (Ty.val x1) tx ax (.tmp 76) := d0 rfl
       exact run_plain rfl (own_len Try.underlying34 (al (R := (Pr.own 42 3 1 (List.length (path ++ [((k : Nat) : Int)])) (List.map Ty.int (path ++ [((k : Nat) : Int)])))) e8 (Own.k0 o44 hs)))
     · intro ax tx hs okx sm d0
       have e9 : At (Ty.nat (List.length (path ++ [((k : Nat) : Int)]))) tx ax (.tmp 77) := d0 rfl
       exact run_plain rfl ((y_sub e9 rfl (w64 (by omega) (by omega))).mono (fun τ _ h => cvi (σ := τ) (by omega) h))
     · intro ax tx hs okx sm d0 d1
       have e4 : At (Ty.val x1) tx ax (.tmp 72) := d0 rfl
       have e10 : At (Ty.nat ((List.length (path ++ [((k : Nat) : Int)])) - 1)) tx ax (.tmp 78) := d1 rfl
       exact run_plain rfl ((y_otake (h := ((List.length (path ++ [((k : Nat) : Int)])) - 1)) Try.underlying34 Try.inf3 (Own.k0 o44 hs) e4 e10 (by omega)).mono (fun _ _ h => own_lst_take (by omega) h))
     · intro ax tx hs okx sm d0 d1 d2 d3 d4 d5 d6 d7 d8 d9 d10 d11 d12
       have e0 : At (Ty.val t) tx ax (.tmp 68) := d0 rfl
       have e1 : At (Ty.val t) tx ax (.tmp 69) := d2 rfl
       have e2 : At (Ty.val t) tx ax (.tmp 70) := d3 rfl
       have e3 : At (Ty.val (ptrAt t 2)) tx ax (.tmp 71) := d4 rfl
       have e4 : At (Ty.val x1) tx ax (.tmp 72) := d5 rfl
       have e5 : At (Ty.val t) tx ax (.tmp 73) := d6 rfl
       have e6 : At (Ty.val t) tx ax (.tmp 74) := d7 rfl
       have e7 : At (Ty.val (ptrAt t 2)) tx ax (.tmp 75) := d8 rfl
       have e8 : At (Ty.val x1) tx ax (.tmp 76) := d9 rfl
       have e9 : At (Ty.nat (List.length (path ++ [((k : Nat) : Int)]))) tx ax (.tmp 77) := d10 rfl
       have e10 : At (Ty.nat ((List.length (path ++ [((k : Nat) : Int)])) - 1)) tx ax (.tmp 78) := d11 rfl
       exact run_plain rfl (y_nilp (OwnP.k0 o45 hs) e0)
     · intro ax tx hs okx sm d0 d1 d2 d3 d4 d5 d6 d7 d8 d9 d10 d11 d12
       have e12 : At (Ty.val t) tx ax (.tmp 80) := d0 rfl
       have e0 : At (Ty.val t) tx ax (.tmp 68) := d1 rfl
       have e1 : At (Ty.val t) tx ax (.tmp 69) := d2 rfl
       have e2 : At (Ty.val t) tx ax (.tmp 70) := d3 rfl
       have e3 : At (Ty.val (ptrAt t 2)) tx ax (.tmp 71) := d4 rfl
       have e4 : At (Ty.val x1) tx ax (.tmp 72) := d5 rfl
       have e5 : At (Ty.val t) tx ax (.tmp 73) := d6 rfl
       have e6 : At (Ty.val t) tx ax (.tmp 74) := d7 rfl
       have e7 : At (Ty.val (ptrAt t 2)) tx ax (.tmp 75) := d8 rfl
       have e8 : At (Ty.val x1) tx ax (.tmp 76) := d9 rfl
       have e9 : At (Ty.nat (List.length (path ++ [((k : Nat) : Int)]))) tx ax (.tmp 77) := d10 rfl
       have e10 : At (Ty.nat ((List.length (path ++ [((k : Nat) : Int)])) - 1)) tx ax (.tmp 78) := d11 rfl
       exact run_plain rfl (ownp_field Try.fld128_2 Try.inf34 (by decide) (OwnP.k0 o45 hs) e12)
     intro a23 s25 D17
     have ok22 := D17.ok
     have F26 := F15.step0 D17.stp
     have q167 : At (Ty.nat k) s25 a23 (.tmp 14) := D17.kt q95 rfl
     have q168 : At (Ty.val t) s25 a23 (.tmp 0) := D17.kt q96 rfl
     have q169 : At (Ty.lst Ty.int r) s25 a23 (.tmp 1) := D17.kt q97 rfl
     have q170 : At (Ty.lst Ty.ints cs) s25 a23 (.tmp 12) := D17.kt q98 rfl
     have q171 : At (Ty.nat (List.length cs)) s25 a23 (.tmp 13) := D17.kt q99 rfl
     have o82 := OwnM.k0 o43 D17.stp
     have o83 := Own.k0 o44 D17.stp
     have o84 := OwnP.k0 o45 D17.stp
     obtain ⟨x4, hx3⟩ : ∃ x, a23.eval (.tmp 79) = x := ⟨_, rfl⟩
     have q172 : At (Ty.val x4) s25 a23 (.tmp 79) := hx3
     have o85 : Own s25 42 3 1 x4 (List.length ((path ++ [((k : Nat) : Int)]).take ((List.length (path ++ [((k : Nat) : Int)])) - 1))) (List.map Ty.int ((path ++ [((k : Nat) : Int)]).take ((List.length (path ++ [((k : Nat) : Int)])) - 1))) := al2 (R := (Pr.own 42 3 1 (List.length ((path ++ [((k : Nat) : Int)]).take ((List.length (path ++ [((k : Nat) : Int)])) - 1))) (List.map Ty.int ((path ++ [((k : Nat) : Int)]).take ((List.length (path ++ [((k : Nat) : Int)])) - 1))))) hx3 (D17.done 11 (by decide))
     have q173 : At (Ty.val (ptrAt t 2)) s25 a23 (.tmp 81) := D17.done 13 (by decide)
     clear D17
     refine tailL0 (L := [40]) (R := (fun _ τ => OwnP τ 40 t ([(Ty.lst Ty.ints cs), (Ty.val mp), (Ty.val x1), (Ty.nat (fct n))].set 2 (Ty.val x4)))) rfl rfl (YldM.toL (m_storep Try.inf34 (by decide) o84 q173 (Nat.le_of_ble_eq_true rfl) q172 (one_val (Own.one o85)))) (fun v5 s26 hs9 r9 => ?_)
     have F27 := F26.stepL hs9 (by decide)
     have q174 : At (Ty.nat k) s26 a23 (.tmp 14) := kpL hs9 (by decide) rfl q167
     have q175 : At (Ty.val t) s26 a23 (.tmp 0) := kpL hs9 (by decide) rfl q168
     have q176 : At (Ty.lst Ty.int r) s26 a23 (.tmp 1) := kpL hs9 (by decide) rfl q169
     have q177 : At (Ty.lst Ty.ints cs) s26 a23 (.tmp 12) := kpL hs9 (by decide) rfl q170
     have q178 : At (Ty.nat (List.length cs)) s26 a23 (.tmp 13) := kpL hs9 (by decide) rfl q171
     have o87 := OwnM.keepL o82 hs9 (by decide) (by decide)
     have o88 := Own.keepL o83 hs9 (by decide) (by decide)
     have o89 := Own.keepL o85 hs9 (by decide) (by decide)
     have o86 : OwnP s26 40 t [(Ty.lst Ty.ints cs), (Ty.val mp), (Ty.val x4), (Ty.nat (fct n))] := r9
     clear r9
     refine wpList_nil ?_
     refine bn ?_
     refine tn ?_
     refine reg (a := a23) (σ := s26) rfl (fun i_ => List.getD [(Ty.pr (Ty.nat (k + 1))), (Ty.pr (Ty.nat (k + 1)))] i_ Pr.any) ok22 rfl ⟨?_, ?_, trivial⟩ ?_
     · intro ax tx hs okx sm
       exact run_plain rfl ((y_add (kp (sm 14 rfl) hs q174) rfl (w64 (by omega) (by omega))).mono (fun τ _ h => cvi (σ := τ) (by first | omega | exact (Int.natCast_mul _ _).symm) h))
     · intro ax tx hs okx sm d0
       have e0 : At (Ty.nat (k + 1)) tx ax (.tmp 82) := d0 rfl
       exact run_plain rfl (y_move e0)
     intro a24 s27 D18
     have ok23 := D18.ok
     have F28 := F27.step0 D18.stp
     have q180 : At (Ty.val t) s27 a24 (.tmp 0) := D18.kt q175 rfl
     have q181 : At (Ty.lst Ty.int r) s27 a24 (.tmp 1) := D18.kt q176 rfl
     have q182 : At (Ty.lst Ty.ints cs) s27 a24 (.tmp 12) := D18.kt q177 rfl
     have q183 : At (Ty.nat (List.length cs)) s27 a24 (.tmp 13) := D18.kt q178 rfl
     have o90 := OwnM.k0 o87 D18.stp
     have o91 := Own.k0 o89 D18.stp
     have o92 := OwnP.k0 o86 D18.stp
     have q184 : At (Ty.nat (k + 1)) s27 a24 (.tmp 14) := D18.done 1
     clear D18
     exact tn ⟨cs.length - ((k+1)), by omega, s27, (k+1), fk, x4, rfl, F28, ok23, (cvi (by (first | rfl | omega | (simp_all; done) | (simp_all; omega))) q184), q180, q181, q182, q183, o92, o90, (cvo (by (simp)) (by (simp)) o91), by omega, no_snoc hno (circK_in ht.last hc2 (.inr hxi)), by omega, rfl⟩
  ·
   refine wp_exit ?_
   refine tx ?_
   refine tx ?_
   refine bx ?_
   refine tn ?_
   refine wp_seq ?_
   refine reg (a := a5) (σ := s3) rfl (fun i_ => List.getD [(Ty.pr (Ty.bool false))] i_ Pr.any) ok4 rfl ⟨?_, trivial⟩ ?_
   · intro ax tx hs okx sm
     exact run_plain rfl (y_assign rfl)
   intro a25 s28 D19
   have ok24 := D19.ok
   have F29 := F4.step0 D19.stp
   have o93 := OwnP.k0 o10 D19.stp
   have o94 := OwnM.k0 o11 D19.stp
   have o95 := Own.k0 o12 D19.stp
   have q185 : At (Ty.bool false) s28 a25 (.tmp 4) := D19.done 0
   clear D19
   refine tn ?_
   refine wp_ret ?_
   exact retL1 rfl ok24 F29 ⟨fk, pt, (cvb (by (rw [circ_none hno (by omega)]; rfl)) q185), o93, (cvm (by (rfl)) o94), (cvo (by (rw [circ_none hno (by omega)]; rfl)) (by (rw [circ_none hno (by omega)]; rfl)) o95), (by exact fun _ => hs)⟩

theorem Try.inf128 : Info Try.prog 128 (.agg #[.slice none 0 0, .map none, .slice none 0 0, .int .i64 0]) 4 64 := by unfold Info; kernel_rfl
set_option maxRecDepth 100000 in
theorem extCircuit_fn (n : Int) (cs : List (List Int)) (σ : GW)  (v0 v1 : Value) (hv0 : Ty.has (Ty.int n) σ v0) (hv1 : Ty.has (Ty.lst Ty.ints cs) σ v1)   :
    FnC Try.prog 20 #[v0, v1] σ (Ty.tup3 (Ty.lst Ty.int ((cirO n cs).getD [])) (Ty.bool (cirO n cs).isSome) (Ty.int (cirMay n cs))) := by
 refine fn_intro0 Try.func20 rfl Try.ntmps20 (Nat.le_of_ble_eq_true rfl) (fun s0 a0 hle F0 ok0 hargs => ?_)
 have p0 : At (Ty.int n) s0 a0 (.tmp 0) := by have e := hargs 0 _ rfl; show Ty.has _ _ _; rw [e]; exact Ty.up _ hle hv0
 have p1 : At (Ty.lst Ty.ints cs) s0 a0 (.tmp 1) := by have e := hargs 1 _ rfl; show Ty.has _ _ _; rw [e]; exact Ty.up _ hle hv1
 have b1 := sl_le p1
 clear hargs
 refine wp_seq ?_
 refine reg (a := a0) (σ := s0) rfl (fun i_ => List.getD [(Ty.pr (Ty.val (Value.slice none 0 0))), (Ty.pr (Ty.bool false)), (Ty.pr (Ty.int (0 : Int)))] i_ Pr.any) ok0 rfl ⟨?_, ?_, ?_, trivial⟩ ?_
 · intro ax tx hs okx sm
   exact run_plain rfl (y_assign rfl)
 · intro ax tx hs okx sm d0
   have e0 : At (Ty.val (Value.slice none 0 0)) tx ax (.tmp 4) := d0 rfl
   exact run_plain rfl (y_assign rfl)
 · intro ax tx hs okx sm d0
   have e1 : At (Ty.bool false) tx ax (.tmp 5) := d0 rfl
   exact run_plain rfl (y_assign rfl)
 intro a1 s1 D1
 have ok1 := D1.ok
 have F1 := F0.step0 D1.stp
 have q1 : At (Ty.int n) s1 a1 (.tmp 0) := D1.kt p0 rfl
 have q2 : At (Ty.lst Ty.ints cs) s1 a1 (.tmp 1) := D1.kt p1 rfl
 clear D1
 refine tn ?_
 refine wp_seq ?_
 refine wp_seq ?_
 refine reg (a := a1) (σ := s1) rfl (fun i_ => List.getD [(Ty.pr (Ty.int n)), (Ty.pr (Ty.bool (decide (n < (1 : Int))))), (Ty.pr (Ty.bool (decide (n < (1 : Int))))), (Ty.pr (Ty.grd ((decide (n < (1 : Int))) = false) (Ty.int n))), (Ty.pr (Ty.grd ((decide (n < (1 : Int))) = false) (Ty.bool (decide ((4 : Int) < n))))), (Ty.pr (Ty.bool ((decide (n < (1 : Int))) || (decide ((4 : Int) < n))))), (Ty.pr (Ty.bool ((decide (n < (1 : Int))) || (decide ((4 : Int) < n))))), (Ty.pr (Ty.grd (((decide (n < (1 : Int))) || (decide ((4 : Int) < n))) = false) (Ty.lst Ty.ints cs))), (Ty.pr (Ty.grd (((decide (n < (1 : Int))) || (decide ((4 : Int) < n))) = false) (Ty.nat (List.length cs)))), (Ty.pr (Ty.grd (((decide (n < (1 : Int))) || (decide ((4 : Int) < n))) = false) (Ty.bool (decide ((8 : Int) < (((List.length cs) : Nat) : Int)))))), (Ty.pr (Ty.bool (((decide (n < (1 : Int))) || (decide ((4 : Int) < n))) || (decide ((8 : Int) < (((List.length cs) : Nat) : Int))))))] i_ Pr.any) ok1 rfl ⟨?_, ?_, ?_, ?_, ?_, ?_, ?_, ?_, ?_, ?_, ?_, trivial⟩ ?_
 · intro ax tx hs okx sm
   exact run_plain rfl (y_move (kp (sm 0 rfl) hs q1))
 · intro ax tx hs okx sm d0
   have e0 : At (Ty.int n) tx ax (.tmp 17) := d0 rfl
   exact run_plain rfl (y_lss e0 rfl)
 · intro ax tx hs okx sm d0
   have e1 : At (Ty.bool (decide (n < (1 : Int)))) tx ax (.tmp 18) := d0 rfl
   exact run_plain rfl (y_move e1)
 · intro ax tx hs okx sm d0
   have e2 : At (Ty.bool (decide (n < (1 : Int)))) tx ax (.tmp 19) := d0 rfl
   refine run_guard (T := (Ty.int n)) okx rfl rfl (by decide) e2 (fun hg => ?_)
   have hp := of_decide_eq_false hg
   exact y_move (kp (sm 0 rfl) hs q1)
 · intro ax tx hs okx sm d0 d1
   have e3 : At (Ty.grd ((decide (n < (1 : Int))) = false) (Ty.int n)) tx ax (.tmp 20) := d0 rfl
   have e2 : At (Ty.bool (decide (n < (1 : Int)))) tx ax (.tmp 19) := d1 rfl
   refine run_guard (T := (Ty.bool (decide ((4 : Int) < n)))) okx rfl rfl (by decide) e2 (fun hg => ?_)
   have hp := of_decide_eq_false hg
   exact y_gtr (e3.1 hg) rfl
 · intro ax tx hs okx sm d0 d1
   have e2 : At (Ty.bool (decide (n < (1 : Int)))) tx ax (.tmp 19) := d0 rfl
   have e4 : At (Ty.grd ((decide (n < (1 : Int))) = false) (Ty.bool (decide ((4 : Int) < n)))) tx ax (.tmp 21) := d1 rfl
   exact run_plain rfl (y_pick_or e2 rfl e4)
 · intro ax tx hs okx sm d0 d1
   have e5 : At (Ty.bool ((decide (n < (1 : Int))) || (decide ((4 : Int) < n)))) tx ax (.tmp 22) := d0 rfl
   have e2 : At (Ty.bool (decide (n < (1 : Int)))) tx ax (.tmp 19) := d1 rfl
   exact run_plain rfl (y_move e5)
 · intro ax tx hs okx sm d0
   have e6 : At (Ty.bool ((decide (n < (1 : Int))) || (decide ((4 : Int) < n)))) tx ax (.tmp 23) := d0 rfl
   refine run_guard (T := (Ty.lst Ty.ints cs)) okx rfl rfl (by decide) e6 (fun hg => ?_)
   obtain ⟨d1, d2⟩ := Bool.or_eq_false_iff.mp hg
   have d1 := of_decide_eq_false d1
   have d2 := of_decide_eq_false d2
   exact y_move (kp (sm 1 rfl) hs q2)
 · intro ax tx hs okx sm d0 d1
   have e7 : At (Ty.grd (((decide (n < (1 : Int))) || (decide ((4 : Int) < n))) = false) (Ty.lst Ty.ints cs)) tx ax (.tmp 24) := d0 rfl
   have e6 : At (Ty.bool ((decide (n < (1 : Int))) || (decide ((4 : Int) < n)))) tx ax (.tmp 23) := d1 rfl
   refine run_guard (T := (Ty.nat (List.length cs))) okx rfl rfl (by decide) e6 (fun hg => ?_)
   obtain ⟨d3, d4⟩ := Bool.or_eq_false_iff.mp hg
   have d3 := of_decide_eq_false d3
   have d4 := of_decide_eq_false d4
   exact y_len Try.underlying33 (e7.1 hg)
 · intro ax tx hs okx sm d0 d1
   have e8 : At (Ty.grd (((decide (n < (1 : Int))) || (decide ((4 : Int) < n))) = false) (Ty.nat (List.length cs))) tx ax (.tmp 25) := d0 rfl
   have e6 : At (Ty.bool ((decide (n < (1 : Int))) || (decide ((4 : Int) < n)))) tx ax (.tmp 23) := d1 rfl
   refine run_guard (T := (Ty.bool (decide ((8 : Int) < (((List.length cs) : Nat) : Int))))) okx rfl rfl (by decide) e6 (fun hg => ?_)
   obtain ⟨d5, d6⟩ := Bool.or_eq_false_iff.mp hg
   have d5 := of_decide_eq_false d5
   have d6 := of_decide_eq_false d6
   exact y_gtr (e8.1 hg) rfl
 · intro ax tx hs okx sm d0 d1
   have e6 : At (Ty.bool ((decide (n < (1 : Int))) || (decide ((4 : Int) < n)))) tx ax (.tmp 23) := d0 rfl
   have e9 : At (Ty.grd (((decide (n < (1 : Int))) || (decide ((4 : Int) < n))) = false) (Ty.bool (decide ((8 : Int) < (((List.length cs) : Nat) : Int))))) tx ax (.tmp 26) := d1 rfl
   exact run_plain rfl (y_pick_or e6 rfl e9)
 intro a2 s2 D2
 have ok2 := D2.ok
 have F2 := F1.step0 D2.stp
 have q3 : At (Ty.int n) s2 a2 (.tmp 0) := D2.kt q1 rfl
 have q4 : At (Ty.lst Ty.ints cs) s2 a2 (.tmp 1) := D2.kt q2 rfl
 have q5 : At (Ty.bool (((decide (n < (1 : Int))) || (decide ((4 : Int) < n))) || (decide ((8 : Int) < (((List.length cs) : Nat) : Int))))) s2 a2 (.tmp 27) := D2.done 10
 clear D2
 refine tn ?_
 refine cond_t q5 (fun c1 => ?_) (fun c1 => ?_)
 ·
  simp only [Bool.or_eq_true, decide_eq_true_eq] at c1
  refine wp_seq ?_
  refine reg (a := a2) (σ := s2) rfl (fun i_ => List.getD [(Ty.pr (Ty.val (Value.slice none 0 0))), (Ty.pr (Ty.bool false)), (Ty.pr (Ty.int (1 : Int)))] i_ Pr.any) ok2 rfl ⟨?_, ?_, ?_, trivial⟩ ?_
  · intro ax tx hs okx sm
    exact run_plain rfl (y_assign rfl)
  · intro ax tx hs okx sm d0 d1
    have e0 : At (Ty.val (Value.slice none 0 0)) tx ax (.tmp 4) := d0 rfl
    exact run_plain rfl (y_assign rfl)
  · intro ax tx hs okx sm d0 d1 d2
    have e1 : At (Ty.bool false) tx ax (.tmp 5) := d0 rfl
    have e0 : At (Ty.val (Value.slice none 0 0)) tx ax (.tmp 4) := d1 rfl
    exact run_plain rfl (y_assign rfl)
  intro a3 s3 D3
  have ok3 := D3.ok
  have F3 := F2.step0 D3.stp
  have q6 : At (Ty.val (Value.slice none 0 0)) s3 a3 (.tmp 4) := D3.done 0
  have q7 : At (Ty.bool false) s3 a3 (.tmp 5) := D3.done 1
  have q8 : At (Ty.int (1 : Int)) s3 a3 (.tmp 6) := D3.done 2
  clear D3
  refine tn ?_
  refine wp_ret ?_
  refine tr ?_
  have hc1_ : n < 1 ∨ 4 < n ∨ 8 < cs.length := by omega
  exact retL3 rfl ok3 F3 (hasT3 (nil_lst (by (rw [cirO_no (by rw [cirMay_cnt hc1_]; decide)]; rfl)) q6) (cvb (by (rw [cirO_no (by rw [cirMay_cnt hc1_]; decide)]; rfl)) q7) (cvi (by (exact (cirMay_cnt hc1_).symm)) q8))
 ·
  obtain ⟨d7, d8⟩ := Bool.or_eq_false_iff.mp c1
  obtain ⟨d9, d10⟩ := Bool.or_eq_false_iff.mp d7
  replace d9 := of_decide_eq_false d9
  replace d10 := of_decide_eq_false d10
  replace d8 := of_decide_eq_false d8
  have hc1 : ¬ (n < 1 ∨ 4 < n ∨ 8 < cs.length) := by omega
  refine wp_skip ?_
  refine tn ?_
  refine wp_seq ?_
  refine wp_seq ?_
  refine reg (a := a2) (σ := s2) rfl (fun i_ => List.getD [(Ty.pr (Ty.int n)), (Ty.pr (Ty.lst Ty.ints cs)), (Ty.pr (Ty.int (gensMay n (cs)))), (Ty.pr (Ty.int (gensMay n (cs))))] i_ Pr.any) ok2 rfl ⟨?_, ?_, ?_, ?_, trivial⟩ ?_
  · intro ax tx hs okx sm
    exact run_plain rfl (y_move (kp (sm 0 rfl) hs q3))
  · intro ax tx hs okx sm
    exact run_plain rfl (y_move (kp (sm 1 rfl) hs q4))
  · intro ax tx hs okx sm d0 d1
    have e0 : At (Ty.int n) tx ax (.tmp 28) := d0 rfl
    have e1 : At (Ty.lst Ty.ints cs) tx ax (.tmp 29) := d1 rfl
    exact run_plain rfl (y_call #[ax.eval (.tmp 28), ax.eval (.tmp 29)] Try.func83 rfl rfl (by simp only [List.map_toArray, List.map_cons, List.map_nil]) (gCheck_fn (n) (cs) _ _ _ e0 e1 ))
  · intro ax tx hs okx sm d0 d1 d2 d3 d4
    have e2 : At (Ty.int (gensMay n (cs))) tx ax (.tmp 30) := d0 rfl
    have e0 : At (Ty.int n) tx ax (.tmp 28) := d2 rfl
    have e1 : At (Ty.lst Ty.ints cs) tx ax (.tmp 29) := d3 rfl
    exact run_plain rfl (y_assign e2)
  intro a4 s4 D4
  have ok4 := D4.ok
  have F4 := F2.step0 D4.stp
  have q9 : At (Ty.int n) s4 a4 (.tmp 0) := D4.kt q3 rfl
  have q10 : At (Ty.lst Ty.ints cs) s4 a4 (.tmp 1) := D4.kt q4 rfl
  have q11 : At (Ty.int (gensMay n (cs))) s4 a4 (.tmp 7) := D4.done 3
  clear D4
  refine tn ?_
  refine wp_seq ?_
  refine reg (a := a4) (σ := s4) rfl (fun i_ => List.getD [(Ty.pr (Ty.int (gensMay n (cs)))), (Ty.pr (Ty.bool (decide ((gensMay n (cs)) ≠ (0 : Int)))))] i_ Pr.any) ok4 rfl ⟨?_, ?_, trivial⟩ ?_
  · intro ax tx hs okx sm
    exact run_plain rfl (y_move (kp (sm 7 rfl) hs q11))
  · intro ax tx hs okx sm d0
    have e0 : At (Ty.int (gensMay n (cs))) tx ax (.tmp 31) := d0 rfl
    exact run_plain rfl (y_neq e0 rfl)
  intro a5 s5 D5
  have ok5 := D5.ok
  have F5 := F4.step0 D5.stp
  have q12 : At (Ty.int n) s5 a5 (.tmp 0) := D5.kt q9 rfl
  have q13 : At (Ty.lst Ty.ints cs) s5 a5 (.tmp 1) := D5.kt q10 rfl
  have q14 : At (Ty.int (gensMay n (cs))) s5 a5 (.tmp 7) := D5.kt q11 rfl
  have q15 : At (Ty.bool (decide ((gensMay n (cs)) ≠ (0 : Int)))) s5 a5 (.tmp 32) := D5.done 1
  clear D5
  refine tn ?_
  refine cond_p (p := ((gensMay n (cs)) ≠ (0 : Int))) q15 (fun c2 => ?_) (fun c2 => ?_)
  ·
   refine wp_seq ?_
   refine reg (a := a5) (σ := s5) rfl (fun i_ => List.getD [(Ty.pr (Ty.int (gensMay n (cs)))), (Ty.pr (Ty.val (Value.slice none 0 0))), (Ty.pr (Ty.bool false)), (Ty.pr (Ty.int (gensMay n (cs))))] i_ Pr.any) ok5 rfl ⟨?_, ?_, ?_, ?_, trivial⟩ ?_
   · intro ax tx hs okx sm d0
     exact run_plain rfl (y_move (kp (sm 7 rfl) hs q14))
   · intro ax tx hs okx sm d0
     exact run_plain rfl (y_assign rfl)
   · intro ax tx hs okx sm d0 d1 d2
     have e1 : At (Ty.val (Value.slice none 0 0)) tx ax (.tmp 4) := d0 rfl
     exact run_plain rfl (y_assign rfl)
   · intro ax tx hs okx sm d0 d1 d2 d3 d4
     have e0 : At (Ty.int (gensMay n (cs))) tx ax (.tmp 33) := d0 rfl
     have e2 : At (Ty.bool false) tx ax (.tmp 5) := d1 rfl
     have e1 : At (Ty.val (Value.slice none 0 0)) tx ax (.tmp 4) := d3 rfl
     exact run_plain rfl (y_assign e0)
   intro a6 s6 D6
   have ok6 := D6.ok
   have F6 := F5.step0 D6.stp
   have q16 : At (Ty.val (Value.slice none 0 0)) s6 a6 (.tmp 4) := D6.done 1
   have q17 : At (Ty.bool false) s6 a6 (.tmp 5) := D6.done 2
   have q18 : At (Ty.int (gensMay n (cs))) s6 a6 (.tmp 6) := D6.done 3
   clear D6
   refine tn ?_
   refine wp_ret ?_
   refine tr ?_
   exact retL3 rfl ok6 F6 (hasT3 (nil_lst (by (rw [cirO_no (by rw [cirMay_gens hc1 c2]; exact c2)]; rfl)) q16) (cvb (by (rw [cirO_no (by rw [cirMay_gens hc1 c2]; exact c2)]; rfl)) q17) (cvi (by (exact (cirMay_gens hc1 c2).symm)) q18))
  ·
   have hgk := gensMay_ok (Classical.not_not.1 c2); have hts := Tour.start hc1 c2; have hss := seen_start (n := n.toNat)
   refine wp_skip ?_
   refine tn ?_
   refine wp_seq ?_
   refine wp_seq ?_
   refine reg (a := a5) (σ := s5) rfl (fun i_ => List.getD [(Ty.pr (Ty.lst Ty.ints cs)), (Ty.pr (Ty.nat (List.length cs))), (Ty.pr (Ty.int (0 : Int)))] i_ Pr.any) ok5 rfl ⟨?_, ?_, ?_, trivial⟩ ?_
   · intro ax tx hs okx sm
     exact run_plain rfl (y_move (kp (sm 1 rfl) hs q13))
   · intro ax tx hs okx sm d0
     have e0 : At (Ty.lst Ty.ints cs) tx ax (.tmp 34) := d0 rfl
     exact run_plain rfl (y_len Try.underlying33 e0)
   · intro ax tx hs okx sm
     exact run_plain rfl (y_move rfl)
   intro a7 s7 D7
   have ok7 := D7.ok
   have F7 := F5.step0 D7.stp
   have q19 : At (Ty.int n) s7 a7 (.tmp 0) := D7.kt q12 rfl
   have q20 : At (Ty.lst Ty.ints cs) s7 a7 (.tmp 1) := D7.kt q13 rfl
   have q21 : At (Ty.lst Ty.ints cs) s7 a7 (.tmp 34) := D7.done 0
   have q22 : At (Ty.nat (List.length cs)) s7 a7 (.tmp 35) := D7.done 1
   have q23 : At (Ty.int (0 : Int)) s7 a7 (.tmp 36) := D7.done 2
   clear D7
   refine tn ?_
   refine wp_block ?_
   refine loop (fun n1 a8 w1 => ∃ (t1 : GW) (k : Nat), t1.w = w1 ∧ FromL [] s0 t1 ∧ Ok 69 a8 ∧ At (Ty.nat k) t1 a8 (.tmp 36) ∧ At (Ty.int n) t1 a8 (.tmp 0) ∧ At (Ty.lst Ty.ints cs) t1 a8 (.tmp 1) ∧ At (Ty.lst Ty.ints cs) t1 a8 (.tmp 34) ∧ At (Ty.nat (List.length cs)) t1 a8 (.tmp 35) ∧ (k ≤ cs.length) ∧ (∀ j, j < k → ordL (cs.getD j []) ≤ 2) ∧ n1 = cs.length - k) (cs.length - (0)) ?_ ?_
   ·
    exact ⟨s7, 0, rfl, F7, ok7, (cvi (by (first | rfl | omega | (simp_all; done) | (simp_all; omega))) q23), q19, q20, q21, q22, by omega, fun j hj => absurd hj (Nat.not_lt_zero j), rfl⟩
   ·
    rintro n2 a9 w2 ⟨t2, k, rfl, F8, ok8, q24, q25, q26, q27, q28, hk, hok, rfl⟩
    refine wp_seq ?_
    refine reg (a := a9) (σ := t2) rfl (fun i_ => List.getD [(Ty.pr (Ty.bool (decide (((k : Nat) : Int) < (((List.length cs) : Nat) : Int)))))] i_ Pr.any) ok8 rfl ⟨?_, trivial⟩ ?_
    · intro ax tx hs okx sm
      exact run_plain rfl (y_lss (kp (sm 36 rfl) hs q24) (kp (sm 35 rfl) hs q28))
    intro a10 s8 D8
    have ok9 := D8.ok
    have F9 := F8.step0 D8.stp
    have q29 : At (Ty.nat k) s8 a10 (.tmp 36) := D8.kt q24 rfl
    have q30 : At (Ty.int n) s8 a10 (.tmp 0) := D8.kt q25 rfl
    have q31 : At (Ty.lst Ty.ints cs) s8 a10 (.tmp 1) := D8.kt q26 rfl
    have q32 : At (Ty.lst Ty.ints cs) s8 a10 (.tmp 34) := D8.kt q27 rfl
    have q33 : At (Ty.nat (List.length cs)) s8 a10 (.tmp 35) := D8.kt q28 rfl
    have q34 : At (Ty.bool (decide (((k : Nat) : Int) < (((List.length cs) : Nat) : Int)))) s8 a10 (.tmp 37) := D8.done 0
    clear D8
    refine tn ?_
    refine wp_seq ?_
    refine cond_p (p := (((k : Nat) : Int) < (((List.length cs) : Nat) : Int))) q34 (fun c3 => ?_) (fun c3 => ?_)
    ·
     have hg2 := hgk.2 k (by omega); have hrk := rowMay_ok.2 hg2.1; have hif : (if rowMay (cs.getD k []) = 0 then ordL (cs.getD k []) else 0) = ordL (cs.getD k []) := if_pos hrk
     refine wp_skip ?_
     refine tn ?_
     refine wp_seq ?_
     refine wp_block ?_
     refine wp_seq ?_
     refine reg (a := a10) (σ := s8) rfl (fun i_ => List.getD [(Ty.pr (Ty.ref [(Ty.lst Ty.int (cs.getD k []))])), (Ty.pr (Ty.lst Ty.int (cs.getD k []))), (Ty.pr (Ty.lst Ty.int (cs.getD k [])))] i_ Pr.any) ok9 rfl ⟨?_, ?_, ?_, trivial⟩ ?_
     · intro ax tx hs okx sm
       exact run_plain rfl (y_index1 Try.underlying33 Try.inf34 (kp (sm 34 rfl) hs q32) (kp (sm 36 rfl) hs q29) (by omega) (lst_get Ty.ints cs [] k (by omega)))
     · intro ax tx hs okx sm d0
       have e0 : At (Ty.ref [(Ty.lst Ty.int (cs.getD k []))]) tx ax (.tmp 38) := d0 rfl
       exact run_plain rfl (y_load Try.underlying34 rfl e0 rfl)
     · intro ax tx hs okx sm d0 d1 d2
       have e1 : At (Ty.lst Ty.int (cs.getD k [])) tx ax (.tmp 39) := d0 rfl
       have e0 : At (Ty.ref [(Ty.lst Ty.int (cs.getD k []))]) tx ax (.tmp 38) := d1 rfl
       exact run_plain rfl (y_assign e1)
     intro a11 s9 D9
     have ok10 := D9.ok
     have F10 := F9.step0 D9.stp
     have q35 : At (Ty.nat k) s9 a11 (.tmp 36) := D9.kt q29 rfl
     have q36 : At (Ty.int n) s9 a11 (.tmp 0) := D9.kt q30 rfl
     have q37 : At (Ty.lst Ty.ints cs) s9 a11 (.tmp 1) := D9.kt q31 rfl
     have q38 : At (Ty.lst Ty.ints cs) s9 a11 (.tmp 34) := D9.kt q32 rfl
     have q39 : At (Ty.nat (List.length cs)) s9 a11 (.tmp 35) := D9.kt q33 rfl
     have q40 : At (Ty.lst Ty.int (cs.getD k [])) s9 a11 (.tmp 9) := D9.done 2
     clear D9
     refine tn ?_
     refine wp_seq ?_
     refine reg (a := a11) (σ := s9) rfl (fun i_ => List.getD [(Ty.pr (Ty.lst Ty.int (cs.getD k []))), (Ty.pr (Ty.tup3 (Ty.nat (if rowMay ((cs.getD k [])) = 0 then ordL ((cs.getD k [])) else 0)) (Ty.bool (if rowMay ((cs.getD k [])) = 0 then oddL ((cs.getD k [])) else false)) (Ty.int (rowMay ((cs.getD k [])))))), (Ty.pr (Ty.tup3 (Ty.nat (if rowMay ((cs.getD k [])) = 0 then ordL ((cs.getD k [])) else 0)) (Ty.bool (if rowMay ((cs.getD k [])) = 0 then oddL ((cs.getD k [])) else false)) (Ty.int (rowMay ((cs.getD k [])))))), (Ty.pr (Ty.nat (if rowMay ((cs.getD k [])) = 0 then ordL ((cs.getD k [])) else 0))), (Ty.pr (Ty.bool (if rowMay ((cs.getD k [])) = 0 then oddL ((cs.getD k [])) else false))), (Ty.pr (Ty.int (rowMay ((cs.getD k []))))), (Ty.pr (Ty.nat (if rowMay ((cs.getD k [])) = 0 then ordL ((cs.getD k [])) else 0))), (Ty.pr (Ty.bool (if rowMay ((cs.getD k [])) = 0 then oddL ((cs.getD k [])) else false))), (Ty.pr (Ty.int (rowMay ((cs.getD k [])))))] i_ Pr.any) ok10 rfl ⟨?_, ?_, ?_, ?_, ?_, ?_, ?_, ?_, ?_, trivial⟩ ?_
     · intro ax tx hs okx sm
       exact run_plain rfl (y_move (kp (sm 9 rfl) hs q40))
     · intro ax tx hs okx sm d0
       have e0 : At (Ty.lst Ty.int (cs.getD k [])) tx ax (.tmp 41) := d0 rfl
       exact run_plain rfl (y_call #[ax.eval (.tmp 41)] Try.func40 rfl rfl (by simp only [List.map_toArray, List.map_cons, List.map_nil]) (order_fn ((cs.getD k [])) _ _ e0 ))
     · intro ax tx hs okx sm d0
       have e1 : At (Ty.tup3 (Ty.nat (if rowMay ((cs.getD k [])) = 0 then ordL ((cs.getD k [])) else 0)) (Ty.bool (if rowMay ((cs.getD k [])) = 0 then oddL ((cs.getD k [])) else false)) (Ty.int (rowMay ((cs.getD k []))))) tx ax (.tmp 42) := d0 rfl
       exact run_plain rfl (y_move e1)
     · intro ax tx hs okx sm d0
       have e2 : At (Ty.tup3 (Ty.nat (if rowMay ((cs.getD k [])) = 0 then ordL ((cs.getD k [])) else 0)) (Ty.bool (if rowMay ((cs.getD k [])) = 0 then oddL ((cs.getD k [])) else false)) (Ty.int (rowMay ((cs.getD k []))))) tx ax (.tmp 40) := d0 rfl
       exact run_plain rfl (y_ext3_0 e2)
     · intro ax tx hs okx sm d0 d1
       have e2 : At (Ty.tup3 (Ty.nat (if rowMay ((cs.getD k [])) = 0 then ordL ((cs.getD k [])) else 0)) (Ty.bool (if rowMay ((cs.getD k [])) = 0 then oddL ((cs.getD k [])) else false)) (Ty.int (rowMay ((cs.getD k []))))) tx ax (.tmp 40) := d0 rfl
       exact run_plain rfl (y_ext3_1 e2)
     · intro ax tx hs okx sm d0 d1
       have e2 : At (Ty.tup3 (Ty.nat (if rowMay ((cs.getD k [])) = 0 then ordL ((cs.getD k [])) else 0)) (Ty.bool (if rowMay ((cs.getD k [])) = 0 then oddL ((cs.getD k [])) else false)) (Ty.int (rowMay ((cs.getD k []))))) tx ax (.tmp 40) := d0 rfl
       exact run_plain rfl (y_ext3_2 e2)
     · intro ax tx hs okx sm d0 d1 d2 d3 d4 d5 d6 d7
       have e3 : At (Ty.nat (if rowMay ((cs.getD k [])) = 0 then ordL ((cs.getD k [])) else 0)) tx ax (.tmp 43) := d0 rfl
       have e1 : At (Ty.tup3 (Ty.nat (if rowMay ((cs.getD k [])) = 0 then ordL ((cs.getD k [])) else 0)) (Ty.bool (if rowMay ((cs.getD k [])) = 0 then oddL ((cs.getD k [])) else false)) (Ty.int (rowMay ((cs.getD k []))))) tx ax (.tmp 42) := d1 rfl
       have e0 : At (Ty.lst Ty.int (cs.getD k [])) tx ax (.tmp 41) := d2 rfl
       have e2 : At (Ty.tup3 (Ty.nat (if rowMay ((cs.getD k [])) = 0 then ordL ((cs.getD k [])) else 0)) (Ty.bool (if rowMay ((cs.getD k [])) = 0 then oddL ((cs.getD k [])) else false)) (Ty.int (rowMay ((cs.getD k []))))) tx ax (.tmp 40) := d4 rfl
       exact run_plain rfl (y_assign e3)
     · intro ax tx hs okx sm d0 d1 d2 d3 d4 d5 d6 d7 d8
       have e4 : At (Ty.bool (if rowMay ((cs.getD k [])) = 0 then oddL ((cs.getD k [])) else false)) tx ax (.tmp 44) := d0 rfl
       have e6 : At (Ty.nat (if rowMay ((cs.getD k [])) = 0 then ordL ((cs.getD k [])) else 0)) tx ax (.tmp 10) := d1 rfl
       have e0 : At (Ty.lst Ty.int (cs.getD k [])) tx ax (.tmp 41) := d2 rfl
       have e1 : At (Ty.tup3 (Ty.nat (if rowMay ((cs.getD k [])) = 0 then ordL ((cs.getD k [])) else 0)) (Ty.bool (if rowMay ((cs.getD k [])) = 0 then oddL ((cs.getD k [])) else false)) (Ty.int (rowMay ((cs.getD k []))))) tx ax (.tmp 42) := d3 rfl
       have e2 : At (Ty.tup3 (Ty.nat (if rowMay ((cs.getD k [])) = 0 then ordL ((cs.getD k [])) else 0)) (Ty.bool (if rowMay ((cs.getD k [])) = 0 then oddL ((cs.getD k [])) else false)) (Ty.int (rowMay ((cs.getD k []))))) tx ax (.tmp 40) := d4 rfl
       have e3 : At (Ty.nat (if rowMay ((cs.getD k [])) = 0 then ordL ((cs.getD k [])) else 0)) tx ax (.tmp 43) := d5 rfl
       exact run_plain rfl (y_assign e4)
     · intro ax tx hs okx sm d0 d1 d2 d3 d4 d5 d6 d7 d8 d9
       have e5 : At (Ty.int (rowMay ((cs.getD k [])))) tx ax (.tmp 45) := d0 rfl
       have e7 : At (Ty.bool (if rowMay ((cs.getD k [])) = 0 then oddL ((cs.getD k [])) else false)) tx ax (.tmp 11) := d1 rfl
       have e0 : At (Ty.lst Ty.int (cs.getD k [])) tx ax (.tmp 41) := d2 rfl
       have e1 : At (Ty.tup3 (Ty.nat (if rowMay ((cs.getD k [])) = 0 then ordL ((cs.getD k [])) else 0)) (Ty.bool (if rowMay ((cs.getD k [])) = 0 then oddL ((cs.getD k [])) else false)) (Ty.int (rowMay ((cs.getD k []))))) tx ax (.tmp 42) := d3 rfl
       have e2 : At (Ty.tup3 (Ty.nat (if rowMay ((cs.getD k [])) = 0 then ordL ((cs.getD k [])) else 0)) (Ty.bool (if rowMay ((cs.getD k [])) = 0 then oddL ((cs.getD k [])) else false)) (Ty.int (rowMay ((cs.getD k []))))) tx ax (.tmp 40) := d4 rfl
       have e3 : At (Ty.nat (if rowMay ((cs.getD k [])) = 0 then ordL ((cs.getD k [])) else 0)) tx ax (.tmp 43) := d5 rfl
       have e4 : At (Ty.bool (if rowMay ((cs.getD k [])) = 0 then oddL ((cs.getD k [])) else false)) tx ax (.tmp 44) := d6 rfl
       have e6 : At (Ty.nat (if rowMay ((cs.getD k [])) = 0 then ordL ((cs.getD k [])) else 0)) tx ax (.tmp 10) := d8 rfl
       exact run_plain rfl (y_assign e5)
     intro a12 s10 D10
     have ok11 := D10.ok
     have F11 := F10.step0 D10.stp
     have q41 : At (Ty.nat k) s10 a12 (.tmp 36) := D10.kt q35 rfl
     have q42 : At (Ty.int n) s10 a12 (.tmp 0) := D10.kt q36 rfl
     have q43 : At (Ty.lst Ty.ints cs) s10 a12 (.tmp 1) := D10.kt q37 rfl
     have q44 : At (Ty.lst Ty.ints cs) s10 a12 (.tmp 34) := D10.kt q38 rfl
     have q45 : At (Ty.nat (List.length cs)) s10 a12 (.tmp 35) := D10.kt q39 rfl
     have q46 : At (Ty.nat (if rowMay ((cs.getD k [])) = 0 then ordL ((cs.getD k [])) else 0)) s10 a12 (.tmp 10) := D10.done 6
     clear D10
     refine tn ?_
     refine wp_seq ?_
     refine reg (a := a12) (σ := s10) rfl (fun i_ => List.getD [(Ty.pr (Ty.nat (if rowMay ((cs.getD k [])) = 0 then ordL ((cs.getD k [])) else 0))), (Ty.pr (Ty.bool (decide ((2 : Int) < (((if rowMay ((cs.getD k [])) = 0 then ordL ((cs.getD k [])) else 0) : Nat) : Int)))))] i_ Pr.any) ok11 rfl ⟨?_, ?_, trivial⟩ ?_
     · intro ax tx hs okx sm
       exact run_plain rfl (y_move (kp (sm 10 rfl) hs q46))
     · intro ax tx hs okx sm d0
       have e0 : At (Ty.nat (if rowMay ((cs.getD k [])) = 0 then ordL ((cs.getD k [])) else 0)) tx ax (.tmp 46) := d0 rfl
       exact run_plain rfl (y_gtr e0 rfl)
     intro a13 s11 D11
     have ok12 := D11.ok
     have F12 := F11.step0 D11.stp
     have q47 : At (Ty.nat k) s11 a13 (.tmp 36) := D11.kt q41 rfl
     have q48 : At (Ty.int n) s11 a13 (.tmp 0) := D11.kt q42 rfl
     have q49 : At (Ty.lst Ty.ints cs) s11 a13 (.tmp 1) := D11.kt q43 rfl
     have q50 : At (Ty.lst Ty.ints cs) s11 a13 (.tmp 34) := D11.kt q44 rfl
     have q51 : At (Ty.nat (List.length cs)) s11 a13 (.tmp 35) := D11.kt q45 rfl
     have q52 : At (Ty.bool (decide ((2 : Int) < (((if rowMay ((cs.getD k [])) = 0 then ordL ((cs.getD k [])) else 0) : Nat) : Int)))) s11 a13 (.tmp 47) := D11.done 1
     clear D11
     refine tn ?_
     refine cond_p (p := ((2 : Int) < (((if rowMay ((cs.getD k [])) = 0 then ordL ((cs.getD k [])) else 0) : Nat) : Int))) q52 (fun c4 => ?_) (fun c4 => ?_)
     ·
      rw [hif] at c4
      refine wp_seq ?_
      refine reg (a := a13) (σ := s11) rfl (fun i_ => List.getD [(Ty.pr (Ty.val (Value.slice none 0 0))), (Ty.pr (Ty.bool false)), (Ty.pr (Ty.int (6 : Int)))] i_ Pr.any) ok12 rfl ⟨?_, ?_, ?_, trivial⟩ ?_
      · intro ax tx hs okx sm
        exact run_plain rfl (y_assign rfl)
      · intro ax tx hs okx sm d0 d1
        have e0 : At (Ty.val (Value.slice none 0 0)) tx ax (.tmp 4) := d0 rfl
        exact run_plain rfl (y_assign rfl)
      · intro ax tx hs okx sm d0 d1 d2
        have e1 : At (Ty.bool false) tx ax (.tmp 5) := d0 rfl
        have e0 : At (Ty.val (Value.slice none 0 0)) tx ax (.tmp 4) := d1 rfl
        exact run_plain rfl (y_assign rfl)
      intro a14 s12 D12
      have ok13 := D12.ok
      have F13 := F12.step0 D12.stp
      have q53 : At (Ty.val (Value.slice none 0 0)) s12 a14 (.tmp 4) := D12.done 0
      have q54 : At (Ty.bool false) s12 a14 (.tmp 5) := D12.done 1
      have q55 : At (Ty.int (6 : Int)) s12 a14 (.tmp 6) := D12.done 2
      clear D12
      refine tn ?_
      refine wp_ret ?_
      refine br ?_
      refine tr ?_
      refine tr ?_
      refine br ?_
      refine tr ?_
      exact retL3 rfl ok13 F13 (hasT3 (nil_lst (by (rw [cirO_no (by rw [cirMay_ord hc1 c2 (k := k) (by omega) (by omega)]; decide)]; rfl)) q53) (cvb (by (rw [cirO_no (by rw [cirMay_ord hc1 c2 (k := k) (by omega) (by omega)]; decide)]; rfl)) q54) (cvi (by (exact (cirMay_ord hc1 c2 (k := k) (by omega) (by omega)).symm)) q55))
     ·
      rw [hif] at c4
      refine wp_skip ?_
      refine bn ?_
      refine tn ?_
      refine reg (a := a13) (σ := s11) rfl (fun i_ => List.getD [(Ty.pr (Ty.nat (k + 1))), (Ty.pr (Ty.nat (k + 1)))] i_ Pr.any) ok12 rfl ⟨?_, ?_, trivial⟩ ?_
      · intro ax tx hs okx sm
        exact run_plain rfl ((y_add (kp (sm 36 rfl) hs q47) rfl (w64 (by omega) (by omega))).mono (fun τ _ h => cvi (σ := τ) (by first | omega | exact (Int.natCast_mul _ _).symm) h))
      · intro ax tx hs okx sm d0
        have e0 : At (Ty.nat (k + 1)) tx ax (.tmp 48) := d0 rfl
        exact run_plain rfl (y_move e0)
      intro a15 s13 D13
      have ok14 := D13.ok
      have F14 := F12.step0 D13.stp
      have q56 : At (Ty.int n) s13 a15 (.tmp 0) := D13.kt q48 rfl
      have q57 : At (Ty.lst Ty.ints cs) s13 a15 (.tmp 1) := D13.kt q49 rfl
      have q58 : At (Ty.lst Ty.ints cs) s13 a15 (.tmp 34) := D13.kt q50 rfl
      have q59 : At (Ty.nat (List.length cs)) s13 a15 (.tmp 35) := D13.kt q51 rfl
      have q60 : At (Ty.nat (k + 1)) s13 a15 (.tmp 36) := D13.done 1
      clear D13
      exact tn ⟨cs.length - ((k+1)), by omega, s13, (k+1), rfl, F14, ok14, (cvi (by (first | rfl | omega | (simp_all; done) | (simp_all; omega))) q60), q56, q57, q58, q59, by omega, fun j hj => by (by_cases e : j = k; subst e; omega; exact hok j (by omega)), rfl⟩
    ·
     have hm0 := cirMay_ok hc1 c2 (fun j hj => hok j (by omega))
     refine wp_exit ?_
     refine tx ?_
     refine tx ?_
     refine bx ?_
     refine tn ?_
     refine wp_seq ?_
     refine reg (a := a10) (σ := s8) rfl (fun i_ => List.getD [(Ty.pr (Ty.int n)), (Ty.pr (Ty.tup2 (Ty.lst Ty.int (roundsL ((n).toNat))) (Ty.int (0 : Int)))), (Ty.pr (Ty.tup2 (Ty.lst Ty.int (roundsL ((n).toNat))) (Ty.int (0 : Int)))), (Ty.pr (Ty.lst Ty.int (roundsL ((n).toNat)))), (Ty.pr (Ty.int (0 : Int))), (Ty.pr (Ty.lst Ty.int (roundsL ((n).toNat)))), (Ty.pr (Ty.int (0 : Int)))] i_ Pr.any) ok9 rfl ⟨?_, ?_, ?_, ?_, ?_, ?_, ?_, trivial⟩ ?_
     · intro ax tx hs okx sm
       exact run_plain rfl (y_move (kp (sm 0 rfl) hs q30))
     · intro ax tx hs okx sm d0
       have e0 : At (Ty.int n) tx ax (.tmp 50) := d0 rfl
       exact run_plain rfl (y_call #[ax.eval (.tmp 50)] Try.func52 rfl rfl (by simp only [List.map_toArray, List.map_cons, List.map_nil]) (rounds_fn ((n).toNat) _ _ (cvi (σ := tx) (by omega) e0) (by omega)))
     · intro ax tx hs okx sm d0
       have e1 : At (Ty.tup2 (Ty.lst Ty.int (roundsL ((n).toNat))) (Ty.int (0 : Int))) tx ax (.tmp 51) := d0 rfl
       exact run_plain rfl (y_move e1)
     · intro ax tx hs okx sm d0
       have e2 : At (Ty.tup2 (Ty.lst Ty.int (roundsL ((n).toNat))) (Ty.int (0 : Int))) tx ax (.tmp 49) := d0 rfl
       exact run_plain rfl (y_ext2_0 e2)
     · intro ax tx hs okx sm d0 d1
       have e2 : At (Ty.tup2 (Ty.lst Ty.int (roundsL ((n).toNat))) (Ty.int (0 : Int))) tx ax (.tmp 49) := d0 rfl
       exact run_plain rfl (y_ext2_1 e2)
     · intro ax tx hs okx sm d0 d1 d2 d3 d4 d5 d6
       have e3 : At (Ty.lst Ty.int (roundsL ((n).toNat))) tx ax (.tmp 52) := d0 rfl
       have e1 : At (Ty.tup2 (Ty.lst Ty.int (roundsL ((n).toNat))) (Ty.int (0 : Int))) tx ax (.tmp 51) := d1 rfl
       have e0 : At (Ty.int n) tx ax (.tmp 50) := d2 rfl
       have e2 : At (Ty.tup2 (Ty.lst Ty.int (roundsL ((n).toNat))) (Ty.int (0 : Int))) tx ax (.tmp 49) := d4 rfl
       exact run_plain rfl (y_assign e3)
     · intro ax tx hs okx sm d0 d1 d2 d3 d4 d5 d6 d7
       have e4 : At (Ty.int (0 : Int)) tx ax (.tmp 53) := d0 rfl
       have e5 : At (Ty.lst Ty.int (roundsL ((n).toNat))) tx ax (.tmp 13) := d1 rfl
       have e0 : At (Ty.int n) tx ax (.tmp 50) := d2 rfl
       have e1 : At (Ty.tup2 (Ty.lst Ty.int (roundsL ((n).toNat))) (Ty.int (0 : Int))) tx ax (.tmp 51) := d3 rfl
       have e2 : At (Ty.tup2 (Ty.lst Ty.int (roundsL ((n).toNat))) (Ty.int (0 : Int))) tx ax (.tmp 49) := d4 rfl
       have e3 : At (Ty.lst Ty.int (roundsL ((n).toNat))) tx ax (.tmp 52) := d5 rfl
       exact run_plain rfl (y_assign e4)
     intro a16 s14 D14
     have ok15 := D14.ok
     have F15 := F9.step0 D14.stp
     have q61 : At (Ty.int n) s14 a16 (.tmp 0) := D14.kt q30 rfl
     have q62 : At (Ty.lst Ty.ints cs) s14 a16 (.tmp 1) := D14.kt q31 rfl
     have q63 : At (Ty.lst Ty.int (roundsL ((n).toNat))) s14 a16 (.tmp 13) := D14.done 5
     clear D14
     refine tn ?_
     refine wp_seq ?_
     refine reg2 (a := a16) (σ := s14) rfl 2 (fun i_ => List.getD [(Ty.pr (Ty.lst Ty.ints cs)), (Pr.ownm Ty.int kI 41 (fun _ => none : Int → Option Int))] i_ Pr.any) ok15 rfl (by decide) rfl ⟨?_, ?_, trivial⟩ ?_
     · intro ax tx hs okx sm
       exact run_plain rfl (y_move (kp (sm 1 rfl) hs q62))
     · intro ax tx hs okx sm
       exact run_plain rfl (y_makemap 41)
     intro a17 s15 D15
     have ok16 := D15.ok
     have F16 := F15.step0 D15.stp
     have q64 : At (Ty.int n) s15 a17 (.tmp 0) := D15.kt q61 rfl
     have q65 : At (Ty.lst Ty.int (roundsL ((n).toNat))) s15 a17 (.tmp 13) := D15.kt q63 rfl
     have q66 : At (Ty.lst Ty.ints cs) s15 a17 (.tmp 54) := D15.done 0 (by decide)
     obtain ⟨x1, hx1⟩ : ∃ x, a17.eval (.tmp 55) = x := ⟨_, rfl⟩
     have q67 : At (Ty.val x1) s15 a17 (.tmp 55) := hx1
     have o1 : OwnM Ty.int kI s15 41 x1 (fun _ => none : Int → Option Int) := al2 (R := (Pr.ownm Ty.int kI 41 (fun _ => none : Int → Option Int))) hx1 (D15.done 1 (by decide))
     clear D15
     refine tailL0 (L := [41]) (R := (fun _ τ => OwnM Ty.int kI τ 41 x1 (fun x_ => if x_ = (0 : Int) then some (1 : Int) else (fun _ => none : Int → Option Int) x_))) rfl rfl (YldM.toL (m_mapins (i := (0 : Int)) Try.underlying126 (keyInt Try.underlying3) (by decide) o1 q67 rfl rfl)) (fun v1 s16 hs1 r1 => ?_)
     have F17 := F16.stepL hs1 (by decide)
     have q68 : At (Ty.int n) s16 a17 (.tmp 0) := kpL hs1 (by decide) rfl q64
     have q69 : At (Ty.lst Ty.int (roundsL ((n).toNat))) s16 a17 (.tmp 13) := kpL hs1 (by decide) rfl q65
     have q70 : At (Ty.lst Ty.ints cs) s16 a17 (.tmp 54) := kpL hs1 (by decide) rfl q66
     have q71 : At (Ty.val x1) s16 a17 (.tmp 55) := kpL hs1 (by decide) rfl q67
     have o2 : OwnM Ty.int kI s16 41 x1 (fun x_ => if x_ = (0 : Int) then some (1 : Int) else (fun _ => none : Int → Option Int) x_) := r1
     clear r1
     refine tailL (L := []) (R := (fun v τ => Pr.has (Ty.pr (Ty.val x1)) τ v)) rfl rfl (by decide) ok16 (Yld.toL (y_move q71)) (fun a18 s17 hs2 ok17 r2 sm1 => ?_)
     have F18 := F17.stepL hs2 (by decide)
     have q73 : At (Ty.int n) s17 a18 (.tmp 0) := kpL hs2 (by decide) (sm1 0 (by decide)) q68
     have q74 : At (Ty.lst Ty.int (roundsL ((n).toNat))) s17 a18 (.tmp 13) := kpL hs2 (by decide) (sm1 13 (by decide)) q69
     have q75 : At (Ty.lst Ty.ints cs) s17 a18 (.tmp 54) := kpL hs2 (by decide) (sm1 54 (by decide)) q70
     have o3 := OwnM.keepL o2 hs2 (by decide) (by decide)
     have q76 : At (Ty.val x1) s17 a18 (.tmp 56) := r2
     clear r2
     refine tailL (L := []) (R := (fun v τ => Pr.has (Ty.pr (Ty.int n)) τ v)) rfl rfl (by decide) ok17 (Yld.toL (y_move q73)) (fun a19 s18 hs3 ok18 r3 sm2 => ?_)
     have F19 := F18.stepL hs3 (by decide)
     have q77 : At (Ty.lst Ty.int (roundsL ((n).toNat))) s18 a19 (.tmp 13) := kpL hs3 (by decide) (sm2 13 (by decide)) q74
     have q78 : At (Ty.lst Ty.ints cs) s18 a19 (.tmp 54) := kpL hs3 (by decide) (sm2 54 (by decide)) q75
     have q79 : At (Ty.val x1) s18 a19 (.tmp 56) := kpL hs3 (by decide) (sm2 56 (by decide)) q76
     have o4 := OwnM.keepL o3 hs3 (by decide) (by decide)
     have q80 : At (Ty.int n) s18 a19 (.tmp 57) := r3
     clear r3
     refine tailL (L := []) (R := (fun v τ => Pr.has (Ty.pr (Ty.nat (fct ((n).toNat)))) τ v)) rfl rfl (by decide) ok18 (Yld.toL (y_call #[a19.eval (.tmp 57)] Try.func84 rfl rfl (by simp only [List.map_toArray, List.map_cons, List.map_nil]) (rowAll_fn ((n).toNat) _ _ (cvi (σ := s18) (by omega) q80) (by omega)))) (fun a20 s19 hs4 ok19 r4 sm3 => ?_)
     have F20 := F19.stepL hs4 (by decide)
     have q81 : At (Ty.lst Ty.int (roundsL ((n).toNat))) s19 a20 (.tmp 13) := kpL hs4 (by decide) (sm3 13 (by decide)) q77
     have q82 : At (Ty.lst Ty.ints cs) s19 a20 (.tmp 54) := kpL hs4 (by decide) (sm3 54 (by decide)) q78
     have q83 : At (Ty.val x1) s19 a20 (.tmp 56) := kpL hs4 (by decide) (sm3 56 (by decide)) q79
     have o5 := OwnM.keepL o4 hs4 (by decide) (by decide)
     have q84 : At (Ty.nat (fct ((n).toNat))) s19 a20 (.tmp 58) := r4
     clear r4
     refine tailL (L := []) (R := (fun v τ => Pr.has (Ty.pr (Ty.agg [(Ty.lst Ty.ints cs), (Ty.val x1), (Ty.val (Value.slice none 0 0)), (Ty.nat (fct ((n).toNat)))])) τ v)) rfl rfl (by decide) ok19 (Yld.toL (y_bld [(0, (.tmp 54), (Ty.lst Ty.ints cs)), (1, (.tmp 56), (Ty.val x1)), (3, (.tmp 58), (Ty.nat (fct ((n).toNat))))] [(Ty.val (Value.slice none 0 0)), (Ty.val (Value.map none)), (Ty.val (Value.slice none 0 0)), (Ty.int (0 : Int))] (l := [(0, 1), (1, 1), (2, 1), (3, 1)]) rfl Try.inf128 rfl (alloc_vals (vs := [.slice none 0 0, .map none, .slice none 0 0, .int .i64 0]) rfl) rfl (by intro p hp; simp only [List.mem_cons, List.not_mem_nil, or_false] at hp; rcases hp with rfl | rfl | rfl; exact ⟨one_sl, q82⟩; exact ⟨one_val (OwnM.one o5), q83⟩; exact ⟨one_val rfl, q84⟩))) (fun a21 s20 hs5 ok20 r5 sm4 => ?_)
     have F21 := F20.stepL hs5 (by decide)
     have q85 : At (Ty.lst Ty.int (roundsL ((n).toNat))) s20 a21 (.tmp 13) := kpL hs5 (by decide) (sm4 13 (by decide)) q81
     have o6 := OwnM.keepL o5 hs5 (by decide) (by decide)
     have q86 : At (Ty.agg [(Ty.lst Ty.ints cs), (Ty.val x1), (Ty.val (Value.slice none 0 0)), (Ty.nat (fct ((n).toNat)))]) s20 a21 (.tmp 59) := r5
     clear r5
     refine tailL (L := []) (R := (fun v τ => Pr.has (Pr.ownp 40 [(Ty.lst Ty.ints cs), (Ty.val x1), (Ty.val (Value.slice none 0 0)), (Ty.nat (fct ((n).toNat)))]) τ v)) rfl rfl (by decide) ok20 (Yld.toL (y_boxo 40 q86)) (fun a22 s21 hs6 ok21 r6 sm5 => ?_)
     have F22 := F21.stepL hs6 (by decide)
     have q87 : At (Ty.lst Ty.int (roundsL ((n).toNat))) s21 a22 (.tmp 13) := kpL hs6 (by decide) (sm5 13 (by decide)) q85
     have o8 := OwnM.keepL o6 hs6 (by decide) (by decide)
     obtain ⟨x2, hx2⟩ : ∃ x, a22.eval (.tmp 60) = x := ⟨_, rfl⟩
     have q88 : At (Ty.val x2) s21 a22 (.tmp 60) := hx2
     have o7 : OwnP s21 40 x2 [(Ty.lst Ty.ints cs), (Ty.val x1), (Ty.val (Value.slice none 0 0)), (Ty.nat (fct ((n).toNat)))] := al2 (R := (Pr.ownp 40 [(Ty.lst Ty.ints cs), (Ty.val x1), (Ty.val (Value.slice none 0 0)), (Ty.nat (fct ((n).toNat)))])) hx2 r6
     clear r6
     refine tailL (L := []) (R := (fun v τ => Pr.has (Ty.pr (Ty.val x2)) τ v)) rfl rfl (by decide) ok21 (Yld.toL (y_assign q88)) (fun a23 s22 hs7 ok22 r7 sm6 => ?_)
     have F23 := F22.stepL hs7 (by decide)
     have q89 : At (Ty.lst Ty.int (roundsL ((n).toNat))) s22 a23 (.tmp 13) := kpL hs7 (by decide) (sm6 13 (by decide)) q87
     have o9 := OwnM.keepL o8 hs7 (by decide) (by decide)
     have o10 := OwnP.keepL o7 hs7 (by decide) (by decide)
     have q90 : At (Ty.val x2) s22 a23 (.tmp 15) := r7
     clear r7
     refine wpList_nil ?_
     refine tn ?_
     refine wp_seq ?_
     refine reg2 (a := a23) (σ := s22) rfl 2 (fun i_ => List.getD [(Ty.pr (Ty.val x2)), (Ty.pr (Ty.lst Ty.int (roundsL ((n).toNat))))] i_ Pr.any) ok22 rfl (by decide) rfl ⟨?_, ?_, trivial⟩ ?_
     · intro ax tx hs okx sm
       exact run_plain rfl (y_move (kp (sm 15 rfl) hs q90))
     · intro ax tx hs okx sm
       exact run_plain rfl (y_move (kp (sm 13 rfl) hs q89))
     intro a24 s23 D16
     have ok23 := D16.ok
     have F24 := F23.step0 D16.stp
     have q91 : At (Ty.val x2) s23 a24 (.tmp 15) := D16.kt q90 rfl
     have o11 := OwnM.k0 o9 D16.stp
     have o12 := OwnP.k0 o10 D16.stp
     have q92 : At (Ty.val x2) s23 a24 (.tmp 61) := D16.done 0 (by decide)
     have q93 : At (Ty.lst Ty.int (roundsL ((n).toNat))) s23 a24 (.tmp 62) := D16.done 1 (by decide)
     clear D16
     have o13 : Own s23 42 3 1 (Value.slice none 0 0) 0 (List.map Ty.int ([] : List Int)) := Own.nil _ _ _ _
     refine tailL (L := [40, 41, 42]) (R := (fun v τ' => ∃ τ, (fun v τ => ∃ (fz : Int → Option Int), ∃ (pz : Value), (Ty.has (Ty.bool (circF cs (fct ((n).toNat)) ((fct ((n).toNat) - (([] : List Int)).length)) ([roundsL ((n).toNat)]) (([] : List Int))).isSome) τ v) ∧ (OwnP τ 40 x2 [(Ty.lst Ty.ints cs), (Ty.val x1), (Ty.val pz), (Ty.nat (fct ((n).toNat)))]) ∧ (OwnM Ty.int kI τ 41 x1 fz) ∧ (Own τ 42 3 1 pz (List.length ((circF cs (fct ((n).toNat)) ((fct ((n).toNat) - (([] : List Int)).length)) ([roundsL ((n).toNat)]) (([] : List Int))).getD (([] : List Int)))) (List.map Ty.int ((circF cs (fct ((n).toNat)) ((fct ((n).toNat) - (([] : List Int)).length)) ([roundsL ((n).toNat)]) (([] : List Int))).getD (([] : List Int))))) ∧ (circF cs (fct ((n).toNat)) ((fct ((n).toNat) - (([] : List Int)).length)) ([roundsL ((n).toNat)]) (([] : List Int)) = none → SeenT ((n).toNat) ([roundsL ((n).toNat)]) fz)) v τ ∧ Back [(40, 40), (41, 41), (42, 42)] τ τ')) rfl rfl (by decide) ok23 (y_callL (L := [40, 41, 42]) [(40, 40), (41, 41), (42, 42)] [(40, 40), (41, 41), (42, 42)] #[a24.eval (.tmp 61), a24.eval (.tmp 62)] rfl (by decide) Try.func85 rfl rfl (by simp only [List.map_toArray, List.map_cons, List.map_nil]) (tour_fn ((fct ((n).toNat) - (([] : List Int)).length)) (x2) (x1) ((Value.slice none 0 0)) ((n).toNat) (cs) ([roundsL ((n).toNat)]) (([] : List Int)) ((roundsL ((n).toNat))) ((fun x_ => if x_ = (0 : Int) then some (1 : Int) else (fun _ => none : Int → Option Int) x_)) _ (GW.low_lend _ (by decide)) _ _ (Ty.up _ (GW.le_lend _ _) q92) (Ty.up _ (GW.le_lend _ _) q93) (OwnP.ren o12 (GW.ren_lend _ _ (by decide) rfl)) (OwnM.ren (cvm (by (rfl)) o11) (GW.ren_lend _ _ (by decide) rfl)) (Own.ren (cvo (by (simp)) (by (simp)) o13) (GW.ren_lend _ _ (by decide) rfl)) (by first | omega | assumption | (simp only [List.length_append, List.length_cons, List.length_nil]; omega)) (by first | omega | assumption | (simp only [List.length_append, List.length_cons, List.length_nil]; omega)) (by first | omega | assumption | (simp only [List.length_append, List.length_cons, List.length_nil]; omega)))) (fun a25 s24 hs8 ok24 r8 sm7 => ?_)
     have F25 := F24.stepL hs8 (by decide)
     have q94 : At (Ty.val x2) s24 a25 (.tmp 15) := kpL hs8 (by decide) (sm7 15 (by decide)) q91
     obtain ⟨t3, ⟨g1, x3, hT1, o14, o15, o16, hp1⟩, B1⟩ := r8
     have q95 : At (Ty.bool (circF cs (fct ((n).toNat)) ((fct ((n).toNat) - (([] : List Int)).length)) ([roundsL ((n).toNat)]) (([] : List Int))).isSome) s24 a25 (.tmp 63) := Ty.up _ B1.le hT1
     have o17 : OwnP s24 40 x2 [(Ty.lst Ty.ints cs), (Ty.val x1), (Ty.val x3), (Ty.nat (fct ((n).toNat)))] := OwnP.ren o14 (B1.ren (by decide) rfl)
     have o18 : OwnM Ty.int kI s24 41 x1 (g1) := OwnM.ren o15 (B1.ren (by decide) rfl)
     have o19 : Own s24 42 3 1 x3 (List.length ((circF cs (fct ((n).toNat)) ((fct ((n).toNat) - (([] : List Int)).length)) ([roundsL ((n).toNat)]) (([] : List Int))).getD (([] : List Int)))) (List.map Ty.int ((circF cs (fct ((n).toNat)) ((fct ((n).toNat) - (([] : List Int)).length)) ([roundsL ((n).toNat)]) (([] : List Int))).getD (([] : List Int)))) := Own.ren o16 (B1.ren (by decide) rfl)
     refine tailL (L := []) (R := (fun v τ => Pr.has (Ty.pr (Ty.bool (circF cs (fct ((n).toNat)) ((fct ((n).toNat) - (([] : List Int)).length)) ([roundsL ((n).toNat)]) (([] : List Int))).isSome)) τ v)) rfl rfl (by decide) ok24 (Yld.toL (y_assign q95)) (fun a26 s25 hs9 ok25 r9 sm8 => ?_)
     have F26 := F25.stepL hs9 (by decide)
     have q96 : At (Ty.val x2) s25 a26 (.tmp 15) := kpL hs9 (by decide) (sm8 15 (by decide)) q94
     have o20 := OwnP.keepL o17 hs9 (by decide) (by decide)
     have o21 := OwnM.keepL o18 hs9 (by decide) (by decide)
     have o22 := Own.keepL o19 hs9 (by decide) (by decide)
     have q97 : At (Ty.bool (circF cs (fct ((n).toNat)) ((fct ((n).toNat) - (([] : List Int)).length)) ([roundsL ((n).toNat)]) (([] : List Int))).isSome) s25 a26 (.tmp 16) := r9
     clear r9
     refine wpList_nil ?_
     refine tn ?_
     refine wp_seq ?_
     refine reg (a := a26) (σ := s25) rfl (fun i_ => List.getD [(Ty.pr (Ty.val x2)), (Ty.pr (Ty.val x2)), (Ty.pr (Ty.val (ptrAt x2 2))), (Ty.pr (Ty.val x3)), (Ty.pr (Ty.bool (circF cs (fct ((n).toNat)) ((fct ((n).toNat) - (([] : List Int)).length)) ([roundsL ((n).toNat)]) (([] : List Int))).isSome)), (Ty.pr (Ty.val x3)), (Ty.pr (Ty.bool (circF cs (fct ((n).toNat)) ((fct ((n).toNat) - (([] : List Int)).length)) ([roundsL ((n).toNat)]) (([] : List Int))).isSome)), (Ty.pr (Ty.int (0 : Int)))] i_ Pr.any) ok25 rfl ⟨?_, ?_, ?_, ?_, ?_, ?_, ?_, ?_, trivial⟩ ?_
     · intro ax tx hs okx sm
       exact run_plain rfl (y_move (kp (sm 15 rfl) hs q96))
     · intro ax tx hs okx sm d0
       have e0 : At (Ty.val x2) tx ax (.tmp 64) := d0 rfl
       exact run_plain rfl (y_nilp (OwnP.k0 o20 hs) e0)
     · intro ax tx hs okx sm d0
       have e1 : At (Ty.val x2) tx ax (.tmp 65) := d0 rfl
       exact run_plain rfl (ownp_field Try.fld128_2 Try.inf34 (by decide) (OwnP.k0 o20 hs) e1)
     · intro ax tx hs okx sm d0
       have e2 : At (Ty.val (ptrAt x2 2)) tx ax (.tmp 66) := d0 rfl
       exact run_plain rfl (ownp_load Try.underlying34 rfl (OwnP.k0 o20 hs) e2 rfl)
     · intro ax tx hs okx sm d0
       exact run_plain rfl (y_move (kp (sm 16 rfl) hs q97))
     · intro ax tx hs okx sm d0 d1 d2 d3 d4 d5
       have e3 : At (Ty.val x3) tx ax (.tmp 67) := d0 rfl
       have e0 : At (Ty.val x2) tx ax (.tmp 64) := d1 rfl
       have e1 : At (Ty.val x2) tx ax (.tmp 65) := d2 rfl
       have e2 : At (Ty.val (ptrAt x2 2)) tx ax (.tmp 66) := d3 rfl
       exact run_plain rfl (y_assign e3)
     · intro ax tx hs okx sm d0 d1 d2 d3 d4 d5 d6 d7
       have e4 : At (Ty.bool (circF cs (fct ((n).toNat)) ((fct ((n).toNat) - (([] : List Int)).length)) ([roundsL ((n).toNat)]) (([] : List Int))).isSome) tx ax (.tmp 68) := d0 rfl
       have e5 : At (Ty.val x3) tx ax (.tmp 4) := d1 rfl
       have e0 : At (Ty.val x2) tx ax (.tmp 64) := d2 rfl
       have e1 : At (Ty.val x2) tx ax (.tmp 65) := d3 rfl
       have e2 : At (Ty.val (ptrAt x2 2)) tx ax (.tmp 66) := d4 rfl
       have e3 : At (Ty.val x3) tx ax (.tmp 67) := d5 rfl
       exact run_plain rfl (y_assign e4)
     · intro ax tx hs okx sm d0 d1 d2 d3 d4 d5 d6 d7
       have e6 : At (Ty.bool (circF cs (fct ((n).toNat)) ((fct ((n).toNat) - (([] : List Int)).length)) ([roundsL ((n).toNat)]) (([] : List Int))).isSome) tx ax (.tmp 5) := d0 rfl
       have e0 : At (Ty.val x2) tx ax (.tmp 64) := d1 rfl
       have e1 : At (Ty.val x2) tx ax (.tmp 65) := d2 rfl
       have e2 : At (Ty.val (ptrAt x2 2)) tx ax (.tmp 66) := d3 rfl
       have e3 : At (Ty.val x3) tx ax (.tmp 67) := d4 rfl
       have e4 : At (Ty.bool (circF cs (fct ((n).toNat)) ((fct ((n).toNat) - (([] : List Int)).length)) ([roundsL ((n).toNat)]) (([] : List Int))).isSome) tx ax (.tmp 68) := d5 rfl
       have e5 : At (Ty.val x3) tx ax (.tmp 4) := d6 rfl
       exact run_plain rfl (y_assign rfl)
     intro a27 s26 D17
     have ok26 := D17.ok
     have F27 := F26.step0 D17.stp
     have o23 := OwnP.k0 o20 D17.stp
     have o24 := OwnM.k0 o21 D17.stp
     have o25 := Own.k0 o22 D17.stp
     have q98 : At (Ty.val x3) s26 a27 (.tmp 4) := D17.done 5
     have q99 : At (Ty.bool (circF cs (fct ((n).toNat)) ((fct ((n).toNat) - (([] : List Int)).length)) ([roundsL ((n).toNat)]) (([] : List Int))).isSome) s26 a27 (.tmp 5) := D17.done 6
     have q100 : At (Ty.int (0 : Int)) s26 a27 (.tmp 6) := D17.done 7
     clear D17
     refine tn ?_
     refine wp_ret ?_
     obtain ⟨t4, e1, h1, q101⟩ := Own.seal o25 (by decide)
     rw [← e1]
     have F28 := F27.step h1 (by decide)
     have q102 : At (Ty.lst Ty.int ((circF cs (fct ((n).toNat)) ((fct ((n).toNat) - (([] : List Int)).length)) ([roundsL ((n).toNat)]) (([] : List Int))).getD (([] : List Int)))) t4 a27 (.tmp 4) := by have e : a27.eval (.tmp 4) = x3 := q98; show Ty.has _ _ _; rw [e]; exact q101
     have q103 := Ty.up (Ty.bool (circF cs (fct ((n).toNat)) ((fct ((n).toNat) - (([] : List Int)).length)) ([roundsL ((n).toNat)]) (([] : List Int))).isSome) (h1.le (by decide)) q99
     have q104 := Ty.up (Ty.int (0 : Int)) (h1.le (by decide)) q100
     exact retL3 rfl ok26 F28 (hasT3 (cvt (by (rw [cirO_ok hm0]; rfl)) q102) (cvb (by (rw [cirO_ok hm0]; rfl)) q103) (cvi (by (exact hm0.symm)) q104))


set_option maxRecDepth 100000 in
theorem rRounds_fn (n : Nat) (σ : GW) (v0 : Value) (hv0 : Ty.has (Ty.nat n) σ v0) (hn : n ≤ 1000000) :
    FnC Try.prog 24 #[v0] σ (Ty.lst Ty.int (roundsL n)) := by
 refine fn_intro Try.func24 rfl Try.ntmps24 (Nat.le_of_ble_eq_true rfl) (fun s0 a0 hle F0 ok0 hargs => ?_)
 have p0 : At (Ty.nat n) s0 a0 (.tmp 0) := by have e := hargs 0 _ rfl; show Ty.has _ _ _; rw [e]; exact Ty.up _ hle hv0
 clear hargs
 refine wp_seq ?_
 refine reg (a := a0) (σ := s0) rfl (fun i_ => List.getD [(Ty.pr (Ty.val (Value.slice none 0 0)))] i_ Pr.any) ok0 rfl ⟨?_, trivial⟩ ?_
 · intro ax tx hs okx sm
   exact run_plain rfl (y_assign rfl)
 intro a1 s1 D1
 have ok1 := D1.ok
 have F1 := F0.step0 D1.stp
 have q1 : At (Ty.nat n) s1 a1 (.tmp 0) := D1.kt p0 rfl
 clear D1
 refine tn ?_
 refine wp_seq ?_
 refine reg (a := a1) (σ := s1) rfl (fun i_ => List.getD [(Ty.pr (Ty.val (Value.slice none 0 0)))] i_ Pr.any) ok1 rfl ⟨?_, trivial⟩ ?_
 · intro ax tx hs okx sm
   exact run_plain rfl (y_assign rfl)
 intro a2 s2 D2
 have ok2 := D2.ok
 have F2 := F1.step0 D2.stp
 have q2 : At (Ty.nat n) s2 a2 (.tmp 0) := D2.kt q1 rfl
 have q3 : At (Ty.val (Value.slice none 0 0)) s2 a2 (.tmp 3) := D2.done 0
 clear D2
 refine tn ?_
 refine wp_seq ?_
 refine wp_seq ?_
 refine reg (a := a2) (σ := s2) rfl (fun i_ => List.getD [(Ty.pr (Ty.int (0 : Int)))] i_ Pr.any) ok2 rfl ⟨?_, trivial⟩ ?_
 · intro ax tx hs okx sm
   exact run_plain rfl (y_assign rfl)
 intro a3 s3 D3
 have ok3 := D3.ok
 have F3 := F2.step0 D3.stp
 have q4 : At (Ty.nat n) s3 a3 (.tmp 0) := D3.kt q2 rfl
 have q5 : At (Ty.val (Value.slice none 0 0)) s3 a3 (.tmp 3) := D3.kt q3 rfl
 have q6 : At (Ty.int (0 : Int)) s3 a3 (.tmp 4) := D3.done 0
 clear D3
 refine tn ?_
 refine wp_block ?_
 refine loop (fun n1 a4 w1 => ∃ (t1 : GW) (k : Nat), t1.w = w1 ∧ From s0 t1 ∧ Ok 15 a4 ∧ (Pr.own 2 3 1 (List.length (roundsL k)) (List.map Ty.int (roundsL k))).has t1 (a4.eval (.tmp 3)) ∧ At (Ty.nat k) t1 a4 (.tmp 4) ∧ At (Ty.nat n) t1 a4 (.tmp 0) ∧ (k ≤ n) ∧ n1 = n - k) (n - (0)) ?_ ?_
 ·
  exact ⟨s3, 0, rfl, F3, ok3, (by have e : a3.eval (.tmp 3) = _ := q5; rw [e]; exact Own.nil _ _ _ _), (cvi (by (first | rfl | omega | (simp_all; done) | (simp_all; omega))) q6), q4, by omega, rfl⟩
 ·
  rintro n2 a5 w2 ⟨t2, k, rfl, F4, ok4, q7, q8, q9, hk, rfl⟩
  have hp := roundsL_len k
  refine wp_seq ?_
  refine wp_seq ?_
  refine reg (a := a5) (σ := t2) rfl (fun i_ => List.getD [(Ty.pr (Ty.nat k)), (Ty.pr (Ty.nat n)), (Ty.pr (Ty.bool (decide (((k : Nat) : Int) < ((n : Nat) : Int)))))] i_ Pr.any) ok4 rfl ⟨?_, ?_, ?_, trivial⟩ ?_
  · intro ax tx hs okx sm
    exact run_plain rfl (y_move (kp (sm 4 rfl) hs q8))
  · intro ax tx hs okx sm
    exact run_plain rfl (y_move (kp (sm 0 rfl) hs q9))
  · intro ax tx hs okx sm d0 d1
    have e0 : At (Ty.nat k) tx ax (.tmp 5) := d0 rfl
    have e1 : At (Ty.nat n) tx ax (.tmp 6) := d1 rfl
    exact run_plain rfl (y_lss e0 e1)
  intro a6 s4 D4
  have ok5 := D4.ok
  have F5 := F4.step0 D4.stp
  have q10 : (Pr.own 2 3 1 (List.length (roundsL k)) (List.map Ty.int (roundsL k))).has s4 (a6.eval (.tmp 3)) := D4.ko q7 rfl
  have q11 : At (Ty.nat k) s4 a6 (.tmp 4) := D4.kt q8 rfl
  have q12 : At (Ty.nat n) s4 a6 (.tmp 0) := D4.kt q9 rfl
  have q13 : At (Ty.bool (decide (((k : Nat) : Int) < ((n : Nat) : Int)))) s4 a6 (.tmp 7) := D4.done 2
  clear D4
  refine tn ?_
  refine cond_p (p := (((k : Nat) : Int) < ((n : Nat) : Int))) q13 (fun c1 => ?_) (fun c1 => ?_)
  ·
   refine wp_skip ?_
   refine tn ?_
   refine wp_seq ?_
   refine wp_block ?_
   refine reg2 (a := a6) (σ := s4) rfl 3 (fun i_ => List.getD [(Ty.pr (Ty.val (a6.eval (.tmp 3)))), (Ty.pr (Ty.nat k)), (Ty.pr (Ty.sl 1 1 [(Ty.nat k)]))] i_ Pr.any) ok5 rfl (by decide) rfl ⟨?_, ?_, ?_, trivial⟩ ?_
   · intro ax tx hs okx sm
     exact run_plain rfl (y_move (sm 3 rfl))
   · intro ax tx hs okx sm
     exact run_plain rfl (y_move (kp (sm 4 rfl) hs q11))
   · intro ax tx hs okx sm d0
     have e1 : At (Ty.nat k) tx ax (.tmp 11) := d0 rfl
     exact run_plain rfl (y_build1o Try.underlying34 Try.inf3 rfl (one_val rfl) e1)
   intro a7 s5 D5
   have ok6 := D5.ok
   have F6 := F5.step0 D5.stp
   have q14 := (Pr.own 2 3 1 (List.length (roundsL k)) (List.map Ty.int (roundsL k))).up D5.stp q10
   have q15 : a7.eval (.tmp 3) = a6.eval (.tmp 3) := D5.same 3 rfl
   have q16 : At (Ty.nat k) s5 a7 (.tmp 4) := D5.kt q11 rfl
   have q17 : At (Ty.nat n) s5 a7 (.tmp 0) := D5.kt q12 rfl
   have q18 : At (Ty.val (a6.eval (.tmp 3))) s5 a7 (.tmp 10) := D5.done 0 (by decide)
   have q19 : At (Ty.sl 1 1 [(Ty.nat k)]) s5 a7 (.tmp 12) := D5.done 2 (by decide)
   clear D5
   refine tail_step (m := 2) (R := (fun v τ => Own τ 2 3 1 v ((List.length (roundsL k)) + 1) ((List.map Ty.int (roundsL k)) ++ [(Ty.nat k)]))) rfl rfl (by decide) ok6 (m_append Try.underlying34 Try.inf3 (by decide) rfl (by decide) (al q18 q14) q19 (by intro U hU; simp at hU;  subst hU; exact one_val rfl) (by omega) (by omega)) (fun a8 s6 hs1 ok7 r1 sm1 => ?_)
   have F7 := F6.step hs1 (by decide)
   have q20 : At (Ty.nat k) s6 a8 (.tmp 4) := kpm hs1 (by decide) (sm1 4 (by decide)) q16
   have q21 : At (Ty.nat n) s6 a8 (.tmp 0) := kpm hs1 (by decide) (sm1 0 (by decide)) q17
   have q22 : At (Ty.sl 1 1 [(Ty.nat k)]) s6 a8 (.tmp 12) := kpm hs1 (by decide) (sm1 12 (by decide)) q19
   have q23 : (Pr.own 2 3 1 (List.length ((roundsL k) ++ [((k : Nat) : Int)])) (List.map Ty.int ((roundsL k) ++ [((k : Nat) : Int)]))).has s6 (a8.eval (.tmp 13)) := (cvo (by simp) (by first | (rw [List.map_append]; rfl) | simp) r1)
   refine tail_step (m := 0) (R := (fun v τ => Pr.has (Pr.own 2 3 1 (List.length ((roundsL k) ++ [((k : Nat) : Int)])) (List.map Ty.int ((roundsL k) ++ [((k : Nat) : Int)]))) τ v)) rfl rfl (by decide) ok7 (Yld.toM (y_assign q23)) (fun a9 s7 hs2 ok8 r2 sm2 => ?_)
   have F8 := F7.step hs2 (by decide)
   have q24 : At (Ty.nat k) s7 a9 (.tmp 4) := kpm hs2 (by decide) (sm2 4 (by decide)) q20
   have q25 : At (Ty.nat n) s7 a9 (.tmp 0) := kpm hs2 (by decide) (sm2 0 (by decide)) q21
   have q26 : At (Ty.sl 1 1 [(Ty.nat k)]) s7 a9 (.tmp 12) := kpm hs2 (by decide) (sm2 12 (by decide)) q22
   have q27 : (Pr.own 2 3 1 (List.length ((roundsL k) ++ [((k : Nat) : Int)])) (List.map Ty.int ((roundsL k) ++ [((k : Nat) : Int)]))).has s7 (a9.eval (.tmp 13)) := kpmo hs2 (by decide) (.inl rfl) (sm2 13 (by decide)) q23
   have q28 : (Pr.own 2 3 1 (List.length ((roundsL k) ++ [((k : Nat) : Int)])) (List.map Ty.int ((roundsL k) ++ [((k : Nat) : Int)]))).has s7 (a9.eval (.tmp 3)) := r2
   refine wpList_nil ?_
   refine bn ?_
   refine tn ?_
   refine reg (a := a9) (σ := s7) rfl (fun i_ => List.getD [(Ty.pr (Ty.nat k)), (Ty.pr (Ty.int (((k : Nat) : Int) + (1 : Int)))), (Ty.pr (Ty.int (((k : Nat) : Int) + (1 : Int))))] i_ Pr.any) ok8 rfl ⟨?_, ?_, ?_, trivial⟩ ?_
   · intro ax tx hs okx sm
     exact run_plain rfl (y_move (kp (sm 4 rfl) hs q24))
   · intro ax tx hs okx sm d0
     have e0 : At (Ty.nat k) tx ax (.tmp 8) := d0 rfl
     exact run_plain rfl (y_add e0 rfl (w64 (by omega) (by omega)))
   · intro ax tx hs okx sm d0 d1 d2
     have e1 : At (Ty.int (((k : Nat) : Int) + (1 : Int))) tx ax (.tmp 9) := d0 rfl
     have e0 : At (Ty.nat k) tx ax (.tmp 8) := d1 rfl
     exact run_plain rfl (y_assign e1)
   intro a10 s8 D6
   have ok9 := D6.ok
   have F9 := F8.step0 D6.stp
   have q29 : At (Ty.nat n) s8 a10 (.tmp 0) := D6.kt q25 rfl
   have q30 : (Pr.own 2 3 1 (List.length ((roundsL k) ++ [((k : Nat) : Int)])) (List.map Ty.int ((roundsL k) ++ [((k : Nat) : Int)]))).has s8 (a10.eval (.tmp 3)) := D6.ko q28 rfl
   have q31 : At (Ty.int (((k : Nat) : Int) + (1 : Int))) s8 a10 (.tmp 4) := D6.done 2
   clear D6
   exact tn ⟨n - ((k+1)), by omega, s8, (k+1), rfl, F9, ok9, (cvo (by (rw [roundsL_succ k])) (by (rw [roundsL_succ k])) q30), (cvi (by (first | rfl | omega | (simp_all; done) | (simp_all; omega))) q31), q29, by omega, rfl⟩
  ·
   refine wp_exit ?_
   refine tx ?_
   refine tx ?_
   refine bx ?_
   refine tn ?_
   refine wp_seq ?_
   refine reg (a := a6) (σ := s4) rfl (fun i_ => List.getD [(Ty.pr (Ty.val (a6.eval (.tmp 3)))), (Ty.pr (Ty.val (a6.eval (.tmp 3))))] i_ Pr.any) ok5 rfl ⟨?_, ?_, trivial⟩ ?_
   · intro ax tx hs okx sm
     exact run_plain rfl (y_move (sm 3 rfl))
   · intro ax tx hs okx sm d0 d1
     have e0 : At (Ty.val (a6.eval (.tmp 3))) tx ax (.tmp 14) := d0 rfl
     exact run_plain rfl (y_assign e0)
   intro a11 s9 D7
   have ok10 := D7.ok
   have F10 := F5.step0 D7.stp
   have q32 : (Pr.own 2 3 1 (List.length (roundsL k)) (List.map Ty.int (roundsL k))).has s9 (a11.eval (.tmp 2)) := al (show _ = _ from D7.done 1) ((Pr.own 2 3 1 (List.length (roundsL k)) (List.map Ty.int (roundsL k))).up D7.stp q10)
   clear D7
   refine tn ?_
   refine wp_ret ?_
   obtain ⟨t3, e1, h1, q33⟩ := Own.seal q32 (by decide)
   rw [← e1]
   have F11 := F10.step h1 (by decide)
   exact ret1 rfl ok10 F11 (cvt (by (obtain rfl : k = n := (by omega); rfl)) q33)


set_option maxRecDepth 100000 in
theorem rFact_fn : ∀ (m : Nat) (n : Nat) (σ : GW)  (v0 : Value) (hv0 : Ty.has (Ty.nat n) σ v0)  (hm : m = n) (hn : n ≤ 12), FnC Try.prog 35 #[v0] σ (Ty.nat (fct n)) := by
 intro m
 induction m using Nat.strongRecOn with
 | _ m ih =>
 intro n σ v0 hv0 hm hn
 refine fn_intro0 Try.func35 rfl Try.ntmps35 (Nat.le_of_ble_eq_true rfl) (fun s0 a0 hle F0 ok0 hargs => ?_)
 have p0 : At (Ty.nat n) s0 a0 (.tmp 0) := by have e := hargs 0 _ rfl; show Ty.has _ _ _; rw [e]; exact Ty.up _ hle hv0
 clear hargs
 refine wp_seq ?_
 refine reg (a := a0) (σ := s0) rfl (fun i_ => List.getD [(Ty.pr (Ty.int (0 : Int)))] i_ Pr.any) ok0 rfl ⟨?_, trivial⟩ ?_
 · intro ax tx hs okx sm
   exact run_plain rfl (y_assign rfl)
 intro a1 s1 D1
 have ok1 := D1.ok
 have F1 := F0.step0 D1.stp
 have q1 : At (Ty.nat n) s1 a1 (.tmp 0) := D1.kt p0 rfl
 clear D1
 refine tn ?_
 refine wp_seq ?_
 refine wp_seq ?_
 refine reg (a := a1) (σ := s1) rfl (fun i_ => List.getD [(Ty.pr (Ty.nat n)), (Ty.pr (Ty.bool (decide (((n : Nat) : Int) < (2 : Int)))))] i_ Pr.any) ok1 rfl ⟨?_, ?_, trivial⟩ ?_
 · intro ax tx hs okx sm
   exact run_plain rfl (y_move (kp (sm 0 rfl) hs q1))
 · intro ax tx hs okx sm d0
   have e0 : At (Ty.nat n) tx ax (.tmp 3) := d0 rfl
   exact run_plain rfl (y_lss e0 rfl)
 intro a2 s2 D2
 have ok2 := D2.ok
 have F2 := F1.step0 D2.stp
 have q2 : At (Ty.nat n) s2 a2 (.tmp 0) := D2.kt q1 rfl
 have q3 : At (Ty.bool (decide (((n : Nat) : Int) < (2 : Int)))) s2 a2 (.tmp 4) := D2.done 1
 clear D2
 refine tn ?_
 refine cond_p (p := (((n : Nat) : Int) < (2 : Int))) q3 (fun c1 => ?_) (fun c1 => ?_)
 ·
  refine wp_seq ?_
  refine reg (a := a2) (σ := s2) rfl (fun i_ => List.getD [(Ty.pr (Ty.int (1 : Int)))] i_ Pr.any) ok2 rfl ⟨?_, trivial⟩ ?_
  · intro ax tx hs okx sm
    exact run_plain rfl (y_assign rfl)
  intro a3 s3 D3
  have ok3 := D3.ok
  have F3 := F2.step0 D3.stp
  have q4 : At (Ty.int (1 : Int)) s3 a3 (.tmp 2) := D3.done 0
  clear D3
  refine tn ?_
  refine wp_ret ?_
  refine tr ?_
  exact retL1 rfl ok3 F3 (cvi (by (rw [fct_small (by omega)]; rfl)) q4)
 ·
  have hm2 : ((n : Nat) : Int) * ((fct (n - 1) : Nat) : Int) ≤ 479001600 ∧ 0 ≤ ((n : Nat) : Int) * ((fct (n - 1) : Nat) : Int) := (by have h1 := fct_le12 hn; have h2 := fct_rec (n := n) (by omega); rw [← Int.natCast_mul]; omega)
  refine wp_skip ?_
  refine tn ?_
  refine wp_seq ?_
  refine reg (a := a2) (σ := s2) rfl (fun i_ => List.getD [(Ty.pr (Ty.nat n)), (Ty.pr (Ty.nat n)), (Ty.pr (Ty.nat (n - 1))), (Ty.pr (Ty.nat (fct ((n - 1))))), (Ty.pr (Ty.nat (n * (fct ((n - 1)))))), (Ty.pr (Ty.nat (n * (fct ((n - 1))))))] i_ Pr.any) ok2 rfl ⟨?_, ?_, ?_, ?_, ?_, ?_, trivial⟩ ?_
  · intro ax tx hs okx sm
    exact run_plain rfl (y_move (kp (sm 0 rfl) hs q2))
  · intro ax tx hs okx sm
    exact run_plain rfl (y_move (kp (sm 0 rfl) hs q2))
  · intro ax tx hs okx sm d0
    have e1 : At (Ty.nat n) tx ax (.tmp 6) := d0 rfl
    exact run_plain rfl ((y_sub e1 rfl (w64 (by omega) (by omega))).mono (fun τ _ h => cvi (σ := τ) (by omega) h))
  · intro ax tx hs okx sm d0
    have e2 : At (Ty.nat (n - 1)) tx ax (.tmp 7) := d0 rfl
    exact run_plain rfl (y_call #[ax.eval (.tmp 7)] Try.func35 rfl rfl (by simp only [List.map_toArray, List.map_cons, List.map_nil]) (ih (((n - 1))) (by omega) ((n - 1)) _ _ (cvi (σ := tx) (by omega) e2) (by omega) (by omega)))
  · intro ax tx hs okx sm d0 d1
    have e0 : At (Ty.nat n) tx ax (.tmp 5) := d0 rfl
    have e3 : At (Ty.nat (fct ((n - 1)))) tx ax (.tmp 8) := d1 rfl
    exact run_plain rfl ((y_mul e0 e3 (w64 (by omega) (by omega))).mono (fun τ _ h => cvi (σ := τ) (by first | omega | exact (Int.natCast_mul _ _).symm) h))
  · intro ax tx hs okx sm d0 d1 d2 d3 d4 d5 d6
    have e4 : At (Ty.nat (n * (fct ((n - 1))))) tx ax (.tmp 9) := d0 rfl
    have e3 : At (Ty.nat (fct ((n - 1)))) tx ax (.tmp 8) := d1 rfl
    have e0 : At (Ty.nat n) tx ax (.tmp 5) := d2 rfl
    have e1 : At (Ty.nat n) tx ax (.tmp 6) := d3 rfl
    have e2 : At (Ty.nat (n - 1)) tx ax (.tmp 7) := d4 rfl
    exact run_plain rfl (y_assign e4)
  intro a4 s4 D4
  have ok4 := D4.ok
  have F4 := F2.step0 D4.stp
  have q5 : At (Ty.nat (n * (fct ((n - 1))))) s4 a4 (.tmp 2) := D4.done 5
  clear D4
  refine tn ?_
  refine wp_ret ?_
  exact retL1 rfl ok4 F4 (cvi (by (rw [fct_rec (by omega)])) q5)


set_option maxRecDepth 100000 in
theorem rRank_fn (r : List Int) (σ : GW)  (v0 : Value) (hv0 : Ty.has (Ty.lst Ty.int r) σ v0)  (hr : IsRow r) :
    FnC Try.prog 47 #[v0] σ (Ty.nat (rankL r)) := by
 have hln := hr.le
 refine fn_intro0 Try.func47 rfl Try.ntmps47 (Nat.le_of_ble_eq_true rfl) (fun s0 a0 hle F0 ok0 hargs => ?_)
 have p0 : At (Ty.lst Ty.int r) s0 a0 (.tmp 0) := by have e := hargs 0 _ rfl; show Ty.has _ _ _; rw [e]; exact Ty.up _ hle hv0
 have b1 := sl_le p0
 clear hargs
 refine wp_seq ?_
 refine reg (a := a0) (σ := s0) rfl (fun i_ => List.getD [(Ty.pr (Ty.int (0 : Int)))] i_ Pr.any) ok0 rfl ⟨?_, trivial⟩ ?_
 · intro ax tx hs okx sm
   exact run_plain rfl (y_assign rfl)
 intro a1 s1 D1
 have ok1 := D1.ok
 have F1 := F0.step0 D1.stp
 have q1 : At (Ty.lst Ty.int r) s1 a1 (.tmp 0) := D1.kt p0 rfl
 clear D1
 refine tn ?_
 refine wp_seq ?_
 refine reg (a := a1) (σ := s1) rfl (fun i_ => List.getD [(Ty.pr (Ty.int (0 : Int)))] i_ Pr.any) ok1 rfl ⟨?_, trivial⟩ ?_
 · intro ax tx hs okx sm
   exact run_plain rfl (y_assign rfl)
 intro a2 s2 D2
 have ok2 := D2.ok
 have F2 := F1.step0 D2.stp
 have q2 : At (Ty.lst Ty.int r) s2 a2 (.tmp 0) := D2.kt q1 rfl
 have q3 : At (Ty.int (0 : Int)) s2 a2 (.tmp 3) := D2.done 0
 clear D2
 refine tn ?_
 refine wp_seq ?_
 refine wp_seq ?_
 refine reg (a := a2) (σ := s2) rfl (fun i_ => List.getD [(Ty.pr (Ty.int (0 : Int)))] i_ Pr.any) ok2 rfl ⟨?_, trivial⟩ ?_
 · intro ax tx hs okx sm
   exact run_plain rfl (y_assign rfl)
 intro a3 s3 D3
 have ok3 := D3.ok
 have F3 := F2.step0 D3.stp
 have q4 : At (Ty.lst Ty.int r) s3 a3 (.tmp 0) := D3.kt q2 rfl
 have q5 : At (Ty.int (0 : Int)) s3 a3 (.tmp 3) := D3.kt q3 rfl
 have q6 : At (Ty.int (0 : Int)) s3 a3 (.tmp 4) := D3.done 0
 clear D3
 refine tn ?_
 refine wp_block ?_
 refine loop (fun n1 a4 w1 => ∃ (t1 : GW) (i : Nat) (q : Nat), t1.w = w1 ∧ FromL [] s0 t1 ∧ Ok 44 a4 ∧ At (Ty.nat i) t1 a4 (.tmp 4) ∧ At (Ty.nat q) t1 a4 (.tmp 3) ∧ At (Ty.lst Ty.int r) t1 a4 (.tmp 0) ∧ (i ≤ r.length) ∧ (q + rankL (r.drop i) = rankL r) ∧ n1 = r.length - i) (r.length - (0)) ?_ ?_
 ·
  exact ⟨s3, 0, 0, rfl, F3, ok3, (cvi (by (first | rfl | omega | (simp_all; done) | (simp_all; omega))) q6), (cvi (by (first | rfl | omega | (simp_all; done) | (simp_all; omega))) q5), q4, by omega, by simp, rfl⟩
 ·
  rintro n2 a5 w2 ⟨t2, i, q, rfl, F4, ok4, q7, q8, q9, hi, hq, rfl⟩
  have hrl := rank_le12 hln
  refine wp_seq ?_
  refine wp_seq ?_
  refine reg (a := a5) (σ := t2) rfl (fun i_ => List.getD [(Ty.pr (Ty.nat i)), (Ty.pr (Ty.lst Ty.int r)), (Ty.pr (Ty.nat (List.length r))), (Ty.pr (Ty.bool (decide (((i : Nat) : Int) < (((List.length r) : Nat) : Int)))))] i_ Pr.any) ok4 rfl ⟨?_, ?_, ?_, ?_, trivial⟩ ?_
  · intro ax tx hs okx sm
    exact run_plain rfl (y_move (kp (sm 4 rfl) hs q7))
  · intro ax tx hs okx sm
    exact run_plain rfl (y_move (kp (sm 0 rfl) hs q9))
  · intro ax tx hs okx sm d0
    have e1 : At (Ty.lst Ty.int r) tx ax (.tmp 8) := d0 rfl
    exact run_plain rfl (y_len Try.underlying34 e1)
  · intro ax tx hs okx sm d0 d1
    have e0 : At (Ty.nat i) tx ax (.tmp 7) := d0 rfl
    have e2 : At (Ty.nat (List.length r)) tx ax (.tmp 9) := d1 rfl
    exact run_plain rfl (y_lss e0 e2)
  intro a6 s4 D4
  have ok5 := D4.ok
  have F5 := F4.step0 D4.stp
  have q10 : At (Ty.nat i) s4 a6 (.tmp 4) := D4.kt q7 rfl
  have q11 : At (Ty.nat q) s4 a6 (.tmp 3) := D4.kt q8 rfl
  have q12 : At (Ty.lst Ty.int r) s4 a6 (.tmp 0) := D4.kt q9 rfl
  have q13 : At (Ty.bool (decide (((i : Nat) : Int) < (((List.length r) : Nat) : Int)))) s4 a6 (.tmp 10) := D4.done 3
  clear D4
  refine tn ?_
  refine cond_p (p := (((i : Nat) : Int) < (((List.length r) : Nat) : Int))) q13 (fun c1 => ?_) (fun c1 => ?_)
  ·
   have hmb := rank_mul hln (by omega) hq; have hbd := hr.at (i := i) (by omega)
   refine wp_skip ?_
   refine tn ?_
   refine wp_seq ?_
   refine wp_block ?_
   refine wp_seq ?_
   refine reg (a := a6) (σ := s4) rfl (fun i_ => List.getD [(Ty.pr (Ty.lst Ty.int r)), (Ty.pr (Ty.nat i)), (Ty.pr (Ty.ref [(Ty.int (r.getD i 0))])), (Ty.pr (Ty.int (r.getD i 0))), (Ty.pr (Ty.int (r.getD i 0)))] i_ Pr.any) ok5 rfl ⟨?_, ?_, ?_, ?_, ?_, trivial⟩ ?_
   · intro ax tx hs okx sm
     exact run_plain rfl (y_move (kp (sm 0 rfl) hs q12))
   · intro ax tx hs okx sm
     exact run_plain rfl (y_move (kp (sm 4 rfl) hs q10))
   · intro ax tx hs okx sm d0 d1
     have e0 : At (Ty.lst Ty.int r) tx ax (.tmp 13) := d0 rfl
     have e1 : At (Ty.nat i) tx ax (.tmp 14) := d1 rfl
     exact run_plain rfl (y_index1 Try.underlying34 Try.inf3 e0 e1 (by omega) (lst_get Ty.int r 0 i (by omega)))
   · intro ax tx hs okx sm d0
     have e2 : At (Ty.ref [(Ty.int (r.getD i 0))]) tx ax (.tmp 15) := d0 rfl
     exact run_plain rfl (y_load Try.underlying3 rfl e2 rfl)
   · intro ax tx hs okx sm d0 d1 d2 d3 d4
     have e3 : At (Ty.int (r.getD i 0)) tx ax (.tmp 16) := d0 rfl
     have e0 : At (Ty.lst Ty.int r) tx ax (.tmp 13) := d1 rfl
     have e1 : At (Ty.nat i) tx ax (.tmp 14) := d2 rfl
     have e2 : At (Ty.ref [(Ty.int (r.getD i 0))]) tx ax (.tmp 15) := d3 rfl
     exact run_plain rfl (y_assign e3)
   intro a7 s5 D5
   have ok6 := D5.ok
   have F6 := F5.step0 D5.stp
   have q14 : At (Ty.nat i) s5 a7 (.tmp 4) := D5.kt q10 rfl
   have q15 : At (Ty.nat q) s5 a7 (.tmp 3) := D5.kt q11 rfl
   have q16 : At (Ty.lst Ty.int r) s5 a7 (.tmp 0) := D5.kt q12 rfl
   have q17 : At (Ty.int (r.getD i 0)) s5 a7 (.tmp 5) := D5.done 4
   clear D5
   refine tn ?_
   refine wp_seq ?_
   refine wp_seq ?_
   refine reg (a := a7) (σ := s5) rfl (fun i_ => List.getD [(Ty.pr (Ty.int (0 : Int)))] i_ Pr.any) ok6 rfl ⟨?_, trivial⟩ ?_
   · intro ax tx hs okx sm
     exact run_plain rfl (y_assign rfl)
   intro a8 s6 D6
   have ok7 := D6.ok
   have F7 := F6.step0 D6.stp
   have q18 : At (Ty.nat i) s6 a8 (.tmp 4) := D6.kt q14 rfl
   have q19 : At (Ty.nat q) s6 a8 (.tmp 3) := D6.kt q15 rfl
   have q20 : At (Ty.lst Ty.int r) s6 a8 (.tmp 0) := D6.kt q16 rfl
   have q21 : At (Ty.int (r.getD i 0)) s6 a8 (.tmp 5) := D6.kt q17 rfl
   have q22 : At (Ty.int (0 : Int)) s6 a8 (.tmp 6) := D6.done 0
   clear D6
   refine tn ?_
   refine wp_block ?_
   refine loop (fun n3 a9 w3 => ∃ (t3 : GW) (j : Nat), t3.w = w3 ∧ FromL [] s0 t3 ∧ Ok 44 a9 ∧ At (Ty.nat j) t3 a9 (.tmp 6) ∧ At (Ty.int (r.getD i 0 - ((lessN (r.getD i 0) (r.take j) : Nat) : Int))) t3 a9 (.tmp 5) ∧ At (Ty.nat i) t3 a9 (.tmp 4) ∧ At (Ty.nat q) t3 a9 (.tmp 3) ∧ At (Ty.lst Ty.int r) t3 a9 (.tmp 0) ∧ (j ≤ i) ∧ n3 = i - j) (i - (0)) ?_ ?_
   ·
    exact ⟨s6, 0, rfl, F7, ok7, (cvi (by (first | rfl | omega | (simp_all; done) | (simp_all; omega))) q22), (cvi (by (simp [lessN])) q21), q18, q19, q20, by omega, rfl⟩
   ·
    rintro n4 a10 w4 ⟨t4, j, rfl, F8, ok8, q23, q24, q25, q26, q27, hj, rfl⟩
    have hll := lessN_le (r.getD i 0) (r.take j)
    have htl := List.length_take_le j r
    refine wp_seq ?_
    refine wp_seq ?_
    refine reg (a := a10) (σ := t4) rfl (fun i_ => List.getD [(Ty.pr (Ty.nat j)), (Ty.pr (Ty.nat i)), (Ty.pr (Ty.bool (decide (((j : Nat) : Int) < ((i : Nat) : Int)))))] i_ Pr.any) ok8 rfl ⟨?_, ?_, ?_, trivial⟩ ?_
    · intro ax tx hs okx sm
      exact run_plain rfl (y_move (kp (sm 6 rfl) hs q23))
    · intro ax tx hs okx sm
      exact run_plain rfl (y_move (kp (sm 4 rfl) hs q25))
    · intro ax tx hs okx sm d0 d1
      have e0 : At (Ty.nat j) tx ax (.tmp 17) := d0 rfl
      have e1 : At (Ty.nat i) tx ax (.tmp 18) := d1 rfl
      exact run_plain rfl (y_lss e0 e1)
    intro a11 s7 D7
    have ok9 := D7.ok
    have F9 := F8.step0 D7.stp
    have q28 : At (Ty.nat j) s7 a11 (.tmp 6) := D7.kt q23 rfl
    have q29 : At (Ty.int (r.getD i 0 - ((lessN (r.getD i 0) (r.take j) : Nat) : Int))) s7 a11 (.tmp 5) := D7.kt q24 rfl
    have q30 : At (Ty.nat i) s7 a11 (.tmp 4) := D7.kt q25 rfl
    have q31 : At (Ty.nat q) s7 a11 (.tmp 3) := D7.kt q26 rfl
    have q32 : At (Ty.lst Ty.int r) s7 a11 (.tmp 0) := D7.kt q27 rfl
    have q33 : At (Ty.bool (decide (((j : Nat) : Int) < ((i : Nat) : Int)))) s7 a11 (.tmp 19) := D7.done 2
    clear D7
    refine tn ?_
    refine cond_p (p := (((j : Nat) : Int) < ((i : Nat) : Int))) q33 (fun c2 => ?_) (fun c2 => ?_)
    ·
     refine wp_skip ?_
     refine tn ?_
     refine wp_seq ?_
     refine wp_block ?_
     refine wp_seq ?_
     refine reg (a := a11) (σ := s7) rfl (fun i_ => List.getD [(Ty.pr (Ty.lst Ty.int r)), (Ty.pr (Ty.nat j)), (Ty.pr (Ty.ref [(Ty.int (r.getD j 0))])), (Ty.pr (Ty.int (r.getD j 0))), (Ty.pr (Ty.lst Ty.int r)), (Ty.pr (Ty.nat i)), (Ty.pr (Ty.ref [(Ty.int (r.getD i 0))])), (Ty.pr (Ty.int (r.getD i 0))), (Ty.pr (Ty.bool (decide ((r.getD j 0) < (r.getD i 0)))))] i_ Pr.any) ok9 rfl ⟨?_, ?_, ?_, ?_, ?_, ?_, ?_, ?_, ?_, trivial⟩ ?_
     · intro ax tx hs okx sm
       exact run_plain rfl (y_move (kp (sm 0 rfl) hs q32))
     · intro ax tx hs okx sm
       exact run_plain rfl (y_move (kp (sm 6 rfl) hs q28))
     · intro ax tx hs okx sm d0 d1
       have e0 : At (Ty.lst Ty.int r) tx ax (.tmp 22) := d0 rfl
       have e1 : At (Ty.nat j) tx ax (.tmp 23) := d1 rfl
       exact run_plain rfl (y_index1 Try.underlying34 Try.inf3 e0 e1 (by omega) (lst_get Ty.int r 0 j (by omega)))
     · intro ax tx hs okx sm d0
       have e2 : At (Ty.ref [(Ty.int (r.getD j 0))]) tx ax (.tmp 24) := d0 rfl
       exact run_plain rfl (y_load Try.underlying3 rfl e2 rfl)
     · intro ax tx hs okx sm
       exact run_plain rfl (y_move (kp (sm 0 rfl) hs q32))
     · intro ax tx hs okx sm
       exact run_plain rfl (y_move (kp (sm 4 rfl) hs q30))
     · intro ax tx hs okx sm d0 d1
       have e4 : At (Ty.lst Ty.int r) tx ax (.tmp 26) := d0 rfl
       have e5 : At (Ty.nat i) tx ax (.tmp 27) := d1 rfl
       exact run_plain rfl (y_index1 Try.underlying34 Try.inf3 e4 e5 (by omega) (lst_get Ty.int r 0 i (by omega)))
     · intro ax tx hs okx sm d0
       have e6 : At (Ty.ref [(Ty.int (r.getD i 0))]) tx ax (.tmp 28) := d0 rfl
       exact run_plain rfl (y_load Try.underlying3 rfl e6 rfl)
     · intro ax tx hs okx sm d0 d1
       have e3 : At (Ty.int (r.getD j 0)) tx ax (.tmp 25) := d0 rfl
       have e7 : At (Ty.int (r.getD i 0)) tx ax (.tmp 29) := d1 rfl
       exact run_plain rfl (y_lss e3 e7)
     intro a12 s8 D8
     have ok10 := D8.ok
     have F10 := F9.step0 D8.stp
     have q34 : At (Ty.nat j) s8 a12 (.tmp 6) := D8.kt q28 rfl
     have q35 : At (Ty.int (r.getD i 0 - ((lessN (r.getD i 0) (r.take j) : Nat) : Int))) s8 a12 (.tmp 5) := D8.kt q29 rfl
     have q36 : At (Ty.nat i) s8 a12 (.tmp 4) := D8.kt q30 rfl
     have q37 : At (Ty.nat q) s8 a12 (.tmp 3) := D8.kt q31 rfl
     have q38 : At (Ty.lst Ty.int r) s8 a12 (.tmp 0) := D8.kt q32 rfl
     have q39 : At (Ty.bool (decide ((r.getD j 0) < (r.getD i 0)))) s8 a12 (.tmp 30) := D8.done 8
     clear D8
     refine tn ?_
     refine cond_p (p := ((r.getD j 0) < (r.getD i 0))) q39 (fun c3 => ?_) (fun c3 => ?_)
     ·
      refine reg (a := a12) (σ := s8) rfl (fun i_ => List.getD [(Ty.pr (Ty.int (r.getD i 0 - ((lessN (r.getD i 0) (r.take j) : Nat) : Int)))), (Ty.pr (Ty.int ((r.getD i 0 - ((lessN (r.getD i 0) (r.take j) : Nat) : Int)) - (1 : Int)))), (Ty.pr (Ty.int ((r.getD i 0 - ((lessN (r.getD i 0) (r.take j) : Nat) : Int)) - (1 : Int))))] i_ Pr.any) ok10 rfl ⟨?_, ?_, ?_, trivial⟩ ?_
      · intro ax tx hs okx sm
        exact run_plain rfl (y_move (kp (sm 5 rfl) hs q35))
      · intro ax tx hs okx sm d0
        have e0 : At (Ty.int (r.getD i 0 - ((lessN (r.getD i 0) (r.take j) : Nat) : Int))) tx ax (.tmp 31) := d0 rfl
        exact run_plain rfl (y_sub e0 rfl (w64 (by omega) (by omega)))
      · intro ax tx hs okx sm d0 d1 d2
        have e1 : At (Ty.int ((r.getD i 0 - ((lessN (r.getD i 0) (r.take j) : Nat) : Int)) - (1 : Int))) tx ax (.tmp 32) := d0 rfl
        have e0 : At (Ty.int (r.getD i 0 - ((lessN (r.getD i 0) (r.take j) : Nat) : Int))) tx ax (.tmp 31) := d1 rfl
        exact run_plain rfl (y_assign e1)
      intro a13 s9 D9
      have ok11 := D9.ok
      have F11 := F10.step0 D9.stp
      have q40 : At (Ty.nat j) s9 a13 (.tmp 6) := D9.kt q34 rfl
      have q41 : At (Ty.nat i) s9 a13 (.tmp 4) := D9.kt q36 rfl
      have q42 : At (Ty.nat q) s9 a13 (.tmp 3) := D9.kt q37 rfl
      have q43 : At (Ty.lst Ty.int r) s9 a13 (.tmp 0) := D9.kt q38 rfl
      have q44 : At (Ty.int ((r.getD i 0 - ((lessN (r.getD i 0) (r.take j) : Nat) : Int)) - (1 : Int))) s9 a13 (.tmp 5) := D9.done 2
      clear D9
      refine bn ?_
      refine tn ?_
      refine reg (a := a13) (σ := s9) rfl (fun i_ => List.getD [(Ty.pr (Ty.nat j)), (Ty.pr (Ty.nat (j + 1))), (Ty.pr (Ty.nat (j + 1)))] i_ Pr.any) ok11 rfl ⟨?_, ?_, ?_, trivial⟩ ?_
      · intro ax tx hs okx sm
        exact run_plain rfl (y_move (kp (sm 6 rfl) hs q40))
      · intro ax tx hs okx sm d0
        have e0 : At (Ty.nat j) tx ax (.tmp 20) := d0 rfl
        exact run_plain rfl ((y_add e0 rfl (w64 (by omega) (by omega))).mono (fun τ _ h => cvi (σ := τ) (by first | omega | exact (Int.natCast_mul _ _).symm) h))
      · intro ax tx hs okx sm d0 d1 d2
        have e1 : At (Ty.nat (j + 1)) tx ax (.tmp 21) := d0 rfl
        have e0 : At (Ty.nat j) tx ax (.tmp 20) := d1 rfl
        exact run_plain rfl (y_assign e1)
      intro a14 s10 D10
      have ok12 := D10.ok
      have F12 := F11.step0 D10.stp
      have q45 : At (Ty.nat i) s10 a14 (.tmp 4) := D10.kt q41 rfl
      have q46 : At (Ty.nat q) s10 a14 (.tmp 3) := D10.kt q42 rfl
      have q47 : At (Ty.lst Ty.int r) s10 a14 (.tmp 0) := D10.kt q43 rfl
      have q48 : At (Ty.int ((r.getD i 0 - ((lessN (r.getD i 0) (r.take j) : Nat) : Int)) - (1 : Int))) s10 a14 (.tmp 5) := D10.kt q44 rfl
      have q49 : At (Ty.nat (j + 1)) s10 a14 (.tmp 6) := D10.done 2
      clear D10
      exact tn ⟨i - ((j+1)), by omega, s10, (j+1), rfl, F12, ok12, (cvi (by (first | rfl | omega | (simp_all; done) | (simp_all; omega))) q49), (cvi (by (rw [lessN_snoc _ _ _ (by omega), if_pos (by assumption)]; omega)) q48), q45, q46, q47, by omega, rfl⟩
     ·
      refine wp_skip ?_
      refine bn ?_
      refine tn ?_
      refine reg (a := a12) (σ := s8) rfl (fun i_ => List.getD [(Ty.pr (Ty.nat j)), (Ty.pr (Ty.nat (j + 1))), (Ty.pr (Ty.nat (j + 1)))] i_ Pr.any) ok10 rfl ⟨?_, ?_, ?_, trivial⟩ ?_
      · intro ax tx hs okx sm
        exact run_plain rfl (y_move (kp (sm 6 rfl) hs q34))
      · intro ax tx hs okx sm d0
        have e0 : At (Ty.nat j) tx ax (.tmp 20) := d0 rfl
        exact run_plain rfl ((y_add e0 rfl (w64 (by omega) (by omega))).mono (fun τ _ h => cvi (σ := τ) (by first | omega | exact (Int.natCast_mul _ _).symm) h))
      · intro ax tx hs okx sm d0 d1 d2
        have e1 : At (Ty.nat (j + 1)) tx ax (.tmp 21) := d0 rfl
        have e0 : At (Ty.nat j) tx ax (.tmp 20) := d1 rfl
        exact run_plain rfl (y_assign e1)
      intro a15 s11 D11
      have ok13 := D11.ok
      have F13 := F10.step0 D11.stp
      have q50 : At (Ty.int (r.getD i 0 - ((lessN (r.getD i 0) (r.take j) : Nat) : Int))) s11 a15 (.tmp 5) := D11.kt q35 rfl
      have q51 : At (Ty.nat i) s11 a15 (.tmp 4) := D11.kt q36 rfl
      have q52 : At (Ty.nat q) s11 a15 (.tmp 3) := D11.kt q37 rfl
      have q53 : At (Ty.lst Ty.int r) s11 a15 (.tmp 0) := D11.kt q38 rfl
      have q54 : At (Ty.nat (j + 1)) s11 a15 (.tmp 6) := D11.done 2
      clear D11
      exact tn ⟨i - ((j+1)), by omega, s11, (j+1), rfl, F13, ok13, (cvi (by (first | rfl | omega | (simp_all; done) | (simp_all; omega))) q54), (cvi (by (rw [lessN_snoc _ _ _ (by omega), if_neg (by assumption)]; rfl)) q50), q51, q52, q53, by omega, rfl⟩
    ·
     have q55 : At (Ty.nat (lessN (r.getD i 0) (r.drop (i + 1)))) s7 a11 (.tmp 5) := cvt (T := (Ty.int (r.getD i 0 - ((lessN (r.getD i 0) (r.take j) : Nat) : Int)))) (U := (Ty.nat (lessN (r.getD i 0) (r.drop (i + 1))))) (by have e : j = i := (by omega); rw [e]; exact congrArg Ty.int (less_after hr (by omega))) q29
     refine wp_exit ?_
     refine tx ?_
     refine tx ?_
     refine bx ?_
     refine tn ?_
     refine reg (a := a11) (σ := s7) rfl (fun i_ => List.getD [(Ty.pr (Ty.nat q)), (Ty.pr (Ty.nat (lessN (r.getD i 0) (r.drop (i + 1))))), (Ty.pr (Ty.lst Ty.int r)), (Ty.pr (Ty.nat (List.length r))), (Ty.pr (Ty.nat ((List.length r) - 1))), (Ty.pr (Ty.nat i)), (Ty.pr (Ty.nat (((List.length r) - 1) - i))), (Ty.pr (Ty.nat (fct ((((List.length r) - 1) - i))))), (Ty.pr (Ty.nat ((lessN (r.getD i 0) (r.drop (i + 1))) * (fct ((((List.length r) - 1) - i)))))), (Ty.pr (Ty.nat (q + ((lessN (r.getD i 0) (r.drop (i + 1))) * (fct ((((List.length r) - 1) - i))))))), (Ty.pr (Ty.nat (q + ((lessN (r.getD i 0) (r.drop (i + 1))) * (fct ((((List.length r) - 1) - i)))))))] i_ Pr.any) ok9 rfl ⟨?_, ?_, ?_, ?_, ?_, ?_, ?_, ?_, ?_, ?_, ?_, trivial⟩ ?_
     · intro ax tx hs okx sm
       exact run_plain rfl (y_move (kp (sm 3 rfl) hs q31))
     · intro ax tx hs okx sm
       exact run_plain rfl (y_move (kp (sm 5 rfl) hs q55))
     · intro ax tx hs okx sm
       exact run_plain rfl (y_move (kp (sm 0 rfl) hs q32))
     · intro ax tx hs okx sm d0
       have e2 : At (Ty.lst Ty.int r) tx ax (.tmp 35) := d0 rfl
       exact run_plain rfl (y_len Try.underlying34 e2)
     · intro ax tx hs okx sm d0
       have e3 : At (Ty.nat (List.length r)) tx ax (.tmp 36) := d0 rfl
       exact run_plain rfl ((y_sub e3 rfl (w64 (by omega) (by omega))).mono (fun τ _ h => cvi (σ := τ) (by omega) h))
     · intro ax tx hs okx sm
       exact run_plain rfl (y_move (kp (sm 4 rfl) hs q30))
     · intro ax tx hs okx sm d0 d1
       have e4 : At (Ty.nat ((List.length r) - 1)) tx ax (.tmp 37) := d0 rfl
       have e5 : At (Ty.nat i) tx ax (.tmp 38) := d1 rfl
       exact run_plain rfl ((y_sub e4 e5 (w64 (by omega) (by omega))).mono (fun τ _ h => cvi (σ := τ) (by omega) h))
     · intro ax tx hs okx sm d0
       have e6 : At (Ty.nat (((List.length r) - 1) - i)) tx ax (.tmp 39) := d0 rfl
       exact run_plain rfl (y_call #[ax.eval (.tmp 39)] Try.func35 rfl rfl (by simp only [List.map_toArray, List.map_cons, List.map_nil]) (rFact_fn (((((List.length r) - 1) - i))) ((((List.length r) - 1) - i)) _ _ (cvi (σ := tx) (by omega) e6) (by omega) (by omega)))
     · intro ax tx hs okx sm d0 d1
       have e1 : At (Ty.nat (lessN (r.getD i 0) (r.drop (i + 1)))) tx ax (.tmp 34) := d0 rfl
       have e7 : At (Ty.nat (fct ((((List.length r) - 1) - i)))) tx ax (.tmp 40) := d1 rfl
       exact run_plain rfl ((y_mul e1 e7 (w64 (by omega) (by omega))).mono (fun τ _ h => cvi (σ := τ) (by first | omega | exact (Int.natCast_mul _ _).symm) h))
     · intro ax tx hs okx sm d0 d1
       have e0 : At (Ty.nat q) tx ax (.tmp 33) := d0 rfl
       have e8 : At (Ty.nat ((lessN (r.getD i 0) (r.drop (i + 1))) * (fct ((((List.length r) - 1) - i))))) tx ax (.tmp 41) := d1 rfl
       exact run_plain rfl ((y_add e0 e8 (w64 (by omega) (by omega))).mono (fun τ _ h => cvi (σ := τ) (by first | omega | exact (Int.natCast_mul _ _).symm) h))
     · intro ax tx hs okx sm d0 d1 d2 d3 d4 d5 d6 d7 d8 d9 d10 d11
       have e9 : At (Ty.nat (q + ((lessN (r.getD i 0) (r.drop (i + 1))) * (fct ((((List.length r) - 1) - i)))))) tx ax (.tmp 42) := d0 rfl
       have e7 : At (Ty.nat (fct ((((List.length r) - 1) - i)))) tx ax (.tmp 40) := d1 rfl
       have e0 : At (Ty.nat q) tx ax (.tmp 33) := d2 rfl
       have e1 : At (Ty.nat (lessN (r.getD i 0) (r.drop (i + 1)))) tx ax (.tmp 34) := d3 rfl
       have e2 : At (Ty.lst Ty.int r) tx ax (.tmp 35) := d4 rfl
       have e3 : At (Ty.nat (List.length r)) tx ax (.tmp 36) := d5 rfl
       have e4 : At (Ty.nat ((List.length r) - 1)) tx ax (.tmp 37) := d6 rfl
       have e5 : At (Ty.nat i) tx ax (.tmp 38) := d7 rfl
       have e6 : At (Ty.nat (((List.length r) - 1) - i)) tx ax (.tmp 39) := d8 rfl
       have e8 : At (Ty.nat ((lessN (r.getD i 0) (r.drop (i + 1))) * (fct ((((List.length r) - 1) - i))))) tx ax (.tmp 41) := d10 rfl
       exact run_plain rfl (y_assign e9)
     intro a16 s12 D12
     have ok14 := D12.ok
     have F14 := F9.step0 D12.stp
     have q56 : At (Ty.nat i) s12 a16 (.tmp 4) := D12.kt q30 rfl
     have q57 : At (Ty.lst Ty.int r) s12 a16 (.tmp 0) := D12.kt q32 rfl
     have q58 : At (Ty.nat (q + ((lessN (r.getD i 0) (r.drop (i + 1))) * (fct ((((List.length r) - 1) - i)))))) s12 a16 (.tmp 3) := D12.done 10
     clear D12
     refine bn ?_
     refine tn ?_
     refine reg (a := a16) (σ := s12) rfl (fun i_ => List.getD [(Ty.pr (Ty.nat i)), (Ty.pr (Ty.nat (i + 1))), (Ty.pr (Ty.nat (i + 1)))] i_ Pr.any) ok14 rfl ⟨?_, ?_, ?_, trivial⟩ ?_
     · intro ax tx hs okx sm
       exact run_plain rfl (y_move (kp (sm 4 rfl) hs q56))
     · intro ax tx hs okx sm d0
       have e0 : At (Ty.nat i) tx ax (.tmp 11) := d0 rfl
       exact run_plain rfl ((y_add e0 rfl (w64 (by omega) (by omega))).mono (fun τ _ h => cvi (σ := τ) (by first | omega | exact (Int.natCast_mul _ _).symm) h))
     · intro ax tx hs okx sm d0 d1 d2
       have e1 : At (Ty.nat (i + 1)) tx ax (.tmp 12) := d0 rfl
       have e0 : At (Ty.nat i) tx ax (.tmp 11) := d1 rfl
       exact run_plain rfl (y_assign e1)
     intro a17 s13 D13
     have ok15 := D13.ok
     have F15 := F14.step0 D13.stp
     have q59 : At (Ty.lst Ty.int r) s13 a17 (.tmp 0) := D13.kt q57 rfl
     have q60 : At (Ty.nat (q + ((lessN (r.getD i 0) (r.drop (i + 1))) * (fct ((((List.length r) - 1) - i)))))) s13 a17 (.tmp 3) := D13.kt q58 rfl
     have q61 : At (Ty.nat (i + 1)) s13 a17 (.tmp 4) := D13.done 2
     clear D13
     exact tn ⟨r.length - ((i+1)), by omega, s13, (i+1), (q + lessN (r.getD i 0) (r.drop (i + 1)) * fct (r.length - 1 - i)), rfl, F15, ok15, (cvi (by (first | rfl | omega | (simp_all; done) | (simp_all; omega))) q61), (cvi (by (first | rfl | omega | (simp_all; done) | (simp_all; omega))) q60), q59, by omega, rank_step' (by omega) hq, rfl⟩
  ·
   refine wp_exit ?_
   refine tx ?_
   refine tx ?_
   refine bx ?_
   refine tn ?_
   refine wp_seq ?_
   refine reg (a := a6) (σ := s4) rfl (fun i_ => List.getD [(Ty.pr (Ty.nat q)), (Ty.pr (Ty.nat q))] i_ Pr.any) ok5 rfl ⟨?_, ?_, trivial⟩ ?_
   · intro ax tx hs okx sm
     exact run_plain rfl (y_move (kp (sm 3 rfl) hs q11))
   · intro ax tx hs okx sm d0 d1
     have e0 : At (Ty.nat q) tx ax (.tmp 43) := d0 rfl
     exact run_plain rfl (y_assign e0)
   intro a18 s14 D14
   have ok16 := D14.ok
   have F16 := F5.step0 D14.stp
   have q62 : At (Ty.nat q) s14 a18 (.tmp 2) := D14.done 1
   clear D14
   refine tn ?_
   refine wp_ret ?_
   exact retL1 rfl ok16 F16 (cvi (by (obtain rfl : i = r.length := (by omega); exact congrArg _ (by rw [List.drop_length] at hq; exact hq))) q62)


set_option maxRecDepth 100000 in
theorem rBy_fn (a : List Int) (b : List Int) (σ : GW) (v0 v1 : Value) (hv0 : Ty.has (Ty.lst Ty.int a) σ v0) (hv1 : Ty.has (Ty.lst Ty.int b) σ v1) (hbd : ∀ i, i < b.length → 0 ≤ b.getD i 0 ∧ b.getD i 0 < a.length) (hs : b.length ≤ 1000000) :
    FnC Try.prog 51 #[v0, v1] σ (Ty.lst Ty.int (byL a b)) := by
 refine fn_intro Try.func51 rfl Try.ntmps51 (Nat.le_of_ble_eq_true rfl) (fun s0 a0 hle F0 ok0 hargs => ?_)
 have p0 : At (Ty.lst Ty.int a) s0 a0 (.tmp 0) := by have e := hargs 0 _ rfl; show Ty.has _ _ _; rw [e]; exact Ty.up _ hle hv0
 have b1 := sl_le p0
 have p1 : At (Ty.lst Ty.int b) s0 a0 (.tmp 1) := by have e := hargs 1 _ rfl; show Ty.has _ _ _; rw [e]; exact Ty.up _ hle hv1
 have b2 := sl_le p1
 clear hargs
 refine wp_seq ?_
 refine reg (a := a0) (σ := s0) rfl (fun i_ => List.getD [(Ty.pr (Ty.val (Value.slice none 0 0)))] i_ Pr.any) ok0 rfl ⟨?_, trivial⟩ ?_
 · intro ax tx hs okx sm
   exact run_plain rfl (y_assign rfl)
 intro a1 s1 D1
 have ok1 := D1.ok
 have F1 := F0.step0 D1.stp
 have q1 : At (Ty.lst Ty.int a) s1 a1 (.tmp 0) := D1.kt p0 rfl
 have q2 : At (Ty.lst Ty.int b) s1 a1 (.tmp 1) := D1.kt p1 rfl
 clear D1
 refine tn ?_
 refine wp_seq ?_
 refine reg (a := a1) (σ := s1) rfl (fun i_ => List.getD [(Ty.pr (Ty.val (Value.slice none 0 0)))] i_ Pr.any) ok1 rfl ⟨?_, trivial⟩ ?_
 · intro ax tx hs okx sm
   exact run_plain rfl (y_assign rfl)
 intro a2 s2 D2
 have ok2 := D2.ok
 have F2 := F1.step0 D2.stp
 have q3 : At (Ty.lst Ty.int a) s2 a2 (.tmp 0) := D2.kt q1 rfl
 have q4 : At (Ty.lst Ty.int b) s2 a2 (.tmp 1) := D2.kt q2 rfl
 have q5 : At (Ty.val (Value.slice none 0 0)) s2 a2 (.tmp 5) := D2.done 0
 clear D2
 refine tn ?_
 refine wp_seq ?_
 refine wp_seq ?_
 refine reg (a := a2) (σ := s2) rfl (fun i_ => List.getD [(Ty.pr (Ty.int (0 : Int)))] i_ Pr.any) ok2 rfl ⟨?_, trivial⟩ ?_
 · intro ax tx hs okx sm
   exact run_plain rfl (y_assign rfl)
 intro a3 s3 D3
 have ok3 := D3.ok
 have F3 := F2.step0 D3.stp
 have q6 : At (Ty.lst Ty.int a) s3 a3 (.tmp 0) := D3.kt q3 rfl
 have q7 : At (Ty.lst Ty.int b) s3 a3 (.tmp 1) := D3.kt q4 rfl
 have q8 : At (Ty.val (Value.slice none 0 0)) s3 a3 (.tmp 5) := D3.kt q5 rfl
 have q9 : At (Ty.int (0 : Int)) s3 a3 (.tmp 6) := D3.done 0
 clear D3
 refine tn ?_
 refine wp_block ?_
 refine loop (fun n1 a4 w1 => ∃ (t1 : GW) (k : Nat), t1.w = w1 ∧ From s0 t1 ∧ Ok 24 a4 ∧ (Pr.own 2 3 1 (List.length (byL a (b.take k))) (List.map Ty.int (byL a (b.take k)))).has t1 (a4.eval (.tmp 5)) ∧ At (Ty.nat k) t1 a4 (.tmp 6) ∧ At (Ty.lst Ty.int a) t1 a4 (.tmp 0) ∧ At (Ty.lst Ty.int b) t1 a4 (.tmp 1) ∧ (k ≤ b.length) ∧ n1 = b.length - k) (b.length - (0)) ?_ ?_
 ·
  exact ⟨s3, 0, rfl, F3, ok3, (by have e : a3.eval (.tmp 5) = _ := q8; rw [e]; exact Own.nil _ _ _ _), (cvi (by (first | rfl | omega | (simp_all; done) | (simp_all; omega))) q9), q6, q7, by omega, rfl⟩
 ·
  rintro n2 a5 w2 ⟨t2, k, rfl, F4, ok4, q10, q11, q12, q13, hk, rfl⟩
  have hp := byL_take_len a b k
  refine wp_seq ?_
  refine wp_seq ?_
  refine reg (a := a5) (σ := t2) rfl (fun i_ => List.getD [(Ty.pr (Ty.nat k)), (Ty.pr (Ty.lst Ty.int b)), (Ty.pr (Ty.nat (List.length b))), (Ty.pr (Ty.bool (decide (((k : Nat) : Int) < (((List.length b) : Nat) : Int)))))] i_ Pr.any) ok4 rfl ⟨?_, ?_, ?_, ?_, trivial⟩ ?_
  · intro ax tx hs okx sm
    exact run_plain rfl (y_move (kp (sm 6 rfl) hs q11))
  · intro ax tx hs okx sm
    exact run_plain rfl (y_move (kp (sm 1 rfl) hs q13))
  · intro ax tx hs okx sm d0
    have e1 : At (Ty.lst Ty.int b) tx ax (.tmp 8) := d0 rfl
    exact run_plain rfl (y_len Try.underlying34 e1)
  · intro ax tx hs okx sm d0 d1
    have e0 : At (Ty.nat k) tx ax (.tmp 7) := d0 rfl
    have e2 : At (Ty.nat (List.length b)) tx ax (.tmp 9) := d1 rfl
    exact run_plain rfl (y_lss e0 e2)
  intro a6 s4 D4
  have ok5 := D4.ok
  have F5 := F4.step0 D4.stp
  have q14 : (Pr.own 2 3 1 (List.length (byL a (b.take k))) (List.map Ty.int (byL a (b.take k)))).has s4 (a6.eval (.tmp 5)) := D4.ko q10 rfl
  have q15 : At (Ty.nat k) s4 a6 (.tmp 6) := D4.kt q11 rfl
  have q16 : At (Ty.lst Ty.int a) s4 a6 (.tmp 0) := D4.kt q12 rfl
  have q17 : At (Ty.lst Ty.int b) s4 a6 (.tmp 1) := D4.kt q13 rfl
  have q18 : At (Ty.bool (decide (((k : Nat) : Int) < (((List.length b) : Nat) : Int)))) s4 a6 (.tmp 10) := D4.done 3
  clear D4
  refine tn ?_
  refine cond_p (p := (((k : Nat) : Int) < (((List.length b) : Nat) : Int))) q18 (fun c1 => ?_) (fun c1 => ?_)
  ·
   have hq := hbd k (by omega)
   refine wp_skip ?_
   refine tn ?_
   refine wp_seq ?_
   refine wp_block ?_
   refine reg2 (a := a6) (σ := s4) rfl 9 (fun i_ => List.getD [(Ty.pr (Ty.val (a6.eval (.tmp 5)))), (Ty.pr (Ty.lst Ty.int a)), (Ty.pr (Ty.lst Ty.int b)), (Ty.pr (Ty.nat k)), (Ty.pr (Ty.ref [(Ty.int (b.getD k 0))])), (Ty.pr (Ty.int (b.getD k 0))), (Ty.pr (Ty.ref [(Ty.int (a.getD ((b.getD k 0)).toNat 0))])), (Ty.pr (Ty.int (a.getD ((b.getD k 0)).toNat 0))), (Ty.pr (Ty.sl 1 1 [(Ty.int (a.getD ((b.getD k 0)).toNat 0))]))] i_ Pr.any) ok5 rfl (by decide) rfl ⟨?_, ?_, ?_, ?_, ?_, ?_, ?_, ?_, ?_, trivial⟩ ?_
   · intro ax tx hs okx sm
     exact run_plain rfl (y_move (sm 5 rfl))
   · intro ax tx hs okx sm
     exact run_plain rfl (y_move (kp (sm 0 rfl) hs q16))
   · intro ax tx hs okx sm
     exact run_plain rfl (y_move (kp (sm 1 rfl) hs q17))
   · intro ax tx hs okx sm
     exact run_plain rfl (y_move (kp (sm 6 rfl) hs q15))
   · intro ax tx hs okx sm d0 d1
     have e2 : At (Ty.lst Ty.int b) tx ax (.tmp 15) := d0 rfl
     have e3 : At (Ty.nat k) tx ax (.tmp 16) := d1 rfl
     exact run_plain rfl (y_index1 Try.underlying34 Try.inf3 e2 e3 (by omega) (lst_get Ty.int b 0 k (by omega)))
   · intro ax tx hs okx sm d0
     have e4 : At (Ty.ref [(Ty.int (b.getD k 0))]) tx ax (.tmp 17) := d0 rfl
     exact run_plain rfl (y_load Try.underlying3 rfl e4 rfl)
   · intro ax tx hs okx sm d0 d1
     have e1 : At (Ty.lst Ty.int a) tx ax (.tmp 14) := d0 rfl
     have e5 : At (Ty.int (b.getD k 0)) tx ax (.tmp 18) := d1 rfl
     exact run_plain rfl (y_index1 Try.underlying34 Try.inf3 e1 e5 (by omega) (lst_get Ty.int a 0 ((b.getD k 0)).toNat (by omega)))
   · intro ax tx hs okx sm d0
     have e6 : At (Ty.ref [(Ty.int (a.getD ((b.getD k 0)).toNat 0))]) tx ax (.tmp 19) := d0 rfl
     exact run_plain rfl (y_load Try.underlying3 rfl e6 rfl)
   · intro ax tx hs okx sm d0
     have e7 : At (Ty.int (a.getD ((b.getD k 0)).toNat 0)) tx ax (.tmp 20) := d0 rfl
     exact run_plain rfl (y_build1o Try.underlying34 Try.inf3 rfl (one_val rfl) e7)
   intro a7 s5 D5
   have ok6 := D5.ok
   have F6 := F5.step0 D5.stp
   have q19 := (Pr.own 2 3 1 (List.length (byL a (b.take k))) (List.map Ty.int (byL a (b.take k)))).up D5.stp q14
   have q20 : a7.eval (.tmp 5) = a6.eval (.tmp 5) := D5.same 5 rfl
   have q21 : At (Ty.nat k) s5 a7 (.tmp 6) := D5.kt q15 rfl
   have q22 : At (Ty.lst Ty.int a) s5 a7 (.tmp 0) := D5.kt q16 rfl
   have q23 : At (Ty.lst Ty.int b) s5 a7 (.tmp 1) := D5.kt q17 rfl
   have q24 : At (Ty.val (a6.eval (.tmp 5))) s5 a7 (.tmp 13) := D5.done 0 (by decide)
   have q25 : At (Ty.sl 1 1 [(Ty.int (a.getD ((b.getD k 0)).toNat 0))]) s5 a7 (.tmp 21) := D5.done 8 (by decide)
   clear D5
   refine tail_step (m := 2) (R := (fun v τ => Own τ 2 3 1 v ((List.length (byL a (b.take k))) + 1) ((List.map Ty.int (byL a (b.take k))) ++ [(Ty.int (a.getD ((b.getD k 0)).toNat 0))]))) rfl rfl (by decide) ok6 (m_append Try.underlying34 Try.inf3 (by decide) rfl (by decide) (al q24 q19) q25 (by intro U hU; simp at hU;  subst hU; exact one_val rfl) (by omega) (by omega)) (fun a8 s6 hs1 ok7 r1 sm1 => ?_)
   have F7 := F6.step hs1 (by decide)
   have q26 : At (Ty.nat k) s6 a8 (.tmp 6) := kpm hs1 (by decide) (sm1 6 (by decide)) q21
   have q27 : At (Ty.lst Ty.int a) s6 a8 (.tmp 0) := kpm hs1 (by decide) (sm1 0 (by decide)) q22
   have q28 : At (Ty.lst Ty.int b) s6 a8 (.tmp 1) := kpm hs1 (by decide) (sm1 1 (by decide)) q23
   have q29 : At (Ty.sl 1 1 [(Ty.int (a.getD ((b.getD k 0)).toNat 0))]) s6 a8 (.tmp 21) := kpm hs1 (by decide) (sm1 21 (by decide)) q25
   have q30 : (Pr.own 2 3 1 (List.length ((byL a (b.take k)) ++ [(a.getD ((b.getD k 0)).toNat 0)])) (List.map Ty.int ((byL a (b.take k)) ++ [(a.getD ((b.getD k 0)).toNat 0)]))).has s6 (a8.eval (.tmp 22)) := (cvo (by simp) (by first | (rw [List.map_append]; rfl) | simp) r1)
   refine tail_step (m := 0) (R := (fun v τ => Pr.has (Pr.own 2 3 1 (List.length ((byL a (b.take k)) ++ [(a.getD ((b.getD k 0)).toNat 0)])) (List.map Ty.int ((byL a (b.take k)) ++ [(a.getD ((b.getD k 0)).toNat 0)]))) τ v)) rfl rfl (by decide) ok7 (Yld.toM (y_assign q30)) (fun a9 s7 hs2 ok8 r2 sm2 => ?_)
   have F8 := F7.step hs2 (by decide)
   have q31 : At (Ty.nat k) s7 a9 (.tmp 6) := kpm hs2 (by decide) (sm2 6 (by decide)) q26
   have q32 : At (Ty.lst Ty.int a) s7 a9 (.tmp 0) := kpm hs2 (by decide) (sm2 0 (by decide)) q27
   have q33 : At (Ty.lst Ty.int b) s7 a9 (.tmp 1) := kpm hs2 (by decide) (sm2 1 (by decide)) q28
   have q34 : At (Ty.sl 1 1 [(Ty.int (a.getD ((b.getD k 0)).toNat 0))]) s7 a9 (.tmp 21) := kpm hs2 (by decide) (sm2 21 (by decide)) q29
   have q35 : (Pr.own 2 3 1 (List.length ((byL a (b.take k)) ++ [(a.getD ((b.getD k 0)).toNat 0)])) (List.map Ty.int ((byL a (b.take k)) ++ [(a.getD ((b.getD k 0)).toNat 0)]))).has s7 (a9.eval (.tmp 22)) := kpmo hs2 (by decide) (.inl rfl) (sm2 22 (by decide)) q30
   have q36 : (Pr.own 2 3 1 (List.length ((byL a (b.take k)) ++ [(a.getD ((b.getD k 0)).toNat 0)])) (List.map Ty.int ((byL a (b.take k)) ++ [(a.getD ((b.getD k 0)).toNat 0)]))).has s7 (a9.eval (.tmp 5)) := r2
   refine wpList_nil ?_
   refine bn ?_
   refine tn ?_
   refine reg (a := a9) (σ := s7) rfl (fun i_ => List.getD [(Ty.pr (Ty.nat k)), (Ty.pr (Ty.int (((k : Nat) : Int) + (1 : Int)))), (Ty.pr (Ty.int (((k : Nat) : Int) + (1 : Int))))] i_ Pr.any) ok8 rfl ⟨?_, ?_, ?_, trivial⟩ ?_
   · intro ax tx hs okx sm
     exact run_plain rfl (y_move (kp (sm 6 rfl) hs q31))
   · intro ax tx hs okx sm d0
     have e0 : At (Ty.nat k) tx ax (.tmp 11) := d0 rfl
     exact run_plain rfl (y_add e0 rfl (w64 (by omega) (by omega)))
   · intro ax tx hs okx sm d0 d1 d2
     have e1 : At (Ty.int (((k : Nat) : Int) + (1 : Int))) tx ax (.tmp 12) := d0 rfl
     have e0 : At (Ty.nat k) tx ax (.tmp 11) := d1 rfl
     exact run_plain rfl (y_assign e1)
   intro a10 s8 D6
   have ok9 := D6.ok
   have F9 := F8.step0 D6.stp
   have q37 : At (Ty.lst Ty.int a) s8 a10 (.tmp 0) := D6.kt q32 rfl
   have q38 : At (Ty.lst Ty.int b) s8 a10 (.tmp 1) := D6.kt q33 rfl
   have q39 : (Pr.own 2 3 1 (List.length ((byL a (b.take k)) ++ [(a.getD ((b.getD k 0)).toNat 0)])) (List.map Ty.int ((byL a (b.take k)) ++ [(a.getD ((b.getD k 0)).toNat 0)]))).has s8 (a10.eval (.tmp 5)) := D6.ko q36 rfl
   have q40 : At (Ty.int (((k : Nat) : Int) + (1 : Int))) s8 a10 (.tmp 6) := D6.done 2
   clear D6
   exact tn ⟨b.length - ((k+1)), by omega, s8, (k+1), rfl, F9, ok9, (cvo (by (rw [byL_snoc a b k (by omega)])) (by (rw [byL_snoc a b k (by omega)])) q39), (cvi (by (first | rfl | omega | (simp_all; done) | (simp_all; omega))) q40), q37, q38, by omega, rfl⟩
  ·
   refine wp_exit ?_
   refine tx ?_
   refine tx ?_
   refine bx ?_
   refine tn ?_
   refine wp_seq ?_
   refine reg (a := a6) (σ := s4) rfl (fun i_ => List.getD [(Ty.pr (Ty.val (a6.eval (.tmp 5)))), (Ty.pr (Ty.val (a6.eval (.tmp 5))))] i_ Pr.any) ok5 rfl ⟨?_, ?_, trivial⟩ ?_
   · intro ax tx hs okx sm
     exact run_plain rfl (y_move (sm 5 rfl))
   · intro ax tx hs okx sm d0 d1
     have e0 : At (Ty.val (a6.eval (.tmp 5))) tx ax (.tmp 23) := d0 rfl
     exact run_plain rfl (y_assign e0)
   intro a11 s9 D7
   have ok10 := D7.ok
   have F10 := F5.step0 D7.stp
   have q41 : (Pr.own 2 3 1 (List.length (byL a (b.take k))) (List.map Ty.int (byL a (b.take k)))).has s9 (a11.eval (.tmp 4)) := al (show _ = _ from D7.done 1) ((Pr.own 2 3 1 (List.length (byL a (b.take k))) (List.map Ty.int (byL a (b.take k)))).up D7.stp q14)
   clear D7
   refine tn ?_
   refine wp_ret ?_
   obtain ⟨t3, e1, h1, q42⟩ := Own.seal q41 (by decide)
   rw [← e1]
   have F11 := F10.step h1 (by decide)
   exact ret1 rfl ok10 F11 (cvt (by (obtain rfl : k = b.length := (by omega); rw [List.take_length])) q42)


end Go.Proofs.Ytlhnpkaohfoicaa
