/- The functions that the law CallSays reaches, each by its contract. Part 6. -/
import Derived.Test.YtbilebfnanlgfaaDoorCallSaysW5
namespace Go.Proofs.YtbilebfnanlgfaaDoor
open Go.KL

set_option maxRecDepth 100000 in
theorem product_fn (a : List Int) (b : List Int) (σ : GW) (v0 v1 : Value) (hv0 : Ty.has (Ty.lst Ty.int a) σ v0) (hv1 : Ty.has (Ty.lst Ty.int b) σ v1) (hl : a.length = b.length) (hbd : ∀ i, i < b.length → 0 ≤ b.getD i 0 ∧ b.getD i 0 < a.length) (G : a.length ≤ 1000000) :
    FnC Tryd.prog 51 #[v0, v1] σ (Ty.lst Ty.int (byL a b)) := by
 refine fn_intro Tryd.func51 rfl Tryd.ntmps51 (Nat.le_of_ble_eq_true rfl) (fun s0 a0 hle F0 ok0 hargs => ?_)
 have p0 : At (Ty.lst Ty.int a) s0 a0 (.tmp 0) := by have e := hargs 0 _ rfl; show Ty.has _ _ _; rw [e]; exact Ty.up _ hle hv0
 have b1 := sl_le p0
 have p1 : At (Ty.lst Ty.int b) s0 a0 (.tmp 1) := by have e := hargs 1 _ rfl; show Ty.has _ _ _; rw [e]; exact Ty.up _ hle hv1
 have b2 := sl_le p1
 clear hargs; refine wp_seq ?_
 refine rg a0 s0 [(Ty.val (Value.slice none 0 0))] ok0 ⟨?_, trivial⟩ ?_
 · intro A B G H I; exact rP (y_assign rfl)
 intro a1 s1 D1; have ok1 := D1.ok; have F1 := F0.step0 D1.stp; have q1 := D1.kt p0 rfl; have q2 := D1.kt p1 rfl; clear D1; refine tn ?_; refine wp_seq ?_
 refine reg (a := a1) (σ := s1) rfl (fun i_ => List.getD [(Ty.pr (Ty.lst Ty.int a)), (Ty.pr (Ty.nat (List.length a))), (Pr.own 11 3 1 (List.length a) (List.map Ty.int (List.replicate (List.length a) 0))), (Pr.own 11 3 1 (List.length a) (List.map Ty.int (List.replicate (List.length a) 0)))] i_ Pr.any) ok1 rfl ⟨?_, ?_, ?_, ?_, trivial⟩ ?_
 · intro A B G H I; exact rP (y_move (kp (I 0 rfl) G q1))
 · intro A B G H I d0; exact rP (y_len Tryd.underlying26 (ed d0 rfl rfl rfl))
 · intro A B G H I d0 d1
   have e1 := ed d0 rfl rfl rfl
   exact rP ((y_make (k := 11) (T := Ty.int 0) (n := (List.length a)) Tryd.underlying26 Tryd.inf3 rfl (fun _ => rfl) e1 e1 (by omega) (by omega)).mono (fun _ _ h => cvo (by simp) (by simp) h))
 · intro A B G H I d0 d1 d2 d3
   have e2 : (Pr.own 11 3 1 (List.length a) (List.map Ty.int (List.replicate (List.length a) 0))).has B (A.eval (.tmp 10)) := d0 rfl
   exact rP (y_assign e2)
 intro a2 s2 D2; have ok2 := D2.ok; have F2 := F1.step0 D2.stp; have q3 := D2.kt q1 rfl; have q4 := D2.kt q2 rfl
 have q5 : (Pr.own 11 3 1 (List.length a) (List.map Ty.int (List.replicate (List.length a) 0))).has s2 (a2.eval (.tmp 5)) := D2.done 3
 clear D2; refine tn ?_; refine wp_seq ?_; refine wp_seq ?_
 refine rg a2 s2 [(Ty.lst Ty.int b), (Ty.nat (List.length b)), (Ty.int (0 : Int))] ok2 ⟨?_, ?_, ?_, trivial⟩ ?_
 · intro A B G H I; exact rP (y_move (kp (I 1 rfl) G q4))
 · intro A B G H I d0; exact rP (y_len Tryd.underlying26 (ed d0 rfl rfl rfl))
 · intro A B G H I; exact rP (y_move rfl)
 intro a3 s3 D3; have ok3 := D3.ok; have F3 := F2.step0 D3.stp; have q6 := D3.kt q3 rfl
 have q7 : (Pr.own 11 3 1 (List.length a) (List.map Ty.int (List.replicate (List.length a) 0))).has s3 (a3.eval (.tmp 5)) := D3.ko q5 rfl
 have q8 := D3.dn 0 rfl rfl; have q9 := D3.dn 1 rfl rfl; have q10 := D3.dn 2 rfl rfl; clear D3; refine tn ?_; refine wp_block ?_
 refine loop (fun n1 a4 w1 => ∃ (t1 : GW) (k : Nat), t1.w = w1 ∧ From s0 t1 ∧ Ok 27 a4 ∧ At (Ty.nat k) t1 a4 (.tmp 13) ∧ (Pr.own 11 3 1 (List.length (byTo a b k)) (List.map Ty.int (byTo a b k))).has t1 (a4.eval (.tmp 5)) ∧ At (Ty.lst Ty.int a) t1 a4 (.tmp 0) ∧ At (Ty.lst Ty.int b) t1 a4 (.tmp 11) ∧ At (Ty.nat (List.length b)) t1 a4 (.tmp 12) ∧ (k ≤ b.length) ∧ n1 = b.length - k) (b.length - (0)) ?_ ?_
 ·
  exact ⟨s3, 0, rfl, F3, ok3, (cvi (by (first | rfl | omega | (simp_all; done) | (simp_all; omega))) q10), (cvo (by (simp [byTo_zero])) (by (simp [byTo_zero])) q7), q6, q8, q9, by omega, rfl⟩
 ·
  rintro n2 a5 w2 ⟨t2, k, rfl, F4, ok4, q11, q12, q13, q14, q15, hk, rfl⟩
  have hp := byTo_len a b k
  refine wp_seq ?_
  refine reg (a := a5) (σ := t2) rfl (fun i_ => List.getD [(Ty.pr (Ty.bool (decide (((k : Nat) : Int) < (((List.length b) : Nat) : Int)))))] i_ Pr.any) ok4 rfl ⟨?_, trivial⟩ ?_
  · intro A B G H I; exact rP (y_lss (kp (I 13 rfl) G q11) (kp (I 12 rfl) G q15))
  intro a6 s4 D4; have ok5 := D4.ok; have F5 := F4.step0 D4.stp; have q16 := D4.kt q11 rfl
  have q17 : (Pr.own 11 3 1 (List.length (byTo a b k)) (List.map Ty.int (byTo a b k))).has s4 (a6.eval (.tmp 5)) := D4.ko q12 rfl
  have q18 := D4.kt q13 rfl; have q19 := D4.kt q14 rfl; have q20 := D4.kt q15 rfl; have q21 := D4.dn 0 rfl rfl; clear D4; refine tn ?_; refine wp_seq ?_
  refine cond_p (p := (((k : Nat) : Int) < (((List.length b) : Nat) : Int))) q21 (fun c1 => ?_) (fun c1 => ?_)
  ·
   have hq := hbd k (by omega)
   refine wp_skip ?_; refine tn ?_; refine wp_seq ?_; refine wp_block ?_; refine wp_seq ?_
   refine rg a6 s4 [(Ty.nat k), (Ty.ref [(Ty.int (b.getD k 0))]), (Ty.int (b.getD k 0)), (Ty.nat k), (Ty.int (b.getD k 0))] ok5 ⟨?_, ?_, ?_, ?_, ?_, trivial⟩ ?_
   · intro A B G H I; exact rP (y_move (kp (I 13 rfl) G q16))
   · intro A B G H I; exact rP (y_index1 Tryd.underlying26 Tryd.inf3 (kp (I 11 rfl) G q19) (kp (I 13 rfl) G q16) (by omega) (lst_get Ty.int b 0 k (by omega)))
   · intro A B G H I d0; exact rP (y_load Tryd.underlying3 rfl (ed d0 rfl rfl rfl) rfl)
   · intro A B G H I d0 d1 d2 d3; exact rP (y_assign (ed d0 rfl rfl rfl))
   · intro A B G H I d0 d1 d2 d3 d4 d5; exact rP (y_assign (ed d0 rfl rfl rfl))
   intro a7 s5 D5; have ok6 := D5.ok; have F6 := F5.step0 D5.stp; have q22 := D5.kt q16 rfl
   have q23 : (Pr.own 11 3 1 (List.length (byTo a b k)) (List.map Ty.int (byTo a b k))).has s5 (a7.eval (.tmp 5)) := D5.ko q17 rfl
   have q24 := D5.kt q18 rfl; have q25 := D5.kt q19 rfl; have q26 := D5.kt q20 rfl; have q27 := D5.dn 3 rfl rfl; have q28 := D5.dn 4 rfl rfl; clear D5; refine tn ?_
   refine reg2 (a := a7) (σ := s5) rfl 7 (fun i_ => List.getD [(Ty.pr (Ty.val (a7.eval (.tmp 5)))), (Ty.pr (Ty.nat k)), (Ty.pr (Ty.lst Ty.int a)), (Ty.pr (Ty.int (b.getD k 0))), (Ty.pr (Ty.ref [(Ty.int (a.getD ((b.getD k 0)).toNat 0))])), (Ty.pr (Ty.int (a.getD ((b.getD k 0)).toNat 0))), (Ty.pr (Ty.val (cellPtr (a7.eval (.tmp 5)) k)))] i_ Pr.any) ok6 rfl (by decide) rfl ⟨?_, ?_, ?_, ?_, ?_, ?_, ?_, trivial⟩ ?_
   · intro A B G H I; exact rP (y_move (I 5 rfl))
   · intro A B G H I; exact rP (y_move (kp (I 6 rfl) G q27))
   · intro A B G H I; exact rP (y_move (kp (I 0 rfl) G q24))
   · intro A B G H I; exact rP (y_move (kp (I 7 rfl) G q28))
   · intro A B G H I d0 d1; exact rP (y_index1 Tryd.underlying26 Tryd.inf3 (ed d0 rfl rfl rfl) (ed d1 rfl rfl rfl) (by omega) (lst_get Ty.int a 0 ((b.getD k 0)).toNat (by omega)))
   · intro A B G H I d0; exact rP (y_load Tryd.underlying3 rfl (ed d0 rfl rfl rfl) rfl)
   · intro A B G H I d0 d1 d2 d3 d4 d5 d6 d7; exact rP (own_index1 (i := ((k : Nat) : Int)) Tryd.underlying26 Tryd.inf3 ((Pr.own 11 3 1 (List.length (byTo a b k)) (List.map Ty.int (byTo a b k))).up G q23) (ed d0 rfl rfl rfl) (ed d1 rfl rfl rfl) (by omega) (by omega))
   intro a8 s6 D6; have ok7 := D6.ok; have F7 := F6.step0 D6.stp; have q29 := (Pr.own 11 3 1 (List.length (byTo a b k)) (List.map Ty.int (byTo a b k))).up D6.stp q23; have q30 := D6.kt q22 rfl
   have q31 : a8.eval (.tmp 5) = a7.eval (.tmp 5) := D6.same 5 rfl
   have q32 := D6.kt q24 rfl; have q33 := D6.kt q25 rfl; have q34 := D6.kt q26 rfl; have q35 := D6.dn 5 (by decide) rfl rfl; have q36 := D6.dn 6 (by decide) rfl rfl; clear D6
   refine tail_step0 (m := 11) (R := (fun _ τ => Own τ 11 3 1 (a7.eval (.tmp 5)) (List.length (byTo a b k)) ((List.map Ty.int (byTo a b k)).set k (Ty.int (a.getD ((b.getD k 0)).toNat 0))))) rfl rfl (m_store Tryd.inf3 (by decide) q29 q36 (by simp only [List.length_map, List.length_set]; omega) q35 (one_val rfl)) (fun v1 s7 hs1 r1 => ?_)
   have F8 := F7.step hs1 (by decide)
   have q37 : At (Ty.nat k) s7 a8 (.tmp 13) := kpm hs1 (by decide) rfl q30
   have q38 : At (Ty.lst Ty.int a) s7 a8 (.tmp 0) := kpm hs1 (by decide) rfl q32
   have q39 : At (Ty.lst Ty.int b) s7 a8 (.tmp 11) := kpm hs1 (by decide) rfl q33
   have q40 : At (Ty.nat (List.length b)) s7 a8 (.tmp 12) := kpm hs1 (by decide) rfl q34
   have q41 : At (Ty.int (a.getD ((b.getD k 0)).toNat 0)) s7 a8 (.tmp 23) := kpm hs1 (by decide) rfl q35
   have q42 : (Pr.own 11 3 1 (List.length ((byTo a b k).set k (a.getD ((b.getD k 0)).toNat 0))) (List.map Ty.int ((byTo a b k).set k (a.getD ((b.getD k 0)).toNat 0)))).has s7 (a7.eval (.tmp 5)) := (cvo (by simp) (by simp) r1)
   refine wpList_nil ?_
   have q43 : (Pr.own 11 3 1 (List.length ((byTo a b k).set k (a.getD ((b.getD k 0)).toNat 0))) (List.map Ty.int ((byTo a b k).set k (a.getD ((b.getD k 0)).toNat 0)))).has s7 (a8.eval (.tmp 5)) := al q31 q42
   refine bn ?_; refine tn ?_
   refine rg a8 s7 [(Ty.int (((k : Nat) : Int) + (1 : Int))), (Ty.int (((k : Nat) : Int) + (1 : Int)))] ok7 ⟨?_, ?_, trivial⟩ ?_
   · intro A B G H I; exact rP (y_add (kp (I 13 rfl) G q37) rfl (w64 (by omega) (by omega)))
   · intro A B G H I d0; exact rP (y_move (ed d0 rfl rfl rfl))
   intro a10 s8 D7; have ok9 := D7.ok; have F9 := F8.step0 D7.stp
   have q44 : (Pr.own 11 3 1 (List.length ((byTo a b k).set k (a.getD ((b.getD k 0)).toNat 0))) (List.map Ty.int ((byTo a b k).set k (a.getD ((b.getD k 0)).toNat 0)))).has s8 (a10.eval (.tmp 5)) := D7.ko q43 rfl
   have q45 := D7.kt q38 rfl; have q46 := D7.kt q39 rfl; have q47 := D7.kt q40 rfl; have q48 := D7.dn 1 rfl rfl; clear D7
   exact tn ⟨b.length - ((k+1)), by omega, s8, (k+1), rfl, F9, ok9, (cvi (by (first | rfl | omega | (simp_all; done) | (simp_all; omega))) q48), (cvo (by (rw [byTo_step a b k])) (by (rw [byTo_step a b k])) q44), q45, q46, q47, by omega, rfl⟩
  ·
   refine wp_exit ?_; refine tx ?_; refine tx ?_; refine bx ?_; refine tn ?_; refine wp_seq ?_
   refine rg a6 s4 [(Ty.val (a6.eval (.tmp 5))), (Ty.val (a6.eval (.tmp 5)))] ok5 ⟨?_, ?_, trivial⟩ ?_
   · intro A B G H I; exact rP (y_move (I 5 rfl))
   · intro A B G H I d0 d1; exact rP (y_assign (ed d0 rfl rfl rfl))
   intro a11 s9 D8; have ok10 := D8.ok; have F10 := F5.step0 D8.stp
   have q49 : (Pr.own 11 3 1 (List.length (byTo a b k)) (List.map Ty.int (byTo a b k))).has s9 (a11.eval (.tmp 4)) := al (show _ = _ from D8.done 1) ((Pr.own 11 3 1 (List.length (byTo a b k)) (List.map Ty.int (byTo a b k))).up D8.stp q17)
   clear D8; refine tn ?_; refine wp_ret ?_
   obtain ⟨t3, e1, h1, q50⟩ := Own.seal q49 (by decide)
   rw [← e1]
   have F11 := F10.step h1 (by decide)
   exact ret1 rfl ok10 F11 (cvt (by (obtain rfl : k = b.length := (by omega); rw [byTo_all a b hl])) q50)


set_option maxRecDepth 100000 in
theorem from_fn (r : List Int) (l : List (List Int)) (σ : GW) (v0 v1 : Value) (hv0 : Ty.has (Ty.lst Ty.int r) σ v0) (hv1 : Ty.has (Ty.lst Ty.ints l) σ v1) (hr : r.length ≤ 12) (hok : ∀ k, k < l.length → okL 0 (l.getD k []) r.length) (hl : l.length ≤ 200) :
    FnC Tryd.prog 35 #[v0, v1] σ (Ty.lst Ty.ints (fromL r l)) := by
 refine fn_intro Tryd.func35 rfl Tryd.ntmps35 (Nat.le_of_ble_eq_true rfl) (fun s0 a0 hle F0 ok0 hargs => ?_)
 have p0 : At (Ty.lst Ty.int r) s0 a0 (.tmp 0) := by have e := hargs 0 _ rfl; show Ty.has _ _ _; rw [e]; exact Ty.up _ hle hv0
 have b1 := sl_le p0
 have p1 : At (Ty.lst Ty.ints l) s0 a0 (.tmp 1) := by have e := hargs 1 _ rfl; show Ty.has _ _ _; rw [e]; exact Ty.up _ hle hv1
 have b2 := sl_le p1
 clear hargs; refine wp_seq ?_
 refine rg a0 s0 [(Ty.val (Value.slice none 0 0))] ok0 ⟨?_, trivial⟩ ?_
 · intro A B G H I; exact rP (y_assign rfl)
 intro a1 s1 D1; have ok1 := D1.ok; have F1 := F0.step0 D1.stp; have q1 := D1.kt p0 rfl; have q2 := D1.kt p1 rfl; clear D1; refine tn ?_; refine wp_seq ?_
 refine reg (a := a1) (σ := s1) rfl (fun i_ => List.getD [(Ty.pr (Ty.lst Ty.int r)), (Pr.own 2 26 1 1 (List.map Ty.ints [r])), (Pr.own 2 26 1 1 (List.map Ty.ints [r]))] i_ Pr.any) ok1 rfl ⟨?_, ?_, ?_, trivial⟩ ?_
 · intro A B G H I; exact rP (y_move (kp (I 0 rfl) G q1))
 · intro A B G H I d0; exact rP ((y_lit1 (k := 2) Tryd.underlying22 Tryd.inf26 rfl (one_sl) (ed d0 rfl rfl rfl)).mono (fun _ _ h => cvo (by simp) (by simp) h))
 · intro A B G H I d0 d1 d2
   have e1 : (Pr.own 2 26 1 1 (List.map Ty.ints [r])).has B (A.eval (.tmp 9)) := d0 rfl
   exact rP (y_assign e1)
 intro a2 s2 D2; have ok2 := D2.ok; have F2 := F1.step0 D2.stp; have q3 := D2.kt q1 rfl; have q4 := D2.kt q2 rfl
 have q5 : (Pr.own 2 26 1 1 (List.map Ty.ints [r])).has s2 (a2.eval (.tmp 5)) := D2.done 2
 clear D2; refine tn ?_; refine wp_seq ?_; refine wp_seq ?_
 refine rg a2 s2 [(Ty.lst Ty.ints l), (Ty.nat (List.length l)), (Ty.int (0 : Int))] ok2 ⟨?_, ?_, ?_, trivial⟩ ?_
 · intro A B G H I; exact rP (y_move (kp (I 1 rfl) G q4))
 · intro A B G H I d0; exact rP (y_len Tryd.underlying22 (ed d0 rfl rfl rfl))
 · intro A B G H I; exact rP (y_move rfl)
 intro a3 s3 D3; have ok3 := D3.ok; have F3 := F2.step0 D3.stp; have q6 := D3.kt q3 rfl
 have q7 : (Pr.own 2 26 1 1 (List.map Ty.ints [r])).has s3 (a3.eval (.tmp 5)) := D3.ko q5 rfl
 have q8 := D3.dn 0 rfl rfl; have q9 := D3.dn 1 rfl rfl; have q10 := D3.dn 2 rfl rfl; clear D3; refine tn ?_; refine wp_block ?_
 refine loop (fun n1 a4 w1 => ∃ (t1 : GW) (k : Nat), t1.w = w1 ∧ From s0 t1 ∧ Ok 28 a4 ∧ At (Ty.nat k) t1 a4 (.tmp 12) ∧ At (Ty.lst Ty.int (curL r l k)) t1 a4 (.tmp 0) ∧ (Pr.own 2 26 1 (List.length (fromTo r l k)) (List.map Ty.ints (fromTo r l k))).has t1 (a4.eval (.tmp 5)) ∧ At (Ty.lst Ty.ints l) t1 a4 (.tmp 10) ∧ At (Ty.nat (List.length l)) t1 a4 (.tmp 11) ∧ (k ≤ l.length) ∧ n1 = l.length - k) (l.length - (0)) ?_ ?_
 ·
  exact ⟨s3, 0, rfl, F3, ok3, (cvi (by (first | rfl | omega | (simp_all; done) | (simp_all; omega))) q10), (cvt (by (rfl)) q6), (cvo (by (simp [fromTo_zero])) (by (simp [fromTo_zero])) q7), q8, q9, by omega, rfl⟩
 ·
  rintro n2 a5 w2 ⟨t2, k, rfl, F4, ok4, q11, q12, q13, q14, q15, hk, rfl⟩
  have hcl := curL_len hok k hk
  have hfl := fromTo_len r l k
  refine wp_seq ?_
  refine reg (a := a5) (σ := t2) rfl (fun i_ => List.getD [(Ty.pr (Ty.bool (decide (((k : Nat) : Int) < (((List.length l) : Nat) : Int)))))] i_ Pr.any) ok4 rfl ⟨?_, trivial⟩ ?_
  · intro A B G H I; exact rP (y_lss (kp (I 12 rfl) G q11) (kp (I 11 rfl) G q15))
  intro a6 s4 D4; have ok5 := D4.ok; have F5 := F4.step0 D4.stp; have q16 := D4.kt q11 rfl; have q17 := D4.kt q12 rfl
  have q18 : (Pr.own 2 26 1 (List.length (fromTo r l k)) (List.map Ty.ints (fromTo r l k))).has s4 (a6.eval (.tmp 5)) := D4.ko q13 rfl
  have q19 := D4.kt q14 rfl; have q20 := D4.kt q15 rfl; have q21 := D4.dn 0 rfl rfl; clear D4; refine tn ?_; refine wp_seq ?_
  refine cond_p (p := (((k : Nat) : Int) < (((List.length l) : Nat) : Int))) q21 (fun c1 => ?_) (fun c1 => ?_)
  ·
   have hokk := hok k (by omega); rw [← hcl] at hokk; have hcc := chgRow_len hokk; have hcd := hcc.symm; have hcl0 : (curL r l k).length ≤ 12 := (by omega); have hbd : ∀ i, i < (chgRow (curL r l k).length (l.getD k [])).length → 0 ≤ (chgRow (curL r l k).length (l.getD k [])).getD i 0 ∧ (chgRow (curL r l k).length (l.getD k [])).getD i 0 < ((curL r l k).length : Int) := (fun i hi => chgRow_bd hokk hi)
   refine wp_skip ?_; refine tn ?_; refine wp_seq ?_; refine wp_block ?_; refine wp_seq ?_
   refine rg a6 s4 [(Ty.ref [(Ty.lst Ty.int (l.getD k []))]), (Ty.lst Ty.int (l.getD k [])), (Ty.lst Ty.int (l.getD k []))] ok5 ⟨?_, ?_, ?_, trivial⟩ ?_
   · intro A B G H I; exact rP (y_index1 Tryd.underlying22 Tryd.inf26 (kp (I 10 rfl) G q19) (kp (I 12 rfl) G q16) (by omega) (lst_get Ty.ints l [] k (by omega)))
   · intro A B G H I d0; exact rP (y_load Tryd.underlying26 rfl (ed d0 rfl rfl rfl) rfl)
   · intro A B G H I d0 d1 d2; exact rP (y_assign (ed d0 rfl rfl rfl))
   intro a7 s5 D5; have ok6 := D5.ok; have F6 := F5.step0 D5.stp; have q22 := D5.kt q16 rfl; have q23 := D5.kt q17 rfl
   have q24 : (Pr.own 2 26 1 (List.length (fromTo r l k)) (List.map Ty.ints (fromTo r l k))).has s5 (a7.eval (.tmp 5)) := D5.ko q18 rfl
   have q25 := D5.kt q19 rfl; have q26 := D5.kt q20 rfl; have q27 := D5.dn 2 rfl rfl; clear D5; refine tn ?_; refine wp_seq ?_
   refine rg a7 s5 [(Ty.lst Ty.int (curL r l k)), (Ty.lst Ty.int (curL r l k)), (Ty.nat (List.length (curL r l k))), (Ty.lst Ty.int (l.getD k [])), (Ty.lst Ty.int (chgRow ((List.length (curL r l k))) ((l.getD k [])))), (Ty.lst Ty.int (byL ((curL r l k)) ((chgRow ((List.length (curL r l k))) ((l.getD k [])))))), (Ty.lst Ty.int (byL ((curL r l k)) ((chgRow ((List.length (curL r l k))) ((l.getD k []))))))] ok6 ⟨?_, ?_, ?_, ?_, ?_, ?_, ?_, trivial⟩ ?_
   · intro A B G H I; exact rP (y_move (kp (I 0 rfl) G q23))
   · intro A B G H I; exact rP (y_move (kp (I 0 rfl) G q23))
   · intro A B G H I d0; exact rP (y_len Tryd.underlying26 (ed d0 rfl rfl rfl))
   · intro A B G H I; exact rP (y_move (kp (I 7 rfl) G q27))
   · intro A B G H I d0 d1; exact rP (y_call #[A.eval (.tmp 18), A.eval (.tmp 19)] Tryd.func52 rfl rfl (by simp only [List.map_toArray, List.map_cons, List.map_nil]) (pChange_fn ((List.length (curL r l k))) ((l.getD k [])) _ _ _ (ed d0 rfl rfl rfl) (ed d1 rfl rfl rfl) (by first | omega | assumption) (by first | omega | assumption)))
   · intro A B G H I d0 d1 d2; exact rP (y_call #[A.eval (.tmp 16), A.eval (.tmp 20)] Tryd.func51 rfl rfl (by simp only [List.map_toArray, List.map_cons, List.map_nil]) (product_fn ((curL r l k)) ((chgRow ((List.length (curL r l k))) ((l.getD k [])))) _ _ _ (ed d0 rfl rfl rfl) (ed d1 rfl rfl rfl) (by first | assumption | omega) (by first | assumption | omega) (by first | assumption | omega)))
   · intro A B G H I d0 d1 d2 d3 d4 d5 d6 d7; exact rP (y_assign (ed d0 rfl rfl rfl))
   intro a8 s6 D6; have ok7 := D6.ok; have F7 := F6.step0 D6.stp; have q28 := D6.kt q22 rfl
   have q29 : (Pr.own 2 26 1 (List.length (fromTo r l k)) (List.map Ty.ints (fromTo r l k))).has s6 (a8.eval (.tmp 5)) := D6.ko q24 rfl
   have q30 := D6.kt q25 rfl; have q31 := D6.kt q26 rfl; have q32 := D6.dn 6 rfl rfl; clear D6; refine tn ?_
   refine reg2 (a := a8) (σ := s6) rfl 3 (fun i_ => List.getD [(Ty.pr (Ty.val (a8.eval (.tmp 5)))), (Ty.pr (Ty.lst Ty.int (byL ((curL r l k)) ((chgRow ((List.length (curL r l k))) ((l.getD k []))))))), (Ty.pr (Ty.sl 1 1 [(Ty.lst Ty.int (byL ((curL r l k)) ((chgRow ((List.length (curL r l k))) ((l.getD k []))))))]))] i_ Pr.any) ok7 rfl (by decide) rfl ⟨?_, ?_, ?_, trivial⟩ ?_
   · intro A B G H I; exact rP (y_move (I 5 rfl))
   · intro A B G H I; exact rP (y_move (kp (I 0 rfl) G q32))
   · intro A B G H I d0; exact rP (y_build1o Tryd.underlying22 Tryd.inf26 rfl (one_sl) (ed d0 rfl rfl rfl))
   intro a9 s7 D7; have ok8 := D7.ok; have F8 := F7.step0 D7.stp; have q33 := (Pr.own 2 26 1 (List.length (fromTo r l k)) (List.map Ty.ints (fromTo r l k))).up D7.stp q29; have q34 := D7.kt q28 rfl
   have q35 : a9.eval (.tmp 5) = a8.eval (.tmp 5) := D7.same 5 rfl
   have q36 := D7.kt q30 rfl; have q37 := D7.kt q31 rfl; have q38 := D7.kt q32 rfl; have q39 := D7.dn 0 (by decide) rfl rfl; have q40 := D7.dn 2 (by decide) rfl rfl; clear D7
   refine tail_step (m := 2) (R := (fun v τ => Own τ 2 26 1 v ((List.length (fromTo r l k)) + 1) ((List.map Ty.ints (fromTo r l k)) ++ [(Ty.lst Ty.int (byL ((curL r l k)) ((chgRow ((List.length (curL r l k))) ((l.getD k []))))))]))) rfl rfl (by decide) ok8 (m_append Tryd.underlying22 Tryd.inf26 (by decide) rfl (by decide) (al q39 q33) q40 (by intro U hU; simp at hU;  subst hU; exact one_sl) (by omega) (by omega)) (fun a10 s8 hs1 ok9 r1 sm1 => ?_)
   have F9 := F8.step hs1 (by decide)
   have q41 : At (Ty.nat k) s8 a10 (.tmp 12) := kpm hs1 (by decide) (sm1 12 (by decide)) q34
   have q42 : At (Ty.lst Ty.ints l) s8 a10 (.tmp 10) := kpm hs1 (by decide) (sm1 10 (by decide)) q36
   have q43 : At (Ty.nat (List.length l)) s8 a10 (.tmp 11) := kpm hs1 (by decide) (sm1 11 (by decide)) q37
   have q44 : At (Ty.lst Ty.int (byL ((curL r l k)) ((chgRow ((List.length (curL r l k))) ((l.getD k [])))))) s8 a10 (.tmp 0) := kpm hs1 (by decide) (sm1 0 (by decide)) q38
   have q45 : At (Ty.sl 1 1 [(Ty.lst Ty.int (byL ((curL r l k)) ((chgRow ((List.length (curL r l k))) ((l.getD k []))))))]) s8 a10 (.tmp 24) := kpm hs1 (by decide) (sm1 24 (by decide)) q40
   have q46 : (Pr.own 2 26 1 (List.length ((fromTo r l k) ++ [(byL ((curL r l k)) ((chgRow ((List.length (curL r l k))) ((l.getD k [])))))])) (List.map Ty.ints ((fromTo r l k) ++ [(byL ((curL r l k)) ((chgRow ((List.length (curL r l k))) ((l.getD k [])))))]))).has s8 (a10.eval (.tmp 25)) := (cvo (by simp) (by first | (rw [List.map_append]; rfl) | simp) r1)
   refine tail_step (m := 0) (R := (fun v τ => Pr.has (Pr.own 2 26 1 (List.length ((fromTo r l k) ++ [(byL ((curL r l k)) ((chgRow ((List.length (curL r l k))) ((l.getD k [])))))])) (List.map Ty.ints ((fromTo r l k) ++ [(byL ((curL r l k)) ((chgRow ((List.length (curL r l k))) ((l.getD k [])))))]))) τ v)) rfl rfl (by decide) ok9 (Yld.toM (y_assign q46)) (fun a11 s9 hs2 ok10 r2 sm2 => ?_)
   have F10 := F9.step hs2 (by decide)
   have q47 : At (Ty.nat k) s9 a11 (.tmp 12) := kpm hs2 (by decide) (sm2 12 (by decide)) q41
   have q48 : At (Ty.lst Ty.ints l) s9 a11 (.tmp 10) := kpm hs2 (by decide) (sm2 10 (by decide)) q42
   have q49 : At (Ty.nat (List.length l)) s9 a11 (.tmp 11) := kpm hs2 (by decide) (sm2 11 (by decide)) q43
   have q50 : At (Ty.lst Ty.int (byL ((curL r l k)) ((chgRow ((List.length (curL r l k))) ((l.getD k [])))))) s9 a11 (.tmp 0) := kpm hs2 (by decide) (sm2 0 (by decide)) q44
   have q51 : At (Ty.sl 1 1 [(Ty.lst Ty.int (byL ((curL r l k)) ((chgRow ((List.length (curL r l k))) ((l.getD k []))))))]) s9 a11 (.tmp 24) := kpm hs2 (by decide) (sm2 24 (by decide)) q45
   have q52 : (Pr.own 2 26 1 (List.length ((fromTo r l k) ++ [(byL ((curL r l k)) ((chgRow ((List.length (curL r l k))) ((l.getD k [])))))])) (List.map Ty.ints ((fromTo r l k) ++ [(byL ((curL r l k)) ((chgRow ((List.length (curL r l k))) ((l.getD k [])))))]))).has s9 (a11.eval (.tmp 25)) := kpmo hs2 (by decide) (.inl rfl) (sm2 25 (by decide)) q46
   have q53 : (Pr.own 2 26 1 (List.length ((fromTo r l k) ++ [(byL ((curL r l k)) ((chgRow ((List.length (curL r l k))) ((l.getD k [])))))])) (List.map Ty.ints ((fromTo r l k) ++ [(byL ((curL r l k)) ((chgRow ((List.length (curL r l k))) ((l.getD k [])))))]))).has s9 (a11.eval (.tmp 5)) := r2
   refine wpList_nil ?_; refine bn ?_; refine tn ?_
   refine rg a11 s9 [(Ty.int (((k : Nat) : Int) + (1 : Int))), (Ty.int (((k : Nat) : Int) + (1 : Int)))] ok10 ⟨?_, ?_, trivial⟩ ?_
   · intro A B G H I; exact rP (y_add (kp (I 12 rfl) G q47) rfl (w64 (by omega) (by omega)))
   · intro A B G H I d0; exact rP (y_move (ed d0 rfl rfl rfl))
   intro a12 s10 D8; have ok11 := D8.ok; have F11 := F10.step0 D8.stp; have q54 := D8.kt q48 rfl; have q55 := D8.kt q49 rfl; have q56 := D8.kt q50 rfl
   have q57 : (Pr.own 2 26 1 (List.length ((fromTo r l k) ++ [(byL ((curL r l k)) ((chgRow ((List.length (curL r l k))) ((l.getD k [])))))])) (List.map Ty.ints ((fromTo r l k) ++ [(byL ((curL r l k)) ((chgRow ((List.length (curL r l k))) ((l.getD k [])))))]))).has s10 (a12.eval (.tmp 5)) := D8.ko q53 rfl
   have q58 := D8.dn 1 rfl rfl; clear D8
   exact tn ⟨l.length - ((k+1)), by omega, s10, (k+1), rfl, F11, ok11, (cvi (by (first | rfl | omega | (simp_all; done) | (simp_all; omega))) q58), (cvt (by (rw [curL_succ r l k (by omega)])) q56), (cvo (by (rw [fromTo_succ, curL_succ r l k (by omega)])) (by (rw [fromTo_succ, curL_succ r l k (by omega)])) q57), q54, q55, by omega, rfl⟩
  ·
   refine wp_exit ?_; refine tx ?_; refine tx ?_; refine bx ?_; refine tn ?_; refine wp_seq ?_
   refine rg a6 s4 [(Ty.val (a6.eval (.tmp 5))), (Ty.val (a6.eval (.tmp 5)))] ok5 ⟨?_, ?_, trivial⟩ ?_
   · intro A B G H I; exact rP (y_move (I 5 rfl))
   · intro A B G H I d0 d1; exact rP (y_assign (ed d0 rfl rfl rfl))
   intro a13 s11 D9; have ok12 := D9.ok; have F12 := F5.step0 D9.stp
   have q59 : (Pr.own 2 26 1 (List.length (fromTo r l k)) (List.map Ty.ints (fromTo r l k))).has s11 (a13.eval (.tmp 4)) := al (show _ = _ from D9.done 1) ((Pr.own 2 26 1 (List.length (fromTo r l k)) (List.map Ty.ints (fromTo r l k))).up D9.stp q18)
   clear D9; refine tn ?_; refine wp_ret ?_
   obtain ⟨t3, e1, h1, q60⟩ := Own.seal q59 (by decide)
   rw [← e1]
   have F13 := F12.step h1 (by decide)
   exact ret1 rfl ok12 F13 (cvt (by (obtain rfl : k = l.length := (by omega); rfl)) q60)


set_option maxHeartbeats 4000000 in
set_option maxRecDepth 100000 in
theorem callRows_fn (nm : ByteArray) (n : Int) (l : List (List Int)) (cs : List BCall) (leads : List Int) (σ : GW)  (v0 v1 v2 : Value) (hv0 : Ty.has (Ty.agg [(Ty.val (Value.string nm)), (Ty.int n), (Ty.lst Ty.ints l)]) σ v0) (hv1 : Ty.has (Ty.lstc 2 callC cs) σ v1) (hv2 : Ty.has (Ty.lst Ty.int leads) σ v2)  (hnm : nm.size ≤ 1099511627776) (hn : -9223372036854775808 ≤ n ∧ n ≤ 9223372036854775807) :
    FnC Tryd.prog 13 #[v0, v1, v2] σ (Ty.tup2 (Ty.lst Ty.ints (if touchMay nm n l cs leads = 0 then (tRows n.toNat l cs leads leads.length) else [])) (Ty.int (touchMay nm n l cs leads))) := by
 refine fn_intro0 Tryd.func13 rfl Tryd.ntmps13 (Nat.le_of_ble_eq_true rfl) (fun s0 a0 hle F0 ok0 hargs => ?_)
 have p0 : At (Ty.agg [(Ty.val (Value.string nm)), (Ty.int n), (Ty.lst Ty.ints l)]) s0 a0 (.tmp 0) := by have e := hargs 0 _ rfl; show Ty.has _ _ _; rw [e]; exact Ty.up _ hle hv0
 have p1 : At (Ty.lstc 2 callC cs) s0 a0 (.tmp 1) := by have e := hargs 1 _ rfl; show Ty.has _ _ _; rw [e]; exact Ty.up _ hle hv1
 have b1 := sl_le p1
 have p2 : At (Ty.lst Ty.int leads) s0 a0 (.tmp 2) := by have e := hargs 2 _ rfl; show Ty.has _ _ _; rw [e]; exact Ty.up _ hle hv2
 have b2 := sl_le p2
 clear hargs; refine wp_seq ?_
 refine rg a0 s0 [(Ty.ref [(Ty.val (Value.string nm)), (Ty.int n), (Ty.lst Ty.ints l)]), (Ty.val (Value.slice none 0 0)), (Ty.int (0 : Int))] ok0 ⟨?_, ?_, ?_, trivial⟩ ?_
 · intro A B G H I; exact rP (y_boxagg (kp (I 0 rfl) G p0))
 · intro A B G H I; exact rP (y_assign rfl)
 · intro A B G H I d0; exact rP (y_assign rfl)
 intro a1 s1 D1; have ok1 := D1.ok; have F1 := F0.step0 D1.stp; have q1 := D1.kt p1 rfl; have q2 := D1.kt p2 rfl; have q3 := D1.dn 0 rfl rfl; clear D1; refine tn ?_; refine wp_seq ?_; refine wp_seq ?_
 refine rg a1 s1 [(Ty.agg [(Ty.val (Value.string nm)), (Ty.int n), (Ty.lst Ty.ints l)]), (Ty.lstc 2 callC cs), (Ty.lst Ty.int leads), (Ty.int (touchMay nm n l cs leads)), (Ty.int (touchMay nm n l cs leads))] ok1 ⟨?_, ?_, ?_, ?_, ?_, trivial⟩ ?_
 · intro A B G H I; exact rP (y_loadagg Tryd.underlying24 Tryd.inf24 (kp (I 3 rfl) G q3))
 · intro A B G H I; exact rP (y_move (kp (I 1 rfl) G q1))
 · intro A B G H I; exact rP (y_move (kp (I 2 rfl) G q2))
 · intro A B G H I d0 d1 d2; exact rP (y_call #[A.eval (.tmp 14), A.eval (.tmp 15), A.eval (.tmp 16)] Tryd.func14 rfl rfl (by simp only [List.map_toArray, List.map_cons, List.map_nil]) (callMay_fn (nm) (n) (l) (cs) (leads) _ _ _ _ (ed d0 rfl rfl rfl) (ed d1 rfl rfl rfl) (ed d2 rfl rfl rfl) (by first | omega | assumption) (by first | omega | assumption)))
 · intro A B G H I d0 d1 d2 d3 d4 d5; exact rP (y_assign (ed d0 rfl rfl rfl))
 intro a2 s2 D2; have ok2 := D2.ok; have F2 := F1.step0 D2.stp; have q4 := D2.kt q1 rfl; have q5 := D2.kt q2 rfl; have q6 := D2.kt q3 rfl; have q7 := D2.dn 4 rfl rfl; clear D2; refine tn ?_; refine wp_seq ?_
 refine rg a2 s2 [(Ty.int (touchMay nm n l cs leads)), (Ty.bool (decide ((touchMay nm n l cs leads) ≠ (0 : Int))))] ok2 ⟨?_, ?_, trivial⟩ ?_
 · intro A B G H I; exact rP (y_move (kp (I 8 rfl) G q7))
 · intro A B G H I d0; exact rP (y_neq (ed d0 rfl rfl rfl) rfl)
 intro a3 s3 D3; have ok3 := D3.ok; have F3 := F2.step0 D3.stp; have q8 := D3.kt q4 rfl; have q9 := D3.kt q5 rfl; have q10 := D3.kt q6 rfl; have q11 := D3.kt q7 rfl; have q12 := D3.dn 1 rfl rfl; clear D3; refine tn ?_
 refine cond_p (p := ((touchMay nm n l cs leads) ≠ (0 : Int))) q12 (fun c1 => ?_) (fun c1 => ?_)
 ·
  refine wp_seq ?_
  refine rg a3 s3 [(Ty.int (touchMay nm n l cs leads)), (Ty.val (Value.slice none 0 0)), (Ty.int (touchMay nm n l cs leads))] ok3 ⟨?_, ?_, ?_, trivial⟩ ?_
  · intro A B G H I d0; exact rP (y_move (kp (I 8 rfl) G q11))
  · intro A B G H I d0; exact rP (y_assign rfl)
  · intro A B G H I d0 d1 d2 d3; exact rP (y_assign (ed d0 rfl rfl rfl))
  intro a4 s4 D4; have ok4 := D4.ok; have F4 := F3.step0 D4.stp; have q13 := D4.dn 1 rfl rfl; have q14 := D4.dn 2 rfl rfl; clear D4; refine tn ?_; refine wp_ret ?_; refine tr ?_
  exact retL2 rfl ok4 F4 (hasT2 (nil_lst (by (rw [if_neg c1])) q13) q14)
 ·
  have h0 := Classical.not_not.1 c1; obtain ⟨hok, hnn, hlo, hlh, hin, hlim⟩ := touchMay_ok h0; have hl1 := hok.meth.l1; have hl2 := hok.meth.l2; have hn1 := hok.meth.n1; have hn2 := hok.meth.n2
  refine wp_skip ?_; refine tn ?_; refine wp_seq ?_
  refine rg a3 s3 [(Ty.ref [(Ty.int n), (Ty.lst Ty.ints l)]), (Ty.int n), (Ty.tup2 (Ty.lst Ty.int (roundsL ((n).toNat))) (Ty.int (0 : Int))), (Ty.tup2 (Ty.lst Ty.int (roundsL ((n).toNat))) (Ty.int (0 : Int))), (Ty.lst Ty.int (roundsL ((n).toNat))), (Ty.int (0 : Int)), (Ty.lst Ty.int (roundsL ((n).toNat))), (Ty.int (0 : Int))] ok3 ⟨?_, ?_, ?_, ?_, ?_, ?_, ?_, ?_, trivial⟩ ?_
  · intro A B G H I; exact rP (y_field Tryd.fld24_1 Tryd.inf3 (by decide) (kp (I 3 rfl) G q10) rfl)
  · intro A B G H I d0; exact rP (y_load Tryd.underlying3 rfl (ed d0 rfl rfl rfl) rfl)
  · intro A B G H I d0; exact rP (y_call #[A.eval (.tmp 23)] Tryd.func34 rfl rfl (by simp only [List.map_toArray, List.map_cons, List.map_nil]) (rounds_fn ((n).toNat) _ _ (cvi (σ := B) (by omega) (ed d0 rfl rfl rfl)) (by omega)))
  · intro A B G H I d0; exact rP (y_move (ed d0 rfl rfl rfl))
  · intro A B G H I d0; exact rP (y_ext2_0 (ed d0 rfl rfl rfl))
  · intro A B G H I d0 d1; exact rP (y_ext2_1 (ed d0 rfl rfl rfl))
  · intro A B G H I d0 d1 d2 d3 d4 d5 d6 d7; exact rP (y_assign (ed d0 rfl rfl rfl))
  · intro A B G H I d0 d1 d2 d3 d4 d5 d6 d7 d8; exact rP (y_assign (ed d0 rfl rfl rfl))
  intro a5 s5 D5; have ok5 := D5.ok; have F5 := F3.step0 D5.stp; have q15 := D5.kt q8 rfl; have q16 := D5.kt q9 rfl; have q17 := D5.kt q10 rfl; have q18 := D5.dn 6 rfl rfl; clear D5; refine tn ?_; refine wp_seq ?_
  refine reg2 (a := a5) (σ := s5) rfl 2 (fun i_ => List.getD [(Ty.pr (Ty.lst Ty.int (roundsL ((n).toNat)))), (Pr.own 5 26 1 1 (List.map Ty.ints [(roundsL ((n).toNat))]))] i_ Pr.any) ok5 rfl (by decide) rfl ⟨?_, ?_, trivial⟩ ?_
  · intro A B G H I; exact rP (y_move (kp (I 9 rfl) G q18))
  · intro A B G H I d0; exact rP ((y_lit1 (k := 5) Tryd.underlying22 Tryd.inf26 rfl (one_sl) (ed d0 rfl rfl rfl)).mono (fun _ _ h => cvo (by simp) (by simp) h))
  intro a6 s6 D6; have ok6 := D6.ok; have F6 := F5.step0 D6.stp; have q19 := D6.kt q15 rfl; have q20 := D6.kt q16 rfl; have q21 := D6.kt q17 rfl
  obtain ⟨x1, hx1⟩ : ∃ x, a6.eval (.tmp 28) = x := ⟨_, rfl⟩
  have q22 : At (Ty.val x1) s6 a6 (.tmp 28) := hx1
  have o1 : Own s6 5 26 1 x1 1 (List.map Ty.ints [(roundsL ((n).toNat))]) := al2 (R := (Pr.own 5 26 1 1 (List.map Ty.ints [(roundsL ((n).toNat))]))) hx1 (D6.done 1 (by decide))
  clear D6
  refine tailL (L := []) (R := (fun v τ => Pr.has (Ty.pr (Ty.val x1)) τ v)) rfl rfl (by decide) ok6 (Yld.toL (y_assign q22)) (fun a7 s7 hs1 ok7 r1 sm1 => ?_)
  have F7 := F6.stepL hs1 (by decide); have q23 := kpL hs1 (by decide) (sm1 1 (by decide)) q19; have q24 := kpL hs1 (by decide) (sm1 2 (by decide)) q20; have q25 := kpL hs1 (by decide) (sm1 3 (by decide)) q21; have o2 := Own.keepL o1 hs1 (by decide) (by decide)
  have q26 : At (Ty.val x1) s7 a7 (.tmp 11) := r1
  clear r1; refine wpList_nil ?_; refine tn ?_; refine wp_seq ?_; refine wp_seq ?_
  refine rg a7 s7 [(Ty.lst Ty.int leads), (Ty.nat (List.length leads)), (Ty.int (0 : Int))] ok7 ⟨?_, ?_, ?_, trivial⟩ ?_
  · intro A B G H I; exact rP (y_move (kp (I 2 rfl) G q24))
  · intro A B G H I d0; exact rP (y_len Tryd.underlying26 (ed d0 rfl rfl rfl))
  · intro A B G H I; exact rP (y_move rfl)
  intro a8 s8 D7; have ok8 := D7.ok; have F8 := F7.step0 D7.stp; have q27 := D7.kt q23 rfl; have q28 := D7.kt q25 rfl; have q29 := D7.kt q26 rfl; have o3 := Own.k0 o2 D7.stp; have q30 := D7.dn 0 rfl rfl; have q31 := D7.dn 1 rfl rfl; have q32 := D7.dn 2 rfl rfl; clear D7; refine tn ?_; refine wp_block ?_
  refine loop (fun n1 a9 w1 => ∃ (t1 : GW) (k : Nat) (x11_0 : Value), t1.w = w1 ∧ FromL [] s0 t1 ∧ Ok 53 a9 ∧ At (Ty.nat k) t1 a9 (.tmp 31) ∧ At (Ty.val x11_0) t1 a9 (.tmp 11) ∧ At (Ty.lstc 2 callC cs) t1 a9 (.tmp 1) ∧ At (Ty.ref [(Ty.val (Value.string nm)), (Ty.int n), (Ty.lst Ty.ints l)]) t1 a9 (.tmp 3) ∧ At (Ty.lst Ty.int leads) t1 a9 (.tmp 29) ∧ At (Ty.nat (List.length leads)) t1 a9 (.tmp 30) ∧ Own t1 5 26 1 x11_0 (List.length (tRows n.toNat l cs leads k)) (List.map Ty.ints (tRows n.toNat l cs leads k)) ∧ (k ≤ leads.length) ∧ n1 = leads.length - k) (leads.length - (0)) ?_ ?_
  ·
   exact ⟨s8, 0, x1, rfl, F8, ok8, (cvi (by (first | rfl | omega | (simp_all; done) | (simp_all; omega))) q32), q29, q27, q28, q30, q31, (cvo (by (rfl)) (by (rfl)) o3), by omega, rfl⟩
  ·
   rintro n2 a10 w2 ⟨t2, k, x11_0, rfl, F9, ok9, q33, q34, q35, q36, q37, q38, o4, hk, rfl⟩
   have htl := tRows_len hok hin k hk
   refine wp_seq ?_
   refine reg (a := a10) (σ := t2) rfl (fun i_ => List.getD [(Ty.pr (Ty.bool (decide (((k : Nat) : Int) < (((List.length leads) : Nat) : Int)))))] i_ Pr.any) ok9 rfl ⟨?_, trivial⟩ ?_
   · intro A B G H I; exact rP (y_lss (kp (I 31 rfl) G q33) (kp (I 30 rfl) G q38))
   intro a11 s9 D8; have ok10 := D8.ok; have F10 := F9.step0 D8.stp; have q39 := D8.kt q33 rfl; have q40 := D8.kt q34 rfl; have q41 := D8.kt q35 rfl; have q42 := D8.kt q36 rfl; have q43 := D8.kt q37 rfl; have q44 := D8.kt q38 rfl; have o5 := Own.k0 o4 D8.stp; have q45 := D8.dn 0 rfl rfl; clear D8; refine tn ?_; refine wp_seq ?_
   refine cond_p (p := (((k : Nat) : Int) < (((List.length leads) : Nat) : Int))) q45 (fun c2 => ?_) (fun c2 => ?_)
   ·
    have hkl : k < leads.length := (by omega); obtain ⟨hk0, hkc⟩ := hin k hkl; obtain ⟨E, hE⟩ : ∃ E, E = leadE l cs leads k := ⟨_, rfl⟩; have hsh := hok.short (leads.getD k 0).toNat (by omega); obtain ⟨hHr, hHl⟩ := tHd_row hok hin k (by omega); have hR : ((tRows n.toNat l cs leads k).getD ((((((tRows n.toNat l cs leads k).length : Nat) : Int) - (1 : Int))).toNat) []) = tHd n.toNat l cs leads k := (by rw [htl, show ((((k * l.length + 1 : Nat) : Int) - (1 : Int))).toNat = k * l.length by omega]; exact tRows_last hok hin k (by omega)); have hRl : ((tRows n.toNat l cs leads k).getD ((((((tRows n.toNat l cs leads k).length : Nat) : Int) - (1 : Int))).toNat) []).length = n.toNat := (by rw [hR, hHl]); have hokE : ∀ j, j < E.length → okL 0 (E.getD j []) ((tRows n.toNat l cs leads k).getD ((((((tRows n.toNat l cs leads k).length : Nat) : Int) - (1 : Int))).toNat) []).length := (by rw [hRl, hE]; exact leadE_ok hok hin hkl); have hEl : E.length = l.length := (by rw [hE]; exact leadE_len hok hin hkl); have hfl := fromL_len (tHd n.toNat l cs leads k) E; have hfd : ((fromL (tHd n.toNat l cs leads k) E).drop 1).length = E.length := (by rw [List.length_drop, hfl]; omega); have hkm : k * l.length ≤ 400 * 200 := Nat.mul_le_mul (by omega) hl2
    refine wp_skip ?_; refine tn ?_; refine wp_seq ?_; refine wp_block ?_; refine wp_seq ?_
    refine rg a11 s9 [(Ty.ref [(Ty.int (leads.getD k 0))]), (Ty.int (leads.getD k 0)), (Ty.int (leads.getD k 0))] ok10 ⟨?_, ?_, ?_, trivial⟩ ?_
    · intro A B G H I; exact rP (y_index1 Tryd.underlying26 Tryd.inf3 (kp (I 29 rfl) G q43) (kp (I 31 rfl) G q39) (by omega) (lst_get Ty.int leads 0 k (by omega)))
    · intro A B G H I d0; exact rP (y_load Tryd.underlying3 rfl (ed d0 rfl rfl rfl) rfl)
    · intro A B G H I d0 d1 d2; exact rP (y_assign (ed d0 rfl rfl rfl))
    intro a12 s10 D9; have ok11 := D9.ok; have F11 := F10.step0 D9.stp; have q46 := D9.kt q39 rfl; have q47 := D9.kt q40 rfl; have q48 := D9.kt q41 rfl; have q49 := D9.kt q42 rfl; have q50 := D9.kt q43 rfl; have q51 := D9.kt q44 rfl; have o6 := Own.k0 o5 D9.stp; have q52 := D9.dn 2 rfl rfl; clear D9; refine tn ?_
    refine reg2 (a := a12) (σ := s10) rfl 15 (fun i_ => List.getD [(Ty.pr (Ty.val x11_0)), (Ty.pr (Ty.val x11_0)), (Ty.pr (Ty.val x11_0)), (Ty.pr (Ty.nat (List.length (tRows n.toNat l cs leads k)))), (Ty.pr (Ty.int ((((List.length (tRows n.toNat l cs leads k)) : Nat) : Int) - (1 : Int)))), (Ty.pr (Ty.val (cellPtr x11_0 (((((List.length (tRows n.toNat l cs leads k)) : Nat) : Int) - (1 : Int))).toNat))), (Ty.pr (Ty.lst Ty.int ((tRows n.toNat l cs leads k).getD (((((List.length (tRows n.toNat l cs leads k)) : Nat) : Int) - (1 : Int))).toNat []))), (Ty.pr (Ty.agg [(Ty.val (Value.string nm)), (Ty.int n), (Ty.lst Ty.ints l)])), (Ty.pr (Ty.lstc 2 callC cs)), (Ty.pr (Ty.int (leads.getD k 0))), (Ty.pr (Ty.ref [(Ty.val (Value.int .i32 ((cs.getD ((leads.getD k 0)).toNat D0)).1)), (Ty.lst Ty.ints ((cs.getD ((leads.getD k 0)).toNat D0)).2)])), (Ty.pr (Ty.agg [(Ty.val (Value.int .i32 ((cs.getD ((leads.getD k 0)).toNat D0)).1)), (Ty.lst Ty.ints ((cs.getD ((leads.getD k 0)).toNat D0)).2)])), (Ty.pr (Ty.lst Ty.ints E)), (Ty.pr (Ty.lst Ty.ints (fromL (tHd n.toNat l cs leads k) E))), (Ty.pr (Ty.lst Ty.ints ((fromL (tHd n.toNat l cs leads k) E).drop 1)))] i_ Pr.any) ok11 rfl (by decide) rfl ⟨?_, ?_, ?_, ?_, ?_, ?_, ?_, ?_, ?_, ?_, ?_, ?_, ?_, ?_, ?_, trivial⟩ ?_
    · intro A B G H I; exact rP (y_move (kp (I 11 rfl) G q47))
    · intro A B G H I; exact rP (y_move (kp (I 11 rfl) G q47))
    · intro A B G H I; exact rP (y_move (kp (I 11 rfl) G q47))
    · intro A B G H I d0; exact rP (own_len Tryd.underlying22 (al (R := (Pr.own 5 26 1 (List.length (tRows n.toNat l cs leads k)) (List.map Ty.ints (tRows n.toNat l cs leads k)))) (ed d0 rfl rfl rfl) (Own.k0 o6 G)))
    · intro A B G H I d0; exact rP (y_sub (ed d0 rfl rfl rfl) rfl (w64 (by omega) (by omega)))
    · intro A B G H I d0 d1; exact rP (own_index1 (i := ((((List.length (tRows n.toNat l cs leads k)) : Nat) : Int) - (1 : Int))) Tryd.underlying22 Tryd.inf26 (Own.k0 o6 G) (ed d0 rfl rfl rfl) (ed d1 rfl rfl rfl) (by omega) (by omega))
    · intro A B G H I d0; exact rP (own_load Tryd.underlying26 rfl (Own.k0 o6 G) (ed d0 rfl rfl rfl) (lst_get Ty.ints (tRows n.toNat l cs leads k) [] (((((List.length (tRows n.toNat l cs leads k)) : Nat) : Int) - (1 : Int))).toNat (by omega)))
    · intro A B G H I; exact rP (y_loadagg Tryd.underlying24 Tryd.inf24 (kp (I 3 rfl) G q49))
    · intro A B G H I; exact rP (y_move (kp (I 1 rfl) G q48))
    · intro A B G H I; exact rP (y_move (kp (I 13 rfl) G q52))
    · intro A B G H I d0 d1; exact rP (y_indexc (i := (leads.getD k 0)) D0 Tryd.underlying25 Tryd.inf50 (ed d0 rfl rfl rfl) (ed d1 rfl rfl rfl) (by omega) (by omega) (by decide) (fun _ => rfl))
    · intro A B G H I d0; exact rP (y_loadagg Tryd.underlying50 Tryd.inf50 (ed d0 rfl rfl rfl))
    · intro A B G H I d0 d1; exact rP ((y_call #[A.eval (.tmp 42), A.eval (.tmp 46)] Tryd.func36 rfl rfl (by simp only [List.map_toArray, List.map_cons, List.map_nil]) (changes_fn (nm) (n) (l) (((cs.getD ((leads.getD k 0)).toNat D0)).1) (((cs.getD ((leads.getD k 0)).toNat D0)).2) _ _ _ (ed d0 rfl rfl rfl) (ed d1 rfl rfl rfl) (by first | omega | assumption) (by first | omega | assumption) (by first | omega | assumption))).mono (fun τ _ h => cvt (σ := τ) (T := (Ty.lst Ty.ints (endsL l ((((cs.getD ((leads.getD k 0)).toNat D0)).1), (((cs.getD ((leads.getD k 0)).toNat D0)).2))))) (U := (Ty.lst Ty.ints E)) (by rw [hE]; rfl) h))
    · intro A B G H I d0 d1 d2; exact rP ((y_call #[A.eval (.tmp 41), A.eval (.tmp 47)] Tryd.func35 rfl rfl (by simp only [List.map_toArray, List.map_cons, List.map_nil]) (from_fn (((tRows n.toNat l cs leads k).getD (((((List.length (tRows n.toNat l cs leads k)) : Nat) : Int) - (1 : Int))).toNat [])) (E) _ _ _ (ed d0 rfl rfl rfl) (ed d1 rfl rfl rfl) (by first | omega | assumption) (by first | omega | assumption) (by first | omega | assumption))).mono (fun τ _ h => cvt (σ := τ) (T := (Ty.lst Ty.ints (fromL (((tRows n.toNat l cs leads k).getD (((((List.length (tRows n.toNat l cs leads k)) : Nat) : Int) - (1 : Int))).toNat [])) (E)))) (U := (Ty.lst Ty.ints (fromL (tHd n.toNat l cs leads k) E))) (by rw [hR]) h))
    · intro A B G H I d0; exact rP (y_drop Tryd.underlying22 Tryd.inf26 (ed d0 rfl rfl rfl) (toN (σ := B) rfl (by omega)) (by omega))
    intro a13 s11 D10; have ok12 := D10.ok; have F12 := F11.step0 D10.stp; have q53 := D10.kt q46 rfl; have q54 := D10.kt q47 rfl; have q55 := D10.kt q48 rfl; have q56 := D10.kt q49 rfl; have q57 := D10.kt q50 rfl; have q58 := D10.kt q51 rfl; have o7 := Own.k0 o6 D10.stp
    have q59 : At (Ty.val x11_0) s11 a13 (.tmp 35) := D10.done 0 (by decide)
    have q60 := D10.dn 14 (by decide) rfl rfl
    have b3 := sl_le q60
    clear D10
    refine tailL (L := [5]) (R := (fun v τ => Own τ 5 26 1 v ((List.length (tRows n.toNat l cs leads k)) + (List.length ((fromL (tHd n.toNat l cs leads k) E).drop 1))) ((List.map Ty.ints (tRows n.toNat l cs leads k)) ++ (List.map Ty.ints ((fromL (tHd n.toNat l cs leads k) E).drop 1))))) rfl rfl (by decide) ok12 (YldM.toL (m_append Tryd.underlying22 Tryd.inf26 (by decide) rfl (by decide) (al (R := (Pr.own 5 26 1 (List.length (tRows n.toNat l cs leads k)) (List.map Ty.ints (tRows n.toNat l cs leads k)))) q59 o7) q60 (one_map (fun _ => one_sl)) (by omega) (by omega))) (fun a14 s12 hs2 ok13 r2 sm2 => ?_)
    have F13 := F12.stepL hs2 (by decide); have q61 := kpL hs2 (by decide) (sm2 31 (by decide)) q53; have q62 := kpL hs2 (by decide) (sm2 11 (by decide)) q54; have q63 := kpL hs2 (by decide) (sm2 1 (by decide)) q55; have q64 := kpL hs2 (by decide) (sm2 3 (by decide)) q56; have q65 := kpL hs2 (by decide) (sm2 29 (by decide)) q57; have q66 := kpL hs2 (by decide) (sm2 30 (by decide)) q58
    obtain ⟨x2, hx2⟩ : ∃ x, a14.eval (.tmp 50) = x := ⟨_, rfl⟩
    have q67 : At (Ty.val x2) s12 a14 (.tmp 50) := hx2
    have o8 : Own s12 5 26 1 x2 (List.length ((tRows n.toNat l cs leads k) ++ ((fromL (tHd n.toNat l cs leads k) E).drop 1))) (List.map Ty.ints ((tRows n.toNat l cs leads k) ++ ((fromL (tHd n.toNat l cs leads k) E).drop 1))) := al2 (R := (Pr.own 5 26 1 (List.length ((tRows n.toNat l cs leads k) ++ ((fromL (tHd n.toNat l cs leads k) E).drop 1))) (List.map Ty.ints ((tRows n.toNat l cs leads k) ++ ((fromL (tHd n.toNat l cs leads k) E).drop 1))))) hx2 (cvo (by simp) (by first | (rw [List.map_append]; rfl) | simp) r2)
    clear r2
    refine tailL (L := []) (R := (fun v τ => Pr.has (Ty.pr (Ty.val x2)) τ v)) rfl rfl (by decide) ok13 (Yld.toL (y_assign q67)) (fun a15 s13 hs3 ok14 r3 sm3 => ?_)
    have F14 := F13.stepL hs3 (by decide); have q68 := kpL hs3 (by decide) (sm3 31 (by decide)) q61; have q69 := kpL hs3 (by decide) (sm3 1 (by decide)) q63; have q70 := kpL hs3 (by decide) (sm3 3 (by decide)) q64; have q71 := kpL hs3 (by decide) (sm3 29 (by decide)) q65; have q72 := kpL hs3 (by decide) (sm3 30 (by decide)) q66; have o9 := Own.keepL o8 hs3 (by decide) (by decide)
    have q73 : At (Ty.val x2) s13 a15 (.tmp 11) := r3
    clear r3; refine wpList_nil ?_; refine bn ?_; refine tn ?_
    refine rg a15 s13 [(Ty.nat (k + 1)), (Ty.nat (k + 1))] ok14 ⟨?_, ?_, trivial⟩ ?_
    · intro A B G H I; exact rP ((y_add (kp (I 31 rfl) G q68) rfl (w64 (by omega) (by omega))).mono (fun τ _ h => cvi (σ := τ) (by first | omega | exact (Int.natCast_mul _ _).symm) h))
    · intro A B G H I d0; exact rP (y_move (ed d0 rfl rfl rfl))
    intro a16 s14 D11; have ok15 := D11.ok; have F15 := F14.step0 D11.stp; have q74 := D11.kt q69 rfl; have q75 := D11.kt q70 rfl; have q76 := D11.kt q71 rfl; have q77 := D11.kt q72 rfl; have q78 := D11.kt q73 rfl; have o10 := Own.k0 o9 D11.stp; have q79 := D11.dn 1 rfl rfl; clear D11
    exact tn ⟨leads.length - ((k+1)), by omega, s14, (k+1), x2, rfl, F15, ok15, (cvi (by (first | rfl | omega | (simp_all; done) | (simp_all; omega))) q79), q78, q74, q75, q76, q77, (cvo (by (rw [tRows, ← hE])) (by (rw [tRows, ← hE])) o10), by omega, rfl⟩
   ·
    refine wp_exit ?_; refine tx ?_; refine tx ?_; refine bx ?_; refine tn ?_; refine wp_seq ?_
    refine rg a11 s9 [(Ty.val x11_0), (Ty.val x11_0), (Ty.int (0 : Int))] ok10 ⟨?_, ?_, ?_, trivial⟩ ?_
    · intro A B G H I; exact rP (y_move (kp (I 11 rfl) G q40))
    · intro A B G H I d0 d1; exact rP (y_assign (ed d0 rfl rfl rfl))
    · intro A B G H I d0 d1 d2; exact rP (y_assign rfl)
    intro a17 s15 D12; have ok16 := D12.ok; have F16 := F10.step0 D12.stp; have o11 := Own.k0 o5 D12.stp
    have q80 : At (Ty.val x11_0) s15 a17 (.tmp 6) := D12.done 1
    have q81 := D12.dn 2 rfl rfl; clear D12; refine tn ?_; refine wp_ret ?_
    obtain ⟨t3, e1, h1, q82⟩ := Own.seal o11 (by decide)
    rw [← e1]
    have F17 := F16.step h1 (by decide)
    have q83 : At (Ty.lst Ty.ints (tRows n.toNat l cs leads k)) t3 a17 (.tmp 6) := by have e : a17.eval (.tmp 6) = x11_0 := q80; show Ty.has _ _ _; rw [e]; exact q82
    have q84 := Ty.up (Ty.int (0 : Int)) (h1.le (by decide)) q81
    exact retL2 rfl ok16 F17 (hasT2 (cvt (by (rw [if_pos h0, show k = leads.length by omega])) q83) (cvi (by (exact h0.symm)) q84))


set_option maxRecDepth 100000 in
theorem rRounds_fn (n : Nat) (σ : GW) (v0 : Value) (hv0 : Ty.has (Ty.nat n) σ v0) (hn : n ≤ 1000000) :
    FnC Tryd.prog 37 #[v0] σ (Ty.lst Ty.int (roundsL n)) := by
 refine fn_intro Tryd.func37 rfl Tryd.ntmps37 (Nat.le_of_ble_eq_true rfl) (fun s0 a0 hle F0 ok0 hargs => ?_)
 have p0 : At (Ty.nat n) s0 a0 (.tmp 0) := by have e := hargs 0 _ rfl; show Ty.has _ _ _; rw [e]; exact Ty.up _ hle hv0
 clear hargs; refine wp_seq ?_
 refine rg a0 s0 [(Ty.val (Value.slice none 0 0))] ok0 ⟨?_, trivial⟩ ?_
 · intro A B G H I; exact rP (y_assign rfl)
 intro a1 s1 D1; have ok1 := D1.ok; have F1 := F0.step0 D1.stp; have q1 := D1.kt p0 rfl; clear D1; refine tn ?_; refine wp_seq ?_
 refine rg a1 s1 [(Ty.val (Value.slice none 0 0))] ok1 ⟨?_, trivial⟩ ?_
 · intro A B G H I; exact rP (y_assign rfl)
 intro a2 s2 D2; have ok2 := D2.ok; have F2 := F1.step0 D2.stp; have q2 := D2.kt q1 rfl; have q3 := D2.dn 0 rfl rfl; clear D2; refine tn ?_; refine wp_seq ?_; refine wp_seq ?_
 refine rg a2 s2 [(Ty.int (0 : Int))] ok2 ⟨?_, trivial⟩ ?_
 · intro A B G H I; exact rP (y_assign rfl)
 intro a3 s3 D3; have ok3 := D3.ok; have F3 := F2.step0 D3.stp; have q4 := D3.kt q2 rfl; have q5 := D3.kt q3 rfl; have q6 := D3.dn 0 rfl rfl; clear D3; refine tn ?_; refine wp_block ?_
 refine loop (fun n1 a4 w1 => ∃ (t1 : GW) (k : Nat), t1.w = w1 ∧ From s0 t1 ∧ Ok 15 a4 ∧ (Pr.own 2 3 1 (List.length (roundsL k)) (List.map Ty.int (roundsL k))).has t1 (a4.eval (.tmp 3)) ∧ At (Ty.nat k) t1 a4 (.tmp 4) ∧ At (Ty.nat n) t1 a4 (.tmp 0) ∧ (k ≤ n) ∧ n1 = n - k) (n - (0)) ?_ ?_
 ·
  exact ⟨s3, 0, rfl, F3, ok3, (by have e : a3.eval (.tmp 3) = _ := q5; rw [e]; exact Own.nil _ _ _ _), (cvi (by (first | rfl | omega | (simp_all; done) | (simp_all; omega))) q6), q4, by omega, rfl⟩
 ·
  rintro n2 a5 w2 ⟨t2, k, rfl, F4, ok4, q7, q8, q9, hk, rfl⟩
  have hp := roundsL_len k
  refine wp_seq ?_; refine wp_seq ?_
  refine reg (a := a5) (σ := t2) rfl (fun i_ => List.getD [(Ty.pr (Ty.nat k)), (Ty.pr (Ty.nat n)), (Ty.pr (Ty.bool (decide (((k : Nat) : Int) < ((n : Nat) : Int)))))] i_ Pr.any) ok4 rfl ⟨?_, ?_, ?_, trivial⟩ ?_
  · intro A B G H I; exact rP (y_move (kp (I 4 rfl) G q8))
  · intro A B G H I; exact rP (y_move (kp (I 0 rfl) G q9))
  · intro A B G H I d0 d1; exact rP (y_lss (ed d0 rfl rfl rfl) (ed d1 rfl rfl rfl))
  intro a6 s4 D4; have ok5 := D4.ok; have F5 := F4.step0 D4.stp
  have q10 : (Pr.own 2 3 1 (List.length (roundsL k)) (List.map Ty.int (roundsL k))).has s4 (a6.eval (.tmp 3)) := D4.ko q7 rfl
  have q11 := D4.kt q8 rfl; have q12 := D4.kt q9 rfl; have q13 := D4.dn 2 rfl rfl; clear D4; refine tn ?_
  refine cond_p (p := (((k : Nat) : Int) < ((n : Nat) : Int))) q13 (fun c1 => ?_) (fun c1 => ?_)
  ·
   refine wp_skip ?_; refine tn ?_; refine wp_seq ?_; refine wp_block ?_
   refine reg2 (a := a6) (σ := s4) rfl 3 (fun i_ => List.getD [(Ty.pr (Ty.val (a6.eval (.tmp 3)))), (Ty.pr (Ty.nat k)), (Ty.pr (Ty.sl 1 1 [(Ty.nat k)]))] i_ Pr.any) ok5 rfl (by decide) rfl ⟨?_, ?_, ?_, trivial⟩ ?_
   · intro A B G H I; exact rP (y_move (I 3 rfl))
   · intro A B G H I; exact rP (y_move (kp (I 4 rfl) G q11))
   · intro A B G H I d0; exact rP (y_build1o Tryd.underlying26 Tryd.inf3 rfl (one_val rfl) (ed d0 rfl rfl rfl))
   intro a7 s5 D5; have ok6 := D5.ok; have F6 := F5.step0 D5.stp; have q14 := (Pr.own 2 3 1 (List.length (roundsL k)) (List.map Ty.int (roundsL k))).up D5.stp q10
   have q15 : a7.eval (.tmp 3) = a6.eval (.tmp 3) := D5.same 3 rfl
   have q16 := D5.kt q11 rfl; have q17 := D5.kt q12 rfl; have q18 := D5.dn 0 (by decide) rfl rfl; have q19 := D5.dn 2 (by decide) rfl rfl; clear D5
   refine tail_step (m := 2) (R := (fun v τ => Own τ 2 3 1 v ((List.length (roundsL k)) + 1) ((List.map Ty.int (roundsL k)) ++ [(Ty.nat k)]))) rfl rfl (by decide) ok6 (m_append Tryd.underlying26 Tryd.inf3 (by decide) rfl (by decide) (al q18 q14) q19 (by intro U hU; simp at hU;  subst hU; exact one_val rfl) (by omega) (by omega)) (fun a8 s6 hs1 ok7 r1 sm1 => ?_)
   have F7 := F6.step hs1 (by decide)
   have q20 : At (Ty.nat k) s6 a8 (.tmp 4) := kpm hs1 (by decide) (sm1 4 (by decide)) q16
   have q21 : At (Ty.nat n) s6 a8 (.tmp 0) := kpm hs1 (by decide) (sm1 0 (by decide)) q17
   have q22 : At (Ty.sl 1 1 [(Ty.nat k)]) s6 a8 (.tmp 12) := kpm hs1 (by decide) (sm1 12 (by decide)) q19
   have q23 : (Pr.own 2 3 1 (List.length ((roundsL k) ++ [((k : Nat) : Int)])) (List.map Ty.int ((roundsL k) ++ [((k : Nat) : Int)]))).has s6 (a8.eval (.tmp 13)) := (cvo (by simp) (by first | (rw [List.map_append]; rfl) | simp) r1)
   refine tail_step (m := 0) (R := (fun v τ => Pr.has (Pr.own 2 3 1 (List.length ((roundsL k) ++ [((k : Nat) : Int)])) (List.map Ty.int ((roundsL k) ++ [((k : Nat) : Int)]))) τ v)) rfl rfl (by decide) ok7 (Yld.toM (y_assign q23)) (fun a9 s7 hs2 ok8 r2 sm2 => ?_)
   have F8 := F7.step hs2 (by decide)
   have q24 : At (Ty.nat k) s7 a9 (.tmp 4) := kpm hs2 (by decide) (sm2 4 (by decide)) q20
   have q25 : At (Ty.nat n) s7 a9 (.tmp 0) := kpm hs2 (by decide) (sm2 0 (by decide)) q21
   have q26 : At (Ty.sl 1 1 [(Ty.nat k)]) s7 a9 (.tmp 12) := kpm hs2 (by decide) (sm2 12 (by decide)) q22
   have q27 : (Pr.own 2 3 1 (List.length ((roundsL k) ++ [((k : Nat) : Int)])) (List.map Ty.int ((roundsL k) ++ [((k : Nat) : Int)]))).has s7 (a9.eval (.tmp 13)) := kpmo hs2 (by decide) (.inl rfl) (sm2 13 (by decide)) q23
   have q28 : (Pr.own 2 3 1 (List.length ((roundsL k) ++ [((k : Nat) : Int)])) (List.map Ty.int ((roundsL k) ++ [((k : Nat) : Int)]))).has s7 (a9.eval (.tmp 3)) := r2
   refine wpList_nil ?_; refine bn ?_; refine tn ?_
   refine rg a9 s7 [(Ty.nat k), (Ty.int (((k : Nat) : Int) + (1 : Int))), (Ty.int (((k : Nat) : Int) + (1 : Int)))] ok8 ⟨?_, ?_, ?_, trivial⟩ ?_
   · intro A B G H I; exact rP (y_move (kp (I 4 rfl) G q24))
   · intro A B G H I d0; exact rP (y_add (ed d0 rfl rfl rfl) rfl (w64 (by omega) (by omega)))
   · intro A B G H I d0 d1 d2; exact rP (y_assign (ed d0 rfl rfl rfl))
   intro a10 s8 D6; have ok9 := D6.ok; have F9 := F8.step0 D6.stp; have q29 := D6.kt q25 rfl
   have q30 : (Pr.own 2 3 1 (List.length ((roundsL k) ++ [((k : Nat) : Int)])) (List.map Ty.int ((roundsL k) ++ [((k : Nat) : Int)]))).has s8 (a10.eval (.tmp 3)) := D6.ko q28 rfl
   have q31 := D6.dn 2 rfl rfl; clear D6
   exact tn ⟨n - ((k+1)), by omega, s8, (k+1), rfl, F9, ok9, (cvo (by (rw [roundsL_succ k])) (by (rw [roundsL_succ k])) q30), (cvi (by (first | rfl | omega | (simp_all; done) | (simp_all; omega))) q31), q29, by omega, rfl⟩
  ·
   refine wp_exit ?_; refine tx ?_; refine tx ?_; refine bx ?_; refine tn ?_; refine wp_seq ?_
   refine rg a6 s4 [(Ty.val (a6.eval (.tmp 3))), (Ty.val (a6.eval (.tmp 3)))] ok5 ⟨?_, ?_, trivial⟩ ?_
   · intro A B G H I; exact rP (y_move (I 3 rfl))
   · intro A B G H I d0 d1; exact rP (y_assign (ed d0 rfl rfl rfl))
   intro a11 s9 D7; have ok10 := D7.ok; have F10 := F5.step0 D7.stp
   have q32 : (Pr.own 2 3 1 (List.length (roundsL k)) (List.map Ty.int (roundsL k))).has s9 (a11.eval (.tmp 2)) := al (show _ = _ from D7.done 1) ((Pr.own 2 3 1 (List.length (roundsL k)) (List.map Ty.int (roundsL k))).up D7.stp q10)
   clear D7; refine tn ?_; refine wp_ret ?_
   obtain ⟨t3, e1, h1, q33⟩ := Own.seal q32 (by decide)
   rw [← e1]
   have F11 := F10.step h1 (by decide)
   exact ret1 rfl ok10 F11 (cvt (by (obtain rfl : k = n := (by omega); rfl)) q33)


set_option maxHeartbeats 4000000 in
set_option maxRecDepth 100000 in
theorem rEnds_fn (nm : ByteArray) (n : Int) (l : List (List Int)) (sx : Int) (lx : List (List Int)) (σ : GW)  (v0 v1 : Value) (hv0 : Ty.has (Ty.agg [(Ty.val (Value.string nm)), (Ty.int n), (Ty.lst Ty.ints l)]) σ v0) (hv1 : Ty.has (Ty.agg [(Ty.val (Value.int .i32 sx)), (Ty.lst Ty.ints lx)]) σ v1)  (hx : lx.length ≤ l.length) (hl2 : l.length ≤ 200) :
    FnC Tryd.prog 39 #[v0, v1] σ (Ty.lst Ty.ints (endsL l (sx, lx))) := by
 have htk : (List.take (l.length - lx.length) l).length = l.length - lx.length := by rw [List.length_take]; omega
 refine fn_intro0 Tryd.func39 rfl Tryd.ntmps39 (Nat.le_of_ble_eq_true rfl) (fun s0 a0 hle F0 ok0 hargs => ?_)
 have p0 : At (Ty.agg [(Ty.val (Value.string nm)), (Ty.int n), (Ty.lst Ty.ints l)]) s0 a0 (.tmp 0) := by have e := hargs 0 _ rfl; show Ty.has _ _ _; rw [e]; exact Ty.up _ hle hv0
 have p1 : At (Ty.agg [(Ty.val (Value.int .i32 sx)), (Ty.lst Ty.ints lx)]) s0 a0 (.tmp 1) := by have e := hargs 1 _ rfl; show Ty.has _ _ _; rw [e]; exact Ty.up _ hle hv1
 clear hargs; refine wp_seq ?_
 refine rg a0 s0 [(Ty.ref [(Ty.val (Value.string nm)), (Ty.int n), (Ty.lst Ty.ints l)]), (Ty.ref [(Ty.val (Value.int .i32 sx)), (Ty.lst Ty.ints lx)]), (Ty.val (Value.slice none 0 0))] ok0 ⟨?_, ?_, ?_, trivial⟩ ?_
 · intro A B G H I; exact rP (y_boxagg (kp (I 0 rfl) G p0))
 · intro A B G H I; exact rP (y_boxagg (kp (I 1 rfl) G p1))
 · intro A B G H I; exact rP (y_assign rfl)
 intro a1 s1 D1; have ok1 := D1.ok; have F1 := F0.step0 D1.stp; have q1 := D1.dn 0 rfl rfl; have q2 := D1.dn 1 rfl rfl; clear D1; refine tn ?_; refine wp_seq ?_
 refine rg a1 s1 [(Ty.ref [(Ty.lst Ty.ints l)]), (Ty.lst Ty.ints l), (Ty.nat (List.length l)), (Ty.ref [(Ty.lst Ty.ints lx)]), (Ty.lst Ty.ints lx), (Ty.nat (List.length lx)), (Ty.nat ((List.length l) - (List.length lx))), (Ty.nat ((List.length l) - (List.length lx)))] ok1 ⟨?_, ?_, ?_, ?_, ?_, ?_, ?_, ?_, trivial⟩ ?_
 · intro A B G H I; exact rP (y_field Tryd.fld24_2 Tryd.inf22 (by decide) (kp (I 2 rfl) G q1) rfl)
 · intro A B G H I d0; exact rP (y_load Tryd.underlying22 rfl (ed d0 rfl rfl rfl) rfl)
 · intro A B G H I d0; exact rP (y_len Tryd.underlying22 (ed d0 rfl rfl rfl))
 · intro A B G H I; exact rP (y_field Tryd.fld50_1 Tryd.inf22 (by decide) (kp (I 3 rfl) G q2) rfl)
 · intro A B G H I d0; exact rP (y_load Tryd.underlying22 rfl (ed d0 rfl rfl rfl) rfl)
 · intro A B G H I d0; exact rP (y_len Tryd.underlying22 (ed d0 rfl rfl rfl))
 · intro A B G H I d0 d1; exact rP ((y_sub (ed d0 rfl rfl rfl) (ed d1 rfl rfl rfl) (w64 (by omega) (by omega))).mono (fun τ _ h => cvi (σ := τ) (by omega) h))
 · intro A B G H I d0 d1 d2 d3 d4 d5 d6 d7; exact rP (y_assign (ed d0 rfl rfl rfl))
 intro a2 s2 D2; have ok2 := D2.ok; have F2 := F1.step0 D2.stp; have q3 := D2.kt q1 rfl; have q4 := D2.kt q2 rfl; have q5 := D2.dn 7 rfl rfl; clear D2; refine tn ?_; refine wp_seq ?_
 refine reg2 (a := a2) (σ := s2) rfl 8 (fun i_ => List.getD [(Pr.own0 7 26), (Ty.pr (Ty.ref [(Ty.lst Ty.ints l)])), (Ty.pr (Ty.lst Ty.ints l)), (Ty.pr (Ty.nat ((List.length l) - (List.length lx)))), (Ty.pr (Ty.lst Ty.ints (l.take ((List.length l) - (List.length lx))))), (Pr.own 7 26 1 (List.length (l.take ((List.length l) - (List.length lx)))) (List.map Ty.ints (l.take ((List.length l) - (List.length lx))))), (Ty.pr (Ty.ref [(Ty.lst Ty.ints lx)])), (Ty.pr (Ty.lst Ty.ints lx))] i_ Pr.any) ok2 rfl (by decide) rfl ⟨?_, ?_, ?_, ?_, ?_, ?_, ?_, ?_, trivial⟩ ?_
 · intro A B G H I; exact rP (y_lit00 (k := 7) Tryd.underlying22 Tryd.inf26)
 · intro A B G H I; exact rP (y_field Tryd.fld24_2 Tryd.inf22 (by decide) (kp (I 2 rfl) G q3) rfl)
 · intro A B G H I d0; exact rP (y_load Tryd.underlying22 rfl (ed d0 rfl rfl rfl) rfl)
 · intro A B G H I; exact rP (y_move (kp (I 5 rfl) G q5))
 · intro A B G H I d0 d1; exact rP (y_take Tryd.underlying22 Tryd.inf26 (ed d0 rfl rfl rfl) (ed d1 rfl rfl rfl) (by omega))
 · intro A B G H I d0 d1
   have e0 : (Pr.own0 7 26).has B (A.eval (.tmp 13)) := d0 rfl
   exact rP (y_append0 Tryd.underlying22 Tryd.inf26 (by decide) rfl e0 (ed d1 rfl rfl rfl) (one_map (fun _ => one_sl)) (by omega) (by omega))
 · intro A B G H I; exact rP (y_field Tryd.fld50_1 Tryd.inf22 (by decide) (kp (I 3 rfl) G q4) rfl)
 · intro A B G H I d0; exact rP (y_load Tryd.underlying22 rfl (ed d0 rfl rfl rfl) rfl)
 intro a3 s3 D3; have ok3 := D3.ok; have F3 := F2.step0 D3.stp
 obtain ⟨x1, hx1⟩ : ∃ x, a3.eval (.tmp 18) = x := ⟨_, rfl⟩
 have q6 : At (Ty.val x1) s3 a3 (.tmp 18) := hx1
 have o1 : Own s3 7 26 1 x1 (List.length (l.take ((List.length l) - (List.length lx)))) (List.map Ty.ints (l.take ((List.length l) - (List.length lx)))) := al2 (R := (Pr.own 7 26 1 (List.length (l.take ((List.length l) - (List.length lx)))) (List.map Ty.ints (l.take ((List.length l) - (List.length lx)))))) hx1 (D3.done 5 (by decide))
 have q7 := D3.dn 7 (by decide) rfl rfl
 have b1 := sl_le q7
 clear D3
 refine tailL (L := [7]) (R := (fun v τ => Own τ 7 26 1 v ((List.length (l.take ((List.length l) - (List.length lx)))) + (List.length lx)) ((List.map Ty.ints (l.take ((List.length l) - (List.length lx)))) ++ (List.map Ty.ints lx)))) rfl rfl (by decide) ok3 (YldM.toL (m_append Tryd.underlying22 Tryd.inf26 (by decide) rfl (by decide) (al (R := (Pr.own 7 26 1 (List.length (l.take ((List.length l) - (List.length lx)))) (List.map Ty.ints (l.take ((List.length l) - (List.length lx)))))) q6 o1) q7 (one_map (fun _ => one_sl)) (by omega) (by omega))) (fun a4 s4 hs1 ok4 r1 sm1 => ?_)
 have F4 := F3.stepL hs1 (by decide)
 obtain ⟨x2, hx2⟩ : ∃ x, a4.eval (.tmp 21) = x := ⟨_, rfl⟩
 have q8 : At (Ty.val x2) s4 a4 (.tmp 21) := hx2
 have o2 : Own s4 7 26 1 x2 (List.length ((l.take ((List.length l) - (List.length lx))) ++ lx)) (List.map Ty.ints ((l.take ((List.length l) - (List.length lx))) ++ lx)) := al2 (R := (Pr.own 7 26 1 (List.length ((l.take ((List.length l) - (List.length lx))) ++ lx)) (List.map Ty.ints ((l.take ((List.length l) - (List.length lx))) ++ lx)))) hx2 (cvo (by simp) (by first | (rw [List.map_append]; rfl) | simp) r1)
 clear r1
 refine tailL (L := []) (R := (fun v τ => Pr.has (Ty.pr (Ty.val x2)) τ v)) rfl rfl (by decide) ok4 (Yld.toL (y_assign q8)) (fun a5 s5 hs2 ok5 r2 sm2 => ?_)
 have F5 := F4.stepL hs2 (by decide); have o3 := Own.keepL o2 hs2 (by decide) (by decide)
 have q9 : At (Ty.val x2) s5 a5 (.tmp 4) := r2
 clear r2; refine wpList_nil ?_; refine tn ?_; refine wp_ret ?_
 obtain ⟨t1, e1, h1, q10⟩ := Own.seal o3 (by decide)
 rw [← e1]
 have F6 := F5.step h1 (by decide)
 have q11 : At (Ty.lst Ty.ints ((l.take ((List.length l) - (List.length lx))) ++ lx)) t1 a5 (.tmp 4) := by have e : a5.eval (.tmp 4) = x2 := q9; show Ty.has _ _ _; rw [e]; exact q10
 exact retL1 rfl ok5 F6 (cvt (by (first | rfl | omega | (simp_all; done) | (simp_all; omega))) q11)


set_option maxRecDepth 100000 in
theorem rIsIn_fn (xs : List Int) (x : Int) (σ : GW) (v0 v1 : Value) (hv0 : Ty.has (Ty.lst Ty.int xs) σ v0) (hv1 : Ty.has (Ty.int x) σ v1)  :
    FnC Tryd.prog 66 #[v0, v1] σ (Ty.bool (decide (x ∈ xs))) := by
 refine fn_intro Tryd.func66 rfl Tryd.ntmps66 (Nat.le_of_ble_eq_true rfl) (fun s0 a0 hle F0 ok0 hargs => ?_)
 have p0 : At (Ty.lst Ty.int xs) s0 a0 (.tmp 0) := by have e := hargs 0 _ rfl; show Ty.has _ _ _; rw [e]; exact Ty.up _ hle hv0
 have b1 := sl_le p0
 have p1 : At (Ty.int x) s0 a0 (.tmp 1) := by have e := hargs 1 _ rfl; show Ty.has _ _ _; rw [e]; exact Ty.up _ hle hv1
 clear hargs; refine wp_seq ?_
 refine rg a0 s0 [(Ty.bool false)] ok0 ⟨?_, trivial⟩ ?_
 · intro A B G H I; exact rP (y_assign rfl)
 intro a1 s1 D1; have ok1 := D1.ok; have F1 := F0.step0 D1.stp; have q1 := D1.kt p0 rfl; have q2 := D1.kt p1 rfl; clear D1; refine tn ?_; refine wp_seq ?_; refine wp_seq ?_
 refine rg a1 s1 [(Ty.int (0 : Int))] ok1 ⟨?_, trivial⟩ ?_
 · intro A B G H I; exact rP (y_assign rfl)
 intro a2 s2 D2; have ok2 := D2.ok; have F2 := F1.step0 D2.stp; have q3 := D2.kt q1 rfl; have q4 := D2.kt q2 rfl; have q5 := D2.dn 0 rfl rfl; clear D2; refine tn ?_; refine wp_block ?_
 refine loop (fun n1 a3 w1 => ∃ (t1 : GW) (k : Nat), t1.w = w1 ∧ From s0 t1 ∧ Ok 18 a3 ∧ At (Ty.nat k) t1 a3 (.tmp 5) ∧ At (Ty.lst Ty.int xs) t1 a3 (.tmp 0) ∧ At (Ty.int x) t1 a3 (.tmp 1) ∧ (k ≤ xs.length) ∧ (∀ j, j < k → xs.getD j 0 ≠ x) ∧ n1 = xs.length - k) (xs.length - (0)) ?_ ?_
 ·
  exact ⟨s2, 0, rfl, F2, ok2, (cvi (by (first | rfl | omega | (simp_all; done) | (simp_all; omega))) q5), q3, q4, by omega, fun j hj => absurd hj (Nat.not_lt_zero j), rfl⟩
 ·
  rintro n2 a4 w2 ⟨t2, k, rfl, F3, ok3, q6, q7, q8, hk, hno, rfl⟩
  refine wp_seq ?_; refine wp_seq ?_
  refine reg (a := a4) (σ := t2) rfl (fun i_ => List.getD [(Ty.pr (Ty.nat k)), (Ty.pr (Ty.lst Ty.int xs)), (Ty.pr (Ty.nat (List.length xs))), (Ty.pr (Ty.bool (decide (((k : Nat) : Int) < (((List.length xs) : Nat) : Int)))))] i_ Pr.any) ok3 rfl ⟨?_, ?_, ?_, ?_, trivial⟩ ?_
  · intro A B G H I; exact rP (y_move (kp (I 5 rfl) G q6))
  · intro A B G H I; exact rP (y_move (kp (I 0 rfl) G q7))
  · intro A B G H I d0; exact rP (y_len Tryd.underlying26 (ed d0 rfl rfl rfl))
  · intro A B G H I d0 d1; exact rP (y_lss (ed d0 rfl rfl rfl) (ed d1 rfl rfl rfl))
  intro a5 s3 D3; have ok4 := D3.ok; have F4 := F3.step0 D3.stp; have q9 := D3.kt q6 rfl; have q10 := D3.kt q7 rfl; have q11 := D3.kt q8 rfl; have q12 := D3.dn 3 rfl rfl; clear D3; refine tn ?_
  refine cond_p (p := (((k : Nat) : Int) < (((List.length xs) : Nat) : Int))) q12 (fun c1 => ?_) (fun c1 => ?_)
  ·
   refine wp_skip ?_; refine tn ?_; refine wp_seq ?_; refine wp_block ?_; refine wp_seq ?_
   refine rg a5 s3 [(Ty.lst Ty.int xs), (Ty.nat k), (Ty.ref [(Ty.int (xs.getD k 0))]), (Ty.int (xs.getD k 0)), (Ty.int x), (Ty.bool (decide ((xs.getD k 0) = x)))] ok4 ⟨?_, ?_, ?_, ?_, ?_, ?_, trivial⟩ ?_
   · intro A B G H I; exact rP (y_move (kp (I 0 rfl) G q10))
   · intro A B G H I; exact rP (y_move (kp (I 5 rfl) G q9))
   · intro A B G H I d0 d1; exact rP (y_index1 Tryd.underlying26 Tryd.inf3 (ed d0 rfl rfl rfl) (ed d1 rfl rfl rfl) (by omega) (lst_get Ty.int xs 0 k (by omega)))
   · intro A B G H I d0; exact rP (y_load Tryd.underlying3 rfl (ed d0 rfl rfl rfl) rfl)
   · intro A B G H I; exact rP (y_move (kp (I 1 rfl) G q11))
   · intro A B G H I d0 d1; exact rP (y_eql (ed d0 rfl rfl rfl) (ed d1 rfl rfl rfl))
   intro a6 s4 D4; have ok5 := D4.ok; have F5 := F4.step0 D4.stp; have q13 := D4.kt q9 rfl; have q14 := D4.kt q10 rfl; have q15 := D4.kt q11 rfl; have q16 := D4.dn 5 rfl rfl; clear D4; refine tn ?_
   refine cond_p (p := ((xs.getD k 0) = x)) q16 (fun c2 => ?_) (fun c2 => ?_)
   ·
    refine wp_seq ?_
    refine rg a6 s4 [(Ty.bool true)] ok5 ⟨?_, trivial⟩ ?_
    · intro A B G H I; exact rP (y_assign rfl)
    intro a7 s5 D5; have ok6 := D5.ok; have F6 := F5.step0 D5.stp; have q17 := D5.dn 0 rfl rfl; clear D5; refine tn ?_; refine wp_ret ?_; refine br ?_; refine tr ?_; refine tr ?_; refine br ?_; refine tr ?_
    exact ret1 rfl ok6 F6 (cvb (by (exact (decide_eq_true (mem_at (by omega) c2)).symm)) q17)
   ·
    refine wp_skip ?_; refine bn ?_; refine tn ?_
    refine rg a6 s4 [(Ty.nat k), (Ty.int (((k : Nat) : Int) + (1 : Int))), (Ty.int (((k : Nat) : Int) + (1 : Int)))] ok5 ⟨?_, ?_, ?_, trivial⟩ ?_
    · intro A B G H I; exact rP (y_move (kp (I 5 rfl) G q13))
    · intro A B G H I d0; exact rP (y_add (ed d0 rfl rfl rfl) rfl (w64 (by omega) (by omega)))
    · intro A B G H I d0 d1 d2; exact rP (y_assign (ed d0 rfl rfl rfl))
    intro a8 s6 D6; have ok7 := D6.ok; have F7 := F5.step0 D6.stp; have q18 := D6.kt q14 rfl; have q19 := D6.kt q15 rfl; have q20 := D6.dn 2 rfl rfl; clear D6
    exact tn ⟨xs.length - ((k+1)), by omega, s6, (k+1), rfl, F7, ok7, (cvi (by (first | rfl | omega | (simp_all; done) | (simp_all; omega))) q20), q18, q19, by omega, fun j hj => by (by_cases e : j = k; subst e; exact c2; exact hno j (by omega)), rfl⟩
  ·
   refine wp_exit ?_; refine tx ?_; refine tx ?_; refine bx ?_; refine tn ?_; refine wp_seq ?_
   refine rg a5 s3 [(Ty.bool false)] ok4 ⟨?_, trivial⟩ ?_
   · intro A B G H I; exact rP (y_assign rfl)
   intro a9 s7 D7; have ok8 := D7.ok; have F8 := F4.step0 D7.stp; have q21 := D7.dn 0 rfl rfl; clear D7; refine tn ?_; refine wp_ret ?_
   exact ret1 rfl ok8 F8 (cvb (by (exact (decide_eq_false (not_mem_all (fun j hj => hno j (by omega)))).symm)) q21)


set_option maxRecDepth 100000 in
theorem rChangeRow_fn (n : Nat) (l : List Int) (σ : GW) (v0 v1 : Value) (hv0 : Ty.has (Ty.nat n) σ v0) (hv1 : Ty.has (Ty.lst Ty.int l) σ v1) (hn : n ≤ 100) :
    FnC Tryd.prog 54 #[v0, v1] σ (Ty.lst Ty.int (chgRow n l)) := by
 refine fn_intro Tryd.func54 rfl Tryd.ntmps54 (Nat.le_of_ble_eq_true rfl) (fun s0 a0 hle F0 ok0 hargs => ?_)
 have p0 : At (Ty.nat n) s0 a0 (.tmp 0) := by have e := hargs 0 _ rfl; show Ty.has _ _ _; rw [e]; exact Ty.up _ hle hv0
 have p1 : At (Ty.lst Ty.int l) s0 a0 (.tmp 1) := by have e := hargs 1 _ rfl; show Ty.has _ _ _; rw [e]; exact Ty.up _ hle hv1
 have b1 := sl_le p1
 clear hargs; refine wp_seq ?_
 refine rg a0 s0 [(Ty.val (Value.slice none 0 0))] ok0 ⟨?_, trivial⟩ ?_
 · intro A B G H I; exact rP (y_assign rfl)
 intro a1 s1 D1; have ok1 := D1.ok; have F1 := F0.step0 D1.stp; have q1 := D1.kt p0 rfl; have q2 := D1.kt p1 rfl; clear D1; refine tn ?_; refine wp_seq ?_
 refine rg a1 s1 [(Ty.val (Value.slice none 0 0))] ok1 ⟨?_, trivial⟩ ?_
 · intro A B G H I; exact rP (y_assign rfl)
 intro a2 s2 D2; have ok2 := D2.ok; have F2 := F1.step0 D2.stp; have q3 := D2.kt q1 rfl; have q4 := D2.kt q2 rfl; have q5 := D2.dn 0 rfl rfl; clear D2; refine tn ?_; refine wp_seq ?_; refine wp_block ?_
 refine loop (fun n1 a3 w1 => ∃ (t1 : GW) (xs : List Int) (f : Nat), t1.w = w1 ∧ From s0 t1 ∧ Ok 30 a3 ∧ (Pr.own 2 3 1 (List.length xs) (List.map Ty.int xs)).has t1 (a3.eval (.tmp 5)) ∧ At (Ty.nat n) t1 a3 (.tmp 0) ∧ At (Ty.lst Ty.int l) t1 a3 (.tmp 1) ∧ (n ≤ f + xs.length) ∧ (xs.length ≤ n + 1) ∧ (xs ++ rowF l n f xs.length = chgRow n l) ∧ n1 = n + 2 - xs.length) (n + 2 - (([] : List Int)).length) ?_ ?_
 ·
  exact ⟨s2, ([] : List Int), n, rfl, F2, ok2, (by have e : a2.eval (.tmp 5) = _ := q5; rw [e]; exact Own.nil _ _ _ _), q3, q4, by simp, by simp, rfl, rfl⟩
 ·
  rintro n2 a4 w2 ⟨t2, xs, f, rfl, F3, ok3, q6, q7, q8, hf, hx, heq, rfl⟩
  refine wp_seq ?_; refine wp_seq ?_
  refine reg (a := a4) (σ := t2) rfl (fun i_ => List.getD [(Ty.pr (Ty.val (a4.eval (.tmp 5)))), (Ty.pr (Ty.nat (List.length xs))), (Ty.pr (Ty.nat n)), (Ty.pr (Ty.bool (decide ((((List.length xs) : Nat) : Int) < ((n : Nat) : Int)))))] i_ Pr.any) ok3 rfl ⟨?_, ?_, ?_, ?_, trivial⟩ ?_
  · intro A B G H I; exact rP (y_move (I 5 rfl))
  · intro A B G H I d0; exact rP (own_len Tryd.underlying26 (al (ed d0 rfl rfl rfl) ((Pr.own 2 3 1 (List.length xs) (List.map Ty.int xs)).up G q6)))
  · intro A B G H I; exact rP (y_move (kp (I 0 rfl) G q7))
  · intro A B G H I d0 d1; exact rP (y_lss (ed d0 rfl rfl rfl) (ed d1 rfl rfl rfl))
  intro a5 s3 D3; have ok4 := D3.ok; have F4 := F3.step0 D3.stp
  have q9 : (Pr.own 2 3 1 (List.length xs) (List.map Ty.int xs)).has s3 (a5.eval (.tmp 5)) := D3.ko q6 rfl
  have q10 := D3.kt q7 rfl; have q11 := D3.kt q8 rfl; have q12 := D3.dn 3 rfl rfl; clear D3; refine tn ?_
  refine cond_p (p := ((((List.length xs) : Nat) : Int) < ((n : Nat) : Int))) q12 (fun c1 => ?_) (fun c1 => ?_)
  ·
   refine wp_skip ?_; refine tn ?_; refine wp_block ?_; refine wp_seq ?_
   refine rg a5 s3 [(Ty.val (a5.eval (.tmp 5))), (Ty.nat (List.length xs)), (Ty.nat (List.length xs))] ok4 ⟨?_, ?_, ?_, trivial⟩ ?_
   · intro A B G H I; exact rP (y_move (I 5 rfl))
   · intro A B G H I d0; exact rP (own_len Tryd.underlying26 (al (ed d0 rfl rfl rfl) ((Pr.own 2 3 1 (List.length xs) (List.map Ty.int xs)).up G q9)))
   · intro A B G H I d0 d1 d2; exact rP (y_assign (ed d0 rfl rfl rfl))
   intro a6 s4 D4; have ok5 := D4.ok; have F5 := F4.step0 D4.stp
   have q13 : (Pr.own 2 3 1 (List.length xs) (List.map Ty.int xs)).has s4 (a6.eval (.tmp 5)) := D4.ko q9 rfl
   have q14 := D4.kt q10 rfl; have q15 := D4.kt q11 rfl; have q16 := D4.dn 2 rfl rfl; clear D4; refine tn ?_; refine wp_seq ?_
   refine rg a6 s4 [(Ty.lst Ty.int l), (Ty.nat (List.length xs)), (Ty.int ((((List.length xs) : Nat) : Int) + (1 : Int))), (Ty.bool (decide ((((((List.length xs) : Nat) : Int) + (1 : Int))) ∈ (l)))), (Ty.bool (decide ((((((List.length xs) : Nat) : Int) + (1 : Int))) ∈ (l))))] ok5 ⟨?_, ?_, ?_, ?_, ?_, trivial⟩ ?_
   · intro A B G H I; exact rP (y_move (kp (I 1 rfl) G q15))
   · intro A B G H I; exact rP (y_move (kp (I 6 rfl) G q16))
   · intro A B G H I d0; exact rP (y_add (ed d0 rfl rfl rfl) rfl (w64 (by omega) (by omega)))
   · intro A B G H I d0 d1; exact rP (y_call #[A.eval (.tmp 14), A.eval (.tmp 16)] Tryd.func66 rfl rfl (by simp only [List.map_toArray, List.map_cons, List.map_nil]) (rIsIn_fn (l) (((((List.length xs) : Nat) : Int) + (1 : Int))) _ _ _ (ed d0 rfl rfl rfl) (ed d1 rfl rfl rfl) ))
   · intro A B G H I d0 d1 d2 d3 d4 d5; exact rP (y_assign (ed d0 rfl rfl rfl))
   intro a7 s5 D5; have ok6 := D5.ok; have F6 := F5.step0 D5.stp
   have q17 : (Pr.own 2 3 1 (List.length xs) (List.map Ty.int xs)).has s5 (a7.eval (.tmp 5)) := D5.ko q13 rfl
   have q18 := D5.kt q14 rfl; have q19 := D5.kt q15 rfl; have q20 := D5.kt q16 rfl; have q21 := D5.dn 4 rfl rfl; clear D5; refine tn ?_; refine wp_seq ?_
   refine rg a7 s5 [(Ty.bool (decide ((((((List.length xs) : Nat) : Int) + (1 : Int))) ∈ (l))))] ok6 ⟨?_, trivial⟩ ?_
   · intro A B G H I; exact rP (y_move (kp (I 7 rfl) G q21))
   intro a8 s6 D6; have ok7 := D6.ok; have F7 := F6.step0 D6.stp
   have q22 : (Pr.own 2 3 1 (List.length xs) (List.map Ty.int xs)).has s6 (a8.eval (.tmp 5)) := D6.ko q17 rfl
   have q23 := D6.kt q18 rfl; have q24 := D6.kt q19 rfl; have q25 := D6.kt q20 rfl; have q26 := D6.dn 0 rfl rfl; clear D6; refine tn ?_
   refine cond_t q26 (fun c2 => ?_) (fun c2 => ?_)
   ·
    have c2 := of_decide_eq_true c2
    refine reg2 (a := a8) (σ := s6) rfl 3 (fun i_ => List.getD [(Ty.pr (Ty.val (a8.eval (.tmp 5)))), (Ty.pr (Ty.nat (List.length xs))), (Ty.pr (Ty.sl 1 1 [(Ty.nat (List.length xs))]))] i_ Pr.any) ok7 rfl (by decide) rfl ⟨?_, ?_, ?_, trivial⟩ ?_
    · intro A B G H I; exact rP (y_move (I 5 rfl))
    · intro A B G H I; exact rP (y_move (kp (I 6 rfl) G q25))
    · intro A B G H I d0; exact rP (y_build1o Tryd.underlying26 Tryd.inf3 rfl (one_val rfl) (ed d0 rfl rfl rfl))
    intro a9 s7 D7; have ok8 := D7.ok; have F8 := F7.step0 D7.stp; have q27 := (Pr.own 2 3 1 (List.length xs) (List.map Ty.int xs)).up D7.stp q22
    have q28 : a9.eval (.tmp 5) = a8.eval (.tmp 5) := D7.same 5 rfl
    have q29 := D7.kt q23 rfl; have q30 := D7.kt q24 rfl; have q31 := D7.dn 0 (by decide) rfl rfl; have q32 := D7.dn 2 (by decide) rfl rfl; clear D7
    refine tail_step (m := 2) (R := (fun v τ => Own τ 2 3 1 v ((List.length xs) + 1) ((List.map Ty.int xs) ++ [(Ty.nat (List.length xs))]))) rfl rfl (by decide) ok8 (m_append Tryd.underlying26 Tryd.inf3 (by decide) rfl (by decide) (al q31 q27) q32 (by intro U hU; simp at hU;  subst hU; exact one_val rfl) (by omega) (by omega)) (fun a10 s8 hs1 ok9 r1 sm1 => ?_)
    have F9 := F8.step hs1 (by decide)
    have q33 : At (Ty.nat n) s8 a10 (.tmp 0) := kpm hs1 (by decide) (sm1 0 (by decide)) q29
    have q34 : At (Ty.lst Ty.int l) s8 a10 (.tmp 1) := kpm hs1 (by decide) (sm1 1 (by decide)) q30
    have q35 : At (Ty.sl 1 1 [(Ty.nat (List.length xs))]) s8 a10 (.tmp 21) := kpm hs1 (by decide) (sm1 21 (by decide)) q32
    have q36 : (Pr.own 2 3 1 (List.length (xs ++ [(((List.length xs) : Nat) : Int)])) (List.map Ty.int (xs ++ [(((List.length xs) : Nat) : Int)]))).has s8 (a10.eval (.tmp 22)) := (cvo (by simp) (by first | (rw [List.map_append]; rfl) | simp) r1)
    refine tail_step (m := 0) (R := (fun v τ => Pr.has (Pr.own 2 3 1 (List.length (xs ++ [(((List.length xs) : Nat) : Int)])) (List.map Ty.int (xs ++ [(((List.length xs) : Nat) : Int)]))) τ v)) rfl rfl (by decide) ok9 (Yld.toM (y_assign q36)) (fun a11 s9 hs2 ok10 r2 sm2 => ?_)
    have F10 := F9.step hs2 (by decide)
    have q37 : At (Ty.nat n) s9 a11 (.tmp 0) := kpm hs2 (by decide) (sm2 0 (by decide)) q33
    have q38 : At (Ty.lst Ty.int l) s9 a11 (.tmp 1) := kpm hs2 (by decide) (sm2 1 (by decide)) q34
    have q39 : At (Ty.sl 1 1 [(Ty.nat (List.length xs))]) s9 a11 (.tmp 21) := kpm hs2 (by decide) (sm2 21 (by decide)) q35
    have q40 : (Pr.own 2 3 1 (List.length (xs ++ [(((List.length xs) : Nat) : Int)])) (List.map Ty.int (xs ++ [(((List.length xs) : Nat) : Int)]))).has s9 (a11.eval (.tmp 22)) := kpmo hs2 (by decide) (.inl rfl) (sm2 22 (by decide)) q36
    have q41 : (Pr.own 2 3 1 (List.length (xs ++ [(((List.length xs) : Nat) : Int)])) (List.map Ty.int (xs ++ [(((List.length xs) : Nat) : Int)]))).has s9 (a11.eval (.tmp 5)) := r2
    refine wpList_nil ?_; refine bn ?_
    exact tn ⟨n + 2 - ((xs ++ [((xs.length : Nat) : Int)])).length, by simp; omega, s9, (xs ++ [((xs.length : Nat) : Int)]), (f-1), rfl, F10, ok10, (cvo (by (simp)) (by (simp)) q41), q37, q38, by simp; omega, by simp; omega, by rw [List.length_append]; exact rowF_yes heq (by omega) hf c2, rfl⟩
   ·
    have c2 := of_decide_eq_false c2
    refine reg2 (a := a8) (σ := s6) rfl 5 (fun i_ => List.getD [(Ty.pr (Ty.val (a8.eval (.tmp 5)))), (Ty.pr (Ty.nat (List.length xs))), (Ty.pr (Ty.int ((((List.length xs) : Nat) : Int) + (1 : Int)))), (Ty.pr (Ty.nat (List.length xs))), (Ty.pr (Ty.sl 1 2 [(Ty.int ((((List.length xs) : Nat) : Int) + (1 : Int))), (Ty.nat (List.length xs))]))] i_ Pr.any) ok7 rfl (by decide) rfl ⟨?_, ?_, ?_, ?_, ?_, trivial⟩ ?_
    · intro A B G H I; exact rP (y_move (I 5 rfl))
    · intro A B G H I; exact rP (y_move (kp (I 6 rfl) G q25))
    · intro A B G H I d0; exact rP (y_add (ed d0 rfl rfl rfl) rfl (w64 (by omega) (by omega)))
    · intro A B G H I; exact rP (y_move (kp (I 6 rfl) G q25))
    · intro A B G H I d0 d1; exact rP (y_build2 Tryd.underlying26 Tryd.inf3 rfl (one_val rfl) (one_val rfl) (ed d0 rfl rfl rfl) (ed d1 rfl rfl rfl))
    intro a12 s10 D8; have ok11 := D8.ok; have F11 := F7.step0 D8.stp; have q42 := (Pr.own 2 3 1 (List.length xs) (List.map Ty.int xs)).up D8.stp q22
    have q43 : a12.eval (.tmp 5) = a8.eval (.tmp 5) := D8.same 5 rfl
    have q44 := D8.kt q23 rfl; have q45 := D8.kt q24 rfl; have q46 := D8.dn 0 (by decide) rfl rfl; have q47 := D8.dn 4 (by decide) rfl rfl; clear D8
    refine tail_step (m := 2) (R := (fun v τ => Own τ 2 3 1 v ((List.length xs) + 2) ((List.map Ty.int xs) ++ [(Ty.int ((((List.length xs) : Nat) : Int) + (1 : Int))), (Ty.nat (List.length xs))]))) rfl rfl (by decide) ok11 (m_append Tryd.underlying26 Tryd.inf3 (by decide) rfl (by decide) (al q46 q42) q47 (by intro U hU; simp at hU;  rcases hU with rfl | rfl <;> exact one_val rfl) (by omega) (by omega)) (fun a13 s11 hs3 ok12 r3 sm3 => ?_)
    have F12 := F11.step hs3 (by decide)
    have q48 : At (Ty.nat n) s11 a13 (.tmp 0) := kpm hs3 (by decide) (sm3 0 (by decide)) q44
    have q49 : At (Ty.lst Ty.int l) s11 a13 (.tmp 1) := kpm hs3 (by decide) (sm3 1 (by decide)) q45
    have q50 : At (Ty.sl 1 2 [(Ty.int ((((List.length xs) : Nat) : Int) + (1 : Int))), (Ty.nat (List.length xs))]) s11 a13 (.tmp 27) := kpm hs3 (by decide) (sm3 27 (by decide)) q47
    have q51 : (Pr.own 2 3 1 (List.length (xs ++ [((((List.length xs) : Nat) : Int) + (1 : Int)), (((List.length xs) : Nat) : Int)])) (List.map Ty.int (xs ++ [((((List.length xs) : Nat) : Int) + (1 : Int)), (((List.length xs) : Nat) : Int)]))).has s11 (a13.eval (.tmp 28)) := (cvo (by simp) (by first | (rw [List.map_append]; rfl) | simp) r3)
    refine tail_step (m := 0) (R := (fun v τ => Pr.has (Pr.own 2 3 1 (List.length (xs ++ [((((List.length xs) : Nat) : Int) + (1 : Int)), (((List.length xs) : Nat) : Int)])) (List.map Ty.int (xs ++ [((((List.length xs) : Nat) : Int) + (1 : Int)), (((List.length xs) : Nat) : Int)]))) τ v)) rfl rfl (by decide) ok12 (Yld.toM (y_assign q51)) (fun a14 s12 hs4 ok13 r4 sm4 => ?_)
    have F13 := F12.step hs4 (by decide)
    have q52 : At (Ty.nat n) s12 a14 (.tmp 0) := kpm hs4 (by decide) (sm4 0 (by decide)) q48
    have q53 : At (Ty.lst Ty.int l) s12 a14 (.tmp 1) := kpm hs4 (by decide) (sm4 1 (by decide)) q49
    have q54 : At (Ty.sl 1 2 [(Ty.int ((((List.length xs) : Nat) : Int) + (1 : Int))), (Ty.nat (List.length xs))]) s12 a14 (.tmp 27) := kpm hs4 (by decide) (sm4 27 (by decide)) q50
    have q55 : (Pr.own 2 3 1 (List.length (xs ++ [((((List.length xs) : Nat) : Int) + (1 : Int)), (((List.length xs) : Nat) : Int)])) (List.map Ty.int (xs ++ [((((List.length xs) : Nat) : Int) + (1 : Int)), (((List.length xs) : Nat) : Int)]))).has s12 (a14.eval (.tmp 28)) := kpmo hs4 (by decide) (.inl rfl) (sm4 28 (by decide)) q51
    have q56 : (Pr.own 2 3 1 (List.length (xs ++ [((((List.length xs) : Nat) : Int) + (1 : Int)), (((List.length xs) : Nat) : Int)])) (List.map Ty.int (xs ++ [((((List.length xs) : Nat) : Int) + (1 : Int)), (((List.length xs) : Nat) : Int)]))).has s12 (a14.eval (.tmp 5)) := r4
    refine wpList_nil ?_; refine bn ?_
    exact tn ⟨n + 2 - ((xs ++ [((xs.length : Nat) : Int) + 1, ((xs.length : Nat) : Int)])).length, by simp; omega, s12, (xs ++ [((xs.length : Nat) : Int) + 1, ((xs.length : Nat) : Int)]), (f-1), rfl, F13, ok13, (cvo (by (simp)) (by (simp)) q56), q52, q53, by simp; omega, by simp; omega, by rw [List.length_append]; exact rowF_no heq (by omega) hf c2, rfl⟩
  ·
   refine wp_exit ?_; refine tx ?_; refine tx ?_; refine bx ?_; refine tn ?_; refine wp_seq ?_
   refine rg a5 s3 [(Ty.val (a5.eval (.tmp 5))), (Ty.val (a5.eval (.tmp 5)))] ok4 ⟨?_, ?_, trivial⟩ ?_
   · intro A B G H I; exact rP (y_move (I 5 rfl))
   · intro A B G H I d0 d1; exact rP (y_assign (ed d0 rfl rfl rfl))
   intro a15 s13 D9; have ok14 := D9.ok; have F14 := F4.step0 D9.stp
   have q57 : (Pr.own 2 3 1 (List.length xs) (List.map Ty.int xs)).has s13 (a15.eval (.tmp 4)) := al (show _ = _ from D9.done 1) ((Pr.own 2 3 1 (List.length xs) (List.map Ty.int xs)).up D9.stp q9)
   clear D9; refine tn ?_; refine wp_ret ?_
   obtain ⟨t3, e1, h1, q58⟩ := Own.seal q57 (by decide)
   rw [← e1]
   have F15 := F14.step h1 (by decide)
   exact ret1 rfl ok14 F15 (cvt (by (rw [rowF_end (by omega), List.append_nil] at heq; rw [heq])) q58)


set_option maxRecDepth 100000 in
theorem rBy_fn (a : List Int) (b : List Int) (σ : GW) (v0 v1 : Value) (hv0 : Ty.has (Ty.lst Ty.int a) σ v0) (hv1 : Ty.has (Ty.lst Ty.int b) σ v1) (hbd : ∀ i, i < b.length → 0 ≤ b.getD i 0 ∧ b.getD i 0 < a.length) (G : b.length ≤ 1000000) :
    FnC Tryd.prog 55 #[v0, v1] σ (Ty.lst Ty.int (byL a b)) := by
 refine fn_intro Tryd.func55 rfl Tryd.ntmps55 (Nat.le_of_ble_eq_true rfl) (fun s0 a0 hle F0 ok0 hargs => ?_)
 have p0 : At (Ty.lst Ty.int a) s0 a0 (.tmp 0) := by have e := hargs 0 _ rfl; show Ty.has _ _ _; rw [e]; exact Ty.up _ hle hv0
 have b1 := sl_le p0
 have p1 : At (Ty.lst Ty.int b) s0 a0 (.tmp 1) := by have e := hargs 1 _ rfl; show Ty.has _ _ _; rw [e]; exact Ty.up _ hle hv1
 have b2 := sl_le p1
 clear hargs; refine wp_seq ?_
 refine rg a0 s0 [(Ty.val (Value.slice none 0 0))] ok0 ⟨?_, trivial⟩ ?_
 · intro A B G H I; exact rP (y_assign rfl)
 intro a1 s1 D1; have ok1 := D1.ok; have F1 := F0.step0 D1.stp; have q1 := D1.kt p0 rfl; have q2 := D1.kt p1 rfl; clear D1; refine tn ?_; refine wp_seq ?_
 refine rg a1 s1 [(Ty.val (Value.slice none 0 0))] ok1 ⟨?_, trivial⟩ ?_
 · intro A B G H I; exact rP (y_assign rfl)
 intro a2 s2 D2; have ok2 := D2.ok; have F2 := F1.step0 D2.stp; have q3 := D2.kt q1 rfl; have q4 := D2.kt q2 rfl; have q5 := D2.dn 0 rfl rfl; clear D2; refine tn ?_; refine wp_seq ?_; refine wp_seq ?_
 refine rg a2 s2 [(Ty.int (0 : Int))] ok2 ⟨?_, trivial⟩ ?_
 · intro A B G H I; exact rP (y_assign rfl)
 intro a3 s3 D3; have ok3 := D3.ok; have F3 := F2.step0 D3.stp; have q6 := D3.kt q3 rfl; have q7 := D3.kt q4 rfl; have q8 := D3.kt q5 rfl; have q9 := D3.dn 0 rfl rfl; clear D3; refine tn ?_; refine wp_block ?_
 refine loop (fun n1 a4 w1 => ∃ (t1 : GW) (k : Nat), t1.w = w1 ∧ From s0 t1 ∧ Ok 24 a4 ∧ (Pr.own 2 3 1 (List.length (byL a (b.take k))) (List.map Ty.int (byL a (b.take k)))).has t1 (a4.eval (.tmp 5)) ∧ At (Ty.nat k) t1 a4 (.tmp 6) ∧ At (Ty.lst Ty.int a) t1 a4 (.tmp 0) ∧ At (Ty.lst Ty.int b) t1 a4 (.tmp 1) ∧ (k ≤ b.length) ∧ n1 = b.length - k) (b.length - (0)) ?_ ?_
 ·
  exact ⟨s3, 0, rfl, F3, ok3, (by have e : a3.eval (.tmp 5) = _ := q8; rw [e]; exact Own.nil _ _ _ _), (cvi (by (first | rfl | omega | (simp_all; done) | (simp_all; omega))) q9), q6, q7, by omega, rfl⟩
 ·
  rintro n2 a5 w2 ⟨t2, k, rfl, F4, ok4, q10, q11, q12, q13, hk, rfl⟩
  have hp := byL_take_len a b k
  refine wp_seq ?_; refine wp_seq ?_
  refine reg (a := a5) (σ := t2) rfl (fun i_ => List.getD [(Ty.pr (Ty.nat k)), (Ty.pr (Ty.lst Ty.int b)), (Ty.pr (Ty.nat (List.length b))), (Ty.pr (Ty.bool (decide (((k : Nat) : Int) < (((List.length b) : Nat) : Int)))))] i_ Pr.any) ok4 rfl ⟨?_, ?_, ?_, ?_, trivial⟩ ?_
  · intro A B G H I; exact rP (y_move (kp (I 6 rfl) G q11))
  · intro A B G H I; exact rP (y_move (kp (I 1 rfl) G q13))
  · intro A B G H I d0; exact rP (y_len Tryd.underlying26 (ed d0 rfl rfl rfl))
  · intro A B G H I d0 d1; exact rP (y_lss (ed d0 rfl rfl rfl) (ed d1 rfl rfl rfl))
  intro a6 s4 D4; have ok5 := D4.ok; have F5 := F4.step0 D4.stp
  have q14 : (Pr.own 2 3 1 (List.length (byL a (b.take k))) (List.map Ty.int (byL a (b.take k)))).has s4 (a6.eval (.tmp 5)) := D4.ko q10 rfl
  have q15 := D4.kt q11 rfl; have q16 := D4.kt q12 rfl; have q17 := D4.kt q13 rfl; have q18 := D4.dn 3 rfl rfl; clear D4; refine tn ?_
  refine cond_p (p := (((k : Nat) : Int) < (((List.length b) : Nat) : Int))) q18 (fun c1 => ?_) (fun c1 => ?_)
  ·
   have hq := hbd k (by omega)
   refine wp_skip ?_; refine tn ?_; refine wp_seq ?_; refine wp_block ?_
   refine reg2 (a := a6) (σ := s4) rfl 9 (fun i_ => List.getD [(Ty.pr (Ty.val (a6.eval (.tmp 5)))), (Ty.pr (Ty.lst Ty.int a)), (Ty.pr (Ty.lst Ty.int b)), (Ty.pr (Ty.nat k)), (Ty.pr (Ty.ref [(Ty.int (b.getD k 0))])), (Ty.pr (Ty.int (b.getD k 0))), (Ty.pr (Ty.ref [(Ty.int (a.getD ((b.getD k 0)).toNat 0))])), (Ty.pr (Ty.int (a.getD ((b.getD k 0)).toNat 0))), (Ty.pr (Ty.sl 1 1 [(Ty.int (a.getD ((b.getD k 0)).toNat 0))]))] i_ Pr.any) ok5 rfl (by decide) rfl ⟨?_, ?_, ?_, ?_, ?_, ?_, ?_, ?_, ?_, trivial⟩ ?_
   · intro A B G H I; exact rP (y_move (I 5 rfl))
   · intro A B G H I; exact rP (y_move (kp (I 0 rfl) G q16))
   · intro A B G H I; exact rP (y_move (kp (I 1 rfl) G q17))
   · intro A B G H I; exact rP (y_move (kp (I 6 rfl) G q15))
   · intro A B G H I d0 d1; exact rP (y_index1 Tryd.underlying26 Tryd.inf3 (ed d0 rfl rfl rfl) (ed d1 rfl rfl rfl) (by omega) (lst_get Ty.int b 0 k (by omega)))
   · intro A B G H I d0; exact rP (y_load Tryd.underlying3 rfl (ed d0 rfl rfl rfl) rfl)
   · intro A B G H I d0 d1; exact rP (y_index1 Tryd.underlying26 Tryd.inf3 (ed d0 rfl rfl rfl) (ed d1 rfl rfl rfl) (by omega) (lst_get Ty.int a 0 ((b.getD k 0)).toNat (by omega)))
   · intro A B G H I d0; exact rP (y_load Tryd.underlying3 rfl (ed d0 rfl rfl rfl) rfl)
   · intro A B G H I d0; exact rP (y_build1o Tryd.underlying26 Tryd.inf3 rfl (one_val rfl) (ed d0 rfl rfl rfl))
   intro a7 s5 D5; have ok6 := D5.ok; have F6 := F5.step0 D5.stp; have q19 := (Pr.own 2 3 1 (List.length (byL a (b.take k))) (List.map Ty.int (byL a (b.take k)))).up D5.stp q14
   have q20 : a7.eval (.tmp 5) = a6.eval (.tmp 5) := D5.same 5 rfl
   have q21 := D5.kt q15 rfl; have q22 := D5.kt q16 rfl; have q23 := D5.kt q17 rfl; have q24 := D5.dn 0 (by decide) rfl rfl; have q25 := D5.dn 8 (by decide) rfl rfl; clear D5
   refine tail_step (m := 2) (R := (fun v τ => Own τ 2 3 1 v ((List.length (byL a (b.take k))) + 1) ((List.map Ty.int (byL a (b.take k))) ++ [(Ty.int (a.getD ((b.getD k 0)).toNat 0))]))) rfl rfl (by decide) ok6 (m_append Tryd.underlying26 Tryd.inf3 (by decide) rfl (by decide) (al q24 q19) q25 (by intro U hU; simp at hU;  subst hU; exact one_val rfl) (by omega) (by omega)) (fun a8 s6 hs1 ok7 r1 sm1 => ?_)
   have F7 := F6.step hs1 (by decide)
   have q26 : At (Ty.nat k) s6 a8 (.tmp 6) := kpm hs1 (by decide) (sm1 6 (by decide)) q21
   have q27 : At (Ty.lst Ty.int a) s6 a8 (.tmp 0) := kpm hs1 (by decide) (sm1 0 (by decide)) q22
   have q28 : At (Ty.lst Ty.int b) s6 a8 (.tmp 1) := kpm hs1 (by decide) (sm1 1 (by decide)) q23
   have q29 : At (Ty.sl 1 1 [(Ty.int (a.getD ((b.getD k 0)).toNat 0))]) s6 a8 (.tmp 21) := kpm hs1 (by decide) (sm1 21 (by decide)) q25
   have q30 : (Pr.own 2 3 1 (List.length ((byL a (b.take k)) ++ [(a.getD ((b.getD k 0)).toNat 0)])) (List.map Ty.int ((byL a (b.take k)) ++ [(a.getD ((b.getD k 0)).toNat 0)]))).has s6 (a8.eval (.tmp 22)) := (cvo (by simp) (by first | (rw [List.map_append]; rfl) | simp) r1)
   refine tail_step (m := 0) (R := (fun v τ => Pr.has (Pr.own 2 3 1 (List.length ((byL a (b.take k)) ++ [(a.getD ((b.getD k 0)).toNat 0)])) (List.map Ty.int ((byL a (b.take k)) ++ [(a.getD ((b.getD k 0)).toNat 0)]))) τ v)) rfl rfl (by decide) ok7 (Yld.toM (y_assign q30)) (fun a9 s7 hs2 ok8 r2 sm2 => ?_)
   have F8 := F7.step hs2 (by decide)
   have q31 : At (Ty.nat k) s7 a9 (.tmp 6) := kpm hs2 (by decide) (sm2 6 (by decide)) q26
   have q32 : At (Ty.lst Ty.int a) s7 a9 (.tmp 0) := kpm hs2 (by decide) (sm2 0 (by decide)) q27
   have q33 : At (Ty.lst Ty.int b) s7 a9 (.tmp 1) := kpm hs2 (by decide) (sm2 1 (by decide)) q28
   have q34 : At (Ty.sl 1 1 [(Ty.int (a.getD ((b.getD k 0)).toNat 0))]) s7 a9 (.tmp 21) := kpm hs2 (by decide) (sm2 21 (by decide)) q29
   have q35 : (Pr.own 2 3 1 (List.length ((byL a (b.take k)) ++ [(a.getD ((b.getD k 0)).toNat 0)])) (List.map Ty.int ((byL a (b.take k)) ++ [(a.getD ((b.getD k 0)).toNat 0)]))).has s7 (a9.eval (.tmp 22)) := kpmo hs2 (by decide) (.inl rfl) (sm2 22 (by decide)) q30
   have q36 : (Pr.own 2 3 1 (List.length ((byL a (b.take k)) ++ [(a.getD ((b.getD k 0)).toNat 0)])) (List.map Ty.int ((byL a (b.take k)) ++ [(a.getD ((b.getD k 0)).toNat 0)]))).has s7 (a9.eval (.tmp 5)) := r2
   refine wpList_nil ?_; refine bn ?_; refine tn ?_
   refine rg a9 s7 [(Ty.nat k), (Ty.int (((k : Nat) : Int) + (1 : Int))), (Ty.int (((k : Nat) : Int) + (1 : Int)))] ok8 ⟨?_, ?_, ?_, trivial⟩ ?_
   · intro A B G H I; exact rP (y_move (kp (I 6 rfl) G q31))
   · intro A B G H I d0; exact rP (y_add (ed d0 rfl rfl rfl) rfl (w64 (by omega) (by omega)))
   · intro A B G H I d0 d1 d2; exact rP (y_assign (ed d0 rfl rfl rfl))
   intro a10 s8 D6; have ok9 := D6.ok; have F9 := F8.step0 D6.stp; have q37 := D6.kt q32 rfl; have q38 := D6.kt q33 rfl
   have q39 : (Pr.own 2 3 1 (List.length ((byL a (b.take k)) ++ [(a.getD ((b.getD k 0)).toNat 0)])) (List.map Ty.int ((byL a (b.take k)) ++ [(a.getD ((b.getD k 0)).toNat 0)]))).has s8 (a10.eval (.tmp 5)) := D6.ko q36 rfl
   have q40 := D6.dn 2 rfl rfl; clear D6
   exact tn ⟨b.length - ((k+1)), by omega, s8, (k+1), rfl, F9, ok9, (cvo (by (rw [byL_snoc a b k (by omega)])) (by (rw [byL_snoc a b k (by omega)])) q39), (cvi (by (first | rfl | omega | (simp_all; done) | (simp_all; omega))) q40), q37, q38, by omega, rfl⟩
  ·
   refine wp_exit ?_; refine tx ?_; refine tx ?_; refine bx ?_; refine tn ?_; refine wp_seq ?_
   refine rg a6 s4 [(Ty.val (a6.eval (.tmp 5))), (Ty.val (a6.eval (.tmp 5)))] ok5 ⟨?_, ?_, trivial⟩ ?_
   · intro A B G H I; exact rP (y_move (I 5 rfl))
   · intro A B G H I d0 d1; exact rP (y_assign (ed d0 rfl rfl rfl))
   intro a11 s9 D7; have ok10 := D7.ok; have F10 := F5.step0 D7.stp
   have q41 : (Pr.own 2 3 1 (List.length (byL a (b.take k))) (List.map Ty.int (byL a (b.take k)))).has s9 (a11.eval (.tmp 4)) := al (show _ = _ from D7.done 1) ((Pr.own 2 3 1 (List.length (byL a (b.take k))) (List.map Ty.int (byL a (b.take k)))).up D7.stp q14)
   clear D7; refine tn ?_; refine wp_ret ?_
   obtain ⟨t3, e1, h1, q42⟩ := Own.seal q41 (by decide)
   rw [← e1]
   have F11 := F10.step h1 (by decide)
   exact ret1 rfl ok10 F11 (cvt (by (obtain rfl : k = b.length := (by omega); rw [List.take_length])) q42)


set_option maxHeartbeats 4000000 in
set_option maxRecDepth 100000 in
theorem rFrom_fn (r : List Int) (l : List (List Int)) (σ : GW)  (v0 v1 : Value) (hv0 : Ty.has (Ty.lst Ty.int r) σ v0) (hv1 : Ty.has (Ty.lst Ty.ints l) σ v1)  (hr : r.length ≤ 12) (hok : ∀ k, k < l.length → okL 0 (l.getD k []) r.length) (hl : l.length ≤ 200) :
    FnC Tryd.prog 38 #[v0, v1] σ (Ty.lst Ty.ints (fromL r l)) := by
 refine fn_intro0 Tryd.func38 rfl Tryd.ntmps38 (Nat.le_of_ble_eq_true rfl) (fun s0 a0 hle F0 ok0 hargs => ?_)
 have p0 : At (Ty.lst Ty.int r) s0 a0 (.tmp 0) := by have e := hargs 0 _ rfl; show Ty.has _ _ _; rw [e]; exact Ty.up _ hle hv0
 have b1 := sl_le p0
 have p1 : At (Ty.lst Ty.ints l) s0 a0 (.tmp 1) := by have e := hargs 1 _ rfl; show Ty.has _ _ _; rw [e]; exact Ty.up _ hle hv1
 have b2 := sl_le p1
 clear hargs; refine wp_seq ?_
 refine rg a0 s0 [(Ty.val (Value.slice none 0 0))] ok0 ⟨?_, trivial⟩ ?_
 · intro A B G H I; exact rP (y_assign rfl)
 intro a1 s1 D1; have ok1 := D1.ok; have F1 := F0.step0 D1.stp; have q1 := D1.kt p0 rfl; have q2 := D1.kt p1 rfl; clear D1; refine tn ?_; refine wp_seq ?_
 refine reg2 (a := a1) (σ := s1) rfl 2 (fun i_ => List.getD [(Ty.pr (Ty.lst Ty.int r)), (Pr.own 5 26 1 1 (List.map Ty.ints [r]))] i_ Pr.any) ok1 rfl (by decide) rfl ⟨?_, ?_, trivial⟩ ?_
 · intro A B G H I; exact rP (y_move (kp (I 0 rfl) G q1))
 · intro A B G H I d0; exact rP ((y_lit1 (k := 5) Tryd.underlying22 Tryd.inf26 rfl (one_sl) (ed d0 rfl rfl rfl)).mono (fun _ _ h => cvo (by simp) (by simp) h))
 intro a2 s2 D2; have ok2 := D2.ok; have F2 := F1.step0 D2.stp; have q3 := D2.kt q1 rfl; have q4 := D2.kt q2 rfl
 obtain ⟨x1, hx1⟩ : ∃ x, a2.eval (.tmp 9) = x := ⟨_, rfl⟩
 have q5 : At (Ty.val x1) s2 a2 (.tmp 9) := hx1
 have o1 : Own s2 5 26 1 x1 1 (List.map Ty.ints [r]) := al2 (R := (Pr.own 5 26 1 1 (List.map Ty.ints [r]))) hx1 (D2.done 1 (by decide))
 clear D2
 refine tailL (L := []) (R := (fun v τ => Pr.has (Ty.pr (Ty.val x1)) τ v)) rfl rfl (by decide) ok2 (Yld.toL (y_assign q5)) (fun a3 s3 hs1 ok3 r1 sm1 => ?_)
 have F3 := F2.stepL hs1 (by decide); have q6 := kpL hs1 (by decide) (sm1 0 (by decide)) q3; have q7 := kpL hs1 (by decide) (sm1 1 (by decide)) q4; have o2 := Own.keepL o1 hs1 (by decide) (by decide)
 have q8 : At (Ty.val x1) s3 a3 (.tmp 5) := r1
 clear r1; refine wpList_nil ?_; refine tn ?_; refine wp_seq ?_; refine wp_seq ?_
 refine rg a3 s3 [(Ty.int (0 : Int))] ok3 ⟨?_, trivial⟩ ?_
 · intro A B G H I; exact rP (y_assign rfl)
 intro a4 s4 D3; have ok4 := D3.ok; have F4 := F3.step0 D3.stp; have q9 := D3.kt q6 rfl; have q10 := D3.kt q7 rfl; have q11 := D3.kt q8 rfl; have o3 := Own.k0 o2 D3.stp; have q12 := D3.dn 0 rfl rfl; clear D3; refine tn ?_; refine wp_block ?_
 refine loop (fun n1 a5 w1 => ∃ (t1 : GW) (k : Nat) (x5_0 : Value), t1.w = w1 ∧ FromL [] s0 t1 ∧ Ok 31 a5 ∧ At (Ty.nat k) t1 a5 (.tmp 6) ∧ At (Ty.lst Ty.int (curL r l k)) t1 a5 (.tmp 0) ∧ At (Ty.val x5_0) t1 a5 (.tmp 5) ∧ At (Ty.lst Ty.ints l) t1 a5 (.tmp 1) ∧ Own t1 5 26 1 x5_0 (List.length (fromTo r l k)) (List.map Ty.ints (fromTo r l k)) ∧ (k ≤ l.length) ∧ n1 = l.length - k) (l.length - (0)) ?_ ?_
 ·
  exact ⟨s4, 0, x1, rfl, F4, ok4, (cvi (by (first | rfl | omega | (simp_all; done) | (simp_all; omega))) q12), (cvt (by (rfl)) q9), q11, q10, (cvo (by (simp [fromTo_zero])) (by (simp [fromTo_zero])) o3), by omega, rfl⟩
 ·
  rintro n2 a6 w2 ⟨t2, k, x5_0, rfl, F5, ok5, q13, q14, q15, q16, o4, hk, rfl⟩
  have hcl := curL_len hok k hk
  have hfl := fromTo_len r l k
  refine wp_seq ?_; refine wp_seq ?_
  refine reg (a := a6) (σ := t2) rfl (fun i_ => List.getD [(Ty.pr (Ty.nat k)), (Ty.pr (Ty.lst Ty.ints l)), (Ty.pr (Ty.nat (List.length l))), (Ty.pr (Ty.bool (decide (((k : Nat) : Int) < (((List.length l) : Nat) : Int)))))] i_ Pr.any) ok5 rfl ⟨?_, ?_, ?_, ?_, trivial⟩ ?_
  · intro A B G H I; exact rP (y_move (kp (I 6 rfl) G q13))
  · intro A B G H I; exact rP (y_move (kp (I 1 rfl) G q16))
  · intro A B G H I d0; exact rP (y_len Tryd.underlying22 (ed d0 rfl rfl rfl))
  · intro A B G H I d0 d1; exact rP (y_lss (ed d0 rfl rfl rfl) (ed d1 rfl rfl rfl))
  intro a7 s5 D4; have ok6 := D4.ok; have F6 := F5.step0 D4.stp; have q17 := D4.kt q13 rfl; have q18 := D4.kt q14 rfl; have q19 := D4.kt q15 rfl; have q20 := D4.kt q16 rfl; have o5 := Own.k0 o4 D4.stp; have q21 := D4.dn 3 rfl rfl; clear D4; refine tn ?_
  refine cond_p (p := (((k : Nat) : Int) < (((List.length l) : Nat) : Int))) q21 (fun c1 => ?_) (fun c1 => ?_)
  ·
   have hokk := hok k (by omega); rw [← hcl] at hokk; have hcc := chgRow_len hokk; have hcd := hcc.symm; have hcl0 : (curL r l k).length ≤ 12 := (by omega); have hbd : ∀ i, i < (chgRow (curL r l k).length (l.getD k [])).length → 0 ≤ (chgRow (curL r l k).length (l.getD k [])).getD i 0 ∧ (chgRow (curL r l k).length (l.getD k [])).getD i 0 < ((curL r l k).length : Int) := (fun i hi => chgRow_bd hokk hi)
   refine wp_skip ?_; refine tn ?_; refine wp_seq ?_; refine wp_block ?_; refine wp_seq ?_
   refine rg a7 s5 [(Ty.lst Ty.int (curL r l k)), (Ty.nat (List.length (curL r l k))), (Ty.lst Ty.ints l), (Ty.nat k), (Ty.ref [(Ty.lst Ty.int (l.getD k []))]), (Ty.lst Ty.int (l.getD k [])), (Ty.lst Ty.int (chgRow ((List.length (curL r l k))) ((l.getD k [])))), (Ty.lst Ty.int (chgRow ((List.length (curL r l k))) ((l.getD k []))))] ok6 ⟨?_, ?_, ?_, ?_, ?_, ?_, ?_, ?_, trivial⟩ ?_
   · intro A B G H I; exact rP (y_move (kp (I 0 rfl) G q18))
   · intro A B G H I d0; exact rP (y_len Tryd.underlying26 (ed d0 rfl rfl rfl))
   · intro A B G H I; exact rP (y_move (kp (I 1 rfl) G q20))
   · intro A B G H I; exact rP (y_move (kp (I 6 rfl) G q17))
   · intro A B G H I d0 d1; exact rP (y_index1 Tryd.underlying22 Tryd.inf26 (ed d0 rfl rfl rfl) (ed d1 rfl rfl rfl) (by omega) (lst_get Ty.ints l [] k (by omega)))
   · intro A B G H I d0; exact rP (y_load Tryd.underlying26 rfl (ed d0 rfl rfl rfl) rfl)
   · intro A B G H I d0 d1; exact rP (y_call #[A.eval (.tmp 17), A.eval (.tmp 21)] Tryd.func54 rfl rfl (by simp only [List.map_toArray, List.map_cons, List.map_nil]) (rChangeRow_fn ((List.length (curL r l k))) ((l.getD k [])) _ _ _ (cvi (σ := B) (by omega) (ed d0 rfl rfl rfl)) (ed d1 rfl rfl rfl) (by omega)))
   · intro A B G H I d0 d1 d2 d3 d4 d5 d6 d7 d8; exact rP (y_assign (ed d0 rfl rfl rfl))
   intro a8 s6 D5; have ok7 := D5.ok; have F7 := F6.step0 D5.stp; have q22 := D5.kt q17 rfl; have q23 := D5.kt q18 rfl; have q24 := D5.kt q19 rfl; have q25 := D5.kt q20 rfl; have o6 := Own.k0 o5 D5.stp; have q26 := D5.dn 7 rfl rfl; clear D5; refine tn ?_; refine wp_seq ?_
   refine rg a8 s6 [(Ty.lst Ty.int (curL r l k)), (Ty.lst Ty.int (chgRow ((List.length (curL r l k))) ((l.getD k [])))), (Ty.lst Ty.int (byL ((curL r l k)) ((chgRow ((List.length (curL r l k))) ((l.getD k [])))))), (Ty.lst Ty.int (byL ((curL r l k)) ((chgRow ((List.length (curL r l k))) ((l.getD k []))))))] ok7 ⟨?_, ?_, ?_, ?_, trivial⟩ ?_
   · intro A B G H I; exact rP (y_move (kp (I 0 rfl) G q23))
   · intro A B G H I; exact rP (y_move (kp (I 7 rfl) G q26))
   · intro A B G H I d0 d1; exact rP (y_call #[A.eval (.tmp 23), A.eval (.tmp 24)] Tryd.func55 rfl rfl (by simp only [List.map_toArray, List.map_cons, List.map_nil]) (rBy_fn ((curL r l k)) ((chgRow ((List.length (curL r l k))) ((l.getD k [])))) _ _ _ (ed d0 rfl rfl rfl) (ed d1 rfl rfl rfl) (by first | assumption | omega) (by first | assumption | omega)))
   · intro A B G H I d0 d1 d2 d3 d4; exact rP (y_assign (ed d0 rfl rfl rfl))
   intro a9 s7 D6; have ok8 := D6.ok; have F8 := F7.step0 D6.stp; have q27 := D6.kt q22 rfl; have q28 := D6.kt q24 rfl; have q29 := D6.kt q25 rfl; have o7 := Own.k0 o6 D6.stp; have q30 := D6.dn 3 rfl rfl; clear D6; refine tn ?_
   refine reg2 (a := a9) (σ := s7) rfl 3 (fun i_ => List.getD [(Ty.pr (Ty.val x5_0)), (Ty.pr (Ty.lst Ty.int (byL ((curL r l k)) ((chgRow ((List.length (curL r l k))) ((l.getD k []))))))), (Ty.pr (Ty.sl 1 1 [(Ty.lst Ty.int (byL ((curL r l k)) ((chgRow ((List.length (curL r l k))) ((l.getD k []))))))]))] i_ Pr.any) ok8 rfl (by decide) rfl ⟨?_, ?_, ?_, trivial⟩ ?_
   · intro A B G H I; exact rP (y_move (kp (I 5 rfl) G q28))
   · intro A B G H I; exact rP (y_move (kp (I 0 rfl) G q30))
   · intro A B G H I d0; exact rP (y_build1o Tryd.underlying22 Tryd.inf26 rfl (one_sl) (ed d0 rfl rfl rfl))
   intro a10 s8 D7; have ok9 := D7.ok; have F9 := F8.step0 D7.stp; have q31 := D7.kt q27 rfl; have q32 := D7.kt q28 rfl; have q33 := D7.kt q29 rfl; have q34 := D7.kt q30 rfl; have o8 := Own.k0 o7 D7.stp
   have q35 : At (Ty.val x5_0) s8 a10 (.tmp 26) := D7.done 0 (by decide)
   have q36 := D7.dn 2 (by decide) rfl rfl
   have b3 := sl_le q36
   clear D7
   refine tailL (L := [5]) (R := (fun v τ => Own τ 5 26 1 v ((List.length (fromTo r l k)) + 1) ((List.map Ty.ints (fromTo r l k)) ++ [(Ty.lst Ty.int (byL ((curL r l k)) ((chgRow ((List.length (curL r l k))) ((l.getD k []))))))]))) rfl rfl (by decide) ok9 (YldM.toL (m_append Tryd.underlying22 Tryd.inf26 (by decide) rfl (by decide) (al (R := (Pr.own 5 26 1 (List.length (fromTo r l k)) (List.map Ty.ints (fromTo r l k)))) q35 o8) q36 (by intro U hU; simp at hU; subst hU; exact one_sl) (by omega) (by omega))) (fun a11 s9 hs2 ok10 r2 sm2 => ?_)
   have F10 := F9.stepL hs2 (by decide); have q37 := kpL hs2 (by decide) (sm2 6 (by decide)) q31; have q38 := kpL hs2 (by decide) (sm2 5 (by decide)) q32; have q39 := kpL hs2 (by decide) (sm2 1 (by decide)) q33; have q40 := kpL hs2 (by decide) (sm2 0 (by decide)) q34
   obtain ⟨x2, hx2⟩ : ∃ x, a11.eval (.tmp 29) = x := ⟨_, rfl⟩
   have q41 : At (Ty.val x2) s9 a11 (.tmp 29) := hx2
   have o9 : Own s9 5 26 1 x2 (List.length ((fromTo r l k) ++ [(byL ((curL r l k)) ((chgRow ((List.length (curL r l k))) ((l.getD k [])))))])) (List.map Ty.ints ((fromTo r l k) ++ [(byL ((curL r l k)) ((chgRow ((List.length (curL r l k))) ((l.getD k [])))))])) := al2 (R := (Pr.own 5 26 1 (List.length ((fromTo r l k) ++ [(byL ((curL r l k)) ((chgRow ((List.length (curL r l k))) ((l.getD k [])))))])) (List.map Ty.ints ((fromTo r l k) ++ [(byL ((curL r l k)) ((chgRow ((List.length (curL r l k))) ((l.getD k [])))))])))) hx2 (cvo (by simp) (by first | (rw [List.map_append]; rfl) | simp) r2)
   clear r2
   refine tailL (L := []) (R := (fun v τ => Pr.has (Ty.pr (Ty.val x2)) τ v)) rfl rfl (by decide) ok10 (Yld.toL (y_assign q41)) (fun a12 s10 hs3 ok11 r3 sm3 => ?_)
   have F11 := F10.stepL hs3 (by decide); have q42 := kpL hs3 (by decide) (sm3 6 (by decide)) q37; have q43 := kpL hs3 (by decide) (sm3 1 (by decide)) q39; have q44 := kpL hs3 (by decide) (sm3 0 (by decide)) q40; have o10 := Own.keepL o9 hs3 (by decide) (by decide)
   have q45 : At (Ty.val x2) s10 a12 (.tmp 5) := r3
   clear r3; refine wpList_nil ?_; refine bn ?_; refine tn ?_
   refine rg a12 s10 [(Ty.nat k), (Ty.int (((k : Nat) : Int) + (1 : Int))), (Ty.int (((k : Nat) : Int) + (1 : Int)))] ok11 ⟨?_, ?_, ?_, trivial⟩ ?_
   · intro A B G H I; exact rP (y_move (kp (I 6 rfl) G q42))
   · intro A B G H I d0; exact rP (y_add (ed d0 rfl rfl rfl) rfl (w64 (by omega) (by omega)))
   · intro A B G H I d0 d1 d2; exact rP (y_assign (ed d0 rfl rfl rfl))
   intro a13 s11 D8; have ok12 := D8.ok; have F12 := F11.step0 D8.stp; have q46 := D8.kt q43 rfl; have q47 := D8.kt q44 rfl; have q48 := D8.kt q45 rfl; have o11 := Own.k0 o10 D8.stp; have q49 := D8.dn 2 rfl rfl; clear D8
   exact tn ⟨l.length - ((k+1)), by omega, s11, (k+1), x2, rfl, F12, ok12, (cvi (by (first | rfl | omega | (simp_all; done) | (simp_all; omega))) q49), (cvt (by (rw [curL_succ r l k (by omega)])) q47), q48, q46, (cvo (by (rw [fromTo_succ, curL_succ r l k (by omega)])) (by (rw [fromTo_succ, curL_succ r l k (by omega)])) o11), by omega, rfl⟩
  ·
   refine wp_exit ?_; refine tx ?_; refine tx ?_; refine bx ?_; refine tn ?_; refine wp_seq ?_
   refine rg a7 s5 [(Ty.val x5_0), (Ty.val x5_0)] ok6 ⟨?_, ?_, trivial⟩ ?_
   · intro A B G H I; exact rP (y_move (kp (I 5 rfl) G q19))
   · intro A B G H I d0 d1; exact rP (y_assign (ed d0 rfl rfl rfl))
   intro a14 s12 D9; have ok13 := D9.ok; have F13 := F6.step0 D9.stp; have o12 := Own.k0 o5 D9.stp
   have q50 : At (Ty.val x5_0) s12 a14 (.tmp 4) := D9.done 1
   clear D9; refine tn ?_; refine wp_ret ?_
   obtain ⟨t3, e1, h1, q51⟩ := Own.seal o12 (by decide)
   rw [← e1]
   have F14 := F13.step h1 (by decide)
   have q52 : At (Ty.lst Ty.ints (fromTo r l k)) t3 a14 (.tmp 4) := by have e : a14.eval (.tmp 4) = x5_0 := q50; show Ty.has _ _ _; rw [e]; exact q51
   exact retL1 rfl ok13 F14 (cvt (by (obtain rfl : k = l.length := (by omega); rfl)) q52)


set_option maxHeartbeats 4000000 in
set_option maxRecDepth 100000 in
theorem rTouchRows_fn (nm : ByteArray) (n : Int) (l : List (List Int)) (cs : List BCall) (leads : List Int) (σ : GW)  (v0 v1 v2 : Value) (hv0 : Ty.has (Ty.agg [(Ty.val (Value.string nm)), (Ty.int n), (Ty.lst Ty.ints l)]) σ v0) (hv1 : Ty.has (Ty.lstc 2 callC cs) σ v1) (hv2 : Ty.has (Ty.lst Ty.int leads) σ v2)  (h0 : touchMay nm n l cs leads = 0) :
    FnC Tryd.prog 16 #[v0, v1, v2] σ (Ty.lst Ty.ints (tRows n.toNat l cs leads leads.length)) := by
 obtain ⟨hok, hnn, hlo, hlh, hin, hlim⟩ := touchMay_ok h0; have hl1 := hok.meth.l1; have hl2 := hok.meth.l2; have hn1 := hok.meth.n1; have hn2 := hok.meth.n2
 refine fn_intro0 Tryd.func16 rfl Tryd.ntmps16 (Nat.le_of_ble_eq_true rfl) (fun s0 a0 hle F0 ok0 hargs => ?_)
 have p0 : At (Ty.agg [(Ty.val (Value.string nm)), (Ty.int n), (Ty.lst Ty.ints l)]) s0 a0 (.tmp 0) := by have e := hargs 0 _ rfl; show Ty.has _ _ _; rw [e]; exact Ty.up _ hle hv0
 have p1 : At (Ty.lstc 2 callC cs) s0 a0 (.tmp 1) := by have e := hargs 1 _ rfl; show Ty.has _ _ _; rw [e]; exact Ty.up _ hle hv1
 have b1 := sl_le p1
 have p2 : At (Ty.lst Ty.int leads) s0 a0 (.tmp 2) := by have e := hargs 2 _ rfl; show Ty.has _ _ _; rw [e]; exact Ty.up _ hle hv2
 have b2 := sl_le p2
 clear hargs; refine wp_seq ?_
 refine rg a0 s0 [(Ty.ref [(Ty.val (Value.string nm)), (Ty.int n), (Ty.lst Ty.ints l)]), (Ty.val (Value.slice none 0 0))] ok0 ⟨?_, ?_, trivial⟩ ?_
 · intro A B G H I; exact rP (y_boxagg (kp (I 0 rfl) G p0))
 · intro A B G H I; exact rP (y_assign rfl)
 intro a1 s1 D1; have ok1 := D1.ok; have F1 := F0.step0 D1.stp; have q1 := D1.kt p1 rfl; have q2 := D1.kt p2 rfl; have q3 := D1.dn 0 rfl rfl; clear D1; refine tn ?_; refine wp_seq ?_
 refine reg2 (a := a1) (σ := s1) rfl 4 (fun i_ => List.getD [(Ty.pr (Ty.ref [(Ty.int n), (Ty.lst Ty.ints l)])), (Ty.pr (Ty.int n)), (Ty.pr (Ty.lst Ty.int (roundsL ((n).toNat)))), (Pr.own 5 26 1 1 (List.map Ty.ints [(roundsL ((n).toNat))]))] i_ Pr.any) ok1 rfl (by decide) rfl ⟨?_, ?_, ?_, ?_, trivial⟩ ?_
 · intro A B G H I; exact rP (y_field Tryd.fld24_1 Tryd.inf3 (by decide) (kp (I 3 rfl) G q3) rfl)
 · intro A B G H I d0; exact rP (y_load Tryd.underlying3 rfl (ed d0 rfl rfl rfl) rfl)
 · intro A B G H I d0; exact rP (y_call #[A.eval (.tmp 11)] Tryd.func37 rfl rfl (by simp only [List.map_toArray, List.map_cons, List.map_nil]) (rRounds_fn ((n).toNat) _ _ (cvi (σ := B) (by omega) (ed d0 rfl rfl rfl)) (by omega)))
 · intro A B G H I d0; exact rP ((y_lit1 (k := 5) Tryd.underlying22 Tryd.inf26 rfl (one_sl) (ed d0 rfl rfl rfl)).mono (fun _ _ h => cvo (by simp) (by simp) h))
 intro a2 s2 D2; have ok2 := D2.ok; have F2 := F1.step0 D2.stp; have q4 := D2.kt q1 rfl; have q5 := D2.kt q2 rfl; have q6 := D2.kt q3 rfl
 obtain ⟨x1, hx1⟩ : ∃ x, a2.eval (.tmp 13) = x := ⟨_, rfl⟩
 have q7 : At (Ty.val x1) s2 a2 (.tmp 13) := hx1
 have o1 : Own s2 5 26 1 x1 1 (List.map Ty.ints [(roundsL ((n).toNat))]) := al2 (R := (Pr.own 5 26 1 1 (List.map Ty.ints [(roundsL ((n).toNat))]))) hx1 (D2.done 3 (by decide))
 clear D2
 refine tailL (L := []) (R := (fun v τ => Pr.has (Ty.pr (Ty.val x1)) τ v)) rfl rfl (by decide) ok2 (Yld.toL (y_assign q7)) (fun a3 s3 hs1 ok3 r1 sm1 => ?_)
 have F3 := F2.stepL hs1 (by decide); have q8 := kpL hs1 (by decide) (sm1 1 (by decide)) q4; have q9 := kpL hs1 (by decide) (sm1 2 (by decide)) q5; have q10 := kpL hs1 (by decide) (sm1 3 (by decide)) q6; have o2 := Own.keepL o1 hs1 (by decide) (by decide)
 have q11 : At (Ty.val x1) s3 a3 (.tmp 7) := r1
 clear r1; refine wpList_nil ?_; refine tn ?_; refine wp_seq ?_; refine wp_seq ?_
 refine rg a3 s3 [(Ty.int (0 : Int))] ok3 ⟨?_, trivial⟩ ?_
 · intro A B G H I; exact rP (y_assign rfl)
 intro a4 s4 D3; have ok4 := D3.ok; have F4 := F3.step0 D3.stp; have q12 := D3.kt q8 rfl; have q13 := D3.kt q9 rfl; have q14 := D3.kt q10 rfl; have q15 := D3.kt q11 rfl; have o3 := Own.k0 o2 D3.stp; have q16 := D3.dn 0 rfl rfl; clear D3; refine tn ?_; refine wp_block ?_
 refine loop (fun n1 a5 w1 => ∃ (t1 : GW) (k : Nat) (x7_0 : Value), t1.w = w1 ∧ FromL [] s0 t1 ∧ Ok 41 a5 ∧ At (Ty.nat k) t1 a5 (.tmp 8) ∧ At (Ty.val x7_0) t1 a5 (.tmp 7) ∧ At (Ty.lstc 2 callC cs) t1 a5 (.tmp 1) ∧ At (Ty.lst Ty.int leads) t1 a5 (.tmp 2) ∧ At (Ty.ref [(Ty.val (Value.string nm)), (Ty.int n), (Ty.lst Ty.ints l)]) t1 a5 (.tmp 3) ∧ Own t1 5 26 1 x7_0 (List.length (tRows n.toNat l cs leads k)) (List.map Ty.ints (tRows n.toNat l cs leads k)) ∧ (k ≤ leads.length) ∧ n1 = leads.length - k) (leads.length - (0)) ?_ ?_
 ·
  exact ⟨s4, 0, x1, rfl, F4, ok4, (cvi (by (first | rfl | omega | (simp_all; done) | (simp_all; omega))) q16), q15, q12, q13, q14, (cvo (by (rfl)) (by (rfl)) o3), by omega, rfl⟩
 ·
  rintro n2 a6 w2 ⟨t2, k, x7_0, rfl, F5, ok5, q17, q18, q19, q20, q21, o4, hk, rfl⟩
  have htl := tRows_len hok hin k hk
  refine wp_seq ?_; refine wp_seq ?_
  refine reg (a := a6) (σ := t2) rfl (fun i_ => List.getD [(Ty.pr (Ty.nat k)), (Ty.pr (Ty.lst Ty.int leads)), (Ty.pr (Ty.nat (List.length leads))), (Ty.pr (Ty.bool (decide (((k : Nat) : Int) < (((List.length leads) : Nat) : Int)))))] i_ Pr.any) ok5 rfl ⟨?_, ?_, ?_, ?_, trivial⟩ ?_
  · intro A B G H I; exact rP (y_move (kp (I 8 rfl) G q17))
  · intro A B G H I; exact rP (y_move (kp (I 2 rfl) G q20))
  · intro A B G H I d0; exact rP (y_len Tryd.underlying26 (ed d0 rfl rfl rfl))
  · intro A B G H I d0 d1; exact rP (y_lss (ed d0 rfl rfl rfl) (ed d1 rfl rfl rfl))
  intro a7 s5 D4; have ok6 := D4.ok; have F6 := F5.step0 D4.stp; have q22 := D4.kt q17 rfl; have q23 := D4.kt q18 rfl; have q24 := D4.kt q19 rfl; have q25 := D4.kt q20 rfl; have q26 := D4.kt q21 rfl; have o5 := Own.k0 o4 D4.stp; have q27 := D4.dn 3 rfl rfl; clear D4; refine tn ?_
  refine cond_p (p := (((k : Nat) : Int) < (((List.length leads) : Nat) : Int))) q27 (fun c1 => ?_) (fun c1 => ?_)
  ·
   have hkl : k < leads.length := (by omega); obtain ⟨hk0, hkc⟩ := hin k hkl; obtain ⟨E, hE⟩ : ∃ E, E = leadE l cs leads k := ⟨_, rfl⟩; have hsh := hok.short (leads.getD k 0).toNat (by omega); obtain ⟨hHr, hHl⟩ := tHd_row hok hin k (by omega); have hR : ((tRows n.toNat l cs leads k).getD ((((((tRows n.toNat l cs leads k).length : Nat) : Int) - (1 : Int))).toNat) []) = tHd n.toNat l cs leads k := (by rw [htl, show ((((k * l.length + 1 : Nat) : Int) - (1 : Int))).toNat = k * l.length by omega]; exact tRows_last hok hin k (by omega)); have hRl : ((tRows n.toNat l cs leads k).getD ((((((tRows n.toNat l cs leads k).length : Nat) : Int) - (1 : Int))).toNat) []).length = n.toNat := (by rw [hR, hHl]); have hokE : ∀ j, j < E.length → okL 0 (E.getD j []) ((tRows n.toNat l cs leads k).getD ((((((tRows n.toNat l cs leads k).length : Nat) : Int) - (1 : Int))).toNat) []).length := (by rw [hRl, hE]; exact leadE_ok hok hin hkl); have hEl : E.length = l.length := (by rw [hE]; exact leadE_len hok hin hkl); have hfl := fromL_len (tHd n.toNat l cs leads k) E; have hfd : ((fromL (tHd n.toNat l cs leads k) E).drop 1).length = E.length := (by rw [List.length_drop, hfl]; omega); have hkm : k * l.length ≤ 400 * 200 := Nat.mul_le_mul (by omega) hl2
   refine wp_skip ?_; refine tn ?_; refine wp_seq ?_; refine wp_block ?_; refine wp_seq ?_
   refine rg a7 s5 [(Ty.val x7_0), (Ty.val x7_0), (Ty.nat (List.length (tRows n.toNat l cs leads k))), (Ty.int ((((List.length (tRows n.toNat l cs leads k)) : Nat) : Int) - (1 : Int))), (Ty.val (cellPtr x7_0 (((((List.length (tRows n.toNat l cs leads k)) : Nat) : Int) - (1 : Int))).toNat)), (Ty.lst Ty.int ((tRows n.toNat l cs leads k).getD (((((List.length (tRows n.toNat l cs leads k)) : Nat) : Int) - (1 : Int))).toNat [])), (Ty.agg [(Ty.val (Value.string nm)), (Ty.int n), (Ty.lst Ty.ints l)]), (Ty.lstc 2 callC cs), (Ty.lst Ty.int leads), (Ty.nat k), (Ty.ref [(Ty.int (leads.getD k 0))]), (Ty.int (leads.getD k 0)), (Ty.ref [(Ty.val (Value.int .i32 ((cs.getD ((leads.getD k 0)).toNat D0)).1)), (Ty.lst Ty.ints ((cs.getD ((leads.getD k 0)).toNat D0)).2)]), (Ty.agg [(Ty.val (Value.int .i32 ((cs.getD ((leads.getD k 0)).toNat D0)).1)), (Ty.lst Ty.ints ((cs.getD ((leads.getD k 0)).toNat D0)).2)]), (Ty.lst Ty.ints E), (Ty.lst Ty.ints (fromL (tHd n.toNat l cs leads k) E)), (Ty.lst Ty.ints (fromL (tHd n.toNat l cs leads k) E))] ok6 ⟨?_, ?_, ?_, ?_, ?_, ?_, ?_, ?_, ?_, ?_, ?_, ?_, ?_, ?_, ?_, ?_, ?_, trivial⟩ ?_
   · intro A B G H I; exact rP (y_move (kp (I 7 rfl) G q23))
   · intro A B G H I; exact rP (y_move (kp (I 7 rfl) G q23))
   · intro A B G H I d0; exact rP (own_len Tryd.underlying22 (al (R := (Pr.own 5 26 1 (List.length (tRows n.toNat l cs leads k)) (List.map Ty.ints (tRows n.toNat l cs leads k)))) (ed d0 rfl rfl rfl) (Own.k0 o5 G)))
   · intro A B G H I d0; exact rP (y_sub (ed d0 rfl rfl rfl) rfl (w64 (by omega) (by omega)))
   · intro A B G H I d0 d1; exact rP (own_index1 (i := ((((List.length (tRows n.toNat l cs leads k)) : Nat) : Int) - (1 : Int))) Tryd.underlying22 Tryd.inf26 (Own.k0 o5 G) (ed d0 rfl rfl rfl) (ed d1 rfl rfl rfl) (by omega) (by omega))
   · intro A B G H I d0; exact rP (own_load Tryd.underlying26 rfl (Own.k0 o5 G) (ed d0 rfl rfl rfl) (lst_get Ty.ints (tRows n.toNat l cs leads k) [] (((((List.length (tRows n.toNat l cs leads k)) : Nat) : Int) - (1 : Int))).toNat (by omega)))
   · intro A B G H I; exact rP (y_loadagg Tryd.underlying24 Tryd.inf24 (kp (I 3 rfl) G q26))
   · intro A B G H I; exact rP (y_move (kp (I 1 rfl) G q24))
   · intro A B G H I; exact rP (y_move (kp (I 2 rfl) G q25))
   · intro A B G H I; exact rP (y_move (kp (I 8 rfl) G q22))
   · intro A B G H I d0 d1; exact rP (y_index1 Tryd.underlying26 Tryd.inf3 (ed d0 rfl rfl rfl) (ed d1 rfl rfl rfl) (by omega) (lst_get Ty.int leads 0 k (by omega)))
   · intro A B G H I d0; exact rP (y_load Tryd.underlying3 rfl (ed d0 rfl rfl rfl) rfl)
   · intro A B G H I d0 d1; exact rP (y_indexc (i := (leads.getD k 0)) D0 Tryd.underlying25 Tryd.inf50 (ed d0 rfl rfl rfl) (ed d1 rfl rfl rfl) (by omega) (by omega) (by decide) (fun _ => rfl))
   · intro A B G H I d0; exact rP (y_loadagg Tryd.underlying50 Tryd.inf50 (ed d0 rfl rfl rfl))
   · intro A B G H I d0 d1; exact rP ((y_call #[A.eval (.tmp 26), A.eval (.tmp 33)] Tryd.func39 rfl rfl (by simp only [List.map_toArray, List.map_cons, List.map_nil]) (rEnds_fn (nm) (n) (l) (((cs.getD ((leads.getD k 0)).toNat D0)).1) (((cs.getD ((leads.getD k 0)).toNat D0)).2) _ _ _ (ed d0 rfl rfl rfl) (ed d1 rfl rfl rfl) (by first | omega | assumption) (by first | omega | assumption))).mono (fun τ _ h => cvt (σ := τ) (T := (Ty.lst Ty.ints (endsL l ((((cs.getD ((leads.getD k 0)).toNat D0)).1), (((cs.getD ((leads.getD k 0)).toNat D0)).2))))) (U := (Ty.lst Ty.ints E)) (by rw [hE]; rfl) h))
   · intro A B G H I d0 d1 d2; exact rP ((y_call #[A.eval (.tmp 25), A.eval (.tmp 34)] Tryd.func38 rfl rfl (by simp only [List.map_toArray, List.map_cons, List.map_nil]) (rFrom_fn (((tRows n.toNat l cs leads k).getD (((((List.length (tRows n.toNat l cs leads k)) : Nat) : Int) - (1 : Int))).toNat [])) (E) _ _ _ (ed d0 rfl rfl rfl) (ed d1 rfl rfl rfl) (by first | omega | assumption) (by first | omega | assumption) (by first | omega | assumption))).mono (fun τ _ h => cvt (σ := τ) (T := (Ty.lst Ty.ints (fromL (((tRows n.toNat l cs leads k).getD (((((List.length (tRows n.toNat l cs leads k)) : Nat) : Int) - (1 : Int))).toNat [])) (E)))) (U := (Ty.lst Ty.ints (fromL (tHd n.toNat l cs leads k) E))) (by rw [hR]) h))
   · intro A B G H I d0 d1 d2 d3 d4 d5 d6 d7 d8 d9 d10 d11 d12 d13 d14 d15 d16 d17; exact rP (y_assign (ed d0 rfl rfl rfl))
   intro a8 s6 D5; have ok7 := D5.ok; have F7 := F6.step0 D5.stp; have q28 := D5.kt q22 rfl; have q29 := D5.kt q23 rfl; have q30 := D5.kt q24 rfl; have q31 := D5.kt q25 rfl; have q32 := D5.kt q26 rfl; have o6 := Own.k0 o5 D5.stp; have q33 := D5.dn 16 rfl rfl; clear D5; refine tn ?_
   refine reg2 (a := a8) (σ := s6) rfl 3 (fun i_ => List.getD [(Ty.pr (Ty.val x7_0)), (Ty.pr (Ty.lst Ty.ints (fromL (tHd n.toNat l cs leads k) E))), (Ty.pr (Ty.lst Ty.ints ((fromL (tHd n.toNat l cs leads k) E).drop 1)))] i_ Pr.any) ok7 rfl (by decide) rfl ⟨?_, ?_, ?_, trivial⟩ ?_
   · intro A B G H I; exact rP (y_move (kp (I 7 rfl) G q29))
   · intro A B G H I; exact rP (y_move (kp (I 9 rfl) G q33))
   · intro A B G H I d0; exact rP (y_drop Tryd.underlying22 Tryd.inf26 (ed d0 rfl rfl rfl) (toN (σ := B) rfl (by omega)) (by omega))
   intro a9 s7 D6; have ok8 := D6.ok; have F8 := F7.step0 D6.stp; have q34 := D6.kt q28 rfl; have q35 := D6.kt q29 rfl; have q36 := D6.kt q30 rfl; have q37 := D6.kt q31 rfl; have q38 := D6.kt q32 rfl; have o7 := Own.k0 o6 D6.stp
   have q39 : At (Ty.val x7_0) s7 a9 (.tmp 36) := D6.done 0 (by decide)
   have q40 := D6.dn 2 (by decide) rfl rfl
   have b3 := sl_le q40
   clear D6
   refine tailL (L := [5]) (R := (fun v τ => Own τ 5 26 1 v ((List.length (tRows n.toNat l cs leads k)) + (List.length ((fromL (tHd n.toNat l cs leads k) E).drop 1))) ((List.map Ty.ints (tRows n.toNat l cs leads k)) ++ (List.map Ty.ints ((fromL (tHd n.toNat l cs leads k) E).drop 1))))) rfl rfl (by decide) ok8 (YldM.toL (m_append Tryd.underlying22 Tryd.inf26 (by decide) rfl (by decide) (al (R := (Pr.own 5 26 1 (List.length (tRows n.toNat l cs leads k)) (List.map Ty.ints (tRows n.toNat l cs leads k)))) q39 o7) q40 (one_map (fun _ => one_sl)) (by omega) (by omega))) (fun a10 s8 hs2 ok9 r2 sm2 => ?_)
   have F9 := F8.stepL hs2 (by decide); have q41 := kpL hs2 (by decide) (sm2 8 (by decide)) q34; have q42 := kpL hs2 (by decide) (sm2 7 (by decide)) q35; have q43 := kpL hs2 (by decide) (sm2 1 (by decide)) q36; have q44 := kpL hs2 (by decide) (sm2 2 (by decide)) q37; have q45 := kpL hs2 (by decide) (sm2 3 (by decide)) q38
   obtain ⟨x2, hx2⟩ : ∃ x, a10.eval (.tmp 39) = x := ⟨_, rfl⟩
   have q46 : At (Ty.val x2) s8 a10 (.tmp 39) := hx2
   have o8 : Own s8 5 26 1 x2 (List.length ((tRows n.toNat l cs leads k) ++ ((fromL (tHd n.toNat l cs leads k) E).drop 1))) (List.map Ty.ints ((tRows n.toNat l cs leads k) ++ ((fromL (tHd n.toNat l cs leads k) E).drop 1))) := al2 (R := (Pr.own 5 26 1 (List.length ((tRows n.toNat l cs leads k) ++ ((fromL (tHd n.toNat l cs leads k) E).drop 1))) (List.map Ty.ints ((tRows n.toNat l cs leads k) ++ ((fromL (tHd n.toNat l cs leads k) E).drop 1))))) hx2 (cvo (by simp) (by first | (rw [List.map_append]; rfl) | simp) r2)
   clear r2
   refine tailL (L := []) (R := (fun v τ => Pr.has (Ty.pr (Ty.val x2)) τ v)) rfl rfl (by decide) ok9 (Yld.toL (y_assign q46)) (fun a11 s9 hs3 ok10 r3 sm3 => ?_)
   have F10 := F9.stepL hs3 (by decide); have q47 := kpL hs3 (by decide) (sm3 8 (by decide)) q41; have q48 := kpL hs3 (by decide) (sm3 1 (by decide)) q43; have q49 := kpL hs3 (by decide) (sm3 2 (by decide)) q44; have q50 := kpL hs3 (by decide) (sm3 3 (by decide)) q45; have o9 := Own.keepL o8 hs3 (by decide) (by decide)
   have q51 : At (Ty.val x2) s9 a11 (.tmp 7) := r3
   clear r3; refine wpList_nil ?_; refine bn ?_; refine tn ?_
   refine rg a11 s9 [(Ty.nat k), (Ty.nat (k + 1)), (Ty.nat (k + 1))] ok10 ⟨?_, ?_, ?_, trivial⟩ ?_
   · intro A B G H I; exact rP (y_move (kp (I 8 rfl) G q47))
   · intro A B G H I d0; exact rP ((y_add (ed d0 rfl rfl rfl) rfl (w64 (by omega) (by omega))).mono (fun τ _ h => cvi (σ := τ) (by first | omega | exact (Int.natCast_mul _ _).symm) h))
   · intro A B G H I d0 d1 d2; exact rP (y_assign (ed d0 rfl rfl rfl))
   intro a12 s10 D7; have ok11 := D7.ok; have F11 := F10.step0 D7.stp; have q52 := D7.kt q48 rfl; have q53 := D7.kt q49 rfl; have q54 := D7.kt q50 rfl; have q55 := D7.kt q51 rfl; have o10 := Own.k0 o9 D7.stp; have q56 := D7.dn 2 rfl rfl; clear D7
   exact tn ⟨leads.length - ((k+1)), by omega, s10, (k+1), x2, rfl, F11, ok11, (cvi (by (first | rfl | omega | (simp_all; done) | (simp_all; omega))) q56), q55, q52, q53, q54, (cvo (by (rw [tRows, ← hE])) (by (rw [tRows, ← hE])) o10), by omega, rfl⟩
  ·
   refine wp_exit ?_; refine tx ?_; refine tx ?_; refine bx ?_; refine tn ?_; refine wp_seq ?_
   refine rg a7 s5 [(Ty.val x7_0), (Ty.val x7_0)] ok6 ⟨?_, ?_, trivial⟩ ?_
   · intro A B G H I; exact rP (y_move (kp (I 7 rfl) G q23))
   · intro A B G H I d0 d1; exact rP (y_assign (ed d0 rfl rfl rfl))
   intro a13 s11 D8; have ok12 := D8.ok; have F12 := F6.step0 D8.stp; have o11 := Own.k0 o5 D8.stp
   have q57 : At (Ty.val x7_0) s11 a13 (.tmp 6) := D8.done 1
   clear D8; refine tn ?_; refine wp_ret ?_
   obtain ⟨t3, e1, h1, q58⟩ := Own.seal o11 (by decide)
   rw [← e1]
   have F13 := F12.step h1 (by decide)
   have q59 : At (Ty.lst Ty.ints (tRows n.toNat l cs leads k)) t3 a13 (.tmp 6) := by have e : a13.eval (.tmp 6) = x7_0 := q57; show Ty.has _ _ _; rw [e]; exact q58
   exact retL1 rfl ok12 F13 (cvt (by (rw [show k = leads.length by omega])) q59)


set_option maxRecDepth 100000 in
theorem rsame_fn (xs : List Int) (ys : List Int) (σ : GW) (v0 v1 : Value) (hv0 : Ty.has (Ty.lst Ty.int xs) σ v0) (hv1 : Ty.has (Ty.lst Ty.int ys) σ v1)  :
    FnC Tryd.prog 22 #[v0, v1] σ (Ty.bool (decide (xs = ys))) := by
 refine fn_intro Tryd.func22 rfl Tryd.ntmps22 (Nat.le_of_ble_eq_true rfl) (fun s0 a0 hle F0 ok0 hargs => ?_)
 have p0 : At (Ty.lst Ty.int xs) s0 a0 (.tmp 0) := by have e := hargs 0 _ rfl; show Ty.has _ _ _; rw [e]; exact Ty.up _ hle hv0
 have b1 := sl_le p0
 have p1 : At (Ty.lst Ty.int ys) s0 a0 (.tmp 1) := by have e := hargs 1 _ rfl; show Ty.has _ _ _; rw [e]; exact Ty.up _ hle hv1
 have b2 := sl_le p1
 clear hargs; refine wp_seq ?_
 refine rg a0 s0 [(Ty.bool false)] ok0 ⟨?_, trivial⟩ ?_
 · intro A B G H I; exact rP (y_assign rfl)
 intro a1 s1 D1; have ok1 := D1.ok; have F1 := F0.step0 D1.stp; have q1 := D1.kt p0 rfl; have q2 := D1.kt p1 rfl; clear D1; refine tn ?_; refine wp_seq ?_; refine wp_seq ?_
 refine rg a1 s1 [(Ty.lst Ty.int xs), (Ty.nat (List.length xs)), (Ty.lst Ty.int ys), (Ty.nat (List.length ys)), (Ty.bool (decide ((((List.length xs) : Nat) : Int) ≠ (((List.length ys) : Nat) : Int))))] ok1 ⟨?_, ?_, ?_, ?_, ?_, trivial⟩ ?_
 · intro A B G H I; exact rP (y_move (kp (I 0 rfl) G q1))
 · intro A B G H I d0; exact rP (y_len Tryd.underlying26 (ed d0 rfl rfl rfl))
 · intro A B G H I; exact rP (y_move (kp (I 1 rfl) G q2))
 · intro A B G H I d0; exact rP (y_len Tryd.underlying26 (ed d0 rfl rfl rfl))
 · intro A B G H I d0 d1; exact rP (y_neq (ed d0 rfl rfl rfl) (ed d1 rfl rfl rfl))
 intro a2 s2 D2; have ok2 := D2.ok; have F2 := F1.step0 D2.stp; have q3 := D2.kt q1 rfl; have q4 := D2.kt q2 rfl; have q5 := D2.dn 4 rfl rfl; clear D2; refine tn ?_
 refine cond_p (p := ((((List.length xs) : Nat) : Int) ≠ (((List.length ys) : Nat) : Int))) q5 (fun c1 => ?_) (fun c1 => ?_)
 ·
  refine wp_seq ?_
  refine rg a2 s2 [(Ty.bool false)] ok2 ⟨?_, trivial⟩ ?_
  · intro A B G H I; exact rP (y_assign rfl)
  intro a3 s3 D3; have ok3 := D3.ok; have F3 := F2.step0 D3.stp; have q6 := D3.dn 0 rfl rfl; clear D3; refine tn ?_; refine wp_ret ?_; refine tr ?_
  exact ret1 rfl ok3 F3 (cvb (by (rw [decide_eq_false]; intro e; subst e; omega)) q6)
 ·
  refine wp_skip ?_; refine tn ?_; refine wp_seq ?_; refine wp_seq ?_
  refine rg a2 s2 [(Ty.int (0 : Int))] ok2 ⟨?_, trivial⟩ ?_
  · intro A B G H I; exact rP (y_assign rfl)
  intro a4 s4 D4; have ok4 := D4.ok; have F4 := F2.step0 D4.stp; have q7 := D4.kt q3 rfl; have q8 := D4.kt q4 rfl; have q9 := D4.dn 0 rfl rfl; clear D4; refine tn ?_; refine wp_block ?_
  refine loop (fun n1 a5 w1 => ∃ (t1 : GW) (k : Nat), t1.w = w1 ∧ From s0 t1 ∧ Ok 26 a5 ∧ At (Ty.nat k) t1 a5 (.tmp 5) ∧ At (Ty.lst Ty.int xs) t1 a5 (.tmp 0) ∧ At (Ty.lst Ty.int ys) t1 a5 (.tmp 1) ∧ (k ≤ xs.length) ∧ (xs.length = ys.length) ∧ (∀ j, j < k → xs.getD j 0 = ys.getD j 0) ∧ n1 = xs.length - k) (xs.length - (0)) ?_ ?_
  ·
   exact ⟨s4, 0, rfl, F4, ok4, (cvi (by (first | rfl | omega | (simp_all; done) | (simp_all; omega))) q9), q7, q8, by omega, by omega, fun j hj => absurd hj (Nat.not_lt_zero j), rfl⟩
  ·
   rintro n2 a6 w2 ⟨t2, k, rfl, F5, ok5, q10, q11, q12, hk, hl, heq, rfl⟩
   refine wp_seq ?_; refine wp_seq ?_
   refine reg (a := a6) (σ := t2) rfl (fun i_ => List.getD [(Ty.pr (Ty.nat k)), (Ty.pr (Ty.lst Ty.int xs)), (Ty.pr (Ty.nat (List.length xs))), (Ty.pr (Ty.bool (decide (((k : Nat) : Int) < (((List.length xs) : Nat) : Int)))))] i_ Pr.any) ok5 rfl ⟨?_, ?_, ?_, ?_, trivial⟩ ?_
   · intro A B G H I; exact rP (y_move (kp (I 5 rfl) G q10))
   · intro A B G H I; exact rP (y_move (kp (I 0 rfl) G q11))
   · intro A B G H I d0; exact rP (y_len Tryd.underlying26 (ed d0 rfl rfl rfl))
   · intro A B G H I d0 d1; exact rP (y_lss (ed d0 rfl rfl rfl) (ed d1 rfl rfl rfl))
   intro a7 s5 D5; have ok6 := D5.ok; have F6 := F5.step0 D5.stp; have q13 := D5.kt q10 rfl; have q14 := D5.kt q11 rfl; have q15 := D5.kt q12 rfl; have q16 := D5.dn 3 rfl rfl; clear D5; refine tn ?_
   refine cond_p (p := (((k : Nat) : Int) < (((List.length xs) : Nat) : Int))) q16 (fun c2 => ?_) (fun c2 => ?_)
   ·
    refine wp_skip ?_; refine tn ?_; refine wp_seq ?_; refine wp_block ?_; refine wp_seq ?_
    refine rg a7 s5 [(Ty.lst Ty.int xs), (Ty.nat k), (Ty.ref [(Ty.int (xs.getD k 0))]), (Ty.int (xs.getD k 0)), (Ty.lst Ty.int ys), (Ty.nat k), (Ty.ref [(Ty.int (ys.getD k 0))]), (Ty.int (ys.getD k 0)), (Ty.bool (decide ((xs.getD k 0) ≠ (ys.getD k 0))))] ok6 ⟨?_, ?_, ?_, ?_, ?_, ?_, ?_, ?_, ?_, trivial⟩ ?_
    · intro A B G H I; exact rP (y_move (kp (I 0 rfl) G q14))
    · intro A B G H I; exact rP (y_move (kp (I 5 rfl) G q13))
    · intro A B G H I d0 d1; exact rP (y_index1 Tryd.underlying26 Tryd.inf3 (ed d0 rfl rfl rfl) (ed d1 rfl rfl rfl) (by omega) (lst_get Ty.int xs 0 k (by omega)))
    · intro A B G H I d0; exact rP (y_load Tryd.underlying3 rfl (ed d0 rfl rfl rfl) rfl)
    · intro A B G H I; exact rP (y_move (kp (I 1 rfl) G q15))
    · intro A B G H I; exact rP (y_move (kp (I 5 rfl) G q13))
    · intro A B G H I d0 d1; exact rP (y_index1 Tryd.underlying26 Tryd.inf3 (ed d0 rfl rfl rfl) (ed d1 rfl rfl rfl) (by omega) (lst_get Ty.int ys 0 k (by omega)))
    · intro A B G H I d0; exact rP (y_load Tryd.underlying3 rfl (ed d0 rfl rfl rfl) rfl)
    · intro A B G H I d0 d1; exact rP (y_neq (ed d0 rfl rfl rfl) (ed d1 rfl rfl rfl))
    intro a8 s6 D6; have ok7 := D6.ok; have F7 := F6.step0 D6.stp; have q17 := D6.kt q13 rfl; have q18 := D6.kt q14 rfl; have q19 := D6.kt q15 rfl; have q20 := D6.dn 8 rfl rfl; clear D6; refine tn ?_
    refine cond_p (p := ((xs.getD k 0) ≠ (ys.getD k 0))) q20 (fun c3 => ?_) (fun c3 => ?_)
    ·
     refine wp_seq ?_
     refine rg a8 s6 [(Ty.bool false)] ok7 ⟨?_, trivial⟩ ?_
     · intro A B G H I; exact rP (y_assign rfl)
     intro a9 s7 D7; have ok8 := D7.ok; have F8 := F7.step0 D7.stp; have q21 := D7.dn 0 rfl rfl; clear D7; refine tn ?_; refine wp_ret ?_; refine br ?_; refine tr ?_; refine tr ?_; refine br ?_; refine tr ?_
     exact ret1 rfl ok8 F8 (cvb (by (exact (decide_eq_false (fun e => by subst e; simp_all)).symm)) q21)
    ·
     refine wp_skip ?_; refine bn ?_; refine tn ?_
     refine rg a8 s6 [(Ty.nat k), (Ty.int (((k : Nat) : Int) + (1 : Int))), (Ty.int (((k : Nat) : Int) + (1 : Int)))] ok7 ⟨?_, ?_, ?_, trivial⟩ ?_
     · intro A B G H I; exact rP (y_move (kp (I 5 rfl) G q17))
     · intro A B G H I d0; exact rP (y_add (ed d0 rfl rfl rfl) rfl (w64 (by omega) (by omega)))
     · intro A B G H I d0 d1 d2; exact rP (y_assign (ed d0 rfl rfl rfl))
     intro a10 s8 D8; have ok9 := D8.ok; have F9 := F7.step0 D8.stp; have q22 := D8.kt q18 rfl; have q23 := D8.kt q19 rfl; have q24 := D8.dn 2 rfl rfl; clear D8
     exact tn ⟨xs.length - ((k+1)), by omega, s8, (k+1), rfl, F9, ok9, (cvi (by (first | rfl | omega | (simp_all; done) | (simp_all; omega))) q24), q22, q23, by omega, by omega, all_snoc heq (by assumption), rfl⟩
   ·
    refine wp_exit ?_; refine tx ?_; refine tx ?_; refine bx ?_; refine tn ?_; refine wp_seq ?_
    refine rg a7 s5 [(Ty.bool true)] ok6 ⟨?_, trivial⟩ ?_
    · intro A B G H I; exact rP (y_assign rfl)
    intro a11 s9 D9; have ok10 := D9.ok; have F10 := F6.step0 D9.stp; have q25 := D9.dn 0 rfl rfl; clear D9; refine tn ?_; refine wp_ret ?_
    exact ret1 rfl ok10 F10 (cvb (by (exact (decide_eq_true (list_ext (by omega) (fun j hj => heq j (by omega)))).symm)) q25)


set_option maxHeartbeats 4000000 in
set_option maxRecDepth 100000 in
theorem rSameAll_fn (a : List (List Int)) (b : List (List Int)) (σ : GW)  (v0 v1 : Value) (hv0 : Ty.has (Ty.lst Ty.ints a) σ v0) (hv1 : Ty.has (Ty.lst Ty.ints b) σ v1)   :
    FnC Tryd.prog 15 #[v0, v1] σ (Ty.bool (decide (a = b))) := by
 refine fn_intro0 Tryd.func15 rfl Tryd.ntmps15 (Nat.le_of_ble_eq_true rfl) (fun s0 a0 hle F0 ok0 hargs => ?_)
 have p0 : At (Ty.lst Ty.ints a) s0 a0 (.tmp 0) := by have e := hargs 0 _ rfl; show Ty.has _ _ _; rw [e]; exact Ty.up _ hle hv0
 have b1 := sl_le p0
 have p1 : At (Ty.lst Ty.ints b) s0 a0 (.tmp 1) := by have e := hargs 1 _ rfl; show Ty.has _ _ _; rw [e]; exact Ty.up _ hle hv1
 have b2 := sl_le p1
 clear hargs; refine wp_seq ?_
 refine rg a0 s0 [(Ty.bool false)] ok0 ⟨?_, trivial⟩ ?_
 · intro A B G H I; exact rP (y_assign rfl)
 intro a1 s1 D1; have ok1 := D1.ok; have F1 := F0.step0 D1.stp; have q1 := D1.kt p0 rfl; have q2 := D1.kt p1 rfl; clear D1; refine tn ?_; refine wp_seq ?_; refine wp_seq ?_
 refine rg a1 s1 [(Ty.lst Ty.ints a), (Ty.nat (List.length a)), (Ty.lst Ty.ints b), (Ty.nat (List.length b)), (Ty.bool (decide ((((List.length a) : Nat) : Int) ≠ (((List.length b) : Nat) : Int))))] ok1 ⟨?_, ?_, ?_, ?_, ?_, trivial⟩ ?_
 · intro A B G H I; exact rP (y_move (kp (I 0 rfl) G q1))
 · intro A B G H I d0; exact rP (y_len Tryd.underlying22 (ed d0 rfl rfl rfl))
 · intro A B G H I; exact rP (y_move (kp (I 1 rfl) G q2))
 · intro A B G H I d0; exact rP (y_len Tryd.underlying22 (ed d0 rfl rfl rfl))
 · intro A B G H I d0 d1; exact rP (y_neq (ed d0 rfl rfl rfl) (ed d1 rfl rfl rfl))
 intro a2 s2 D2; have ok2 := D2.ok; have F2 := F1.step0 D2.stp; have q3 := D2.kt q1 rfl; have q4 := D2.kt q2 rfl; have q5 := D2.dn 4 rfl rfl; clear D2; refine tn ?_
 refine cond_p (p := ((((List.length a) : Nat) : Int) ≠ (((List.length b) : Nat) : Int))) q5 (fun c1 => ?_) (fun c1 => ?_)
 ·
  refine wp_seq ?_
  refine rg a2 s2 [(Ty.bool false)] ok2 ⟨?_, trivial⟩ ?_
  · intro A B G H I; exact rP (y_assign rfl)
  intro a3 s3 D3; have ok3 := D3.ok; have F3 := F2.step0 D3.stp; have q6 := D3.dn 0 rfl rfl; clear D3; refine tn ?_; refine wp_ret ?_; refine tr ?_
  exact retL1 rfl ok3 F3 (cvb (by (rw [decide_eq_false]; intro e; subst e; omega)) q6)
 ·
  refine wp_skip ?_; refine tn ?_; refine wp_seq ?_; refine wp_seq ?_
  refine rg a2 s2 [(Ty.int (0 : Int))] ok2 ⟨?_, trivial⟩ ?_
  · intro A B G H I; exact rP (y_assign rfl)
  intro a4 s4 D4; have ok4 := D4.ok; have F4 := F2.step0 D4.stp; have q7 := D4.kt q3 rfl; have q8 := D4.kt q4 rfl; have q9 := D4.dn 0 rfl rfl; clear D4; refine tn ?_; refine wp_block ?_
  refine loop (fun n1 a5 w1 => ∃ (t1 : GW) (k : Nat), t1.w = w1 ∧ FromL [] s0 t1 ∧ Ok 29 a5 ∧ At (Ty.nat k) t1 a5 (.tmp 5) ∧ At (Ty.lst Ty.ints a) t1 a5 (.tmp 0) ∧ At (Ty.lst Ty.ints b) t1 a5 (.tmp 1) ∧ (k ≤ a.length) ∧ (a.length = b.length) ∧ (∀ j, j < k → a.getD j [] = b.getD j []) ∧ n1 = a.length - k) (a.length - (0)) ?_ ?_
  ·
   exact ⟨s4, 0, rfl, F4, ok4, (cvi (by (first | rfl | omega | (simp_all; done) | (simp_all; omega))) q9), q7, q8, by omega, by omega, fun j hj => absurd hj (Nat.not_lt_zero j), rfl⟩
  ·
   rintro n2 a6 w2 ⟨t2, k, rfl, F5, ok5, q10, q11, q12, hk, hl, heq, rfl⟩
   refine wp_seq ?_; refine wp_seq ?_
   refine reg (a := a6) (σ := t2) rfl (fun i_ => List.getD [(Ty.pr (Ty.nat k)), (Ty.pr (Ty.lst Ty.ints a)), (Ty.pr (Ty.nat (List.length a))), (Ty.pr (Ty.bool (decide (((k : Nat) : Int) < (((List.length a) : Nat) : Int)))))] i_ Pr.any) ok5 rfl ⟨?_, ?_, ?_, ?_, trivial⟩ ?_
   · intro A B G H I; exact rP (y_move (kp (I 5 rfl) G q10))
   · intro A B G H I; exact rP (y_move (kp (I 0 rfl) G q11))
   · intro A B G H I d0; exact rP (y_len Tryd.underlying22 (ed d0 rfl rfl rfl))
   · intro A B G H I d0 d1; exact rP (y_lss (ed d0 rfl rfl rfl) (ed d1 rfl rfl rfl))
   intro a7 s5 D5; have ok6 := D5.ok; have F6 := F5.step0 D5.stp; have q13 := D5.kt q10 rfl; have q14 := D5.kt q11 rfl; have q15 := D5.kt q12 rfl; have q16 := D5.dn 3 rfl rfl; clear D5; refine tn ?_
   refine cond_p (p := (((k : Nat) : Int) < (((List.length a) : Nat) : Int))) q16 (fun c2 => ?_) (fun c2 => ?_)
   ·
    refine wp_skip ?_; refine tn ?_; refine wp_seq ?_; refine wp_block ?_; refine wp_seq ?_
    refine rg a7 s5 [(Ty.lst Ty.ints a), (Ty.nat k), (Ty.ref [(Ty.lst Ty.int (a.getD k []))]), (Ty.lst Ty.int (a.getD k [])), (Ty.lst Ty.ints b), (Ty.nat k), (Ty.ref [(Ty.lst Ty.int (b.getD k []))]), (Ty.lst Ty.int (b.getD k [])), (Ty.bool (decide (((a.getD k [])) = ((b.getD k []))))), (Ty.bool (decide (((a.getD k [])) = ((b.getD k [])))))] ok6 ⟨?_, ?_, ?_, ?_, ?_, ?_, ?_, ?_, ?_, ?_, trivial⟩ ?_
    · intro A B G H I; exact rP (y_move (kp (I 0 rfl) G q14))
    · intro A B G H I; exact rP (y_move (kp (I 5 rfl) G q13))
    · intro A B G H I d0 d1; exact rP (y_index1 Tryd.underlying22 Tryd.inf26 (ed d0 rfl rfl rfl) (ed d1 rfl rfl rfl) (by omega) (lst_get Ty.ints a [] k (by omega)))
    · intro A B G H I d0; exact rP (y_load Tryd.underlying26 rfl (ed d0 rfl rfl rfl) rfl)
    · intro A B G H I; exact rP (y_move (kp (I 1 rfl) G q15))
    · intro A B G H I; exact rP (y_move (kp (I 5 rfl) G q13))
    · intro A B G H I d0 d1; exact rP (y_index1 Tryd.underlying22 Tryd.inf26 (ed d0 rfl rfl rfl) (ed d1 rfl rfl rfl) (by omega) (lst_get Ty.ints b [] k (by omega)))
    · intro A B G H I d0; exact rP (y_load Tryd.underlying26 rfl (ed d0 rfl rfl rfl) rfl)
    · intro A B G H I d0 d1; exact rP (y_call #[A.eval (.tmp 21), A.eval (.tmp 25)] Tryd.func22 rfl rfl (by simp only [List.map_toArray, List.map_cons, List.map_nil]) (rsame_fn ((a.getD k [])) ((b.getD k [])) _ _ _ (ed d0 rfl rfl rfl) (ed d1 rfl rfl rfl) ))
    · intro A B G H I d0 d1 d2 d3 d4 d5 d6 d7 d8 d9 d10; exact rP (y_assign (ed d0 rfl rfl rfl))
    intro a8 s6 D6; have ok7 := D6.ok; have F7 := F6.step0 D6.stp; have q17 := D6.kt q13 rfl; have q18 := D6.kt q14 rfl; have q19 := D6.kt q15 rfl; have q20 := D6.dn 9 rfl rfl; clear D6; refine tn ?_; refine wp_seq ?_
    refine rg a8 s6 [(Ty.bool (decide (((a.getD k [])) = ((b.getD k []))))), (Ty.bool (!(decide (((a.getD k [])) = ((b.getD k []))))))] ok7 ⟨?_, ?_, trivial⟩ ?_
    · intro A B G H I; exact rP (y_move (kp (I 6 rfl) G q20))
    · intro A B G H I d0; exact rP (y_not (ed d0 rfl rfl rfl))
    intro a9 s7 D7; have ok8 := D7.ok; have F8 := F7.step0 D7.stp; have q21 := D7.kt q17 rfl; have q22 := D7.kt q18 rfl; have q23 := D7.kt q19 rfl; have q24 := D7.dn 1 rfl rfl; clear D7; refine tn ?_
    refine cond_t q24 (fun c3 => ?_) (fun c3 => ?_)
    ·
     refine wp_seq ?_
     refine rg a9 s7 [(Ty.bool false)] ok8 ⟨?_, trivial⟩ ?_
     · intro A B G H I; exact rP (y_assign rfl)
     intro a10 s8 D8; have ok9 := D8.ok; have F9 := F8.step0 D8.stp; have q25 := D8.dn 0 rfl rfl; clear D8; refine tn ?_; refine wp_ret ?_; refine br ?_; refine tr ?_; refine tr ?_; refine br ?_; refine tr ?_
     exact retL1 rfl ok9 F9 (cvb (by (exact (decide_eq_false (fun e => by subst e; simp at c3)).symm)) q25)
    ·
     refine wp_skip ?_; refine bn ?_; refine tn ?_
     refine rg a9 s7 [(Ty.nat k), (Ty.int (((k : Nat) : Int) + (1 : Int))), (Ty.int (((k : Nat) : Int) + (1 : Int)))] ok8 ⟨?_, ?_, ?_, trivial⟩ ?_
     · intro A B G H I; exact rP (y_move (kp (I 5 rfl) G q21))
     · intro A B G H I d0; exact rP (y_add (ed d0 rfl rfl rfl) rfl (w64 (by omega) (by omega)))
     · intro A B G H I d0 d1 d2; exact rP (y_assign (ed d0 rfl rfl rfl))
     intro a11 s9 D9; have ok10 := D9.ok; have F10 := F8.step0 D9.stp; have q26 := D9.kt q22 rfl; have q27 := D9.kt q23 rfl; have q28 := D9.dn 2 rfl rfl; clear D9
     exact tn ⟨a.length - ((k+1)), by omega, s9, (k+1), rfl, F10, ok10, (cvi (by (first | rfl | omega | (simp_all; done) | (simp_all; omega))) q28), q26, q27, by omega, by omega, all_snocs heq (by simpa using c3), rfl⟩
   ·
    refine wp_exit ?_; refine tx ?_; refine tx ?_; refine bx ?_; refine tn ?_; refine wp_seq ?_
    refine rg a7 s5 [(Ty.bool true)] ok6 ⟨?_, trivial⟩ ?_
    · intro A B G H I; exact rP (y_assign rfl)
    intro a12 s10 D10; have ok11 := D10.ok; have F11 := F6.step0 D10.stp; have q29 := D10.dn 0 rfl rfl; clear D10; refine tn ?_; refine wp_ret ?_
    exact retL1 rfl ok11 F11 (cvb (by (exact (decide_eq_true (lists_ext (by omega) (fun j hj => heq j (by omega)))).symm)) q29)


end Go.Proofs.YtbilebfnanlgfaaDoor
