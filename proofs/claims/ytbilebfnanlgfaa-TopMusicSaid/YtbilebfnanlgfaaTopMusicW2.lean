/- The functions that the law TopMusic reaches, each by its contract. Part 2. -/
import Derived.Test.YtbilebfnanlgfaaTopMusicW1
namespace Go.Proofs.Ytbilebfnanlgfaa
open Go.KL
theorem Try.inf4 : Info Try.prog 4 (.bool false) 1 1 := by unfold Info; kernel_rfl
theorem Try.inf23 : Info Try.prog 23 (.slice none 0 0) 1 24 := by unfold Info; kernel_rfl
theorem Try.inf107 : Info Try.prog 107 (.agg #[.slice none 0 0, .slice none 0 0, .bool false]) 3 56 := by unfold Info; kernel_rfl
theorem Try.fld107_0 : fieldOf Try.prog 107 0 = some (23, 0) := by kernel_rfl
theorem Try.fld107_1 : fieldOf Try.prog 107 1 = some (23, 1) := by kernel_rfl
theorem Try.fld107_2 : fieldOf Try.prog 107 2 = some (4, 2) := by kernel_rfl
set_option maxHeartbeats 4000000 in
set_option maxRecDepth 100000 in
theorem mread_fn (n : Int) (s : ByteArray) (σ : GW) (hlow : Low [] σ) (v0 v1 : Value) (hv0 : Ty.has (Ty.int n) σ v0) (hv1 : Ty.has (Ty.val (Value.string s)) σ v1)  (hn64 : -9223372036854775808 ≤ n ∧ n ≤ 9223372036854775807) (E : s.size ≤ 17592186044416) :
    FnL Try.prog 68 #[v0, v1] σ [] (fun v τ => ∃ (fr : List Int), ∃ (bk : List Int), ∃ (st : Bool), (Ty.has (Ty.tup2 (Ty.agg [(Ty.lst Ty.int fr), (Ty.lst Ty.int bk), (Ty.bool st)]) (Ty.int (patMay n (runsL s)))) τ v) ∧ (patMay n (runsL s) = 0 → fr = List.map bellQ (frR (runsL s)) ∧ bk = List.map bellQ (bkR (runsL s)))) := by
 have hLl := runsL_len s
 obtain ⟨L, hL⟩ : ∃ L, L = runsL s := ⟨_, rfl⟩
 rw [← hL] at hLl ⊢
 refine fn_introL hlow Try.func68 rfl Try.ntmps68 (Nat.le_of_ble_eq_true rfl) (fun a0 F0 ok0 hargs => ?_)
 have p0 : At (Ty.int n) σ a0 (.tmp 0) := by have e := hargs 0 _ rfl; show Ty.has _ _ _; rw [e]; exact hv0
 have p1 : At (Ty.val (Value.string s)) σ a0 (.tmp 1) := by have e := hargs 1 _ rfl; show Ty.has _ _ _; rw [e]; exact hv1
 clear hargs; refine wp_seq ?_
 refine reg (a := a0) (σ := σ) rfl (fun i_ => List.getD [(Pr.ownp 4 [(Ty.val (Value.slice none 0 0)), (Ty.val (Value.slice none 0 0)), (Ty.bool false)]), (Ty.pr (Ty.int (0 : Int)))] i_ Pr.any) ok0 rfl ⟨?_, ?_, trivial⟩ ?_
 · intro A B E G H; exact rP (y_alloc Try.inf107 rfl (alloc_vals (vs := [.slice none 0 0, .slice none 0 0, .bool false]) rfl))
 · intro A B E G H; exact rP (y_assign rfl)
 intro a1 s1 D1; have ok1 := D1.ok; have F1 := F0.step0 D1.stp; have q1 := D1.kt p0 rfl; have q2 := D1.kt p1 rfl
 obtain ⟨x1, hx1⟩ : ∃ x, a1.eval (.tmp 4) = x := ⟨_, rfl⟩
 have q3 : At (Ty.val x1) s1 a1 (.tmp 4) := hx1
 have o1 : OwnP s1 4 x1 [(Ty.val (Value.slice none 0 0)), (Ty.val (Value.slice none 0 0)), (Ty.bool false)] := al2 (R := (Pr.ownp 4 [(Ty.val (Value.slice none 0 0)), (Ty.val (Value.slice none 0 0)), (Ty.bool false)])) hx1 (D1.done 0)
 clear D1; refine tn ?_; refine wp_seq ?_
 refine reg (a := a1) (σ := s1) rfl (fun i_ => List.getD [(Pr.ownp 5 [(Ty.val (Value.slice none 0 0)), (Ty.val (Value.slice none 0 0)), (Ty.bool false)])] i_ Pr.any) ok1 rfl ⟨?_, trivial⟩ ?_
 · intro A B E G H; exact rP (y_alloc Try.inf107 rfl (alloc_vals (vs := [.slice none 0 0, .slice none 0 0, .bool false]) rfl))
 intro a2 s2 D2; have ok2 := D2.ok; have F2 := F1.step0 D2.stp; have q4 := D2.kt q1 rfl; have q5 := D2.kt q2 rfl; have q6 := D2.kt q3 rfl; have o2 := OwnP.k0 o1 D2.stp
 obtain ⟨x2, hx2⟩ : ∃ x, a2.eval (.tmp 6) = x := ⟨_, rfl⟩
 have q7 : At (Ty.val x2) s2 a2 (.tmp 6) := hx2
 have o3 : OwnP s2 5 x2 [(Ty.val (Value.slice none 0 0)), (Ty.val (Value.slice none 0 0)), (Ty.bool false)] := al2 (R := (Pr.ownp 5 [(Ty.val (Value.slice none 0 0)), (Ty.val (Value.slice none 0 0)), (Ty.bool false)])) hx2 (D2.done 0)
 clear D2; refine tn ?_; refine wp_seq ?_; refine wp_seq ?_
 refine rg a2 s2 [(Ty.int n), (Ty.bool (decide (n < (1 : Int)))), (Ty.bool (decide (n < (1 : Int)))), (Ty.grd ((decide (n < (1 : Int))) = false) (Ty.int n)), (Ty.grd ((decide (n < (1 : Int))) = false) (Ty.bool (decide ((12 : Int) < n)))), (Ty.bool ((decide (n < (1 : Int))) || (decide ((12 : Int) < n))))] ok2 ⟨?_, ?_, ?_, ?_, ?_, ?_, trivial⟩ ?_
 · intro A B E G H; exact rP (y_move (kp (H 0 rfl) E q4))
 · intro A B E G H d0; exact rP (y_lss (ed d0 rfl rfl rfl) rfl)
 · intro A B E G H d0; exact rP (y_move (ed d0 rfl rfl rfl))
 · intro A B E G H d0
   refine run_guard G rfl rfl (by decide) (ed d0 rfl rfl rfl) (fun hg => ?_)
   have hp := of_decide_eq_false hg
   exact y_move (kp (H 0 rfl) E q4)
 · intro A B E G H d0 d1
   refine run_guard G rfl rfl (by decide) (ed d1 rfl rfl rfl) (fun hg => ?_)
   have hp := of_decide_eq_false hg
   exact y_gtr ((ed d0 rfl rfl rfl).1 hg) rfl
 · intro A B E G H d0 d1; exact rP (y_pick_or (ed d0 rfl rfl rfl) rfl (ed d1 rfl rfl rfl))
 intro a3 s3 D3; have ok3 := D3.ok; have F3 := F2.step0 D3.stp; have q8 := D3.kt q4 rfl; have q9 := D3.kt q5 rfl; have q10 := D3.kt q6 rfl; have q11 := D3.kt q7 rfl; have o4 := OwnP.k0 o2 D3.stp; have o5 := OwnP.k0 o3 D3.stp; have q12 := D3.dn 5 rfl rfl; clear D3; refine tn ?_
 refine cond_t q12 (fun c1 => ?_) (fun c1 => ?_)
 ·
  simp only [Bool.or_eq_true, decide_eq_true_eq] at c1
  refine wp_seq ?_
  refine reg2 (a := a3) (σ := s3) rfl 1 (fun i_ => List.getD [(Ty.pr (Ty.agg [(Ty.val (Value.slice none 0 0)), (Ty.val (Value.slice none 0 0)), (Ty.bool false)]))] i_ Pr.any) ok3 rfl (by decide) rfl ⟨?_, trivial⟩ ?_
  · intro A B E G H; exact rP (ownp_loadagg Try.underlying107 Try.inf107 (OwnP.k0 o5 E) (kp (H 6 rfl) E q11))
  intro a4 s4 D4; have ok4 := D4.ok; have F4 := F3.step0 D4.stp; have q13 := D4.kt q10 rfl; have o6 := OwnP.k0 o4 D4.stp; have o7 := OwnP.k0 o5 D4.stp; have q14 := D4.dn 0 (by decide) rfl rfl; clear D4
  refine tailL0 (L := [4]) (R := (fun _ τ => OwnP τ 4 x1 [(Ty.val (Value.slice none 0 0)), (Ty.val (Value.slice none 0 0)), (Ty.bool false)])) rfl rfl (YldM.toL (m_storeagg Try.inf107 (by decide) o6 q13 rfl q14 (by intro U hU; simp only [List.mem_cons, List.not_mem_nil, or_false] at hU; rcases hU with rfl | rfl | rfl <;> first | exact one_val rfl | exact one_sl | exact one_ref))) (fun v1 s5 hs1 r1 => ?_)
  have F5 := F4.stepL hs1 (by decide); have q15 := kpL hs1 (by decide) rfl q13; have o9 := OwnP.keepL o7 hs1 (by decide) (by decide)
  have o8 : OwnP s5 4 x1 [(Ty.val (Value.slice none 0 0)), (Ty.val (Value.slice none 0 0)), (Ty.bool false)] := r1
  clear r1
  refine tailL (L := []) (R := (fun v τ => Pr.has (Ty.pr (Ty.int (1 : Int))) τ v)) rfl rfl (by decide) ok4 (Yld.toL (y_assign rfl)) (fun a5 s6 hs2 ok5 r2 sm1 => ?_)
  have F6 := F5.stepL hs2 (by decide); have q17 := kpL hs2 (by decide) (sm1 4 (by decide)) q15; have o10 := OwnP.keepL o9 hs2 (by decide) (by decide); have o11 := OwnP.keepL o8 hs2 (by decide) (by decide)
  have q18 : At (Ty.int (1 : Int)) s6 a5 (.tmp 5) := r2
  clear r2; refine wpList_nil ?_; refine tn ?_; refine wp_ret ?_
  refine tr ?_
  have o12 : OwnP s6 4 x1 [(Ty.val (Value.slice none 0 0)), (Ty.val (Value.slice none 0 0)), (Ty.bool false)] := o11
  have o13 : OwnP s6 4 x1 [(Ty.lst Ty.int (([] : List Int))), (Ty.val (Value.slice none 0 0)), (Ty.bool false)] := ownp_cellq 0 (Ty.lst Ty.int (([] : List Int))) o12 rfl (nil_has (by first | rfl | omega | (simp_all; done)))
  have o14 : OwnP s6 4 x1 [(Ty.lst Ty.int (([] : List Int))), (Ty.lst Ty.int (([] : List Int))), (Ty.bool false)] := ownp_cellq 1 (Ty.lst Ty.int (([] : List Int))) o13 rfl (nil_has (by first | rfl | omega | (simp_all; done)))
  have o15 : OwnP s6 4 x1 [(Ty.lst Ty.int (([] : List Int))), (Ty.lst Ty.int (([] : List Int))), (Ty.bool (false))] := cvop (by rw [show (Ty.bool false) = (Ty.bool (false)) from by (first | rfl | omega | (simp_all; done))]) o14
  exact retL2c (k := 4) (ts := [(Ty.lst Ty.int (([] : List Int))), (Ty.lst Ty.int (([] : List Int))), (Ty.bool (false))]) rfl ok5 F6 Try.underlying107 Try.inf107 (al (R := (Pr.ownp 4 [(Ty.lst Ty.int (([] : List Int))), (Ty.lst Ty.int (([] : List Int))), (Ty.bool (false))])) q17 o15) (fun v_ hv_ => ⟨([] : List Int), ([] : List Int), false, (hasT2 hv_ (cvi (by (exact (patMay_cnt (by omega)).symm)) q18)), (by intro h_; rw [patMay_cnt (by omega)] at h_; omega)⟩)
 ·
  obtain ⟨d1, d2⟩ := Bool.or_eq_false_iff.mp c1
  replace d1 := of_decide_eq_false d1
  replace d2 := of_decide_eq_false d2
  simp only [Bool.or_eq_false_iff, decide_eq_false_iff_not] at c1; have hx1 : ¬ (n < 1 ∨ 12 < n) := (by omega)
  refine wp_skip ?_
  refine tn ?_; refine wp_seq ?_
  refine reg2 (a := a3) (σ := s3) rfl 1 (fun i_ => List.getD [(Pr.ownm Ty.int kI 8 (fun _ => none : Int → Option Int))] i_ Pr.any) ok3 rfl (by decide) rfl ⟨?_, trivial⟩ ?_
  · intro A B E G H; exact rP (y_makemap 8)
  intro a6 s7 D5; have ok6 := D5.ok; have F7 := F3.step0 D5.stp; have q19 := D5.kt q8 rfl; have q20 := D5.kt q9 rfl; have q21 := D5.kt q10 rfl; have q22 := D5.kt q11 rfl; have o16 := OwnP.k0 o4 D5.stp; have o17 := OwnP.k0 o5 D5.stp
  obtain ⟨x3, hx3⟩ : ∃ x, a6.eval (.tmp 19) = x := ⟨_, rfl⟩
  have q23 : At (Ty.val x3) s7 a6 (.tmp 19) := hx3
  have o18 : OwnM Ty.int kI s7 8 x3 (fun _ => none : Int → Option Int) := al2 (R := (Pr.ownm Ty.int kI 8 (fun _ => none : Int → Option Int))) hx3 (D5.done 0 (by decide))
  clear D5
  refine tailL (L := []) (R := (fun v τ => Pr.has (Ty.pr (Ty.val x3)) τ v)) rfl rfl (by decide) ok6 (Yld.toL (y_assign q23)) (fun a7 s8 hs3 ok7 r3 sm2 => ?_)
  have F8 := F7.stepL hs3 (by decide); have q24 := kpL hs3 (by decide) (sm2 0 (by decide)) q19; have q25 := kpL hs3 (by decide) (sm2 1 (by decide)) q20; have q26 := kpL hs3 (by decide) (sm2 4 (by decide)) q21; have q27 := kpL hs3 (by decide) (sm2 6 (by decide)) q22; have o19 := OwnP.keepL o16 hs3 (by decide) (by decide); have o20 := OwnP.keepL o17 hs3 (by decide) (by decide); have o21 := OwnM.keepL o18 hs3 (by decide) (by decide)
  have q28 : At (Ty.val x3) s8 a7 (.tmp 7) := r3
  clear r3; refine wpList_nil ?_; refine tn ?_; refine wp_seq ?_; refine wp_seq ?_
  refine reg (a := a7) (σ := s8) rfl (fun i_ => List.getD [(Ty.pr (Ty.val (Value.string s))), (Pr.iter 9 s 0)] i_ Pr.any) ok7 rfl ⟨?_, ?_, trivial⟩ ?_
  · intro A B E G H; exact rP (y_move (kp (H 1 rfl) E q25))
  · intro A B E G H d0; exact rP (y_range 9 Try.underlying9 (ed d0 rfl rfl rfl))
  intro a8 s9 D6; have ok8 := D6.ok; have F9 := F8.step0 D6.stp; have q29 := D6.kt q24 rfl; have q30 := D6.kt q26 rfl; have q31 := D6.kt q27 rfl; have q32 := D6.kt q28 rfl; have o22 := OwnP.k0 o19 D6.stp; have o23 := OwnP.k0 o20 D6.stp; have o24 := OwnM.k0 o21 D6.stp
  obtain ⟨x4, hx4⟩ : ∃ x, a8.eval (.tmp 21) = x := ⟨_, rfl⟩
  have q33 : At (Ty.val x4) s9 a8 (.tmp 21) := hx4
  have o25 : Iter s9 9 x4 s 0 := al2 (R := (Pr.iter 9 s 0)) hx4 (D6.done 1)
  clear D6; refine tn ?_
  refine wp_block ?_
  have o26 : Own s9 6 3 1 (Value.slice none 0 0) 0 (List.map Ty.int ([] : List Int)) := Own.nil _ _ _ _
  have o27 : Own s9 7 3 1 (Value.slice none 0 0) 0 (List.map Ty.int ([] : List Int)) := Own.nil _ _ _ _
  refine loop (fun n1 a9 w1 => ∃ (t1 : GW) (p : Nat) (f : Nat) (xs : List Int) (xf xb : Value), t1.w = w1 ∧ FromL [] σ t1 ∧ Ok 94 a9 ∧ At (Ty.int n) t1 a9 (.tmp 0) ∧ At (Ty.val x1) t1 a9 (.tmp 4) ∧ At (Ty.val x2) t1 a9 (.tmp 6) ∧ At (Ty.val x3) t1 a9 (.tmp 7) ∧ At (Ty.val x4) t1 a9 (.tmp 21) ∧ OwnP t1 5 x2 [(Ty.val xf), (Ty.val xb), (Ty.bool (hasS xs))] ∧ Own t1 6 3 1 xf (List.length (List.map bellQ (frR xs))) (List.map Ty.int (List.map bellQ (frR xs))) ∧ Own t1 7 3 1 xb (List.length (List.map bellQ (bkR xs))) (List.map Ty.int (List.map bellQ (bkR xs))) ∧ OwnM Ty.int kI t1 8 x3 (seenF xs) ∧ Iter t1 9 x4 s p ∧ OwnP t1 4 x1 [(Ty.val (Value.slice none 0 0)), (Ty.val (Value.slice none 0 0)), (Ty.bool false)] ∧ (peF n xs (runsF s f p) = peF n [] L) ∧ (xs ++ runsF s f p = L) ∧ (s.size ≤ f + p) ∧ (p ≤ s.size) ∧ (xs.length ≤ p) ∧ n1 = s.size + 1 - p) (s.size + 1 - (0)) ?_ ?_
  ·
   exact ⟨s9, 0, s.size, ([] : List Int), (Value.slice none 0 0), (Value.slice none 0 0), rfl, F9, ok8, q29, q30, q31, q32, q33, (ownp_cell 2 (Ty.bool (hasS (([] : List Int)))) o23 rfl (fun _ _ h => (cvb (by (rfl)) h))), (cvo (by (rfl)) (by (rfl)) o26), (cvo (by (rfl)) (by (rfl)) o27), (cvm (by (exact seen_nil.symm)) o24), (cvit (by omega) o25), o22, by rw [hL]; rfl, by rw [hL]; rfl, by omega, by omega, by simp, rfl⟩
  ·
   rintro n2 a10 w2 ⟨t2, p, f, xs, xf, xb, rfl, F10, ok9, q34, q35, q36, q37, q38, o28, o29, o30, o31, o32, o33, hpe, heq, hf, hp, hx, rfl⟩
   have hw := wid_pos s p
   obtain ⟨rs1, rs2, rs3⟩ := run_same s p
   have hrb := run1_bd s p
   have hfl := frbk_len xs
   have hlf : (List.map bellQ (frR xs)).length = (frR xs).length := List.length_map ..
   have hlb : (List.map bellQ (bkR xs)).length = (bkR xs).length := List.length_map ..
   refine wp_seq ?_
   refine reg2 (a := a10) (σ := t2) rfl 0 (fun i_ => List.getD [] i_ Pr.any) ok9 rfl (by decide) rfl trivial ?_
   intro a11 s10 D7; have ok10 := D7.ok; have F11 := F10.step0 D7.stp; have q39 := D7.kt q34 rfl; have q40 := D7.kt q35 rfl; have q41 := D7.kt q36 rfl; have q42 := D7.kt q37 rfl; have q43 := D7.kt q38 rfl; have o34 := OwnP.k0 o28 D7.stp; have o35 := Own.k0 o29 D7.stp; have o36 := Own.k0 o30 D7.stp; have o37 := OwnM.k0 o31 D7.stp; have o38 := Iter.k0 o32 D7.stp; have o39 := OwnP.k0 o33 D7.stp; clear D7
   refine tailL (L := [9]) (R := (fun v τ => (Ty.nxt (decide (p < s.size)) p (run1 s p)).has τ v ∧ Iter τ 9 x4 s (stepTo s p))) rfl rfl (by decide) ok10 (YldM.toL (m_next (by decide) o38 q43)) (fun a12 s11 hs4 ok11 r4 sm3 => ?_)
   have F12 := F11.stepL hs4 (by decide); have q44 := kpL hs4 (by decide) (sm3 0 (by decide)) q39; have q45 := kpL hs4 (by decide) (sm3 4 (by decide)) q40; have q46 := kpL hs4 (by decide) (sm3 6 (by decide)) q41; have q47 := kpL hs4 (by decide) (sm3 7 (by decide)) q42; have q48 := kpL hs4 (by decide) (sm3 21 (by decide)) q43; have o41 := OwnP.keepL o34 hs4 (by decide) (by decide); have o42 := Own.keepL o35 hs4 (by decide) (by decide); have o43 := Own.keepL o36 hs4 (by decide) (by decide); have o44 := OwnM.keepL o37 hs4 (by decide) (by decide); have o45 := OwnP.keepL o39 hs4 (by decide) (by decide)
   have q49 : At (Ty.nxt (decide (p < s.size)) p (run1 s p)) s11 a12 (.tmp 22) := (r4).1
   have o40 : Iter s11 9 x4 s (stepTo s p) := (r4).2
   clear r4
   refine tailL (L := []) (R := (fun v τ => Pr.has (Ty.pr (Ty.bool (decide (p < s.size)))) τ v)) rfl rfl (by decide) ok11 (Yld.toL (y_ext_n0 q49)) (fun a13 s12 hs5 ok12 r5 sm4 => ?_)
   have F13 := F12.stepL hs5 (by decide); have q50 := kpL hs5 (by decide) (sm4 0 (by decide)) q44; have q51 := kpL hs5 (by decide) (sm4 4 (by decide)) q45; have q52 := kpL hs5 (by decide) (sm4 6 (by decide)) q46; have q53 := kpL hs5 (by decide) (sm4 7 (by decide)) q47; have q54 := kpL hs5 (by decide) (sm4 21 (by decide)) q48; have q55 := kpL hs5 (by decide) (sm4 22 (by decide)) q49; have o46 := OwnP.keepL o41 hs5 (by decide) (by decide); have o47 := Own.keepL o42 hs5 (by decide) (by decide); have o48 := Own.keepL o43 hs5 (by decide) (by decide); have o49 := OwnM.keepL o44 hs5 (by decide) (by decide); have o50 := OwnP.keepL o45 hs5 (by decide) (by decide); have o51 := Iter.keepL o40 hs5 (by decide) (by decide)
   have q56 : At (Ty.bool (decide (p < s.size))) s12 a13 (.tmp 23) := r5
   clear r5; refine wpList_nil ?_; refine tn ?_; refine wp_seq ?_
   refine cond_p (p := (p < s.size)) q56 (fun c2 => ?_) (fun c2 => ?_)
   ·
    rw [runsF_cons (by omega) hf] at hpe; have hwi := wid_in (s := s) (p := p) (by omega)
    refine wp_skip ?_
    refine tn ?_
    refine wp_block ?_
    refine wp_seq ?_
    refine rg a13 s12 [(Ty.val (Value.int .i32 ((run1 s p : Nat) : Int))), (Ty.val (Value.int .i32 ((run1 s p : Nat) : Int)))] ok12 ⟨?_, ?_, trivial⟩ ?_
    · intro A B E G H; exact rP (y_ext_n2 (kp (H 22 rfl) E q55) (decide_eq_true (by omega)))
    · intro A B E G H d0 d1; exact rP (y_assign (ed d0 rfl rfl rfl))
    intro a14 s13 D8; have ok13 := D8.ok; have F14 := F13.step0 D8.stp; have q57 := D8.kt q50 rfl; have q58 := D8.kt q51 rfl; have q59 := D8.kt q52 rfl; have q60 := D8.kt q53 rfl; have q61 := D8.kt q54 rfl; have o52 := OwnP.k0 o46 D8.stp; have o53 := Own.k0 o47 D8.stp; have o54 := Own.k0 o48 D8.stp; have o55 := OwnM.k0 o49 D8.stp; have o56 := OwnP.k0 o50 D8.stp; have o57 := Iter.k0 o51 D8.stp; have q62 := D8.dn 1 rfl rfl; clear D8; refine tn ?_; refine wp_seq ?_
    refine rg a14 s13 [(Ty.val (Value.int .i32 ((run1 s p : Nat) : Int))), (Ty.int (signIdx (((run1 s p : Nat) : Int)))), (Ty.int (signIdx (((run1 s p : Nat) : Int))))] ok13 ⟨?_, ?_, ?_, trivial⟩ ?_
    · intro A B E G H; exact rP (y_move (kp (H 9 rfl) E q62))
    · intro A B E G H d0; exact rP (y_call #[A.eval (.tmp 25)] Try.func93 rfl rfl (by simp only [List.map_toArray, List.map_cons, List.map_nil]) (sign_fn (((run1 s p : Nat) : Int)) _ _ (cvi (σ := B) (by omega) (ed d0 rfl rfl rfl)) (by omega)))
    · intro A B E G H d0 d1 d2 d3; exact rP (y_assign (ed d0 rfl rfl rfl))
    intro a15 s14 D9; have ok14 := D9.ok; have F15 := F14.step0 D9.stp; have q63 := D9.kt q57 rfl; have q64 := D9.kt q58 rfl; have q65 := D9.kt q59 rfl; have q66 := D9.kt q60 rfl; have q67 := D9.kt q61 rfl; have q68 := D9.kt q62 rfl; have o58 := OwnP.k0 o52 D9.stp; have o59 := Own.k0 o53 D9.stp; have o60 := Own.k0 o54 D9.stp; have o61 := OwnM.k0 o55 D9.stp; have o62 := OwnP.k0 o56 D9.stp; have o63 := Iter.k0 o57 D9.stp; have q69 := D9.dn 2 rfl rfl; clear D9; refine tn ?_; refine wp_seq ?_
    refine wp_block ?_
    refine wp_seq ?_
    refine rg a15 s14 [(Ty.val (Value.int .i32 ((run1 s p : Nat) : Int))), (Ty.bool (decide (((run1 s p : Nat) : Int) = (42 : Int)))), (Ty.bool (decide (((run1 s p : Nat) : Int) = (42 : Int)))), (Ty.grd ((decide (((run1 s p : Nat) : Int) = (42 : Int))) = true) (Ty.val (ptrAt x2 2))), (Ty.grd ((decide (((run1 s p : Nat) : Int) = (42 : Int))) = true) (Ty.bool (hasS xs))), (Ty.grd ((decide (((run1 s p : Nat) : Int) = (42 : Int))) = true) (Ty.bool (!(hasS xs)))), (Ty.bool ((decide (((run1 s p : Nat) : Int) = (42 : Int))) && (!(hasS xs)))), (Ty.bool ((decide (((run1 s p : Nat) : Int) = (42 : Int))) && (!(hasS xs))))] ok14 ⟨?_, ?_, ?_, ?_, ?_, ?_, ?_, ?_, trivial⟩ ?_
    · intro A B E G H; exact rP (y_move (kp (H 9 rfl) E q68))
    · intro A B E G H d0; exact rP (y_eql (ed d0 rfl rfl rfl) rfl)
    · intro A B E G H d0; exact rP (y_move (ed d0 rfl rfl rfl))
    · intro A B E G H d0
      refine run_guard G rfl rfl (by decide) (ed d0 rfl rfl rfl) (fun hg => ?_)
      have hp := of_decide_eq_true hg
      exact ownp_field Try.fld107_2 Try.inf4 (by decide) (OwnP.k0 o58 E) (kp (H 6 rfl) E q65)
    · intro A B E G H d0 d1
      refine run_guard G rfl rfl (by decide) (ed d1 rfl rfl rfl) (fun hg => ?_)
      have hp := of_decide_eq_true hg
      exact ownp_load Try.underlying4 rfl (OwnP.k0 o58 E) ((ed d0 rfl rfl rfl).1 hg) rfl
    · intro A B E G H d0 d1
      refine run_guard G rfl rfl (by decide) (ed d1 rfl rfl rfl) (fun hg => ?_)
      have hp := of_decide_eq_true hg
      exact y_not ((ed d0 rfl rfl rfl).1 hg)
    · intro A B E G H d0 d1; exact rP (y_pick_and (ed d0 rfl rfl rfl) (ed d1 rfl rfl rfl) rfl)
    · intro A B E G H d0 d1; exact rP (y_assign (ed d0 rfl rfl rfl))
    intro a16 s15 D10; have ok15 := D10.ok; have F16 := F15.step0 D10.stp; have q70 := D10.kt q63 rfl; have q71 := D10.kt q64 rfl; have q72 := D10.kt q65 rfl; have q73 := D10.kt q66 rfl; have q74 := D10.kt q67 rfl; have q75 := D10.kt q68 rfl; have q76 := D10.kt q69 rfl; have o64 := OwnP.k0 o58 D10.stp; have o65 := Own.k0 o59 D10.stp; have o66 := Own.k0 o60 D10.stp; have o67 := OwnM.k0 o61 D10.stp; have o68 := OwnP.k0 o62 D10.stp; have o69 := Iter.k0 o63 D10.stp; have q77 := D10.dn 7 rfl rfl; clear D10; refine tn ?_
    refine cond_t q77 (fun c3 => ?_) (fun c3 => ?_)
    ·
     obtain ⟨d3, d4⟩ := Bool.and_eq_true_iff.mp c3
     replace d3 := of_decide_eq_true d3
     simp only [Bool.and_eq_true, decide_eq_true_eq, Bool.not_eq_true'] at c3; have hm : runM s p = 42 := rs2.2 c3.1; have hk := ok_star (n := n) hm (starN_0.2 c3.2); have hfb := frbk_star c3.2; rw [← hm] at hfb; have hsn : hasS (xs ++ [runM s p]) = true := (by rw [hm, hasS_snoc]; simp); have hse := seen_skip (xs := xs) (c := runM s p) (by rw [hm, sign_42]; decide)
     refine wp_seq ?_
     refine reg2 (a := a16) (σ := s15) rfl 1 (fun i_ => List.getD [(Ty.pr (Ty.val (ptrAt x2 2)))] i_ Pr.any) ok15 rfl (by decide) rfl ⟨?_, trivial⟩ ?_
     · intro A B E G H; exact rP (ownp_field Try.fld107_2 Try.inf4 (by decide) (OwnP.k0 o64 E) (kp (H 6 rfl) E q72))
     intro a17 s16 D11; have ok16 := D11.ok; have F17 := F16.step0 D11.stp; have q78 := D11.kt q70 rfl; have q79 := D11.kt q71 rfl; have q80 := D11.kt q72 rfl; have q81 := D11.kt q73 rfl; have q82 := D11.kt q74 rfl; have o70 := OwnP.k0 o64 D11.stp; have o71 := Own.k0 o65 D11.stp; have o72 := Own.k0 o66 D11.stp; have o73 := OwnM.k0 o67 D11.stp; have o74 := OwnP.k0 o68 D11.stp; have o75 := Iter.k0 o69 D11.stp; have q83 := D11.dn 0 (by decide) rfl rfl; clear D11
     refine tailL0 (L := [5]) (R := (fun _ τ => OwnP τ 5 x2 ([(Ty.val xf), (Ty.val xb), (Ty.bool (hasS xs))].set 2 (Ty.bool true)))) rfl rfl (YldM.toL (m_storep Try.inf4 (by decide) o70 q83 (Nat.le_of_ble_eq_true rfl) rfl (one_val rfl))) (fun v2 s17 hs6 r6 => ?_)
     have F18 := F17.stepL hs6 (by decide); have q84 := kpL hs6 (by decide) rfl q78; have q85 := kpL hs6 (by decide) rfl q79; have q86 := kpL hs6 (by decide) rfl q80; have q87 := kpL hs6 (by decide) rfl q81; have q88 := kpL hs6 (by decide) rfl q82; have o77 := Own.keepL o71 hs6 (by decide) (by decide); have o78 := Own.keepL o72 hs6 (by decide) (by decide); have o79 := OwnM.keepL o73 hs6 (by decide) (by decide); have o80 := OwnP.keepL o74 hs6 (by decide) (by decide); have o81 := Iter.keepL o75 hs6 (by decide) (by decide)
     have o76 : OwnP s17 5 x2 [(Ty.val xf), (Ty.val xb), (Ty.bool true)] := r6
     clear r6; refine wpList_nil ?_; refine tn ?_; refine wp_exit ?_
     refine bo (by decide) ?_
     refine tx ?_; refine bx ?_
     exact tn ⟨s.size + 1 - ((p + wid s p)), by omega, s17, (p + wid s p), (f - 1), (xs ++ [runM s p]), xf, xb, rfl, F18, ok16, q84, q85, q86, q87, q88, (ownp_cell 2 (Ty.bool (hasS ((xs ++ [runM s p])))) o76 rfl (fun _ _ h => (cvb (by (rw [hsn])) h))), (cvo (by (rw [hfb.1])) (by (rw [hfb.1])) o77), (cvo (by (rw [hfb.2])) (by (rw [hfb.2])) o78), (cvm (by (rw [hse])) o79), (cvit (by rw [stepTo, if_pos (by assumption)]) o81), o80, pe_go hpe hk, runsF_step heq (by omega) (by omega), by omega, by omega, by simp; omega, rfl⟩
    ·
     have hx3 : ¬ (runM s p = 42 ∧ starN xs = 0) := (by rintro ⟨a_, b_⟩; rw [starN_0] at b_; rw [rs2] at a_; simp [a_, b_] at c3)
     refine wp_seq ?_
     refine rg a16 s15 [(Ty.val (Value.int .i32 ((run1 s p : Nat) : Int))), (Ty.bool (decide (((run1 s p : Nat) : Int) = (63 : Int)))), (Ty.bool (decide (((run1 s p : Nat) : Int) = (63 : Int))))] ok15 ⟨?_, ?_, ?_, trivial⟩ ?_
     · intro A B E G H; exact rP (y_move (kp (H 9 rfl) E q75))
     · intro A B E G H d0; exact rP (y_eql (ed d0 rfl rfl rfl) rfl)
     · intro A B E G H d0; exact rP (y_assign (ed d0 rfl rfl rfl))
     intro a18 s18 D12; have ok17 := D12.ok; have F19 := F16.step0 D12.stp; have q90 := D12.kt q70 rfl; have q91 := D12.kt q71 rfl; have q92 := D12.kt q72 rfl; have q93 := D12.kt q73 rfl; have q94 := D12.kt q74 rfl; have q95 := D12.kt q76 rfl; have o82 := OwnP.k0 o64 D12.stp; have o83 := Own.k0 o65 D12.stp; have o84 := Own.k0 o66 D12.stp; have o85 := OwnM.k0 o67 D12.stp; have o86 := OwnP.k0 o68 D12.stp; have o87 := Iter.k0 o69 D12.stp; have q96 := D12.dn 2 rfl rfl; clear D12; refine tn ?_
     refine cond_p (p := (((run1 s p : Nat) : Int) = (63 : Int))) q96 (fun c4 => ?_) (fun c4 => ?_)
     ·
      have hm := rs3.2 c4; have hk := ok_q (n := n) (xs := xs) hm; have hbq : bellQ (runM s p) = -1 := (by rw [hm]; rfl); have hn42 : runM s p ≠ 42 := (by omega); have hse := seen_skip (xs := xs) (c := runM s p) (by rw [hm, sign_63]; decide); have hsn : hasS (xs ++ [runM s p]) = hasS xs := (by rw [hasS_snoc]; simp [hn42])
      refine rg a18 s18 [(Ty.int (-1 : Int))] ok17 ⟨?_, trivial⟩ ?_
      · intro A B E G H; exact rP (y_assign rfl)
      intro a19 s19 D13; have ok18 := D13.ok; have F20 := F19.step0 D13.stp; have q97 := D13.kt q90 rfl; have q98 := D13.kt q91 rfl; have q99 := D13.kt q92 rfl; have q100 := D13.kt q93 rfl; have q101 := D13.kt q94 rfl; have o88 := OwnP.k0 o82 D13.stp; have o89 := Own.k0 o83 D13.stp; have o90 := Own.k0 o84 D13.stp; have o91 := OwnM.k0 o85 D13.stp; have o92 := OwnP.k0 o86 D13.stp; have o93 := Iter.k0 o87 D13.stp; have q102 := D13.dn 0 rfl rfl; clear D13; refine bn ?_; refine tn ?_; refine wp_seq ?_
      refine rg a19 s19 [(Ty.val (ptrAt x2 2)), (Ty.bool (hasS xs))] ok18 ⟨?_, ?_, trivial⟩ ?_
      · intro A B E G H; exact rP (ownp_field Try.fld107_2 Try.inf4 (by decide) (OwnP.k0 o88 E) (kp (H 6 rfl) E q99))
      · intro A B E G H d0; exact rP (ownp_load Try.underlying4 rfl (OwnP.k0 o88 E) (ed d0 rfl rfl rfl) rfl)
      intro a20 s20 D14; have ok19 := D14.ok; have F21 := F20.step0 D14.stp; have q103 := D14.kt q97 rfl; have q104 := D14.kt q98 rfl; have q105 := D14.kt q99 rfl; have q106 := D14.kt q100 rfl; have q107 := D14.kt q101 rfl; have q108 := D14.kt q102 rfl; have o94 := OwnP.k0 o88 D14.stp; have o95 := Own.k0 o89 D14.stp; have o96 := Own.k0 o90 D14.stp; have o97 := OwnM.k0 o91 D14.stp; have o98 := OwnP.k0 o92 D14.stp; have o99 := Iter.k0 o93 D14.stp; have q109 := D14.dn 1 rfl rfl; clear D14; refine tn ?_
      refine cond_t q109 (fun c5 => ?_) (fun c5 => ?_)
      ·
       have hfb := frbk_yes c5 (runM s p)
       refine reg2 (a := a20) (σ := s20) rfl 4 (fun i_ => List.getD [(Ty.pr (Ty.val (ptrAt x2 1))), (Ty.pr (Ty.val xb)), (Ty.pr (Ty.int (-1 : Int))), (Ty.pr (Ty.sl 1 1 [(Ty.int (-1 : Int))]))] i_ Pr.any) ok19 rfl (by decide) rfl ⟨?_, ?_, ?_, ?_, trivial⟩ ?_
       · intro A B E G H; exact rP (ownp_field Try.fld107_1 Try.inf23 (by decide) (OwnP.k0 o94 E) (kp (H 6 rfl) E q105))
       · intro A B E G H d0; exact rP (ownp_load Try.underlying23 rfl (OwnP.k0 o94 E) (ed d0 rfl rfl rfl) rfl)
       · intro A B E G H; exact rP (y_move (kp (H 10 rfl) E q108))
       · intro A B E G H d0; exact rP (y_build1o Try.underlying23 Try.inf3 rfl (one_val rfl) (ed d0 rfl rfl rfl))
       intro a21 s21 D15; have ok20 := D15.ok; have F22 := F21.step0 D15.stp; have q110 := D15.kt q103 rfl; have q111 := D15.kt q104 rfl; have q112 := D15.kt q105 rfl; have q113 := D15.kt q106 rfl; have q114 := D15.kt q107 rfl; have o100 := OwnP.k0 o94 D15.stp; have o101 := Own.k0 o95 D15.stp; have o102 := Own.k0 o96 D15.stp; have o103 := OwnM.k0 o97 D15.stp; have o104 := OwnP.k0 o98 D15.stp; have o105 := Iter.k0 o99 D15.stp
       have q115 : At (Ty.val xb) s21 a21 (.tmp 61) := D15.done 1 (by decide)
       have q116 := D15.dn 3 (by decide) rfl rfl
       have b1 := sl_le q116
       clear D15
       refine tailL (L := [7]) (R := (fun v τ => Own τ 7 3 1 v ((List.length (List.map bellQ (bkR xs))) + 1) ((List.map Ty.int (List.map bellQ (bkR xs))) ++ [(Ty.int (-1 : Int))]))) rfl rfl (by decide) ok20 (YldM.toL (m_append Try.underlying23 Try.inf3 (by decide) rfl (by decide) (al (R := (Pr.own 7 3 1 (List.length (List.map bellQ (bkR xs))) (List.map Ty.int (List.map bellQ (bkR xs))))) q115 o102) q116 (by intro U hU; simp at hU; subst hU; exact one_val rfl) (by omega) (by omega))) (fun a22 s22 hs7 ok21 r7 sm5 => ?_)
       have F23 := F22.stepL hs7 (by decide); have q117 := kpL hs7 (by decide) (sm5 0 (by decide)) q110; have q118 := kpL hs7 (by decide) (sm5 4 (by decide)) q111; have q119 := kpL hs7 (by decide) (sm5 6 (by decide)) q112; have q120 := kpL hs7 (by decide) (sm5 7 (by decide)) q113; have q121 := kpL hs7 (by decide) (sm5 21 (by decide)) q114; have o107 := OwnP.keepL o100 hs7 (by decide) (by decide); have o108 := Own.keepL o101 hs7 (by decide) (by decide); have o109 := OwnM.keepL o103 hs7 (by decide) (by decide); have o110 := OwnP.keepL o104 hs7 (by decide) (by decide); have o111 := Iter.keepL o105 hs7 (by decide) (by decide)
       obtain ⟨x5, hx5⟩ : ∃ x, a22.eval (.tmp 64) = x := ⟨_, rfl⟩
       have q122 : At (Ty.val x5) s22 a22 (.tmp 64) := hx5
       have o106 : Own s22 7 3 1 x5 (List.length ((List.map bellQ (bkR xs)) ++ [(-1 : Int)])) (List.map Ty.int ((List.map bellQ (bkR xs)) ++ [(-1 : Int)])) := al2 (R := (Pr.own 7 3 1 (List.length ((List.map bellQ (bkR xs)) ++ [(-1 : Int)])) (List.map Ty.int ((List.map bellQ (bkR xs)) ++ [(-1 : Int)])))) hx5 (cvo (by simp) (by first | (rw [List.map_append]; rfl) | simp) r7)
       clear r7
       refine tailL (L := []) (R := (fun v τ => Pr.has (Ty.pr (Ty.val (ptrAt x2 1))) τ v)) rfl rfl (by decide) ok21 (Yld.toL (ownp_field Try.fld107_1 Try.inf23 (by decide) o107 q119)) (fun a23 s23 hs8 ok22 r8 sm6 => ?_)
       have F24 := F23.stepL hs8 (by decide); have q123 := kpL hs8 (by decide) (sm6 0 (by decide)) q117; have q124 := kpL hs8 (by decide) (sm6 4 (by decide)) q118; have q125 := kpL hs8 (by decide) (sm6 6 (by decide)) q119; have q126 := kpL hs8 (by decide) (sm6 7 (by decide)) q120; have q127 := kpL hs8 (by decide) (sm6 21 (by decide)) q121; have q128 := kpL hs8 (by decide) (sm6 64 (by decide)) q122; have o112 := OwnP.keepL o107 hs8 (by decide) (by decide); have o113 := Own.keepL o108 hs8 (by decide) (by decide); have o114 := OwnM.keepL o109 hs8 (by decide) (by decide); have o115 := OwnP.keepL o110 hs8 (by decide) (by decide); have o116 := Iter.keepL o111 hs8 (by decide) (by decide); have o117 := Own.keepL o106 hs8 (by decide) (by decide)
       have q129 : At (Ty.val (ptrAt x2 1)) s23 a23 (.tmp 65) := r8
       clear r8
       refine tailL0 (L := [5]) (R := (fun _ τ => OwnP τ 5 x2 ([(Ty.val xf), (Ty.val xb), (Ty.bool (hasS xs))].set 1 (Ty.val x5)))) rfl rfl (YldM.toL (m_storep Try.inf23 (by decide) o112 q129 (Nat.le_of_ble_eq_true rfl) q128 (one_val (Own.one o117)))) (fun v3 s24 hs9 r9 => ?_)
       have F25 := F24.stepL hs9 (by decide); have q130 := kpL hs9 (by decide) rfl q123; have q131 := kpL hs9 (by decide) rfl q124; have q132 := kpL hs9 (by decide) rfl q125; have q133 := kpL hs9 (by decide) rfl q126; have q134 := kpL hs9 (by decide) rfl q127; have o119 := Own.keepL o113 hs9 (by decide) (by decide); have o120 := OwnM.keepL o114 hs9 (by decide) (by decide); have o121 := OwnP.keepL o115 hs9 (by decide) (by decide); have o122 := Iter.keepL o116 hs9 (by decide) (by decide); have o123 := Own.keepL o117 hs9 (by decide) (by decide)
       have o118 : OwnP s24 5 x2 [(Ty.val xf), (Ty.val x5), (Ty.bool (hasS xs))] := r9
       clear r9; refine wpList_nil ?_; refine bn ?_
       exact tn ⟨s.size + 1 - ((p + wid s p)), by omega, s24, (p + wid s p), (f - 1), (xs ++ [runM s p]), xf, x5, rfl, F25, ok22, q130, q131, q132, q133, q134, (ownp_cell 2 (Ty.bool (hasS ((xs ++ [runM s p])))) o118 rfl (fun _ _ h => (cvb (by (rw [hsn])) h))), (cvo (by (rw [hfb.1])) (by (rw [hfb.1])) o119), (cvo (by (simp [hfb.2, hbq])) (by (simp [hfb.2, hbq])) o123), (cvm (by (rw [hse])) o120), (cvit (by rw [stepTo, if_pos (by assumption)]) o122), o121, pe_go hpe hk, runsF_step heq (by omega) (by omega), by omega, by omega, by simp; omega, rfl⟩
      ·
       have hfb := frbk_new c5 hn42
       refine reg2 (a := a20) (σ := s20) rfl 4 (fun i_ => List.getD [(Ty.pr (Ty.val (ptrAt x2 0))), (Ty.pr (Ty.val xf)), (Ty.pr (Ty.int (-1 : Int))), (Ty.pr (Ty.sl 1 1 [(Ty.int (-1 : Int))]))] i_ Pr.any) ok19 rfl (by decide) rfl ⟨?_, ?_, ?_, ?_, trivial⟩ ?_
       · intro A B E G H; exact rP (ownp_field Try.fld107_0 Try.inf23 (by decide) (OwnP.k0 o94 E) (kp (H 6 rfl) E q105))
       · intro A B E G H d0; exact rP (ownp_load Try.underlying23 rfl (OwnP.k0 o94 E) (ed d0 rfl rfl rfl) rfl)
       · intro A B E G H; exact rP (y_move (kp (H 10 rfl) E q108))
       · intro A B E G H d0; exact rP (y_build1o Try.underlying23 Try.inf3 rfl (one_val rfl) (ed d0 rfl rfl rfl))
       intro a24 s25 D16; have ok23 := D16.ok; have F26 := F21.step0 D16.stp; have q136 := D16.kt q103 rfl; have q137 := D16.kt q104 rfl; have q138 := D16.kt q105 rfl; have q139 := D16.kt q106 rfl; have q140 := D16.kt q107 rfl; have o124 := OwnP.k0 o94 D16.stp; have o125 := Own.k0 o95 D16.stp; have o126 := Own.k0 o96 D16.stp; have o127 := OwnM.k0 o97 D16.stp; have o128 := OwnP.k0 o98 D16.stp; have o129 := Iter.k0 o99 D16.stp
       have q141 : At (Ty.val xf) s25 a24 (.tmp 67) := D16.done 1 (by decide)
       have q142 := D16.dn 3 (by decide) rfl rfl
       have b2 := sl_le q142
       clear D16
       refine tailL (L := [6]) (R := (fun v τ => Own τ 6 3 1 v ((List.length (List.map bellQ (frR xs))) + 1) ((List.map Ty.int (List.map bellQ (frR xs))) ++ [(Ty.int (-1 : Int))]))) rfl rfl (by decide) ok23 (YldM.toL (m_append Try.underlying23 Try.inf3 (by decide) rfl (by decide) (al (R := (Pr.own 6 3 1 (List.length (List.map bellQ (frR xs))) (List.map Ty.int (List.map bellQ (frR xs))))) q141 o125) q142 (by intro U hU; simp at hU; subst hU; exact one_val rfl) (by omega) (by omega))) (fun a25 s26 hs10 ok24 r10 sm7 => ?_)
       have F27 := F26.stepL hs10 (by decide); have q143 := kpL hs10 (by decide) (sm7 0 (by decide)) q136; have q144 := kpL hs10 (by decide) (sm7 4 (by decide)) q137; have q145 := kpL hs10 (by decide) (sm7 6 (by decide)) q138; have q146 := kpL hs10 (by decide) (sm7 7 (by decide)) q139; have q147 := kpL hs10 (by decide) (sm7 21 (by decide)) q140; have o131 := OwnP.keepL o124 hs10 (by decide) (by decide); have o132 := Own.keepL o126 hs10 (by decide) (by decide); have o133 := OwnM.keepL o127 hs10 (by decide) (by decide); have o134 := OwnP.keepL o128 hs10 (by decide) (by decide); have o135 := Iter.keepL o129 hs10 (by decide) (by decide)
       obtain ⟨x6, hx6⟩ : ∃ x, a25.eval (.tmp 70) = x := ⟨_, rfl⟩
       have q148 : At (Ty.val x6) s26 a25 (.tmp 70) := hx6
       have o130 : Own s26 6 3 1 x6 (List.length ((List.map bellQ (frR xs)) ++ [(-1 : Int)])) (List.map Ty.int ((List.map bellQ (frR xs)) ++ [(-1 : Int)])) := al2 (R := (Pr.own 6 3 1 (List.length ((List.map bellQ (frR xs)) ++ [(-1 : Int)])) (List.map Ty.int ((List.map bellQ (frR xs)) ++ [(-1 : Int)])))) hx6 (cvo (by simp) (by first | (rw [List.map_append]; rfl) | simp) r10)
       clear r10
       refine tailL (L := []) (R := (fun v τ => Pr.has (Ty.pr (Ty.val (ptrAt x2 0))) τ v)) rfl rfl (by decide) ok24 (Yld.toL (ownp_field Try.fld107_0 Try.inf23 (by decide) o131 q145)) (fun a26 s27 hs11 ok25 r11 sm8 => ?_)
       have F28 := F27.stepL hs11 (by decide); have q149 := kpL hs11 (by decide) (sm8 0 (by decide)) q143; have q150 := kpL hs11 (by decide) (sm8 4 (by decide)) q144; have q151 := kpL hs11 (by decide) (sm8 6 (by decide)) q145; have q152 := kpL hs11 (by decide) (sm8 7 (by decide)) q146; have q153 := kpL hs11 (by decide) (sm8 21 (by decide)) q147; have q154 := kpL hs11 (by decide) (sm8 70 (by decide)) q148; have o136 := OwnP.keepL o131 hs11 (by decide) (by decide); have o137 := Own.keepL o132 hs11 (by decide) (by decide); have o138 := OwnM.keepL o133 hs11 (by decide) (by decide); have o139 := OwnP.keepL o134 hs11 (by decide) (by decide); have o140 := Iter.keepL o135 hs11 (by decide) (by decide); have o141 := Own.keepL o130 hs11 (by decide) (by decide)
       have q155 : At (Ty.val (ptrAt x2 0)) s27 a26 (.tmp 71) := r11
       clear r11
       refine tailL0 (L := [5]) (R := (fun _ τ => OwnP τ 5 x2 ([(Ty.val xf), (Ty.val xb), (Ty.bool (hasS xs))].set 0 (Ty.val x6)))) rfl rfl (YldM.toL (m_storep Try.inf23 (by decide) o136 q155 (Nat.le_of_ble_eq_true rfl) q154 (one_val (Own.one o141)))) (fun v4 s28 hs12 r12 => ?_)
       have F29 := F28.stepL hs12 (by decide); have q156 := kpL hs12 (by decide) rfl q149; have q157 := kpL hs12 (by decide) rfl q150; have q158 := kpL hs12 (by decide) rfl q151; have q159 := kpL hs12 (by decide) rfl q152; have q160 := kpL hs12 (by decide) rfl q153; have o143 := Own.keepL o137 hs12 (by decide) (by decide); have o144 := OwnM.keepL o138 hs12 (by decide) (by decide); have o145 := OwnP.keepL o139 hs12 (by decide) (by decide); have o146 := Iter.keepL o140 hs12 (by decide) (by decide); have o147 := Own.keepL o141 hs12 (by decide) (by decide)
       have o142 : OwnP s28 5 x2 [(Ty.val x6), (Ty.val xb), (Ty.bool (hasS xs))] := r12
       clear r12; refine wpList_nil ?_; refine bn ?_
       exact tn ⟨s.size + 1 - ((p + wid s p)), by omega, s28, (p + wid s p), (f - 1), (xs ++ [runM s p]), x6, xb, rfl, F29, ok25, q156, q157, q158, q159, q160, (ownp_cell 2 (Ty.bool (hasS ((xs ++ [runM s p])))) o142 rfl (fun _ _ h => (cvb (by (rw [hsn])) h))), (cvo (by (simp [hfb.1, hbq])) (by (simp [hfb.1, hbq])) o147), (cvo (by (rw [hfb.2])) (by (rw [hfb.2])) o143), (cvm (by (rw [hse])) o144), (cvit (by rw [stepTo, if_pos (by assumption)]) o146), o145, pe_go hpe hk, runsF_step heq (by omega) (by omega), by omega, by omega, by simp; omega, rfl⟩
     ·
      have h63 : runM s p ≠ 63 := fun e_ => c4 (rs3.1 e_)
      refine wp_seq ?_
      refine rg a18 s18 [(Ty.int (signIdx (((run1 s p : Nat) : Int)))), (Ty.bool (decide ((signIdx (((run1 s p : Nat) : Int))) < (0 : Int)))), (Ty.bool (decide ((signIdx (((run1 s p : Nat) : Int))) < (0 : Int)))), (Ty.grd ((decide ((signIdx (((run1 s p : Nat) : Int))) < (0 : Int))) = false) (Ty.int (signIdx (((run1 s p : Nat) : Int))))), (Ty.grd ((decide ((signIdx (((run1 s p : Nat) : Int))) < (0 : Int))) = false) (Ty.int n)), (Ty.grd ((decide ((signIdx (((run1 s p : Nat) : Int))) < (0 : Int))) = false) (Ty.bool (decide (n ≤ (signIdx (((run1 s p : Nat) : Int))))))), (Ty.bool ((decide ((signIdx (((run1 s p : Nat) : Int))) < (0 : Int))) || (decide (n ≤ (signIdx (((run1 s p : Nat) : Int))))))), (Ty.bool ((decide ((signIdx (((run1 s p : Nat) : Int))) < (0 : Int))) || (decide (n ≤ (signIdx (((run1 s p : Nat) : Int)))))))] ok17 ⟨?_, ?_, ?_, ?_, ?_, ?_, ?_, ?_, trivial⟩ ?_
      · intro A B E G H; exact rP (y_move (kp (H 10 rfl) E q95))
      · intro A B E G H d0; exact rP (y_lss (ed d0 rfl rfl rfl) rfl)
      · intro A B E G H d0; exact rP (y_move (ed d0 rfl rfl rfl))
      · intro A B E G H d0
        refine run_guard G rfl rfl (by decide) (ed d0 rfl rfl rfl) (fun hg => ?_)
        have hp := of_decide_eq_false hg
        exact y_move (kp (H 10 rfl) E q95)
      · intro A B E G H d0
        refine run_guard G rfl rfl (by decide) (ed d0 rfl rfl rfl) (fun hg => ?_)
        have hp := of_decide_eq_false hg
        exact y_move (kp (H 0 rfl) E q90)
      · intro A B E G H d0 d1 d2
        refine run_guard G rfl rfl (by decide) (ed d2 rfl rfl rfl) (fun hg => ?_)
        have hp := of_decide_eq_false hg
        exact y_geq ((ed d0 rfl rfl rfl).1 hg) ((ed d1 rfl rfl rfl).1 hg)
      · intro A B E G H d0 d1; exact rP (y_pick_or (ed d0 rfl rfl rfl) rfl (ed d1 rfl rfl rfl))
      · intro A B E G H d0 d1; exact rP (y_assign (ed d0 rfl rfl rfl))
      intro a27 s29 D17; have ok26 := D17.ok; have F30 := F19.step0 D17.stp; have q162 := D17.kt q90 rfl; have q163 := D17.kt q91 rfl; have q164 := D17.kt q92 rfl; have q165 := D17.kt q93 rfl; have q166 := D17.kt q94 rfl; have q167 := D17.kt q95 rfl; have o148 := OwnP.k0 o82 D17.stp; have o149 := Own.k0 o83 D17.stp; have o150 := Own.k0 o84 D17.stp; have o151 := OwnM.k0 o85 D17.stp; have o152 := OwnP.k0 o86 D17.stp; have o153 := Iter.k0 o87 D17.stp; have q168 := D17.dn 7 rfl rfl; clear D17; refine tn ?_
      refine cond_t q168 (fun c6 => ?_) (fun c6 => ?_)
      ·
       simp only [Bool.or_eq_true, decide_eq_true_eq] at c6; have he := pe_stop hpe (ok_word hx3 h63 (by rw [rs1]; omega)) (by decide)
       refine wp_seq ?_
       refine reg2 (a := a27) (σ := s29) rfl 1 (fun i_ => List.getD [(Ty.pr (Ty.agg [(Ty.val xf), (Ty.val xb), (Ty.bool (hasS xs))]))] i_ Pr.any) ok26 rfl (by decide) rfl ⟨?_, trivial⟩ ?_
       · intro A B E G H; exact rP (ownp_loadagg Try.underlying107 Try.inf107 (OwnP.k0 o148 E) (kp (H 6 rfl) E q164))
       intro a28 s30 D18; have ok27 := D18.ok; have F31 := F30.step0 D18.stp; have q169 := D18.kt q163 rfl; have o154 := OwnP.k0 o148 D18.stp; have o155 := Own.k0 o149 D18.stp; have o156 := Own.k0 o150 D18.stp; have o157 := OwnM.k0 o151 D18.stp; have o158 := OwnP.k0 o152 D18.stp; have o159 := Iter.k0 o153 D18.stp; have q170 := D18.dn 0 (by decide) rfl rfl; clear D18
       refine tailL0 (L := [4]) (R := (fun _ τ => OwnP τ 4 x1 [(Ty.val xf), (Ty.val xb), (Ty.bool (hasS xs))])) rfl rfl (YldM.toL (m_storeagg Try.inf107 (by decide) o158 q169 rfl q170 (by intro U hU; simp only [List.mem_cons, List.not_mem_nil, or_false] at hU; rcases hU with rfl | rfl | rfl <;> first | exact one_val rfl | exact one_sl | exact one_ref | exact one_val (Own.one o155) | exact one_val (Own.one o156)))) (fun v5 s31 hs13 r13 => ?_)
       have F32 := F31.stepL hs13 (by decide); have q171 := kpL hs13 (by decide) rfl q169; have o161 := OwnP.keepL o154 hs13 (by decide) (by decide); have o162 := Own.keepL o155 hs13 (by decide) (by decide); have o163 := Own.keepL o156 hs13 (by decide) (by decide); have o164 := OwnM.keepL o157 hs13 (by decide) (by decide); have o165 := Iter.keepL o159 hs13 (by decide) (by decide)
       have o160 : OwnP s31 4 x1 [(Ty.val xf), (Ty.val xb), (Ty.bool (hasS xs))] := r13
       clear r13
       refine tailL (L := []) (R := (fun v τ => Pr.has (Ty.pr (Ty.int (4 : Int))) τ v)) rfl rfl (by decide) ok27 (Yld.toL (y_assign rfl)) (fun a29 s32 hs14 ok28 r14 sm9 => ?_)
       have F33 := F32.stepL hs14 (by decide); have q173 := kpL hs14 (by decide) (sm9 4 (by decide)) q171; have o166 := OwnP.keepL o161 hs14 (by decide) (by decide); have o167 := Own.keepL o162 hs14 (by decide) (by decide); have o168 := Own.keepL o163 hs14 (by decide) (by decide); have o169 := OwnM.keepL o164 hs14 (by decide) (by decide); have o170 := Iter.keepL o165 hs14 (by decide) (by decide); have o171 := OwnP.keepL o160 hs14 (by decide) (by decide)
       have q174 : At (Ty.int (4 : Int)) s32 a29 (.tmp 5) := r14
       clear r14; refine wpList_nil ?_; refine tn ?_; refine wp_ret ?_
       refine br ?_
       refine tr ?_
       refine br ?_
       refine tr ?_
       refine br ?_
       refine tr ?_
       obtain ⟨t3, e1, h1, q175⟩ := Own.seal o167 (by decide)
       rw [← e1]
       have F34 := F33.step h1 (by decide); have o172 := Own.keepL o168 (h1.toL (L := [6]) (by simp)) (by decide) (by decide); have o173 := OwnP.keepL o171 (h1.toL (L := [6]) (by simp)) (by decide) (by decide); have q176 := Ty.up (Ty.val x1) (h1.le (by decide)) q173; have q177 := Ty.up (Ty.int (4 : Int)) (h1.le (by decide)) q174; have o174 := ownp_cellq 0 (Ty.lst Ty.int (List.map bellQ (frR xs))) o173 rfl q175
       obtain ⟨t4, e2, h2, q178⟩ := Own.seal o172 (by decide)
       rw [← e2]
       have F35 := F34.step h2 (by decide); have o175 := OwnP.keepL o174 (h2.toL (L := [7]) (by simp)) (by decide) (by decide); have q179 := Ty.up (Ty.val x1) (h2.le (by decide)) q176; have q180 := Ty.up (Ty.int (4 : Int)) (h2.le (by decide)) q177; have o176 := ownp_cellq 1 (Ty.lst Ty.int (List.map bellQ (bkR xs))) o175 rfl q178
       have o177 : OwnP t4 4 x1 [(Ty.lst Ty.int (List.map bellQ (frR xs))), (Ty.lst Ty.int (List.map bellQ (bkR xs))), (Ty.bool (hasS xs))] := o176
       have o178 : OwnP t4 4 x1 [(Ty.lst Ty.int ((List.map bellQ (frR xs)))), (Ty.lst Ty.int (List.map bellQ (bkR xs))), (Ty.bool (hasS xs))] := cvop (by rw [show (Ty.lst Ty.int (List.map bellQ (frR xs))) = (Ty.lst Ty.int ((List.map bellQ (frR xs)))) from by (first | rfl | omega | (simp_all; done))]) o177
       have o179 : OwnP t4 4 x1 [(Ty.lst Ty.int ((List.map bellQ (frR xs)))), (Ty.lst Ty.int ((List.map bellQ (bkR xs)))), (Ty.bool (hasS xs))] := cvop (by rw [show (Ty.lst Ty.int (List.map bellQ (bkR xs))) = (Ty.lst Ty.int ((List.map bellQ (bkR xs)))) from by (first | rfl | omega | (simp_all; done))]) o178
       have o180 : OwnP t4 4 x1 [(Ty.lst Ty.int ((List.map bellQ (frR xs)))), (Ty.lst Ty.int ((List.map bellQ (bkR xs)))), (Ty.bool ((hasS xs)))] := cvop (by rw [show (Ty.bool (hasS xs)) = (Ty.bool ((hasS xs))) from by (first | rfl | omega | (simp_all; done))]) o179
       exact retL2c (k := 4) (ts := [(Ty.lst Ty.int ((List.map bellQ (frR xs)))), (Ty.lst Ty.int ((List.map bellQ (bkR xs)))), (Ty.bool ((hasS xs)))]) rfl ok28 F35 Try.underlying107 Try.inf107 (al (R := (Pr.ownp 4 [(Ty.lst Ty.int ((List.map bellQ (frR xs)))), (Ty.lst Ty.int ((List.map bellQ (bkR xs)))), (Ty.bool ((hasS xs)))])) q179 o180) (fun v_ hv_ => ⟨(List.map bellQ (frR xs)), (List.map bellQ (bkR xs)), (hasS xs), (hasT2 hv_ (cvi (by (rw [patMay_err hx1 (by omega), he])) q180)), (by intro h_; rw [patMay_err hx1 (by omega), he] at h_; omega)⟩)
      ·
       obtain ⟨d5, d6⟩ := Bool.or_eq_false_iff.mp c6
       replace d5 := of_decide_eq_false d5
       replace d6 := of_decide_eq_false d6
       simp only [Bool.or_eq_false_iff, decide_eq_false_iff_not] at c6; have hx6 : ¬ (signIdx (runM s p) < 0 ∨ n ≤ signIdx (runM s p)) := (by rw [rs1]; omega); have hn42 := ne_42 (c := runM s p) (by omega)
       refine wp_seq ?_
       refine rg a27 s29 [(Ty.val x3), (Ty.int (signIdx (((run1 s p : Nat) : Int)))), (Ty.int (((seenF xs) (signIdx (((run1 s p : Nat) : Int)))).getD 0)), (Ty.bool (decide ((0 : Int) < (((seenF xs) (signIdx (((run1 s p : Nat) : Int)))).getD 0)))), (Ty.bool (decide ((0 : Int) < (((seenF xs) (signIdx (((run1 s p : Nat) : Int)))).getD 0))))] ok26 ⟨?_, ?_, ?_, ?_, ?_, trivial⟩ ?_
       · intro A B E G H; exact rP (y_move (kp (H 7 rfl) E q165))
       · intro A B E G H; exact rP (y_move (kp (H 10 rfl) E q167))
       · intro A B E G H d0 d1; exact rP (y_lookup (i := (signIdx (((run1 s p : Nat) : Int)))) (z := 0) Try.underlying86 (keyInt Try.underlying3) Try.inf3 (fun _ => rfl) (OwnM.k0 o151 E) (ed d0 rfl rfl rfl) (ed d1 rfl rfl rfl))
       · intro A B E G H d0; exact rP (y_gtr (ed d0 rfl rfl rfl) rfl)
       · intro A B E G H d0; exact rP (y_assign (ed d0 rfl rfl rfl))
       intro a30 s33 D19; have ok29 := D19.ok; have F36 := F30.step0 D19.stp; have q181 := D19.kt q162 rfl; have q182 := D19.kt q163 rfl; have q183 := D19.kt q164 rfl; have q184 := D19.kt q165 rfl; have q185 := D19.kt q166 rfl; have q186 := D19.kt q167 rfl; have o181 := OwnP.k0 o148 D19.stp; have o182 := Own.k0 o149 D19.stp; have o183 := Own.k0 o150 D19.stp; have o184 := OwnM.k0 o151 D19.stp; have o185 := OwnP.k0 o152 D19.stp; have o186 := Iter.k0 o153 D19.stp; have q187 := D19.dn 4 rfl rfl; clear D19; refine tn ?_
       refine cond_p (p := ((0 : Int) < (((seenF xs) (signIdx (((run1 s p : Nat) : Int)))).getD 0))) q187 (fun c7 => ?_) (fun c7 => ?_)
       ·
        have he := pe_stop hpe (ok_row hx3 h63 hx6 (seen_in (by omega) (by rw [rs1]; exact c7))) (by decide)
        refine wp_seq ?_
        refine reg2 (a := a30) (σ := s33) rfl 1 (fun i_ => List.getD [(Ty.pr (Ty.agg [(Ty.val xf), (Ty.val xb), (Ty.bool (hasS xs))]))] i_ Pr.any) ok29 rfl (by decide) rfl ⟨?_, trivial⟩ ?_
        · intro A B E G H; exact rP (ownp_loadagg Try.underlying107 Try.inf107 (OwnP.k0 o181 E) (kp (H 6 rfl) E q183))
        intro a31 s34 D20; have ok30 := D20.ok; have F37 := F36.step0 D20.stp; have q188 := D20.kt q182 rfl; have o187 := OwnP.k0 o181 D20.stp; have o188 := Own.k0 o182 D20.stp; have o189 := Own.k0 o183 D20.stp; have o190 := OwnM.k0 o184 D20.stp; have o191 := OwnP.k0 o185 D20.stp; have o192 := Iter.k0 o186 D20.stp; have q189 := D20.dn 0 (by decide) rfl rfl; clear D20
        refine tailL0 (L := [4]) (R := (fun _ τ => OwnP τ 4 x1 [(Ty.val xf), (Ty.val xb), (Ty.bool (hasS xs))])) rfl rfl (YldM.toL (m_storeagg Try.inf107 (by decide) o191 q188 rfl q189 (by intro U hU; simp only [List.mem_cons, List.not_mem_nil, or_false] at hU; rcases hU with rfl | rfl | rfl <;> first | exact one_val rfl | exact one_sl | exact one_ref | exact one_val (Own.one o188) | exact one_val (Own.one o189)))) (fun v6 s35 hs15 r15 => ?_)
        have F38 := F37.stepL hs15 (by decide); have q190 := kpL hs15 (by decide) rfl q188; have o194 := OwnP.keepL o187 hs15 (by decide) (by decide); have o195 := Own.keepL o188 hs15 (by decide) (by decide); have o196 := Own.keepL o189 hs15 (by decide) (by decide); have o197 := OwnM.keepL o190 hs15 (by decide) (by decide); have o198 := Iter.keepL o192 hs15 (by decide) (by decide)
        have o193 : OwnP s35 4 x1 [(Ty.val xf), (Ty.val xb), (Ty.bool (hasS xs))] := r15
        clear r15
        refine tailL (L := []) (R := (fun v τ => Pr.has (Ty.pr (Ty.int (2 : Int))) τ v)) rfl rfl (by decide) ok30 (Yld.toL (y_assign rfl)) (fun a32 s36 hs16 ok31 r16 sm10 => ?_)
        have F39 := F38.stepL hs16 (by decide); have q192 := kpL hs16 (by decide) (sm10 4 (by decide)) q190; have o199 := OwnP.keepL o194 hs16 (by decide) (by decide); have o200 := Own.keepL o195 hs16 (by decide) (by decide); have o201 := Own.keepL o196 hs16 (by decide) (by decide); have o202 := OwnM.keepL o197 hs16 (by decide) (by decide); have o203 := Iter.keepL o198 hs16 (by decide) (by decide); have o204 := OwnP.keepL o193 hs16 (by decide) (by decide)
        have q193 : At (Ty.int (2 : Int)) s36 a32 (.tmp 5) := r16
        clear r16; refine wpList_nil ?_; refine tn ?_; refine wp_ret ?_
        refine br ?_
        refine tr ?_
        refine br ?_
        refine tr ?_
        refine br ?_
        refine tr ?_
        obtain ⟨t5, e3, h3, q194⟩ := Own.seal o200 (by decide)
        rw [← e3]
        have F40 := F39.step h3 (by decide); have o205 := Own.keepL o201 (h3.toL (L := [6]) (by simp)) (by decide) (by decide); have o206 := OwnP.keepL o204 (h3.toL (L := [6]) (by simp)) (by decide) (by decide); have q195 := Ty.up (Ty.val x1) (h3.le (by decide)) q192; have q196 := Ty.up (Ty.int (2 : Int)) (h3.le (by decide)) q193; have o207 := ownp_cellq 0 (Ty.lst Ty.int (List.map bellQ (frR xs))) o206 rfl q194
        obtain ⟨t6, e4, h4, q197⟩ := Own.seal o205 (by decide)
        rw [← e4]
        have F41 := F40.step h4 (by decide); have o208 := OwnP.keepL o207 (h4.toL (L := [7]) (by simp)) (by decide) (by decide); have q198 := Ty.up (Ty.val x1) (h4.le (by decide)) q195; have q199 := Ty.up (Ty.int (2 : Int)) (h4.le (by decide)) q196; have o209 := ownp_cellq 1 (Ty.lst Ty.int (List.map bellQ (bkR xs))) o208 rfl q197
        have o210 : OwnP t6 4 x1 [(Ty.lst Ty.int (List.map bellQ (frR xs))), (Ty.lst Ty.int (List.map bellQ (bkR xs))), (Ty.bool (hasS xs))] := o209
        have o211 : OwnP t6 4 x1 [(Ty.lst Ty.int ((List.map bellQ (frR xs)))), (Ty.lst Ty.int (List.map bellQ (bkR xs))), (Ty.bool (hasS xs))] := cvop (by rw [show (Ty.lst Ty.int (List.map bellQ (frR xs))) = (Ty.lst Ty.int ((List.map bellQ (frR xs)))) from by (first | rfl | omega | (simp_all; done))]) o210
        have o212 : OwnP t6 4 x1 [(Ty.lst Ty.int ((List.map bellQ (frR xs)))), (Ty.lst Ty.int ((List.map bellQ (bkR xs)))), (Ty.bool (hasS xs))] := cvop (by rw [show (Ty.lst Ty.int (List.map bellQ (bkR xs))) = (Ty.lst Ty.int ((List.map bellQ (bkR xs)))) from by (first | rfl | omega | (simp_all; done))]) o211
        have o213 : OwnP t6 4 x1 [(Ty.lst Ty.int ((List.map bellQ (frR xs)))), (Ty.lst Ty.int ((List.map bellQ (bkR xs)))), (Ty.bool ((hasS xs)))] := cvop (by rw [show (Ty.bool (hasS xs)) = (Ty.bool ((hasS xs))) from by (first | rfl | omega | (simp_all; done))]) o212
        exact retL2c (k := 4) (ts := [(Ty.lst Ty.int ((List.map bellQ (frR xs)))), (Ty.lst Ty.int ((List.map bellQ (bkR xs)))), (Ty.bool ((hasS xs)))]) rfl ok31 F41 Try.underlying107 Try.inf107 (al (R := (Pr.ownp 4 [(Ty.lst Ty.int ((List.map bellQ (frR xs)))), (Ty.lst Ty.int ((List.map bellQ (bkR xs)))), (Ty.bool ((hasS xs)))])) q198 o213) (fun v_ hv_ => ⟨(List.map bellQ (frR xs)), (List.map bellQ (bkR xs)), (hasS xs), (hasT2 hv_ (cvi (by (rw [patMay_err hx1 (by omega), he])) q199)), (by intro h_; rw [patMay_err hx1 (by omega), he] at h_; omega)⟩)
       ·
        have hnm := seen_out (xs := xs) (c := runM s p) (by omega) (by rw [rs1]; exact c7); have hk := ok_new hx3 h63 hx6 hnm; have hbq : bellQ (runM s p) = signIdx ((run1 s p : Nat) : Int) := (by rw [bellQ_ne h63, rs1]); have hse := seen_new (xs := xs) (c := runM s p) (by omega); have h0s := seen_none (xs := xs) (c := runM s p) (by omega) hnm; rw [rs1] at h0s; have h0g : ((seenF xs) (signIdx ((run1 s p : Nat) : Int))).getD 0 = 0 := (by rw [h0s]; rfl); have hsn : hasS (xs ++ [runM s p]) = hasS xs := (by rw [hasS_snoc]; simp [hn42])
        refine reg2 (a := a30) (σ := s33) rfl 4 (fun i_ => List.getD [(Ty.pr (Ty.val x3)), (Ty.pr (Ty.int (signIdx (((run1 s p : Nat) : Int))))), (Ty.pr (Ty.int (((seenF xs) (signIdx (((run1 s p : Nat) : Int)))).getD 0))), (Ty.pr (Ty.int ((((seenF xs) (signIdx (((run1 s p : Nat) : Int)))).getD 0) + (1 : Int))))] i_ Pr.any) ok29 rfl (by decide) rfl ⟨?_, ?_, ?_, ?_, trivial⟩ ?_
        · intro A B E G H; exact rP (y_move (kp (H 7 rfl) E q184))
        · intro A B E G H; exact rP (y_move (kp (H 10 rfl) E q186))
        · intro A B E G H d0 d1; exact rP (y_lookup (i := (signIdx (((run1 s p : Nat) : Int)))) (z := 0) Try.underlying86 (keyInt Try.underlying3) Try.inf3 (fun _ => rfl) (OwnM.k0 o184 E) (ed d0 rfl rfl rfl) (ed d1 rfl rfl rfl))
        · intro A B E G H d0; exact rP (y_add (ed d0 rfl rfl rfl) rfl (w64 (by omega) (by omega)))
        intro a33 s37 D21; have ok32 := D21.ok; have F42 := F36.step0 D21.stp; have q200 := D21.kt q181 rfl; have q201 := D21.kt q182 rfl; have q202 := D21.kt q183 rfl; have q203 := D21.kt q184 rfl; have q204 := D21.kt q185 rfl; have q205 := D21.kt q186 rfl; have o214 := OwnP.k0 o181 D21.stp; have o215 := Own.k0 o182 D21.stp; have o216 := Own.k0 o183 D21.stp; have o217 := OwnM.k0 o184 D21.stp; have o218 := OwnP.k0 o185 D21.stp; have o219 := Iter.k0 o186 D21.stp
        have q206 : At (Ty.val x3) s37 a33 (.tmp 27) := D21.done 0 (by decide)
        have q207 := D21.dn 1 (by decide) rfl rfl; have q208 := D21.dn 3 (by decide) rfl rfl; clear D21
        refine tailL0 (L := [8]) (R := (fun _ τ => OwnM Ty.int kI τ 8 x3 (fun x_ => if x_ = (signIdx (((run1 s p : Nat) : Int))) then some ((((seenF xs) (signIdx (((run1 s p : Nat) : Int)))).getD 0) + (1 : Int)) else (seenF xs) x_))) rfl rfl (YldM.toL (m_mapset (i := (signIdx (((run1 s p : Nat) : Int)))) Try.underlying86 (keyInt Try.underlying3) (by decide) o217 q206 q207 q208)) (fun v7 s38 hs17 r17 => ?_)
        have F43 := F42.stepL hs17 (by decide); have q209 := kpL hs17 (by decide) rfl q200; have q210 := kpL hs17 (by decide) rfl q201; have q211 := kpL hs17 (by decide) rfl q202; have q212 := kpL hs17 (by decide) rfl q203; have q213 := kpL hs17 (by decide) rfl q204; have q214 := kpL hs17 (by decide) rfl q205; have o221 := OwnP.keepL o214 hs17 (by decide) (by decide); have o222 := Own.keepL o215 hs17 (by decide) (by decide); have o223 := Own.keepL o216 hs17 (by decide) (by decide); have o224 := OwnP.keepL o218 hs17 (by decide) (by decide); have o225 := Iter.keepL o219 hs17 (by decide) (by decide)
        have o220 : OwnM Ty.int kI s38 8 x3 (fun x_ => if x_ = (signIdx (((run1 s p : Nat) : Int))) then some ((((seenF xs) (signIdx (((run1 s p : Nat) : Int)))).getD 0) + (1 : Int)) else (seenF xs) x_) := r17
        clear r17; refine wpList_nil ?_; refine bn ?_; refine tn ?_; refine wp_seq ?_
        refine rg a33 s38 [(Ty.val (ptrAt x2 2)), (Ty.bool (hasS xs))] ok32 ⟨?_, ?_, trivial⟩ ?_
        · intro A B E G H; exact rP (ownp_field Try.fld107_2 Try.inf4 (by decide) (OwnP.k0 o221 E) (kp (H 6 rfl) E q211))
        · intro A B E G H d0; exact rP (ownp_load Try.underlying4 rfl (OwnP.k0 o221 E) (ed d0 rfl rfl rfl) rfl)
        intro a34 s39 D22; have ok33 := D22.ok; have F44 := F43.step0 D22.stp; have q216 := D22.kt q209 rfl; have q217 := D22.kt q210 rfl; have q218 := D22.kt q211 rfl; have q219 := D22.kt q212 rfl; have q220 := D22.kt q213 rfl; have q221 := D22.kt q214 rfl; have o226 := OwnP.k0 o221 D22.stp; have o227 := Own.k0 o222 D22.stp; have o228 := Own.k0 o223 D22.stp; have o229 := OwnP.k0 o224 D22.stp; have o230 := Iter.k0 o225 D22.stp; have o231 := OwnM.k0 o220 D22.stp; have q222 := D22.dn 1 rfl rfl; clear D22; refine tn ?_
        refine cond_t q222 (fun c8 => ?_) (fun c8 => ?_)
        ·
         have hfb := frbk_yes c8 (runM s p)
         refine reg2 (a := a34) (σ := s39) rfl 4 (fun i_ => List.getD [(Ty.pr (Ty.val (ptrAt x2 1))), (Ty.pr (Ty.val xb)), (Ty.pr (Ty.int (signIdx (((run1 s p : Nat) : Int))))), (Ty.pr (Ty.sl 1 1 [(Ty.int (signIdx (((run1 s p : Nat) : Int))))]))] i_ Pr.any) ok33 rfl (by decide) rfl ⟨?_, ?_, ?_, ?_, trivial⟩ ?_
         · intro A B E G H; exact rP (ownp_field Try.fld107_1 Try.inf23 (by decide) (OwnP.k0 o226 E) (kp (H 6 rfl) E q218))
         · intro A B E G H d0; exact rP (ownp_load Try.underlying23 rfl (OwnP.k0 o226 E) (ed d0 rfl rfl rfl) rfl)
         · intro A B E G H; exact rP (y_move (kp (H 10 rfl) E q221))
         · intro A B E G H d0; exact rP (y_build1o Try.underlying23 Try.inf3 rfl (one_val rfl) (ed d0 rfl rfl rfl))
         intro a35 s40 D23; have ok34 := D23.ok; have F45 := F44.step0 D23.stp; have q223 := D23.kt q216 rfl; have q224 := D23.kt q217 rfl; have q225 := D23.kt q218 rfl; have q226 := D23.kt q219 rfl; have q227 := D23.kt q220 rfl; have o232 := OwnP.k0 o226 D23.stp; have o233 := Own.k0 o227 D23.stp; have o234 := Own.k0 o228 D23.stp; have o235 := OwnP.k0 o229 D23.stp; have o236 := Iter.k0 o230 D23.stp; have o237 := OwnM.k0 o231 D23.stp
         have q228 : At (Ty.val xb) s40 a35 (.tmp 61) := D23.done 1 (by decide)
         have q229 := D23.dn 3 (by decide) rfl rfl
         have b3 := sl_le q229
         clear D23
         refine tailL (L := [7]) (R := (fun v τ => Own τ 7 3 1 v ((List.length (List.map bellQ (bkR xs))) + 1) ((List.map Ty.int (List.map bellQ (bkR xs))) ++ [(Ty.int (signIdx (((run1 s p : Nat) : Int))))]))) rfl rfl (by decide) ok34 (YldM.toL (m_append Try.underlying23 Try.inf3 (by decide) rfl (by decide) (al (R := (Pr.own 7 3 1 (List.length (List.map bellQ (bkR xs))) (List.map Ty.int (List.map bellQ (bkR xs))))) q228 o234) q229 (by intro U hU; simp at hU; subst hU; exact one_val rfl) (by omega) (by omega))) (fun a36 s41 hs18 ok35 r18 sm11 => ?_)
         have F46 := F45.stepL hs18 (by decide); have q230 := kpL hs18 (by decide) (sm11 0 (by decide)) q223; have q231 := kpL hs18 (by decide) (sm11 4 (by decide)) q224; have q232 := kpL hs18 (by decide) (sm11 6 (by decide)) q225; have q233 := kpL hs18 (by decide) (sm11 7 (by decide)) q226; have q234 := kpL hs18 (by decide) (sm11 21 (by decide)) q227; have o239 := OwnP.keepL o232 hs18 (by decide) (by decide); have o240 := Own.keepL o233 hs18 (by decide) (by decide); have o241 := OwnP.keepL o235 hs18 (by decide) (by decide); have o242 := Iter.keepL o236 hs18 (by decide) (by decide); have o243 := OwnM.keepL o237 hs18 (by decide) (by decide)
         obtain ⟨x7, hx7⟩ : ∃ x, a36.eval (.tmp 64) = x := ⟨_, rfl⟩
         have q235 : At (Ty.val x7) s41 a36 (.tmp 64) := hx7
         have o238 : Own s41 7 3 1 x7 (List.length ((List.map bellQ (bkR xs)) ++ [(signIdx (((run1 s p : Nat) : Int)))])) (List.map Ty.int ((List.map bellQ (bkR xs)) ++ [(signIdx (((run1 s p : Nat) : Int)))])) := al2 (R := (Pr.own 7 3 1 (List.length ((List.map bellQ (bkR xs)) ++ [(signIdx (((run1 s p : Nat) : Int)))])) (List.map Ty.int ((List.map bellQ (bkR xs)) ++ [(signIdx (((run1 s p : Nat) : Int)))])))) hx7 (cvo (by simp) (by first | (rw [List.map_append]; rfl) | simp) r18)
         clear r18
         refine tailL (L := []) (R := (fun v τ => Pr.has (Ty.pr (Ty.val (ptrAt x2 1))) τ v)) rfl rfl (by decide) ok35 (Yld.toL (ownp_field Try.fld107_1 Try.inf23 (by decide) o239 q232)) (fun a37 s42 hs19 ok36 r19 sm12 => ?_)
         have F47 := F46.stepL hs19 (by decide); have q236 := kpL hs19 (by decide) (sm12 0 (by decide)) q230; have q237 := kpL hs19 (by decide) (sm12 4 (by decide)) q231; have q238 := kpL hs19 (by decide) (sm12 6 (by decide)) q232; have q239 := kpL hs19 (by decide) (sm12 7 (by decide)) q233; have q240 := kpL hs19 (by decide) (sm12 21 (by decide)) q234; have q241 := kpL hs19 (by decide) (sm12 64 (by decide)) q235; have o244 := OwnP.keepL o239 hs19 (by decide) (by decide); have o245 := Own.keepL o240 hs19 (by decide) (by decide); have o246 := OwnP.keepL o241 hs19 (by decide) (by decide); have o247 := Iter.keepL o242 hs19 (by decide) (by decide); have o248 := OwnM.keepL o243 hs19 (by decide) (by decide); have o249 := Own.keepL o238 hs19 (by decide) (by decide)
         have q242 : At (Ty.val (ptrAt x2 1)) s42 a37 (.tmp 65) := r19
         clear r19
         refine tailL0 (L := [5]) (R := (fun _ τ => OwnP τ 5 x2 ([(Ty.val xf), (Ty.val xb), (Ty.bool (hasS xs))].set 1 (Ty.val x7)))) rfl rfl (YldM.toL (m_storep Try.inf23 (by decide) o244 q242 (Nat.le_of_ble_eq_true rfl) q241 (one_val (Own.one o249)))) (fun v8 s43 hs20 r20 => ?_)
         have F48 := F47.stepL hs20 (by decide); have q243 := kpL hs20 (by decide) rfl q236; have q244 := kpL hs20 (by decide) rfl q237; have q245 := kpL hs20 (by decide) rfl q238; have q246 := kpL hs20 (by decide) rfl q239; have q247 := kpL hs20 (by decide) rfl q240; have o251 := Own.keepL o245 hs20 (by decide) (by decide); have o252 := OwnP.keepL o246 hs20 (by decide) (by decide); have o253 := Iter.keepL o247 hs20 (by decide) (by decide); have o254 := OwnM.keepL o248 hs20 (by decide) (by decide); have o255 := Own.keepL o249 hs20 (by decide) (by decide)
         have o250 : OwnP s43 5 x2 [(Ty.val xf), (Ty.val x7), (Ty.bool (hasS xs))] := r20
         clear r20; refine wpList_nil ?_; refine bn ?_
         exact tn ⟨s.size + 1 - ((p + wid s p)), by omega, s43, (p + wid s p), (f - 1), (xs ++ [runM s p]), xf, x7, rfl, F48, ok36, q243, q244, q245, q246, q247, (ownp_cell 2 (Ty.bool (hasS ((xs ++ [runM s p])))) o250 rfl (fun _ _ h => (cvb (by (rw [hsn])) h))), (cvo (by (rw [hfb.1])) (by (rw [hfb.1])) o251), (cvo (by (simp [hfb.2, hbq])) (by (simp [hfb.2, hbq])) o255), (cvm (by (rw [hse, rs1]; simp [h0s])) o254), (cvit (by rw [stepTo, if_pos (by assumption)]) o253), o252, pe_go hpe hk, runsF_step heq (by omega) (by omega), by omega, by omega, by simp; omega, rfl⟩
        ·
         have hfb := frbk_new c8 hn42
         refine reg2 (a := a34) (σ := s39) rfl 4 (fun i_ => List.getD [(Ty.pr (Ty.val (ptrAt x2 0))), (Ty.pr (Ty.val xf)), (Ty.pr (Ty.int (signIdx (((run1 s p : Nat) : Int))))), (Ty.pr (Ty.sl 1 1 [(Ty.int (signIdx (((run1 s p : Nat) : Int))))]))] i_ Pr.any) ok33 rfl (by decide) rfl ⟨?_, ?_, ?_, ?_, trivial⟩ ?_
         · intro A B E G H; exact rP (ownp_field Try.fld107_0 Try.inf23 (by decide) (OwnP.k0 o226 E) (kp (H 6 rfl) E q218))
         · intro A B E G H d0; exact rP (ownp_load Try.underlying23 rfl (OwnP.k0 o226 E) (ed d0 rfl rfl rfl) rfl)
         · intro A B E G H; exact rP (y_move (kp (H 10 rfl) E q221))
         · intro A B E G H d0; exact rP (y_build1o Try.underlying23 Try.inf3 rfl (one_val rfl) (ed d0 rfl rfl rfl))
         intro a38 s44 D24; have ok37 := D24.ok; have F49 := F44.step0 D24.stp; have q249 := D24.kt q216 rfl; have q250 := D24.kt q217 rfl; have q251 := D24.kt q218 rfl; have q252 := D24.kt q219 rfl; have q253 := D24.kt q220 rfl; have o256 := OwnP.k0 o226 D24.stp; have o257 := Own.k0 o227 D24.stp; have o258 := Own.k0 o228 D24.stp; have o259 := OwnP.k0 o229 D24.stp; have o260 := Iter.k0 o230 D24.stp; have o261 := OwnM.k0 o231 D24.stp
         have q254 : At (Ty.val xf) s44 a38 (.tmp 67) := D24.done 1 (by decide)
         have q255 := D24.dn 3 (by decide) rfl rfl
         have b4 := sl_le q255
         clear D24
         refine tailL (L := [6]) (R := (fun v τ => Own τ 6 3 1 v ((List.length (List.map bellQ (frR xs))) + 1) ((List.map Ty.int (List.map bellQ (frR xs))) ++ [(Ty.int (signIdx (((run1 s p : Nat) : Int))))]))) rfl rfl (by decide) ok37 (YldM.toL (m_append Try.underlying23 Try.inf3 (by decide) rfl (by decide) (al (R := (Pr.own 6 3 1 (List.length (List.map bellQ (frR xs))) (List.map Ty.int (List.map bellQ (frR xs))))) q254 o257) q255 (by intro U hU; simp at hU; subst hU; exact one_val rfl) (by omega) (by omega))) (fun a39 s45 hs21 ok38 r21 sm13 => ?_)
         have F50 := F49.stepL hs21 (by decide); have q256 := kpL hs21 (by decide) (sm13 0 (by decide)) q249; have q257 := kpL hs21 (by decide) (sm13 4 (by decide)) q250; have q258 := kpL hs21 (by decide) (sm13 6 (by decide)) q251; have q259 := kpL hs21 (by decide) (sm13 7 (by decide)) q252; have q260 := kpL hs21 (by decide) (sm13 21 (by decide)) q253; have o263 := OwnP.keepL o256 hs21 (by decide) (by decide); have o264 := Own.keepL o258 hs21 (by decide) (by decide); have o265 := OwnP.keepL o259 hs21 (by decide) (by decide); have o266 := Iter.keepL o260 hs21 (by decide) (by decide); have o267 := OwnM.keepL o261 hs21 (by decide) (by decide)
         obtain ⟨x8, hx8⟩ : ∃ x, a39.eval (.tmp 70) = x := ⟨_, rfl⟩
         have q261 : At (Ty.val x8) s45 a39 (.tmp 70) := hx8
         have o262 : Own s45 6 3 1 x8 (List.length ((List.map bellQ (frR xs)) ++ [(signIdx (((run1 s p : Nat) : Int)))])) (List.map Ty.int ((List.map bellQ (frR xs)) ++ [(signIdx (((run1 s p : Nat) : Int)))])) := al2 (R := (Pr.own 6 3 1 (List.length ((List.map bellQ (frR xs)) ++ [(signIdx (((run1 s p : Nat) : Int)))])) (List.map Ty.int ((List.map bellQ (frR xs)) ++ [(signIdx (((run1 s p : Nat) : Int)))])))) hx8 (cvo (by simp) (by first | (rw [List.map_append]; rfl) | simp) r21)
         clear r21
         refine tailL (L := []) (R := (fun v τ => Pr.has (Ty.pr (Ty.val (ptrAt x2 0))) τ v)) rfl rfl (by decide) ok38 (Yld.toL (ownp_field Try.fld107_0 Try.inf23 (by decide) o263 q258)) (fun a40 s46 hs22 ok39 r22 sm14 => ?_)
         have F51 := F50.stepL hs22 (by decide); have q262 := kpL hs22 (by decide) (sm14 0 (by decide)) q256; have q263 := kpL hs22 (by decide) (sm14 4 (by decide)) q257; have q264 := kpL hs22 (by decide) (sm14 6 (by decide)) q258; have q265 := kpL hs22 (by decide) (sm14 7 (by decide)) q259; have q266 := kpL hs22 (by decide) (sm14 21 (by decide)) q260; have q267 := kpL hs22 (by decide) (sm14 70 (by decide)) q261; have o268 := OwnP.keepL o263 hs22 (by decide) (by decide); have o269 := Own.keepL o264 hs22 (by decide) (by decide); have o270 := OwnP.keepL o265 hs22 (by decide) (by decide); have o271 := Iter.keepL o266 hs22 (by decide) (by decide); have o272 := OwnM.keepL o267 hs22 (by decide) (by decide); have o273 := Own.keepL o262 hs22 (by decide) (by decide)
         have q268 : At (Ty.val (ptrAt x2 0)) s46 a40 (.tmp 71) := r22
         clear r22
         refine tailL0 (L := [5]) (R := (fun _ τ => OwnP τ 5 x2 ([(Ty.val xf), (Ty.val xb), (Ty.bool (hasS xs))].set 0 (Ty.val x8)))) rfl rfl (YldM.toL (m_storep Try.inf23 (by decide) o268 q268 (Nat.le_of_ble_eq_true rfl) q267 (one_val (Own.one o273)))) (fun v9 s47 hs23 r23 => ?_)
         have F52 := F51.stepL hs23 (by decide); have q269 := kpL hs23 (by decide) rfl q262; have q270 := kpL hs23 (by decide) rfl q263; have q271 := kpL hs23 (by decide) rfl q264; have q272 := kpL hs23 (by decide) rfl q265; have q273 := kpL hs23 (by decide) rfl q266; have o275 := Own.keepL o269 hs23 (by decide) (by decide); have o276 := OwnP.keepL o270 hs23 (by decide) (by decide); have o277 := Iter.keepL o271 hs23 (by decide) (by decide); have o278 := OwnM.keepL o272 hs23 (by decide) (by decide); have o279 := Own.keepL o273 hs23 (by decide) (by decide)
         have o274 : OwnP s47 5 x2 [(Ty.val x8), (Ty.val xb), (Ty.bool (hasS xs))] := r23
         clear r23; refine wpList_nil ?_; refine bn ?_
         exact tn ⟨s.size + 1 - ((p + wid s p)), by omega, s47, (p + wid s p), (f - 1), (xs ++ [runM s p]), x8, xb, rfl, F52, ok39, q269, q270, q271, q272, q273, (ownp_cell 2 (Ty.bool (hasS ((xs ++ [runM s p])))) o274 rfl (fun _ _ h => (cvb (by (rw [hsn])) h))), (cvo (by (simp [hfb.1, hbq])) (by (simp [hfb.1, hbq])) o279), (cvo (by (rw [hfb.2])) (by (rw [hfb.2])) o275), (cvm (by (rw [hse, rs1]; simp [h0s])) o278), (cvit (by rw [stepTo, if_pos (by assumption)]) o277), o276, pe_go hpe hk, runsF_step heq (by omega) (by omega), by omega, by omega, by simp; omega, rfl⟩
   ·
    rw [runsF_end (by omega)] at hpe heq; rw [List.append_nil] at heq; have hp0 : peF n [] L = 0 := hpe.symm; have hst0 := starN_le xs; have hs0 := starN_0 (xs := xs)
    refine wp_exit ?_; refine tx ?_; refine tx ?_; refine bx ?_; refine tn ?_; refine wp_seq ?_
    refine rg a13 s12 [(Ty.val (ptrAt x2 0)), (Ty.val xf), (Ty.nat (List.length (List.map bellQ (frR xs)))), (Ty.val (ptrAt x2 1)), (Ty.val xb), (Ty.nat (List.length (List.map bellQ (bkR xs)))), (Ty.nat ((List.length (List.map bellQ (frR xs))) + (List.length (List.map bellQ (bkR xs))))), (Ty.nat ((List.length (List.map bellQ (frR xs))) + (List.length (List.map bellQ (bkR xs)))))] ok12 ⟨?_, ?_, ?_, ?_, ?_, ?_, ?_, ?_, trivial⟩ ?_
    · intro A B E G H; exact rP (ownp_field Try.fld107_0 Try.inf23 (by decide) (OwnP.k0 o46 E) (kp (H 6 rfl) E q52))
    · intro A B E G H d0; exact rP (ownp_load Try.underlying23 rfl (OwnP.k0 o46 E) (ed d0 rfl rfl rfl) rfl)
    · intro A B E G H d0; exact rP (own_len Try.underlying23 (al (R := (Pr.own 6 3 1 (List.length (List.map bellQ (frR xs))) (List.map Ty.int (List.map bellQ (frR xs))))) (ed d0 rfl rfl rfl) (Own.k0 o47 E)))
    · intro A B E G H; exact rP (ownp_field Try.fld107_1 Try.inf23 (by decide) (OwnP.k0 o46 E) (kp (H 6 rfl) E q52))
    · intro A B E G H d0; exact rP (ownp_load Try.underlying23 rfl (OwnP.k0 o46 E) (ed d0 rfl rfl rfl) rfl)
    · intro A B E G H d0; exact rP (own_len Try.underlying23 (al (R := (Pr.own 7 3 1 (List.length (List.map bellQ (bkR xs))) (List.map Ty.int (List.map bellQ (bkR xs))))) (ed d0 rfl rfl rfl) (Own.k0 o48 E)))
    · intro A B E G H d0 d1; exact rP ((y_add (ed d0 rfl rfl rfl) (ed d1 rfl rfl rfl) (w64 (by omega) (by omega))).mono (fun τ _ h => cvi (σ := τ) (by first | omega | exact (Int.natCast_mul _ _).symm) h))
    · intro A B E G H d0 d1 d2 d3 d4 d5 d6 d7; exact rP (y_assign (ed d0 rfl rfl rfl))
    intro a41 s48 D25; have ok40 := D25.ok; have F53 := F13.step0 D25.stp; have q275 := D25.kt q50 rfl; have q276 := D25.kt q51 rfl; have q277 := D25.kt q52 rfl; have o280 := OwnP.k0 o46 D25.stp; have o281 := Own.k0 o47 D25.stp; have o282 := Own.k0 o48 D25.stp; have o283 := OwnM.k0 o49 D25.stp; have o284 := OwnP.k0 o50 D25.stp; have o285 := Iter.k0 o51 D25.stp; have q278 := D25.dn 7 rfl rfl; clear D25; refine tn ?_; refine wp_seq ?_; refine wp_seq ?_
    refine rg a41 s48 [(Ty.nat ((List.length (List.map bellQ (frR xs))) + (List.length (List.map bellQ (bkR xs))))), (Ty.int n), (Ty.bool (decide (n < ((((List.length (List.map bellQ (frR xs))) + (List.length (List.map bellQ (bkR xs)))) : Nat) : Int)))), (Ty.bool (decide (n < ((((List.length (List.map bellQ (frR xs))) + (List.length (List.map bellQ (bkR xs)))) : Nat) : Int)))), (Ty.grd ((decide (n < ((((List.length (List.map bellQ (frR xs))) + (List.length (List.map bellQ (bkR xs)))) : Nat) : Int))) = false) (Ty.nat ((List.length (List.map bellQ (frR xs))) + (List.length (List.map bellQ (bkR xs)))))), (Ty.grd ((decide (n < ((((List.length (List.map bellQ (frR xs))) + (List.length (List.map bellQ (bkR xs)))) : Nat) : Int))) = false) (Ty.int n)), (Ty.grd ((decide (n < ((((List.length (List.map bellQ (frR xs))) + (List.length (List.map bellQ (bkR xs)))) : Nat) : Int))) = false) (Ty.bool (decide (((((List.length (List.map bellQ (frR xs))) + (List.length (List.map bellQ (bkR xs)))) : Nat) : Int) < n)))), (Ty.grd ((decide (n < ((((List.length (List.map bellQ (frR xs))) + (List.length (List.map bellQ (bkR xs)))) : Nat) : Int))) = false) (Ty.bool (decide (((((List.length (List.map bellQ (frR xs))) + (List.length (List.map bellQ (bkR xs)))) : Nat) : Int) < n)))), (Ty.grd (((decide (n < ((((List.length (List.map bellQ (frR xs))) + (List.length (List.map bellQ (bkR xs)))) : Nat) : Int))) = false) ∧ (decide (((((List.length (List.map bellQ (frR xs))) + (List.length (List.map bellQ (bkR xs)))) : Nat) : Int) < n)) = true) (Ty.val (ptrAt x2 2))), (Ty.grd (((decide (n < ((((List.length (List.map bellQ (frR xs))) + (List.length (List.map bellQ (bkR xs)))) : Nat) : Int))) = false) ∧ (decide (((((List.length (List.map bellQ (frR xs))) + (List.length (List.map bellQ (bkR xs)))) : Nat) : Int) < n)) = true) (Ty.bool (hasS xs))), (Ty.grd (((decide (n < ((((List.length (List.map bellQ (frR xs))) + (List.length (List.map bellQ (bkR xs)))) : Nat) : Int))) = false) ∧ (decide (((((List.length (List.map bellQ (frR xs))) + (List.length (List.map bellQ (bkR xs)))) : Nat) : Int) < n)) = true) (Ty.bool (!(hasS xs)))), (Ty.grd ((decide (n < ((((List.length (List.map bellQ (frR xs))) + (List.length (List.map bellQ (bkR xs)))) : Nat) : Int))) = false) (Ty.bool ((decide (((((List.length (List.map bellQ (frR xs))) + (List.length (List.map bellQ (bkR xs)))) : Nat) : Int) < n)) && (!(hasS xs))))), (Ty.bool ((decide (n < ((((List.length (List.map bellQ (frR xs))) + (List.length (List.map bellQ (bkR xs)))) : Nat) : Int))) || ((decide (((((List.length (List.map bellQ (frR xs))) + (List.length (List.map bellQ (bkR xs)))) : Nat) : Int) < n)) && (!(hasS xs)))))] ok40 ⟨?_, ?_, ?_, ?_, ?_, ?_, ?_, ?_, ?_, ?_, ?_, ?_, ?_, trivial⟩ ?_
    · intro A B E G H; exact rP (y_move (kp (H 11 rfl) E q278))
    · intro A B E G H; exact rP (y_move (kp (H 0 rfl) E q275))
    · intro A B E G H d0 d1; exact rP (y_gtr (ed d0 rfl rfl rfl) (ed d1 rfl rfl rfl))
    · intro A B E G H d0; exact rP (y_move (ed d0 rfl rfl rfl))
    · intro A B E G H d0
      refine run_guard G rfl rfl (by decide) (ed d0 rfl rfl rfl) (fun hg => ?_)
      have hp := of_decide_eq_false hg
      exact y_move (kp (H 11 rfl) E q278)
    · intro A B E G H d0
      refine run_guard G rfl rfl (by decide) (ed d0 rfl rfl rfl) (fun hg => ?_)
      have hp := of_decide_eq_false hg
      exact y_move (kp (H 0 rfl) E q275)
    · intro A B E G H d0 d1 d2
      refine run_guard G rfl rfl (by decide) (ed d2 rfl rfl rfl) (fun hg => ?_)
      have hp := of_decide_eq_false hg
      exact y_lss ((ed d0 rfl rfl rfl).1 hg) ((ed d1 rfl rfl rfl).1 hg)
    · intro A B E G H d0 d1 d2
      refine run_guard G rfl rfl (by decide) (ed d1 rfl rfl rfl) (fun hg => ?_)
      have hp := of_decide_eq_false hg
      exact y_move ((ed d0 rfl rfl rfl).1 hg)
    · intro A B E G H d0
      refine run_guard2 G rfl rfl (by decide) (ed d0 rfl rfl rfl) (fun hg => ?_)
      have hp := of_decide_eq_true hg.2
      exact ownp_field Try.fld107_2 Try.inf4 (by decide) (OwnP.k0 o280 E) (kp (H 6 rfl) E q277)
    · intro A B E G H d0 d1
      refine run_guard2 G rfl rfl (by decide) (ed d1 rfl rfl rfl) (fun hg => ?_)
      have hp := of_decide_eq_true hg.2
      exact ownp_load Try.underlying4 rfl (OwnP.k0 o280 E) ((ed d0 rfl rfl rfl).1 hg) rfl
    · intro A B E G H d0 d1
      refine run_guard2 G rfl rfl (by decide) (ed d1 rfl rfl rfl) (fun hg => ?_)
      have hp := of_decide_eq_true hg.2
      exact y_not ((ed d0 rfl rfl rfl).1 hg)
    · intro A B E G H d0 d1 d2
      refine run_guard G rfl rfl (by decide) (ed d2 rfl rfl rfl) (fun hg => ?_)
      have hp := of_decide_eq_false hg
      exact y_pick_and ((ed d0 rfl rfl rfl).1 hg) (grd_part hg (ed d1 rfl rfl rfl)) rfl
    · intro A B E G H d0 d1; exact rP (y_pick_or (ed d0 rfl rfl rfl) rfl (ed d1 rfl rfl rfl))
    intro a42 s49 D26; have ok41 := D26.ok; have F54 := F53.step0 D26.stp; have q279 := D26.kt q276 rfl; have q280 := D26.kt q277 rfl; have o286 := OwnP.k0 o280 D26.stp; have o287 := Own.k0 o281 D26.stp; have o288 := Own.k0 o282 D26.stp; have o289 := OwnP.k0 o284 D26.stp; have q281 := D26.dn 12 rfl rfl; clear D26; refine tn ?_
    refine cond_t q281 (fun c9 => ?_) (fun c9 => ?_)
    ·
     simp only [Bool.or_eq_true, Bool.and_eq_true, decide_eq_true_eq, Bool.not_eq_true'] at c9; rw [← hs0] at c9; have hp1 := patMay_len hx1 hp0 (by rw [← heq]; omega)
     refine wp_seq ?_
     refine reg2 (a := a42) (σ := s49) rfl 1 (fun i_ => List.getD [(Ty.pr (Ty.agg [(Ty.val xf), (Ty.val xb), (Ty.bool (hasS xs))]))] i_ Pr.any) ok41 rfl (by decide) rfl ⟨?_, trivial⟩ ?_
     · intro A B E G H; exact rP (ownp_loadagg Try.underlying107 Try.inf107 (OwnP.k0 o286 E) (kp (H 6 rfl) E q280))
     intro a43 s50 D27; have ok42 := D27.ok; have F55 := F54.step0 D27.stp; have q282 := D27.kt q279 rfl; have o290 := OwnP.k0 o286 D27.stp; have o291 := Own.k0 o287 D27.stp; have o292 := Own.k0 o288 D27.stp; have o293 := OwnP.k0 o289 D27.stp; have q283 := D27.dn 0 (by decide) rfl rfl; clear D27
     refine tailL0 (L := [4]) (R := (fun _ τ => OwnP τ 4 x1 [(Ty.val xf), (Ty.val xb), (Ty.bool (hasS xs))])) rfl rfl (YldM.toL (m_storeagg Try.inf107 (by decide) o293 q282 rfl q283 (by intro U hU; simp only [List.mem_cons, List.not_mem_nil, or_false] at hU; rcases hU with rfl | rfl | rfl <;> first | exact one_val rfl | exact one_sl | exact one_ref | exact one_val (Own.one o291) | exact one_val (Own.one o292)))) (fun v10 s51 hs24 r24 => ?_)
     have F56 := F55.stepL hs24 (by decide); have q284 := kpL hs24 (by decide) rfl q282; have o295 := OwnP.keepL o290 hs24 (by decide) (by decide); have o296 := Own.keepL o291 hs24 (by decide) (by decide); have o297 := Own.keepL o292 hs24 (by decide) (by decide)
     have o294 : OwnP s51 4 x1 [(Ty.val xf), (Ty.val xb), (Ty.bool (hasS xs))] := r24
     clear r24
     refine tailL (L := []) (R := (fun v τ => Pr.has (Ty.pr (Ty.int (1 : Int))) τ v)) rfl rfl (by decide) ok42 (Yld.toL (y_assign rfl)) (fun a44 s52 hs25 ok43 r25 sm15 => ?_)
     have F57 := F56.stepL hs25 (by decide); have q286 := kpL hs25 (by decide) (sm15 4 (by decide)) q284; have o298 := OwnP.keepL o295 hs25 (by decide) (by decide); have o299 := Own.keepL o296 hs25 (by decide) (by decide); have o300 := Own.keepL o297 hs25 (by decide) (by decide); have o301 := OwnP.keepL o294 hs25 (by decide) (by decide)
     have q287 : At (Ty.int (1 : Int)) s52 a44 (.tmp 5) := r25
     clear r25; refine wpList_nil ?_; refine tn ?_; refine wp_ret ?_
     refine tr ?_
     obtain ⟨t7, e5, h5, q288⟩ := Own.seal o299 (by decide)
     rw [← e5]
     have F58 := F57.step h5 (by decide); have o302 := Own.keepL o300 (h5.toL (L := [6]) (by simp)) (by decide) (by decide); have o303 := OwnP.keepL o301 (h5.toL (L := [6]) (by simp)) (by decide) (by decide); have q289 := Ty.up (Ty.val x1) (h5.le (by decide)) q286; have q290 := Ty.up (Ty.int (1 : Int)) (h5.le (by decide)) q287; have o304 := ownp_cellq 0 (Ty.lst Ty.int (List.map bellQ (frR xs))) o303 rfl q288
     obtain ⟨t8, e6, h6, q291⟩ := Own.seal o302 (by decide)
     rw [← e6]
     have F59 := F58.step h6 (by decide); have o305 := OwnP.keepL o304 (h6.toL (L := [7]) (by simp)) (by decide) (by decide); have q292 := Ty.up (Ty.val x1) (h6.le (by decide)) q289; have q293 := Ty.up (Ty.int (1 : Int)) (h6.le (by decide)) q290; have o306 := ownp_cellq 1 (Ty.lst Ty.int (List.map bellQ (bkR xs))) o305 rfl q291
     have o307 : OwnP t8 4 x1 [(Ty.lst Ty.int (List.map bellQ (frR xs))), (Ty.lst Ty.int (List.map bellQ (bkR xs))), (Ty.bool (hasS xs))] := o306
     have o308 : OwnP t8 4 x1 [(Ty.lst Ty.int ((List.map bellQ (frR xs)))), (Ty.lst Ty.int (List.map bellQ (bkR xs))), (Ty.bool (hasS xs))] := cvop (by rw [show (Ty.lst Ty.int (List.map bellQ (frR xs))) = (Ty.lst Ty.int ((List.map bellQ (frR xs)))) from by (first | rfl | omega | (simp_all; done))]) o307
     have o309 : OwnP t8 4 x1 [(Ty.lst Ty.int ((List.map bellQ (frR xs)))), (Ty.lst Ty.int ((List.map bellQ (bkR xs)))), (Ty.bool (hasS xs))] := cvop (by rw [show (Ty.lst Ty.int (List.map bellQ (bkR xs))) = (Ty.lst Ty.int ((List.map bellQ (bkR xs)))) from by (first | rfl | omega | (simp_all; done))]) o308
     have o310 : OwnP t8 4 x1 [(Ty.lst Ty.int ((List.map bellQ (frR xs)))), (Ty.lst Ty.int ((List.map bellQ (bkR xs)))), (Ty.bool ((hasS xs)))] := cvop (by rw [show (Ty.bool (hasS xs)) = (Ty.bool ((hasS xs))) from by (first | rfl | omega | (simp_all; done))]) o309
     exact retL2c (k := 4) (ts := [(Ty.lst Ty.int ((List.map bellQ (frR xs)))), (Ty.lst Ty.int ((List.map bellQ (bkR xs)))), (Ty.bool ((hasS xs)))]) rfl ok43 F59 Try.underlying107 Try.inf107 (al (R := (Pr.ownp 4 [(Ty.lst Ty.int ((List.map bellQ (frR xs)))), (Ty.lst Ty.int ((List.map bellQ (bkR xs)))), (Ty.bool ((hasS xs)))])) q292 o310) (fun v_ hv_ => ⟨(List.map bellQ (frR xs)), (List.map bellQ (bkR xs)), (hasS xs), (hasT2 hv_ (cvi (by (exact hp1.symm)) q293)), (by intro h_; rw [hp1] at h_; omega)⟩)
    ·
     obtain ⟨d7, d8⟩ := Bool.or_eq_false_iff.mp c9
     replace d7 := of_decide_eq_false d7
     simp only [Bool.or_eq_false_iff, Bool.and_eq_false_iff, decide_eq_false_iff_not, Bool.not_eq_false'] at c9; have hs1 : hasS xs = true → starN xs = 1 := (fun h_ => by unfold starN; rw [if_pos h_]); have hp1 := patMay_ok hx1 hp0 (by rw [← heq]; intro h_; rcases c9.2 with h2_ | h2_ <;> first | omega | (have := hs1 h2_; omega))
     refine wp_skip ?_
     refine tn ?_; refine wp_seq ?_
     refine reg2 (a := a42) (σ := s49) rfl 1 (fun i_ => List.getD [(Ty.pr (Ty.agg [(Ty.val xf), (Ty.val xb), (Ty.bool (hasS xs))]))] i_ Pr.any) ok41 rfl (by decide) rfl ⟨?_, trivial⟩ ?_
     · intro A B E G H; exact rP (ownp_loadagg Try.underlying107 Try.inf107 (OwnP.k0 o286 E) (kp (H 6 rfl) E q280))
     intro a45 s53 D28; have ok44 := D28.ok; have F60 := F54.step0 D28.stp; have q294 := D28.kt q279 rfl; have o311 := OwnP.k0 o286 D28.stp; have o312 := Own.k0 o287 D28.stp; have o313 := Own.k0 o288 D28.stp; have o314 := OwnP.k0 o289 D28.stp; have q295 := D28.dn 0 (by decide) rfl rfl; clear D28
     refine tailL0 (L := [4]) (R := (fun _ τ => OwnP τ 4 x1 [(Ty.val xf), (Ty.val xb), (Ty.bool (hasS xs))])) rfl rfl (YldM.toL (m_storeagg Try.inf107 (by decide) o314 q294 rfl q295 (by intro U hU; simp only [List.mem_cons, List.not_mem_nil, or_false] at hU; rcases hU with rfl | rfl | rfl <;> first | exact one_val rfl | exact one_sl | exact one_ref | exact one_val (Own.one o312) | exact one_val (Own.one o313)))) (fun v11 s54 hs26 r26 => ?_)
     have F61 := F60.stepL hs26 (by decide); have q296 := kpL hs26 (by decide) rfl q294; have o316 := OwnP.keepL o311 hs26 (by decide) (by decide); have o317 := Own.keepL o312 hs26 (by decide) (by decide); have o318 := Own.keepL o313 hs26 (by decide) (by decide)
     have o315 : OwnP s54 4 x1 [(Ty.val xf), (Ty.val xb), (Ty.bool (hasS xs))] := r26
     clear r26
     refine tailL (L := []) (R := (fun v τ => Pr.has (Ty.pr (Ty.int (0 : Int))) τ v)) rfl rfl (by decide) ok44 (Yld.toL (y_assign rfl)) (fun a46 s55 hs27 ok45 r27 sm16 => ?_)
     have F62 := F61.stepL hs27 (by decide); have q298 := kpL hs27 (by decide) (sm16 4 (by decide)) q296; have o319 := OwnP.keepL o316 hs27 (by decide) (by decide); have o320 := Own.keepL o317 hs27 (by decide) (by decide); have o321 := Own.keepL o318 hs27 (by decide) (by decide); have o322 := OwnP.keepL o315 hs27 (by decide) (by decide)
     have q299 : At (Ty.int (0 : Int)) s55 a46 (.tmp 5) := r27
     clear r27; refine wpList_nil ?_; refine tn ?_; refine wp_ret ?_
     obtain ⟨t9, e7, h7, q300⟩ := Own.seal o320 (by decide)
     rw [← e7]
     have F63 := F62.step h7 (by decide); have o323 := Own.keepL o321 (h7.toL (L := [6]) (by simp)) (by decide) (by decide); have o324 := OwnP.keepL o322 (h7.toL (L := [6]) (by simp)) (by decide) (by decide); have q301 := Ty.up (Ty.val x1) (h7.le (by decide)) q298; have q302 := Ty.up (Ty.int (0 : Int)) (h7.le (by decide)) q299; have o325 := ownp_cellq 0 (Ty.lst Ty.int (List.map bellQ (frR xs))) o324 rfl q300
     obtain ⟨t10, e8, h8, q303⟩ := Own.seal o323 (by decide)
     rw [← e8]
     have F64 := F63.step h8 (by decide); have o326 := OwnP.keepL o325 (h8.toL (L := [7]) (by simp)) (by decide) (by decide); have q304 := Ty.up (Ty.val x1) (h8.le (by decide)) q301; have q305 := Ty.up (Ty.int (0 : Int)) (h8.le (by decide)) q302; have o327 := ownp_cellq 1 (Ty.lst Ty.int (List.map bellQ (bkR xs))) o326 rfl q303
     have o328 : OwnP t10 4 x1 [(Ty.lst Ty.int (List.map bellQ (frR xs))), (Ty.lst Ty.int (List.map bellQ (bkR xs))), (Ty.bool (hasS xs))] := o327
     have o329 : OwnP t10 4 x1 [(Ty.lst Ty.int ((List.map bellQ (frR xs)))), (Ty.lst Ty.int (List.map bellQ (bkR xs))), (Ty.bool (hasS xs))] := cvop (by rw [show (Ty.lst Ty.int (List.map bellQ (frR xs))) = (Ty.lst Ty.int ((List.map bellQ (frR xs)))) from by (first | rfl | omega | (simp_all; done))]) o328
     have o330 : OwnP t10 4 x1 [(Ty.lst Ty.int ((List.map bellQ (frR xs)))), (Ty.lst Ty.int ((List.map bellQ (bkR xs)))), (Ty.bool (hasS xs))] := cvop (by rw [show (Ty.lst Ty.int (List.map bellQ (bkR xs))) = (Ty.lst Ty.int ((List.map bellQ (bkR xs)))) from by (first | rfl | omega | (simp_all; done))]) o329
     have o331 : OwnP t10 4 x1 [(Ty.lst Ty.int ((List.map bellQ (frR xs)))), (Ty.lst Ty.int ((List.map bellQ (bkR xs)))), (Ty.bool ((hasS xs)))] := cvop (by rw [show (Ty.bool (hasS xs)) = (Ty.bool ((hasS xs))) from by (first | rfl | omega | (simp_all; done))]) o330
     exact retL2c (k := 4) (ts := [(Ty.lst Ty.int ((List.map bellQ (frR xs)))), (Ty.lst Ty.int ((List.map bellQ (bkR xs)))), (Ty.bool ((hasS xs)))]) rfl ok45 F64 Try.underlying107 Try.inf107 (al (R := (Pr.ownp 4 [(Ty.lst Ty.int ((List.map bellQ (frR xs)))), (Ty.lst Ty.int ((List.map bellQ (bkR xs)))), (Ty.bool ((hasS xs)))])) q304 o331) (fun v_ hv_ => ⟨(List.map bellQ (frR xs)), (List.map bellQ (bkR xs)), (hasS xs), (hasT2 hv_ (cvi (by (exact hp1.symm)) q305)), (by intro _; rw [← heq]; exact ⟨rfl, rfl⟩)⟩)

theorem Try.inf128 : Info Try.prog 128 (.agg (Array.replicate 12 (.int .i64 0))) 12 96 := by unfold Info; kernel_rfl
set_option maxRecDepth 100000 in
theorem rowCheck_fn (r : List Int) (σ : GW) (v0 : Value) (hv0 : Ty.has (Ty.lst Ty.int r) σ v0)  :
    FnC Try.prog 69 #[v0] σ (Ty.int (rowMay r)) := by
 refine fn_intro Try.func69 rfl Try.ntmps69 (Nat.le_of_ble_eq_true rfl) (fun s0 a0 hle F0 ok0 hargs => ?_)
 have p0 : At (Ty.lst Ty.int r) s0 a0 (.tmp 0) := by have e := hargs 0 _ rfl; show Ty.has _ _ _; rw [e]; exact Ty.up _ hle hv0
 have b1 := sl_le p0
 clear hargs; refine wp_seq ?_
 refine rg a0 s0 [(Ty.int (0 : Int))] ok0 ⟨?_, trivial⟩ ?_
 · intro A B E G H; exact rP (y_assign rfl)
 intro a1 s1 D1; have ok1 := D1.ok; have F1 := F0.step0 D1.stp; have q1 := D1.kt p0 rfl; clear D1; refine tn ?_; refine wp_seq ?_; refine wp_seq ?_
 refine rg a1 s1 [(Ty.lst Ty.int r), (Ty.nat (List.length r)), (Ty.bool (decide ((((List.length r) : Nat) : Int) < (1 : Int)))), (Ty.bool (decide ((((List.length r) : Nat) : Int) < (1 : Int)))), (Ty.grd ((decide ((((List.length r) : Nat) : Int) < (1 : Int))) = false) (Ty.lst Ty.int r)), (Ty.grd ((decide ((((List.length r) : Nat) : Int) < (1 : Int))) = false) (Ty.nat (List.length r))), (Ty.grd ((decide ((((List.length r) : Nat) : Int) < (1 : Int))) = false) (Ty.bool (decide ((12 : Int) < (((List.length r) : Nat) : Int))))), (Ty.bool ((decide ((((List.length r) : Nat) : Int) < (1 : Int))) || (decide ((12 : Int) < (((List.length r) : Nat) : Int)))))] ok1 ⟨?_, ?_, ?_, ?_, ?_, ?_, ?_, ?_, trivial⟩ ?_
 · intro A B E G H; exact rP (y_move (kp (H 0 rfl) E q1))
 · intro A B E G H d0; exact rP (y_len Try.underlying23 (ed d0 rfl rfl rfl))
 · intro A B E G H d0; exact rP (y_lss (ed d0 rfl rfl rfl) rfl)
 · intro A B E G H d0; exact rP (y_move (ed d0 rfl rfl rfl))
 · intro A B E G H d0
   refine run_guard G rfl rfl (by decide) (ed d0 rfl rfl rfl) (fun hg => ?_)
   have hp := of_decide_eq_false hg
   exact y_move (kp (H 0 rfl) E q1)
 · intro A B E G H d0 d1
   refine run_guard G rfl rfl (by decide) (ed d1 rfl rfl rfl) (fun hg => ?_)
   have hp := of_decide_eq_false hg
   exact y_len Try.underlying23 ((ed d0 rfl rfl rfl).1 hg)
 · intro A B E G H d0 d1
   refine run_guard G rfl rfl (by decide) (ed d1 rfl rfl rfl) (fun hg => ?_)
   have hp := of_decide_eq_false hg
   exact y_gtr ((ed d0 rfl rfl rfl).1 hg) rfl
 · intro A B E G H d0 d1; exact rP (y_pick_or (ed d0 rfl rfl rfl) rfl (ed d1 rfl rfl rfl))
 intro a2 s2 D2; have ok2 := D2.ok; have F2 := F1.step0 D2.stp; have q2 := D2.kt q1 rfl; have q3 := D2.dn 7 rfl rfl; clear D2; refine tn ?_
 refine cond_t q3 (fun c1 => ?_) (fun c1 => ?_)
 ·
  simp only [Bool.or_eq_true, decide_eq_true_eq] at c1
  refine wp_seq ?_
  refine rg a2 s2 [(Ty.int (1 : Int))] ok2 ⟨?_, trivial⟩ ?_
  · intro A B E G H; exact rP (y_assign rfl)
  intro a3 s3 D3; have ok3 := D3.ok; have F3 := F2.step0 D3.stp; have q4 := D3.dn 0 rfl rfl; clear D3; refine tn ?_; refine wp_ret ?_
  refine tr ?_
  exact ret1 rfl ok3 F3 (cvi (by (exact (rowMay_cnt (by omega)).symm)) q4)
 ·
  obtain ⟨d1, d2⟩ := Bool.or_eq_false_iff.mp c1
  replace d1 := of_decide_eq_false d1
  replace d2 := of_decide_eq_false d2
  refine wp_skip ?_
  refine tn ?_; refine wp_seq ?_
  refine reg (a := a2) (σ := s2) rfl (fun i_ => List.getD [(Pr.ownp 11 (List.map Ty.int (List.replicate 12 0)))] i_ Pr.any) ok2 rfl ⟨?_, trivial⟩ ?_
  · intro A B E G H; exact rP (y_alloc Try.inf128 (by simp [Value.cells]) (alloc_zero 12 (by intro σ; exact rfl)))
  intro a4 s4 D4; have ok4 := D4.ok; have F4 := F2.step0 D4.stp; have q5 := D4.kt q2 rfl
  have q6 : (Pr.ownp 11 (List.map Ty.int (List.replicate 12 0))).has s4 (a4.eval (.tmp 3)) := D4.done 0
  clear D4; refine tn ?_; refine wp_seq ?_; refine wp_seq ?_
  refine rg a4 s4 [(Ty.lst Ty.int r), (Ty.nat (List.length r)), (Ty.int (0 : Int))] ok4 ⟨?_, ?_, ?_, trivial⟩ ?_
  · intro A B E G H; exact rP (y_move (kp (H 0 rfl) E q5))
  · intro A B E G H d0; exact rP (y_len Try.underlying23 (ed d0 rfl rfl rfl))
  · intro A B E G H; exact rP (y_move rfl)
  intro a5 s5 D5; have ok5 := D5.ok; have F5 := F4.step0 D5.stp; have q7 := D5.kt q5 rfl
  have q8 : (Pr.ownp 11 (List.map Ty.int (List.replicate 12 0))).has s5 (a5.eval (.tmp 3)) := D5.ko q6 rfl
  have q9 := D5.dn 0 rfl rfl; have q10 := D5.dn 1 rfl rfl; have q11 := D5.dn 2 rfl rfl; clear D5; refine tn ?_
  refine wp_block ?_
  refine loop (fun n1 a6 w1 => ∃ (t1 : GW) (k : Nat), t1.w = w1 ∧ From s0 t1 ∧ Ok 40 a6 ∧ At (Ty.nat k) t1 a6 (.tmp 16) ∧ (Pr.ownp 11 (List.map Ty.int (seenL r k))).has t1 (a6.eval (.tmp 3)) ∧ At (Ty.lst Ty.int r) t1 a6 (.tmp 0) ∧ At (Ty.lst Ty.int r) t1 a6 (.tmp 14) ∧ At (Ty.nat (List.length r)) t1 a6 (.tmp 15) ∧ (k ≤ r.length) ∧ (Upto r k) ∧ n1 = r.length - k) (r.length - (0)) ?_ ?_
  ·
   exact ⟨s5, 0, rfl, F5, ok5, (cvi (by (first | rfl | omega | (simp_all; done) | (simp_all; omega))) q11), (cvop (by (rw [seenL_zero])) q8), q7, q9, q10, by omega, Upto.zero r, rfl⟩
  ·
   rintro n2 a7 w2 ⟨t2, k, rfl, F6, ok6, q12, q13, q14, q15, q16, hk, hu, rfl⟩
   have E := seenL_len r k
   refine wp_seq ?_
   refine reg (a := a7) (σ := t2) rfl (fun i_ => List.getD [(Ty.pr (Ty.bool (decide (((k : Nat) : Int) < (((List.length r) : Nat) : Int)))))] i_ Pr.any) ok6 rfl ⟨?_, trivial⟩ ?_
   · intro A B E G H; exact rP (y_lss (kp (H 16 rfl) E q12) (kp (H 15 rfl) E q16))
   intro a8 s6 D6; have ok7 := D6.ok; have F7 := F6.step0 D6.stp; have q17 := D6.kt q12 rfl
   have q18 : (Pr.ownp 11 (List.map Ty.int (seenL r k))).has s6 (a8.eval (.tmp 3)) := D6.ko q13 rfl
   have q19 := D6.kt q14 rfl; have q20 := D6.kt q15 rfl; have q21 := D6.kt q16 rfl; have q22 := D6.dn 0 rfl rfl; clear D6; refine tn ?_; refine wp_seq ?_
   refine cond_p (p := (((k : Nat) : Int) < (((List.length r) : Nat) : Int))) q22 (fun c2 => ?_) (fun c2 => ?_)
   ·
    refine wp_skip ?_
    refine tn ?_; refine wp_seq ?_
    refine wp_block ?_
    refine wp_seq ?_
    refine rg a8 s6 [(Ty.ref [(Ty.int (r.getD k 0))]), (Ty.int (r.getD k 0)), (Ty.int (r.getD k 0))] ok7 ⟨?_, ?_, ?_, trivial⟩ ?_
    · intro A B E G H; exact rP (y_index1 Try.underlying23 Try.inf3 (kp (H 14 rfl) E q20) (kp (H 16 rfl) E q17) (by omega) (lst_get Ty.int r 0 k (by omega)))
    · intro A B E G H d0; exact rP (y_load Try.underlying3 rfl (ed d0 rfl rfl rfl) rfl)
    · intro A B E G H d0 d1 d2; exact rP (y_assign (ed d0 rfl rfl rfl))
    intro a9 s7 D7; have ok8 := D7.ok; have F8 := F7.step0 D7.stp; have q23 := D7.kt q17 rfl
    have q24 : (Pr.ownp 11 (List.map Ty.int (seenL r k))).has s7 (a9.eval (.tmp 3)) := D7.ko q18 rfl
    have q25 := D7.kt q19 rfl; have q26 := D7.kt q20 rfl; have q27 := D7.kt q21 rfl; have q28 := D7.dn 2 rfl rfl; clear D7; refine tn ?_; refine wp_seq ?_; refine wp_seq ?_
    refine rg a9 s7 [(Ty.int (r.getD k 0)), (Ty.bool (decide ((r.getD k 0) < (0 : Int)))), (Ty.bool (decide ((r.getD k 0) < (0 : Int)))), (Ty.grd ((decide ((r.getD k 0) < (0 : Int))) = false) (Ty.int (r.getD k 0))), (Ty.grd ((decide ((r.getD k 0) < (0 : Int))) = false) (Ty.lst Ty.int r)), (Ty.grd ((decide ((r.getD k 0) < (0 : Int))) = false) (Ty.nat (List.length r))), (Ty.grd ((decide ((r.getD k 0) < (0 : Int))) = false) (Ty.bool (decide ((((List.length r) : Nat) : Int) ≤ (r.getD k 0))))), (Ty.bool ((decide ((r.getD k 0) < (0 : Int))) || (decide ((((List.length r) : Nat) : Int) ≤ (r.getD k 0))))), (Ty.bool ((decide ((r.getD k 0) < (0 : Int))) || (decide ((((List.length r) : Nat) : Int) ≤ (r.getD k 0))))), (Ty.grd (((decide ((r.getD k 0) < (0 : Int))) || (decide ((((List.length r) : Nat) : Int) ≤ (r.getD k 0)))) = false) (Ty.int (r.getD k 0))), (Ty.grd (((decide ((r.getD k 0) < (0 : Int))) || (decide ((((List.length r) : Nat) : Int) ≤ (r.getD k 0)))) = false) (Ty.val (ptrAt (a9.eval (.tmp 3)) ((r.getD k 0)).toNat))), (Ty.grd (((decide ((r.getD k 0) < (0 : Int))) || (decide ((((List.length r) : Nat) : Int) ≤ (r.getD k 0)))) = false) (Ty.int ((seenL r k).getD ((r.getD k 0)).toNat 0))), (Ty.grd (((decide ((r.getD k 0) < (0 : Int))) || (decide ((((List.length r) : Nat) : Int) ≤ (r.getD k 0)))) = false) (Ty.bool (decide ((0 : Int) < ((seenL r k).getD ((r.getD k 0)).toNat 0))))), (Ty.bool (((decide ((r.getD k 0) < (0 : Int))) || (decide ((((List.length r) : Nat) : Int) ≤ (r.getD k 0)))) || (decide ((0 : Int) < ((seenL r k).getD ((r.getD k 0)).toNat 0)))))] ok8 ⟨?_, ?_, ?_, ?_, ?_, ?_, ?_, ?_, ?_, ?_, ?_, ?_, ?_, ?_, trivial⟩ ?_
    · intro A B E G H; exact rP (y_move (kp (H 5 rfl) E q28))
    · intro A B E G H d0; exact rP (y_lss (ed d0 rfl rfl rfl) rfl)
    · intro A B E G H d0; exact rP (y_move (ed d0 rfl rfl rfl))
    · intro A B E G H d0
      refine run_guard G rfl rfl (by decide) (ed d0 rfl rfl rfl) (fun hg => ?_)
      have hp := of_decide_eq_false hg
      exact y_move (kp (H 5 rfl) E q28)
    · intro A B E G H d0
      refine run_guard G rfl rfl (by decide) (ed d0 rfl rfl rfl) (fun hg => ?_)
      have hp := of_decide_eq_false hg
      exact y_move (kp (H 0 rfl) E q25)
    · intro A B E G H d0 d1
      refine run_guard G rfl rfl (by decide) (ed d1 rfl rfl rfl) (fun hg => ?_)
      have hp := of_decide_eq_false hg
      exact y_len Try.underlying23 ((ed d0 rfl rfl rfl).1 hg)
    · intro A B E G H d0 d1 d2
      refine run_guard G rfl rfl (by decide) (ed d2 rfl rfl rfl) (fun hg => ?_)
      have hp := of_decide_eq_false hg
      exact y_geq ((ed d0 rfl rfl rfl).1 hg) ((ed d1 rfl rfl rfl).1 hg)
    · intro A B E G H d0 d1; exact rP (y_pick_or (ed d0 rfl rfl rfl) rfl (ed d1 rfl rfl rfl))
    · intro A B E G H d0 d1; exact rP (y_move (ed d0 rfl rfl rfl))
    · intro A B E G H d0
      refine run_guard G rfl rfl (by decide) (ed d0 rfl rfl rfl) (fun hg => ?_)
      obtain ⟨d3, d4⟩ := Bool.or_eq_false_iff.mp hg
      have d3 := of_decide_eq_false d3
      have d4 := of_decide_eq_false d4
      exact y_move (kp (H 5 rfl) E q28)
    · intro A B E G H d0 d1
      refine run_guard G rfl rfl (by decide) (ed d1 rfl rfl rfl) (fun hg => ?_)
      obtain ⟨d5, d6⟩ := Bool.or_eq_false_iff.mp hg
      have d5 := of_decide_eq_false d5
      have d6 := of_decide_eq_false d6
      exact ownp_index (i := (r.getD k 0)) Try.underlying128 Try.inf3 ((Pr.ownp 11 (List.map Ty.int (seenL r k))).up E q24) (H 3 rfl) ((ed d0 rfl rfl rfl).1 hg) (by omega) (by omega)
    · intro A B E G H d0 d1
      refine run_guard G rfl rfl (by decide) (ed d1 rfl rfl rfl) (fun hg => ?_)
      obtain ⟨d7, d8⟩ := Bool.or_eq_false_iff.mp hg
      have d7 := of_decide_eq_false d7
      have d8 := of_decide_eq_false d8
      exact ownp_load Try.underlying3 rfl ((Pr.ownp 11 (List.map Ty.int (seenL r k))).up E q24) ((ed d0 rfl rfl rfl).1 hg) (lst_get Ty.int (seenL r k) 0 ((r.getD k 0)).toNat (by omega))
    · intro A B E G H d0 d1
      refine run_guard G rfl rfl (by decide) (ed d1 rfl rfl rfl) (fun hg => ?_)
      obtain ⟨d9, d10⟩ := Bool.or_eq_false_iff.mp hg
      have d9 := of_decide_eq_false d9
      have d10 := of_decide_eq_false d10
      exact y_gtr ((ed d0 rfl rfl rfl).1 hg) rfl
    · intro A B E G H d0 d1; exact rP (y_pick_or (ed d0 rfl rfl rfl) rfl (ed d1 rfl rfl rfl))
    intro a10 s8 D8; have ok9 := D8.ok; have F9 := F8.step0 D8.stp; have q29 := D8.kt q23 rfl
    have q30 : (Pr.ownp 11 (List.map Ty.int (seenL r k))).has s8 (a10.eval (.tmp 3)) := D8.ko q24 rfl
    have q31 := D8.kt q25 rfl; have q32 := D8.kt q26 rfl; have q33 := D8.kt q27 rfl; have q34 := D8.kt q28 rfl; have q35 := D8.dn 13 rfl rfl; clear D8; refine tn ?_
    refine cond_t q35 (fun c3 => ?_) (fun c3 => ?_)
    ·
     simp only [Bool.or_eq_true, decide_eq_true_eq] at c3
     refine wp_seq ?_
     refine rg a10 s8 [(Ty.int (2 : Int))] ok9 ⟨?_, trivial⟩ ?_
     · intro A B E G H; exact rP (y_assign rfl)
     intro a11 s9 D9; have ok10 := D9.ok; have F10 := F9.step0 D9.stp; have q36 := D9.dn 0 rfl rfl; clear D9; refine tn ?_; refine wp_ret ?_
     refine tr ?_
     refine br ?_
     refine tr ?_
     refine tr ?_
     refine br ?_
     refine tr ?_
     exact ret1 rfl ok10 F10 (cvi (by (by_cases hb : r.getD k 0 < 0 ∨ (r.length : Int) ≤ r.getD k 0; exact (not_row_bd (by omega) (by omega) (by omega) hb).symm; exact (not_row_twice (k := k) (by omega) (by omega) (by omega) (by omega) (by omega) (by omega)).symm)) q36)
    ·
     obtain ⟨d11, d12⟩ := Bool.or_eq_false_iff.mp c3
     obtain ⟨d13, d14⟩ := Bool.or_eq_false_iff.mp d11
     replace d13 := of_decide_eq_false d13
     replace d14 := of_decide_eq_false d14
     replace d12 := of_decide_eq_false d12
     have hq := seenL_bd r k (r.getD k 0).toNat
     refine wp_skip ?_
     refine tn ?_
     refine reg2 (a := a10) (σ := s8) rfl 5 (fun i_ => List.getD [(Ty.pr (Ty.int (r.getD k 0))), (Ty.pr (Ty.val (ptrAt (a10.eval (.tmp 3)) ((r.getD k 0)).toNat))), (Ty.pr (Ty.int ((seenL r k).getD ((r.getD k 0)).toNat 0))), (Ty.pr (Ty.int (((seenL r k).getD ((r.getD k 0)).toNat 0) + (1 : Int)))), (Ty.pr (Ty.val (ptrAt (a10.eval (.tmp 3)) ((r.getD k 0)).toNat)))] i_ Pr.any) ok9 rfl (by decide) rfl ⟨?_, ?_, ?_, ?_, ?_, trivial⟩ ?_
     · intro A B E G H; exact rP (y_move (kp (H 5 rfl) E q34))
     · intro A B E G H d0; exact rP (ownp_index (i := (r.getD k 0)) Try.underlying128 Try.inf3 ((Pr.ownp 11 (List.map Ty.int (seenL r k))).up E q30) (H 3 rfl) (ed d0 rfl rfl rfl) (by omega) (by omega))
     · intro A B E G H d0; exact rP (ownp_load Try.underlying3 rfl ((Pr.ownp 11 (List.map Ty.int (seenL r k))).up E q30) (ed d0 rfl rfl rfl) (lst_get Ty.int (seenL r k) 0 ((r.getD k 0)).toNat (by omega)))
     · intro A B E G H d0; exact rP (y_add (ed d0 rfl rfl rfl) rfl (w64 (by omega) (by omega)))
     · intro A B E G H d0 d1 d2 d3 d4; exact rP (ownp_index (i := (r.getD k 0)) Try.underlying128 Try.inf3 ((Pr.ownp 11 (List.map Ty.int (seenL r k))).up E q30) (H 3 rfl) (ed d0 rfl rfl rfl) (by omega) (by omega))
     intro a12 s10 D10; have ok11 := D10.ok; have F11 := F9.step0 D10.stp; have q37 := (Pr.ownp 11 (List.map Ty.int (seenL r k))).up D10.stp q30; have q38 := D10.kt q29 rfl
     have q39 : a12.eval (.tmp 3) = a10.eval (.tmp 3) := D10.same 3 rfl
     have q40 := D10.kt q31 rfl; have q41 := D10.kt q32 rfl; have q42 := D10.kt q33 rfl; have q43 := D10.dn 3 (by decide) rfl rfl; have q44 := D10.dn 4 (by decide) rfl rfl; clear D10
     refine tail_step0 (m := 11) (R := (fun _ τ => OwnP τ 11 (a10.eval (.tmp 3)) ((List.map Ty.int (seenL r k)).set ((r.getD k 0)).toNat (Ty.int (((seenL r k).getD ((r.getD k 0)).toNat 0) + (1 : Int)))))) rfl rfl (m_storep Try.inf3 (by decide) q37 q44 (by simp only [List.length_map, List.length_set]; omega) q43 (one_val rfl)) (fun v1 s11 hs1 r1 => ?_)
     have F12 := F11.step hs1 (by decide)
     have q45 : At (Ty.nat k) s11 a12 (.tmp 16) := kpm hs1 (by decide) rfl q38
     have q46 : At (Ty.lst Ty.int r) s11 a12 (.tmp 0) := kpm hs1 (by decide) rfl q40
     have q47 : At (Ty.lst Ty.int r) s11 a12 (.tmp 14) := kpm hs1 (by decide) rfl q41
     have q48 : At (Ty.nat (List.length r)) s11 a12 (.tmp 15) := kpm hs1 (by decide) rfl q42
     have q49 : At (Ty.int (((seenL r k).getD ((r.getD k 0)).toNat 0) + (1 : Int))) s11 a12 (.tmp 37) := kpm hs1 (by decide) rfl q43
     have q50 : (Pr.ownp 11 (List.map Ty.int ((seenL r k).set ((r.getD k 0)).toNat (((seenL r k).getD ((r.getD k 0)).toNat 0) + (1 : Int))))).has s11 (a10.eval (.tmp 3)) := (cvop (by simp) r1)
     refine wpList_nil ?_
     have q51 : (Pr.ownp 11 (List.map Ty.int ((seenL r k).set ((r.getD k 0)).toNat (((seenL r k).getD ((r.getD k 0)).toNat 0) + (1 : Int))))).has s11 (a12.eval (.tmp 3)) := al q39 q50
     refine bn ?_; refine tn ?_
     refine rg a12 s11 [(Ty.int (((k : Nat) : Int) + (1 : Int))), (Ty.int (((k : Nat) : Int) + (1 : Int)))] ok11 ⟨?_, ?_, trivial⟩ ?_
     · intro A B E G H; exact rP (y_add (kp (H 16 rfl) E q45) rfl (w64 (by omega) (by omega)))
     · intro A B E G H d0; exact rP (y_move (ed d0 rfl rfl rfl))
     intro a14 s12 D11; have ok13 := D11.ok; have F13 := F12.step0 D11.stp
     have q52 : (Pr.ownp 11 (List.map Ty.int ((seenL r k).set ((r.getD k 0)).toNat (((seenL r k).getD ((r.getD k 0)).toNat 0) + (1 : Int))))).has s12 (a14.eval (.tmp 3)) := D11.ko q51 rfl
     have q53 := D11.kt q46 rfl; have q54 := D11.kt q47 rfl; have q55 := D11.kt q48 rfl; have q56 := D11.dn 1 rfl rfl; clear D11
     exact tn ⟨r.length - ((k+1)), by omega, s12, (k+1), rfl, F13, ok13, (cvi (by (first | rfl | omega | (simp_all; done) | (simp_all; omega))) q56), (cvop (by (exact congrArg _ (seenL_step r k (by omega) (by omega) (by omega)))) q52), q53, q54, q55, by omega, hu.step (by omega) (by omega) (by omega) (by omega) (by omega), rfl⟩
   ·
    refine wp_exit ?_; refine tx ?_; refine tx ?_; refine bx ?_; refine tn ?_; refine wp_seq ?_
    refine rg a8 s6 [(Ty.int (0 : Int))] ok7 ⟨?_, trivial⟩ ?_
    · intro A B E G H; exact rP (y_assign rfl)
    intro a15 s13 D12; have ok14 := D12.ok; have F14 := F7.step0 D12.stp; have q57 := D12.dn 0 rfl rfl; clear D12; refine tn ?_; refine wp_ret ?_
    exact ret1 rfl ok14 F14 (cvi (by (exact (Upto.row (by have e : k = r.length := (by omega); rw [← e]; rw [e] at hu; rw [e]; exact hu) (by omega) (by omega)).symm)) q57)


set_option maxHeartbeats 4000000 in
set_option maxRecDepth 100000 in
theorem fits_fn (f : List Int) (b : List Int) (st : Bool) (r : List Int) (σ : GW)  (v0 v1 : Value) (hv0 : Ty.has (Ty.agg [(Ty.lst Ty.int f), (Ty.lst Ty.int b), (Ty.bool st)]) σ v0) (hv1 : Ty.has (Ty.lst Ty.int r) σ v1)  (hl1 : f.length ≤ r.length) (hl2 : b.length ≤ r.length) :
    FnC Try.prog 70 #[v0, v1] σ (Ty.bool (likeB f b r)) := by
 refine fn_intro0 Try.func70 rfl Try.ntmps70 (Nat.le_of_ble_eq_true rfl) (fun s0 a0 hle F0 ok0 hargs => ?_)
 have p0 : At (Ty.agg [(Ty.lst Ty.int f), (Ty.lst Ty.int b), (Ty.bool st)]) s0 a0 (.tmp 0) := by have e := hargs 0 _ rfl; show Ty.has _ _ _; rw [e]; exact Ty.up _ hle hv0
 have p1 : At (Ty.lst Ty.int r) s0 a0 (.tmp 1) := by have e := hargs 1 _ rfl; show Ty.has _ _ _; rw [e]; exact Ty.up _ hle hv1
 have b1 := sl_le p1
 clear hargs; refine wp_seq ?_
 refine rg a0 s0 [(Ty.ref [(Ty.lst Ty.int f), (Ty.lst Ty.int b), (Ty.bool st)]), (Ty.bool false)] ok0 ⟨?_, ?_, trivial⟩ ?_
 · intro A B E G H; exact rP (y_boxagg (kp (H 0 rfl) E p0))
 · intro A B E G H; exact rP (y_assign rfl)
 intro a1 s1 D1; have ok1 := D1.ok; have F1 := F0.step0 D1.stp; have q1 := D1.kt p1 rfl; have q2 := D1.dn 0 rfl rfl; clear D1; refine tn ?_; refine wp_seq ?_; refine wp_seq ?_
 refine rg a1 s1 [(Ty.ref [(Ty.lst Ty.int f), (Ty.lst Ty.int b), (Ty.bool st)]), (Ty.lst Ty.int f), (Ty.nat (List.length f)), (Ty.int (0 : Int))] ok1 ⟨?_, ?_, ?_, ?_, trivial⟩ ?_
 · intro A B E G H; exact rP (y_field Try.fld107_0 Try.inf23 (by decide) (kp (H 2 rfl) E q2) rfl)
 · intro A B E G H d0; exact rP (y_load Try.underlying23 rfl (ed d0 rfl rfl rfl) rfl)
 · intro A B E G H d0; exact rP (y_len Try.underlying23 (ed d0 rfl rfl rfl))
 · intro A B E G H; exact rP (y_move rfl)
 intro a2 s2 D2; have ok2 := D2.ok; have F2 := F1.step0 D2.stp; have q3 := D2.kt q1 rfl; have q4 := D2.kt q2 rfl; have q5 := D2.dn 1 rfl rfl
 have b2 := sl_le q5
 have q6 := D2.dn 2 rfl rfl; have q7 := D2.dn 3 rfl rfl; clear D2; refine tn ?_
 refine wp_block ?_
 refine loop (fun n1 a3 w1 => ∃ (t1 : GW) (i : Nat), t1.w = w1 ∧ FromL [] s0 t1 ∧ Ok 56 a3 ∧ At (Ty.nat i) t1 a3 (.tmp 13) ∧ At (Ty.lst Ty.int r) t1 a3 (.tmp 1) ∧ At (Ty.ref [(Ty.lst Ty.int f), (Ty.lst Ty.int b), (Ty.bool st)]) t1 a3 (.tmp 2) ∧ At (Ty.lst Ty.int f) t1 a3 (.tmp 11) ∧ At (Ty.nat (List.length f)) t1 a3 (.tmp 12) ∧ (i ≤ f.length) ∧ (∀ j, j < i → f.getD j 0 < 0 ∨ r.getD j 0 = f.getD j 0) ∧ n1 = f.length - i) (f.length - (0)) ?_ ?_
 ·
  exact ⟨s2, 0, rfl, F2, ok2, (cvi (by (first | rfl | omega | (simp_all; done) | (simp_all; omega))) q7), q3, q4, q5, q6, by omega, fun j hj => absurd hj (Nat.not_lt_zero j), rfl⟩
 ·
  rintro n2 a4 w2 ⟨t2, i, rfl, F3, ok3, q8, q9, q10, q11, q12, hi, hq, rfl⟩
  refine wp_seq ?_
  refine reg (a := a4) (σ := t2) rfl (fun i_ => List.getD [(Ty.pr (Ty.bool (decide (((i : Nat) : Int) < (((List.length f) : Nat) : Int)))))] i_ Pr.any) ok3 rfl ⟨?_, trivial⟩ ?_
  · intro A B E G H; exact rP (y_lss (kp (H 13 rfl) E q8) (kp (H 12 rfl) E q12))
  intro a5 s3 D3; have ok4 := D3.ok; have F4 := F3.step0 D3.stp; have q13 := D3.kt q8 rfl; have q14 := D3.kt q9 rfl; have q15 := D3.kt q10 rfl; have q16 := D3.kt q11 rfl; have q17 := D3.kt q12 rfl; have q18 := D3.dn 0 rfl rfl; clear D3; refine tn ?_; refine wp_seq ?_
  refine cond_p (p := (((i : Nat) : Int) < (((List.length f) : Nat) : Int))) q18 (fun c1 => ?_) (fun c1 => ?_)
  ·
   refine wp_skip ?_
   refine tn ?_; refine wp_seq ?_
   refine wp_block ?_
   refine wp_seq ?_
   refine rg a5 s3 [(Ty.nat i), (Ty.ref [(Ty.int (f.getD i 0))]), (Ty.int (f.getD i 0)), (Ty.nat i), (Ty.int (f.getD i 0))] ok4 ⟨?_, ?_, ?_, ?_, ?_, trivial⟩ ?_
   · intro A B E G H; exact rP (y_move (kp (H 13 rfl) E q13))
   · intro A B E G H; exact rP (y_index1 Try.underlying23 Try.inf3 (kp (H 11 rfl) E q16) (kp (H 13 rfl) E q13) (by omega) (lst_get Ty.int f 0 i (by omega)))
   · intro A B E G H d0; exact rP (y_load Try.underlying3 rfl (ed d0 rfl rfl rfl) rfl)
   · intro A B E G H d0 d1 d2 d3; exact rP (y_assign (ed d0 rfl rfl rfl))
   · intro A B E G H d0 d1 d2 d3 d4 d5; exact rP (y_assign (ed d0 rfl rfl rfl))
   intro a6 s4 D4; have ok5 := D4.ok; have F5 := F4.step0 D4.stp; have q19 := D4.kt q13 rfl; have q20 := D4.kt q14 rfl; have q21 := D4.kt q15 rfl; have q22 := D4.kt q16 rfl; have q23 := D4.kt q17 rfl; have q24 := D4.dn 3 rfl rfl; have q25 := D4.dn 4 rfl rfl; clear D4; refine tn ?_; refine wp_seq ?_
   refine rg a6 s4 [(Ty.int (f.getD i 0)), (Ty.bool (decide ((0 : Int) ≤ (f.getD i 0)))), (Ty.bool (decide ((0 : Int) ≤ (f.getD i 0)))), (Ty.grd ((decide ((0 : Int) ≤ (f.getD i 0))) = true) (Ty.lst Ty.int r)), (Ty.grd ((decide ((0 : Int) ≤ (f.getD i 0))) = true) (Ty.nat i)), (Ty.grd ((decide ((0 : Int) ≤ (f.getD i 0))) = true) (Ty.ref [(Ty.int (r.getD i 0))])), (Ty.grd ((decide ((0 : Int) ≤ (f.getD i 0))) = true) (Ty.int (r.getD i 0))), (Ty.grd ((decide ((0 : Int) ≤ (f.getD i 0))) = true) (Ty.int (f.getD i 0))), (Ty.grd ((decide ((0 : Int) ≤ (f.getD i 0))) = true) (Ty.bool (decide ((r.getD i 0) ≠ (f.getD i 0))))), (Ty.bool ((decide ((0 : Int) ≤ (f.getD i 0))) && (decide ((r.getD i 0) ≠ (f.getD i 0)))))] ok5 ⟨?_, ?_, ?_, ?_, ?_, ?_, ?_, ?_, ?_, ?_, trivial⟩ ?_
   · intro A B E G H; exact rP (y_move (kp (H 6 rfl) E q25))
   · intro A B E G H d0; exact rP (y_geq (ed d0 rfl rfl rfl) rfl)
   · intro A B E G H d0; exact rP (y_move (ed d0 rfl rfl rfl))
   · intro A B E G H d0
     refine run_guard G rfl rfl (by decide) (ed d0 rfl rfl rfl) (fun hg => ?_)
     have hp := of_decide_eq_true hg
     exact y_move (kp (H 1 rfl) E q20)
   · intro A B E G H d0
     refine run_guard G rfl rfl (by decide) (ed d0 rfl rfl rfl) (fun hg => ?_)
     have hp := of_decide_eq_true hg
     exact y_move (kp (H 5 rfl) E q24)
   · intro A B E G H d0 d1 d2
     refine run_guard G rfl rfl (by decide) (ed d2 rfl rfl rfl) (fun hg => ?_)
     have hp := of_decide_eq_true hg
     exact y_index1 Try.underlying23 Try.inf3 ((ed d0 rfl rfl rfl).1 hg) ((ed d1 rfl rfl rfl).1 hg) (by omega) (lst_get Ty.int r 0 i (by omega))
   · intro A B E G H d0 d1
     refine run_guard G rfl rfl (by decide) (ed d1 rfl rfl rfl) (fun hg => ?_)
     have hp := of_decide_eq_true hg
     exact y_load Try.underlying3 rfl ((ed d0 rfl rfl rfl).1 hg) rfl
   · intro A B E G H d0
     refine run_guard G rfl rfl (by decide) (ed d0 rfl rfl rfl) (fun hg => ?_)
     have hp := of_decide_eq_true hg
     exact y_move (kp (H 6 rfl) E q25)
   · intro A B E G H d0 d1 d2
     refine run_guard G rfl rfl (by decide) (ed d2 rfl rfl rfl) (fun hg => ?_)
     have hp := of_decide_eq_true hg
     exact y_neq ((ed d0 rfl rfl rfl).1 hg) ((ed d1 rfl rfl rfl).1 hg)
   · intro A B E G H d0 d1; exact rP (y_pick_and (ed d0 rfl rfl rfl) (ed d1 rfl rfl rfl) rfl)
   intro a7 s5 D5; have ok6 := D5.ok; have F6 := F5.step0 D5.stp; have q26 := D5.kt q19 rfl; have q27 := D5.kt q20 rfl; have q28 := D5.kt q21 rfl; have q29 := D5.kt q22 rfl; have q30 := D5.kt q23 rfl; have q31 := D5.dn 9 rfl rfl; clear D5; refine tn ?_
   refine cond_t q31 (fun c2 => ?_) (fun c2 => ?_)
   ·
    obtain ⟨d1, d2⟩ := Bool.and_eq_true_iff.mp c2
    replace d1 := of_decide_eq_true d1
    replace d2 := of_decide_eq_true d2
    simp only [Bool.and_eq_true, decide_eq_true_eq] at c2
    refine wp_seq ?_
    refine rg a7 s5 [(Ty.bool false)] ok6 ⟨?_, trivial⟩ ?_
    · intro A B E G H; exact rP (y_assign rfl)
    intro a8 s6 D6; have ok7 := D6.ok; have F7 := F6.step0 D6.stp; have q32 := D6.dn 0 rfl rfl; clear D6; refine tn ?_; refine wp_ret ?_
    refine br ?_
    refine tr ?_
    refine tr ?_
    refine br ?_
    refine tr ?_
    exact retL1 rfl ok7 F7 (cvb (by (exact (like_no1 (i := i) (by omega) (by omega) (by omega)).symm)) q32)
   ·
    simp only [Bool.and_eq_false_iff, decide_eq_false_iff_not] at c2
    refine wp_skip ?_
    refine bn ?_; refine tn ?_
    refine rg a7 s5 [(Ty.nat (i + 1)), (Ty.nat (i + 1))] ok6 ⟨?_, ?_, trivial⟩ ?_
    · intro A B E G H; exact rP ((y_add (kp (H 13 rfl) E q26) rfl (w64 (by omega) (by omega))).mono (fun τ _ h => cvi (σ := τ) (by first | omega | exact (Int.natCast_mul _ _).symm) h))
    · intro A B E G H d0; exact rP (y_move (ed d0 rfl rfl rfl))
    intro a9 s7 D7; have ok8 := D7.ok; have F8 := F6.step0 D7.stp; have q33 := D7.kt q27 rfl; have q34 := D7.kt q28 rfl; have q35 := D7.kt q29 rfl; have q36 := D7.kt q30 rfl; have q37 := D7.dn 1 rfl rfl; clear D7
    exact tn ⟨f.length - ((i+1)), by omega, s7, (i+1), rfl, F8, ok8, (cvi (by (first | rfl | omega | (simp_all; done) | (simp_all; omega))) q37), q33, q34, q35, q36, by omega, all_next hq (by omega), rfl⟩
  ·
   have hie : i = f.length := (by omega)
   refine wp_exit ?_; refine tx ?_; refine tx ?_; refine bx ?_; refine tn ?_; refine wp_seq ?_
   refine rg a5 s3 [(Ty.lst Ty.int r), (Ty.nat (List.length r)), (Ty.ref [(Ty.lst Ty.int b), (Ty.bool st)]), (Ty.lst Ty.int b), (Ty.nat (List.length b)), (Ty.int ((((List.length r) : Nat) : Int) - (((List.length b) : Nat) : Int))), (Ty.int ((((List.length r) : Nat) : Int) - (((List.length b) : Nat) : Int)))] ok4 ⟨?_, ?_, ?_, ?_, ?_, ?_, ?_, trivial⟩ ?_
   · intro A B E G H; exact rP (y_move (kp (H 1 rfl) E q14))
   · intro A B E G H d0; exact rP (y_len Try.underlying23 (ed d0 rfl rfl rfl))
   · intro A B E G H; exact rP (y_field Try.fld107_1 Try.inf23 (by decide) (kp (H 2 rfl) E q15) rfl)
   · intro A B E G H d0; exact rP (y_load Try.underlying23 rfl (ed d0 rfl rfl rfl) rfl)
   · intro A B E G H d0; exact rP (y_len Try.underlying23 (ed d0 rfl rfl rfl))
   · intro A B E G H d0 d1; exact rP (y_sub (ed d0 rfl rfl rfl) (ed d1 rfl rfl rfl) (w64 (by omega) (by omega)))
   · intro A B E G H d0 d1 d2 d3 d4 d5 d6; exact rP (y_assign (ed d0 rfl rfl rfl))
   intro a10 s8 D8; have ok9 := D8.ok; have F9 := F4.step0 D8.stp; have q38 := D8.kt q14 rfl; have q39 := D8.kt q15 rfl; have q40 := D8.dn 6 rfl rfl; clear D8; refine tn ?_; refine wp_seq ?_; refine wp_seq ?_
   refine rg a10 s8 [(Ty.ref [(Ty.lst Ty.int b), (Ty.bool st)]), (Ty.lst Ty.int b), (Ty.nat (List.length b)), (Ty.int (0 : Int))] ok9 ⟨?_, ?_, ?_, ?_, trivial⟩ ?_
   · intro A B E G H; exact rP (y_field Try.fld107_1 Try.inf23 (by decide) (kp (H 2 rfl) E q39) rfl)
   · intro A B E G H d0; exact rP (y_load Try.underlying23 rfl (ed d0 rfl rfl rfl) rfl)
   · intro A B E G H d0; exact rP (y_len Try.underlying23 (ed d0 rfl rfl rfl))
   · intro A B E G H; exact rP (y_move rfl)
   intro a11 s9 D9; have ok10 := D9.ok; have F10 := F9.step0 D9.stp; have q41 := D9.kt q38 rfl; have q42 := D9.kt q40 rfl; have q43 := D9.dn 1 rfl rfl
   have b3 := sl_le q43
   have q44 := D9.dn 2 rfl rfl; have q45 := D9.dn 3 rfl rfl; clear D9; refine tn ?_
   refine wp_block ?_
   refine loop (fun n3 a12 w3 => ∃ (t3 : GW) (k : Nat), t3.w = w3 ∧ FromL [] s0 t3 ∧ Ok 56 a12 ∧ At (Ty.nat k) t3 a12 (.tmp 38) ∧ At (Ty.lst Ty.int r) t3 a12 (.tmp 1) ∧ At (Ty.int ((((List.length r) : Nat) : Int) - (((List.length b) : Nat) : Int))) t3 a12 (.tmp 7) ∧ At (Ty.lst Ty.int b) t3 a12 (.tmp 36) ∧ At (Ty.nat (List.length b)) t3 a12 (.tmp 37) ∧ (k ≤ b.length) ∧ (∀ j, j < k → b.getD j 0 < 0 ∨ r.getD (r.length - b.length + j) 0 = b.getD j 0) ∧ n3 = b.length - k) (b.length - (0)) ?_ ?_
   ·
    exact ⟨s9, 0, rfl, F10, ok10, (cvi (by (first | rfl | omega | (simp_all; done) | (simp_all; omega))) q45), q41, q42, q43, q44, by omega, fun j hj => absurd hj (Nat.not_lt_zero j), rfl⟩
   ·
    rintro n4 a13 w4 ⟨t4, k, rfl, F11, ok11, q46, q47, q48, q49, q50, hk, hq2, rfl⟩
    have hix : (((((r.length : Nat) : Int)) - (((b.length : Nat) : Int))) + ((k : Nat) : Int)).toNat = r.length - b.length + k := by omega
    refine wp_seq ?_
    refine reg (a := a13) (σ := t4) rfl (fun i_ => List.getD [(Ty.pr (Ty.bool (decide (((k : Nat) : Int) < (((List.length b) : Nat) : Int)))))] i_ Pr.any) ok11 rfl ⟨?_, trivial⟩ ?_
    · intro A B E G H; exact rP (y_lss (kp (H 38 rfl) E q46) (kp (H 37 rfl) E q50))
    intro a14 s10 D10; have ok12 := D10.ok; have F12 := F11.step0 D10.stp; have q51 := D10.kt q46 rfl; have q52 := D10.kt q47 rfl; have q53 := D10.kt q48 rfl; have q54 := D10.kt q49 rfl; have q55 := D10.kt q50 rfl; have q56 := D10.dn 0 rfl rfl; clear D10; refine tn ?_; refine wp_seq ?_
    refine cond_p (p := (((k : Nat) : Int) < (((List.length b) : Nat) : Int))) q56 (fun c3 => ?_) (fun c3 => ?_)
    ·
     refine wp_skip ?_
     refine tn ?_; refine wp_seq ?_
     refine wp_block ?_
     refine wp_seq ?_
     refine rg a14 s10 [(Ty.nat k), (Ty.ref [(Ty.int (b.getD k 0))]), (Ty.int (b.getD k 0)), (Ty.nat k), (Ty.int (b.getD k 0))] ok12 ⟨?_, ?_, ?_, ?_, ?_, trivial⟩ ?_
     · intro A B E G H; exact rP (y_move (kp (H 38 rfl) E q51))
     · intro A B E G H; exact rP (y_index1 Try.underlying23 Try.inf3 (kp (H 36 rfl) E q54) (kp (H 38 rfl) E q51) (by omega) (lst_get Ty.int b 0 k (by omega)))
     · intro A B E G H d0; exact rP (y_load Try.underlying3 rfl (ed d0 rfl rfl rfl) rfl)
     · intro A B E G H d0 d1 d2 d3; exact rP (y_assign (ed d0 rfl rfl rfl))
     · intro A B E G H d0 d1 d2 d3 d4 d5; exact rP (y_assign (ed d0 rfl rfl rfl))
     intro a15 s11 D11; have ok13 := D11.ok; have F13 := F12.step0 D11.stp; have q57 := D11.kt q51 rfl; have q58 := D11.kt q52 rfl; have q59 := D11.kt q53 rfl; have q60 := D11.kt q54 rfl; have q61 := D11.kt q55 rfl; have q62 := D11.dn 3 rfl rfl; have q63 := D11.dn 4 rfl rfl; clear D11; refine tn ?_; refine wp_seq ?_
     refine rg a15 s11 [(Ty.int (b.getD k 0)), (Ty.bool (decide ((0 : Int) ≤ (b.getD k 0)))), (Ty.bool (decide ((0 : Int) ≤ (b.getD k 0)))), (Ty.grd ((decide ((0 : Int) ≤ (b.getD k 0))) = true) (Ty.lst Ty.int r)), (Ty.grd ((decide ((0 : Int) ≤ (b.getD k 0))) = true) (Ty.int ((((List.length r) : Nat) : Int) - (((List.length b) : Nat) : Int)))), (Ty.grd ((decide ((0 : Int) ≤ (b.getD k 0))) = true) (Ty.nat k)), (Ty.grd ((decide ((0 : Int) ≤ (b.getD k 0))) = true) (Ty.int (((((List.length r) : Nat) : Int) - (((List.length b) : Nat) : Int)) + ((k : Nat) : Int)))), (Ty.grd ((decide ((0 : Int) ≤ (b.getD k 0))) = true) (Ty.ref [(Ty.int (r.getD ((((((List.length r) : Nat) : Int) - (((List.length b) : Nat) : Int)) + ((k : Nat) : Int))).toNat 0))])), (Ty.grd ((decide ((0 : Int) ≤ (b.getD k 0))) = true) (Ty.int (r.getD ((((((List.length r) : Nat) : Int) - (((List.length b) : Nat) : Int)) + ((k : Nat) : Int))).toNat 0))), (Ty.grd ((decide ((0 : Int) ≤ (b.getD k 0))) = true) (Ty.int (b.getD k 0))), (Ty.grd ((decide ((0 : Int) ≤ (b.getD k 0))) = true) (Ty.bool (decide ((r.getD ((((((List.length r) : Nat) : Int) - (((List.length b) : Nat) : Int)) + ((k : Nat) : Int))).toNat 0) ≠ (b.getD k 0))))), (Ty.bool ((decide ((0 : Int) ≤ (b.getD k 0))) && (decide ((r.getD ((((((List.length r) : Nat) : Int) - (((List.length b) : Nat) : Int)) + ((k : Nat) : Int))).toNat 0) ≠ (b.getD k 0)))))] ok13 ⟨?_, ?_, ?_, ?_, ?_, ?_, ?_, ?_, ?_, ?_, ?_, ?_, trivial⟩ ?_
     · intro A B E G H; exact rP (y_move (kp (H 9 rfl) E q63))
     · intro A B E G H d0; exact rP (y_geq (ed d0 rfl rfl rfl) rfl)
     · intro A B E G H d0; exact rP (y_move (ed d0 rfl rfl rfl))
     · intro A B E G H d0
       refine run_guard G rfl rfl (by decide) (ed d0 rfl rfl rfl) (fun hg => ?_)
       have hp := of_decide_eq_true hg
       exact y_move (kp (H 1 rfl) E q58)
     · intro A B E G H d0
       refine run_guard G rfl rfl (by decide) (ed d0 rfl rfl rfl) (fun hg => ?_)
       have hp := of_decide_eq_true hg
       exact y_move (kp (H 7 rfl) E q59)
     · intro A B E G H d0
       refine run_guard G rfl rfl (by decide) (ed d0 rfl rfl rfl) (fun hg => ?_)
       have hp := of_decide_eq_true hg
       exact y_move (kp (H 8 rfl) E q62)
     · intro A B E G H d0 d1 d2
       refine run_guard G rfl rfl (by decide) (ed d2 rfl rfl rfl) (fun hg => ?_)
       have hp := of_decide_eq_true hg
       exact y_add ((ed d0 rfl rfl rfl).1 hg) ((ed d1 rfl rfl rfl).1 hg) (w64 (by omega) (by omega))
     · intro A B E G H d0 d1 d2
       refine run_guard G rfl rfl (by decide) (ed d2 rfl rfl rfl) (fun hg => ?_)
       have hp := of_decide_eq_true hg
       exact y_index1 Try.underlying23 Try.inf3 ((ed d0 rfl rfl rfl).1 hg) ((ed d1 rfl rfl rfl).1 hg) (by omega) (lst_get Ty.int r 0 ((((((List.length r) : Nat) : Int) - (((List.length b) : Nat) : Int)) + ((k : Nat) : Int))).toNat (by omega))
     · intro A B E G H d0 d1
       refine run_guard G rfl rfl (by decide) (ed d1 rfl rfl rfl) (fun hg => ?_)
       have hp := of_decide_eq_true hg
       exact y_load Try.underlying3 rfl ((ed d0 rfl rfl rfl).1 hg) rfl
     · intro A B E G H d0
       refine run_guard G rfl rfl (by decide) (ed d0 rfl rfl rfl) (fun hg => ?_)
       have hp := of_decide_eq_true hg
       exact y_move (kp (H 9 rfl) E q63)
     · intro A B E G H d0 d1 d2
       refine run_guard G rfl rfl (by decide) (ed d2 rfl rfl rfl) (fun hg => ?_)
       have hp := of_decide_eq_true hg
       exact y_neq ((ed d0 rfl rfl rfl).1 hg) ((ed d1 rfl rfl rfl).1 hg)
     · intro A B E G H d0 d1; exact rP (y_pick_and (ed d0 rfl rfl rfl) (ed d1 rfl rfl rfl) rfl)
     intro a16 s12 D12; have ok14 := D12.ok; have F14 := F13.step0 D12.stp; have q64 := D12.kt q57 rfl; have q65 := D12.kt q58 rfl; have q66 := D12.kt q59 rfl; have q67 := D12.kt q60 rfl; have q68 := D12.kt q61 rfl; have q69 := D12.dn 11 rfl rfl; clear D12; refine tn ?_
     refine cond_t q69 (fun c4 => ?_) (fun c4 => ?_)
     ·
      obtain ⟨d3, d4⟩ := Bool.and_eq_true_iff.mp c4
      replace d3 := of_decide_eq_true d3
      replace d4 := of_decide_eq_true d4
      simp only [Bool.and_eq_true, decide_eq_true_eq] at c4; rw [hix] at c4
      refine wp_seq ?_
      refine rg a16 s12 [(Ty.bool false)] ok14 ⟨?_, trivial⟩ ?_
      · intro A B E G H; exact rP (y_assign rfl)
      intro a17 s13 D13; have ok15 := D13.ok; have F15 := F14.step0 D13.stp; have q70 := D13.dn 0 rfl rfl; clear D13; refine tn ?_; refine wp_ret ?_
      refine br ?_
      refine tr ?_
      refine tr ?_
      refine br ?_
      refine tr ?_
      exact retL1 rfl ok15 F15 (cvb (by (exact (like_no2 (i := k) (by omega) (by omega) (by omega)).symm)) q70)
     ·
      simp only [Bool.and_eq_false_iff, decide_eq_false_iff_not] at c4
      refine wp_skip ?_
      refine bn ?_; refine tn ?_
      refine rg a16 s12 [(Ty.nat (k + 1)), (Ty.nat (k + 1))] ok14 ⟨?_, ?_, trivial⟩ ?_
      · intro A B E G H; exact rP ((y_add (kp (H 38 rfl) E q64) rfl (w64 (by omega) (by omega))).mono (fun τ _ h => cvi (σ := τ) (by first | omega | exact (Int.natCast_mul _ _).symm) h))
      · intro A B E G H d0; exact rP (y_move (ed d0 rfl rfl rfl))
      intro a18 s14 D14; have ok16 := D14.ok; have F16 := F14.step0 D14.stp; have q71 := D14.kt q65 rfl; have q72 := D14.kt q66 rfl; have q73 := D14.kt q67 rfl; have q74 := D14.kt q68 rfl; have q75 := D14.dn 1 rfl rfl; clear D14
      exact tn ⟨b.length - ((k+1)), by omega, s14, (k+1), rfl, F16, ok16, (cvi (by (first | rfl | omega | (simp_all; done) | (simp_all; omega))) q75), q71, q72, q73, q74, by omega, all_next hq2 (by rw [hix] at c4; omega), rfl⟩
    ·
     have hke : k = b.length := (by omega)
     refine wp_exit ?_; refine tx ?_; refine tx ?_; refine bx ?_; refine tn ?_; refine wp_seq ?_
     refine rg a14 s10 [(Ty.bool true)] ok12 ⟨?_, trivial⟩ ?_
     · intro A B E G H; exact rP (y_assign rfl)
     intro a19 s15 D15; have ok17 := D15.ok; have F17 := F12.step0 D15.stp; have q76 := D15.dn 0 rfl rfl; clear D15; refine tn ?_; refine wp_ret ?_
     exact retL1 rfl ok17 F17 (cvb (by (exact (like_yes (fun j hj => hq j (by omega)) (fun j hj => hq2 j (by omega))).symm)) q76)


end Go.Proofs.Ytbilebfnanlgfaa
