/- The functions that the law MusicSays reaches, each by its contract. Part 4. -/
import Derived.Test.YtlhnpkaohfoicaaMusicSaysW3
namespace Go.Proofs.Ytlhnpkaohfoicaa
open Go.KL
theorem Try.inf152 : Info Try.prog 152 (.agg (Array.replicate 2 (.slice none 0 0))) 2 48 := by unfold Info; kernel_rfl
set_option maxHeartbeats 4000000 in
set_option maxRecDepth 100000 in
theorem muall_fn (n : Int) (s : ByteArray) (σ : GW)  (v0 v1 : Value) (hv0 : Ty.has (Ty.int n) σ v0) (hv1 : Ty.has (Ty.val (Value.string s)) σ v1)  (hn64 : -9223372036854775808 ≤ n ∧ n ≤ 9223372036854775807) (hs : s.size ≤ 17592186044416) :
    FnC Try.prog 33 #[v0, v1] σ (Ty.tup2 (Ty.nat (if patMay n (runsL s) = 0 then fct ((n).toNat - (fixL (List.map bellQ (frR (runsL s))) + fixL (List.map bellQ (bkR (runsL s))))) else 0)) (Ty.int (patMay n (runsL s)))) := by
 refine fn_intro0 Try.func33 rfl Try.ntmps33 (Nat.le_of_ble_eq_true rfl) (fun s0 a0 hle F0 ok0 hargs => ?_)
 have p0 : At (Ty.int n) s0 a0 (.tmp 0) := by have e := hargs 0 _ rfl; show Ty.has _ _ _; rw [e]; exact Ty.up _ hle hv0
 have p1 : At (Ty.val (Value.string s)) s0 a0 (.tmp 1) := by have e := hargs 1 _ rfl; show Ty.has _ _ _; rw [e]; exact Ty.up _ hle hv1
 clear hargs
 refine wp_seq ?_
 refine reg (a := a0) (σ := s0) rfl (fun i_ => List.getD [(Ty.pr (Ty.int (0 : Int))), (Ty.pr (Ty.int (0 : Int)))] i_ Pr.any) ok0 rfl ⟨?_, ?_, trivial⟩ ?_
 · intro ax tx hs okx sm
   exact run_plain rfl (y_assign rfl)
 · intro ax tx hs okx sm d0
   have e0 : At (Ty.int (0 : Int)) tx ax (.tmp 4) := d0 rfl
   exact run_plain rfl (y_assign rfl)
 intro a1 s1 D1
 have ok1 := D1.ok
 have F1 := F0.step0 D1.stp
 have q1 : At (Ty.int n) s1 a1 (.tmp 0) := D1.kt p0 rfl
 have q2 : At (Ty.val (Value.string s)) s1 a1 (.tmp 1) := D1.kt p1 rfl
 clear D1
 refine tn ?_
 refine wp_seq ?_
 refine reg2 (a := a1) (σ := s1) rfl 2 (fun i_ => List.getD [(Ty.pr (Ty.int n)), (Ty.pr (Ty.val (Value.string s)))] i_ Pr.any) ok1 rfl (by decide) rfl ⟨?_, ?_, trivial⟩ ?_
 · intro ax tx hs okx sm
   exact run_plain rfl (y_move (kp (sm 0 rfl) hs q1))
 · intro ax tx hs okx sm
   exact run_plain rfl (y_move (kp (sm 1 rfl) hs q2))
 intro a2 s2 D2
 have ok2 := D2.ok
 have F2 := F1.step0 D2.stp
 have q3 : At (Ty.int n) s2 a2 (.tmp 0) := D2.kt q1 rfl
 have q4 : At (Ty.int n) s2 a2 (.tmp 14) := D2.done 0 (by decide)
 have q5 : At (Ty.val (Value.string s)) s2 a2 (.tmp 15) := D2.done 1 (by decide)
 clear D2
 refine tailL (L := []) (R := (fun v τ' => ∃ τ, (fun v τ => ∃ (fr : List Int), ∃ (bk : List Int), ∃ (st : Bool), (Ty.has (Ty.tup2 (Ty.agg [(Ty.lst Ty.int fr), (Ty.lst Ty.int bk), (Ty.bool st)]) (Ty.int (patMay n (runsL s)))) τ v) ∧ (patMay n (runsL s) = 0 → fr = List.map bellQ (frR (runsL s)) ∧ bk = List.map bellQ (bkR (runsL s)))) v τ ∧ Back [] τ τ')) rfl rfl (by decide) ok2 (y_callL (L := []) [] [] #[a2.eval (.tmp 14), a2.eval (.tmp 15)] rfl (by decide) Try.func88 rfl rfl (by simp only [List.map_toArray, List.map_cons, List.map_nil]) (mread_fn (n) (s) _ (GW.low_lend _ (by decide)) _ _ (Ty.up _ (GW.le_lend _ _) q4) (Ty.up _ (GW.le_lend _ _) q5)  (by omega) (by omega))) (fun a3 s3 hs1 ok3 r1 sm1 => ?_)
 have F3 := F2.stepL hs1 (by decide)
 have q6 : At (Ty.int n) s3 a3 (.tmp 0) := kpL hs1 (by decide) (sm1 0 (by decide)) q3
 obtain ⟨t1, ⟨g1, g2, g3, hT1, hp1⟩, B1⟩ := r1
 have q7 : At (Ty.tup2 (Ty.agg [(Ty.lst Ty.int (g1)), (Ty.lst Ty.int (g2)), (Ty.bool (g3))]) (Ty.int (patMay n (runsL s)))) s3 a3 (.tmp 16) := Ty.up _ B1.le hT1
 refine tailL (L := []) (R := (fun v τ => Pr.has (Ty.pr (Ty.tup2 (Ty.agg [(Ty.lst Ty.int (g1)), (Ty.lst Ty.int (g2)), (Ty.bool (g3))]) (Ty.int (patMay n (runsL s))))) τ v)) rfl rfl (by decide) ok3 (Yld.toL (y_move q7)) (fun a4 s4 hs2 ok4 r2 sm2 => ?_)
 have F4 := F3.stepL hs2 (by decide)
 have q8 : At (Ty.int n) s4 a4 (.tmp 0) := kpL hs2 (by decide) (sm2 0 (by decide)) q6
 have q9 : At (Ty.tup2 (Ty.agg [(Ty.lst Ty.int (g1)), (Ty.lst Ty.int (g2)), (Ty.bool (g3))]) (Ty.int (patMay n (runsL s)))) s4 a4 (.tmp 13) := r2
 clear r2
 refine tailL (L := []) (R := (fun v τ => Pr.has (Ty.pr (Ty.agg [(Ty.lst Ty.int (g1)), (Ty.lst Ty.int (g2)), (Ty.bool (g3))])) τ v)) rfl rfl (by decide) ok4 (Yld.toL (y_ext2_0 q9)) (fun a5 s5 hs3 ok5 r3 sm3 => ?_)
 have F5 := F4.stepL hs3 (by decide)
 have q10 : At (Ty.int n) s5 a5 (.tmp 0) := kpL hs3 (by decide) (sm3 0 (by decide)) q8
 have q11 : At (Ty.tup2 (Ty.agg [(Ty.lst Ty.int (g1)), (Ty.lst Ty.int (g2)), (Ty.bool (g3))]) (Ty.int (patMay n (runsL s)))) s5 a5 (.tmp 13) := kpL hs3 (by decide) (sm3 13 (by decide)) q9
 have q12 : At (Ty.agg [(Ty.lst Ty.int (g1)), (Ty.lst Ty.int (g2)), (Ty.bool (g3))]) s5 a5 (.tmp 17) := r3
 clear r3
 refine tailL (L := []) (R := (fun v τ => Pr.has (Ty.pr (Ty.int (patMay n (runsL s)))) τ v)) rfl rfl (by decide) ok5 (Yld.toL (y_ext2_1 q11)) (fun a6 s6 hs4 ok6 r4 sm4 => ?_)
 have F6 := F5.stepL hs4 (by decide)
 have q13 : At (Ty.int n) s6 a6 (.tmp 0) := kpL hs4 (by decide) (sm4 0 (by decide)) q10
 have q14 : At (Ty.agg [(Ty.lst Ty.int (g1)), (Ty.lst Ty.int (g2)), (Ty.bool (g3))]) s6 a6 (.tmp 17) := kpL hs4 (by decide) (sm4 17 (by decide)) q12
 have q15 : At (Ty.int (patMay n (runsL s))) s6 a6 (.tmp 18) := r4
 clear r4
 refine tailL (L := []) (R := (fun v τ => Pr.has (Pr.ownp 4 [(Ty.val (Value.slice none 0 0)), (Ty.val (Value.slice none 0 0)), (Ty.bool false)]) τ v)) rfl rfl (by decide) ok6 (Yld.toL (y_alloc Try.inf148 rfl (alloc_vals (vs := [.slice none 0 0, .slice none 0 0, .bool false]) rfl))) (fun a7 s7 hs5 ok7 r5 sm5 => ?_)
 have F7 := F6.stepL hs5 (by decide)
 have q16 : At (Ty.int n) s7 a7 (.tmp 0) := kpL hs5 (by decide) (sm5 0 (by decide)) q13
 have q17 : At (Ty.agg [(Ty.lst Ty.int (g1)), (Ty.lst Ty.int (g2)), (Ty.bool (g3))]) s7 a7 (.tmp 17) := kpL hs5 (by decide) (sm5 17 (by decide)) q14
 have q18 : At (Ty.int (patMay n (runsL s))) s7 a7 (.tmp 18) := kpL hs5 (by decide) (sm5 18 (by decide)) q15
 obtain ⟨x1, hx1⟩ : ∃ x, a7.eval (.tmp 6) = x := ⟨_, rfl⟩
 have q19 : At (Ty.val x1) s7 a7 (.tmp 6) := hx1
 have o1 : OwnP s7 4 x1 [(Ty.val (Value.slice none 0 0)), (Ty.val (Value.slice none 0 0)), (Ty.bool false)] := al2 (R := (Pr.ownp 4 [(Ty.val (Value.slice none 0 0)), (Ty.val (Value.slice none 0 0)), (Ty.bool false)])) hx1 r5
 clear r5
 refine tailL0 (L := [4]) (R := (fun _ τ => OwnP τ 4 x1 [(Ty.lst Ty.int (g1)), (Ty.lst Ty.int (g2)), (Ty.bool (g3))])) rfl rfl (YldM.toL (m_storeagg Try.inf148 (by decide) o1 q19 rfl q17 (by intro U hU; simp only [List.mem_cons, List.not_mem_nil, or_false] at hU; rcases hU with rfl | rfl | rfl <;> first | exact one_val rfl | exact one_sl | exact one_ref))) (fun v1 s8 hs6 r6 => ?_)
 have F8 := F7.stepL hs6 (by decide)
 have q20 : At (Ty.int n) s8 a7 (.tmp 0) := kpL hs6 (by decide) rfl q16
 have q21 : At (Ty.int (patMay n (runsL s))) s8 a7 (.tmp 18) := kpL hs6 (by decide) rfl q18
 have q22 : At (Ty.val x1) s8 a7 (.tmp 6) := kpL hs6 (by decide) rfl q19
 have o2 : OwnP s8 4 x1 [(Ty.lst Ty.int (g1)), (Ty.lst Ty.int (g2)), (Ty.bool (g3))] := r6
 clear r6
 refine tailL (L := []) (R := (fun v τ => Pr.has (Ty.pr (Ty.int (patMay n (runsL s)))) τ v)) rfl rfl (by decide) ok7 (Yld.toL (y_assign q21)) (fun a8 s9 hs7 ok8 r7 sm6 => ?_)
 have F9 := F8.stepL hs7 (by decide)
 have q24 : At (Ty.int n) s9 a8 (.tmp 0) := kpL hs7 (by decide) (sm6 0 (by decide)) q20
 have q25 : At (Ty.val x1) s9 a8 (.tmp 6) := kpL hs7 (by decide) (sm6 6 (by decide)) q22
 have o3 := OwnP.keepL o2 hs7 (by decide) (by decide)
 have q26 : At (Ty.int (patMay n (runsL s))) s9 a8 (.tmp 7) := r7
 clear r7
 refine wpList_nil ?_
 refine tn ?_
 refine wp_seq ?_
 refine wp_seq ?_
 refine reg (a := a8) (σ := s9) rfl (fun i_ => List.getD [(Ty.pr (Ty.int (patMay n (runsL s)))), (Ty.pr (Ty.bool (decide ((patMay n (runsL s)) ≠ (0 : Int)))))] i_ Pr.any) ok8 rfl ⟨?_, ?_, trivial⟩ ?_
 · intro ax tx hs okx sm
   exact run_plain rfl (y_move (kp (sm 7 rfl) hs q26))
 · intro ax tx hs okx sm d0
   have e0 : At (Ty.int (patMay n (runsL s))) tx ax (.tmp 19) := d0 rfl
   exact run_plain rfl (y_neq e0 rfl)
 intro a9 s10 D3
 have ok9 := D3.ok
 have F10 := F9.step0 D3.stp
 have q27 : At (Ty.int n) s10 a9 (.tmp 0) := D3.kt q24 rfl
 have q28 : At (Ty.val x1) s10 a9 (.tmp 6) := D3.kt q25 rfl
 have q29 : At (Ty.int (patMay n (runsL s))) s10 a9 (.tmp 7) := D3.kt q26 rfl
 have o4 := OwnP.k0 o3 D3.stp
 have q30 : At (Ty.bool (decide ((patMay n (runsL s)) ≠ (0 : Int)))) s10 a9 (.tmp 20) := D3.done 1
 clear D3
 refine tn ?_
 refine cond_p (p := ((patMay n (runsL s)) ≠ (0 : Int))) q30 (fun c1 => ?_) (fun c1 => ?_)
 ·
  refine wp_seq ?_
  refine reg (a := a9) (σ := s10) rfl (fun i_ => List.getD [(Ty.pr (Ty.int (patMay n (runsL s)))), (Ty.pr (Ty.int (0 : Int))), (Ty.pr (Ty.int (patMay n (runsL s))))] i_ Pr.any) ok9 rfl ⟨?_, ?_, ?_, trivial⟩ ?_
  · intro ax tx hs okx sm d0
    exact run_plain rfl (y_move (kp (sm 7 rfl) hs q29))
  · intro ax tx hs okx sm d0
    exact run_plain rfl (y_assign rfl)
  · intro ax tx hs okx sm d0 d1 d2 d3
    have e0 : At (Ty.int (patMay n (runsL s))) tx ax (.tmp 21) := d0 rfl
    have e1 : At (Ty.int (0 : Int)) tx ax (.tmp 4) := d1 rfl
    exact run_plain rfl (y_assign e0)
  intro a10 s11 D4
  have ok10 := D4.ok
  have F11 := F10.step0 D4.stp
  have o5 := OwnP.k0 o4 D4.stp
  have q31 : At (Ty.int (0 : Int)) s11 a10 (.tmp 4) := D4.done 1
  have q32 : At (Ty.int (patMay n (runsL s))) s11 a10 (.tmp 5) := D4.done 2
  clear D4
  refine tn ?_
  refine wp_ret ?_
  refine tr ?_
  exact retL2 rfl ok10 F11 (hasT2 (cvi (by (rw [if_neg c1]; rfl)) q31) q32)
 ·
  have h0 := Classical.not_not.1 c1; obtain ⟨hg1, hg2⟩ := hp1 h0; have hpf := pat_facts h0; have hf1 : fixL g1 ≤ (frR (runsL s)).length := (by rw [hg1]; exact Nat.le_trans (fixL_le _) (by rw [List.length_map]; exact Nat.le_refl _)); have hf3 : fixL g2 ≤ (bkR (runsL s)).length := (by rw [hg2]; exact Nat.le_trans (fixL_le _) (by rw [List.length_map]; exact Nat.le_refl _))
  refine wp_skip ?_
  refine tn ?_
  refine wp_seq ?_
  refine reg (a := a9) (σ := s10) rfl (fun i_ => List.getD [(Ty.pr (Ty.int n)), (Ty.pr (Ty.int n))] i_ Pr.any) ok9 rfl ⟨?_, ?_, trivial⟩ ?_
  · intro ax tx hs okx sm
    exact run_plain rfl (y_move (kp (sm 0 rfl) hs q27))
  · intro ax tx hs okx sm d0 d1
    have e0 : At (Ty.int n) tx ax (.tmp 22) := d0 rfl
    exact run_plain rfl (y_assign e0)
  intro a11 s12 D5
  have ok11 := D5.ok
  have F12 := F10.step0 D5.stp
  have q33 : At (Ty.val x1) s12 a11 (.tmp 6) := D5.kt q28 rfl
  have o6 := OwnP.k0 o4 D5.stp
  have q34 : At (Ty.int n) s12 a11 (.tmp 8) := D5.done 1
  clear D5
  refine tn ?_
  refine wp_seq ?_
  refine wp_seq ?_
  refine reg (a := a11) (σ := s12) rfl (fun i_ => List.getD [(Ty.pr (Ty.val (ptrAt x1 0))), (Ty.pr (Ty.lst Ty.int (g1))), (Ty.pr (Ty.val (ptrAt x1 1))), (Ty.pr (Ty.lst Ty.int (g2))), (Ty.pr (Ty.agg [(Ty.lst Ty.int (g1)), (Ty.lst Ty.int (g2))])), (Ty.pr (Ty.int (0 : Int)))] i_ Pr.any) ok11 rfl ⟨?_, ?_, ?_, ?_, ?_, ?_, trivial⟩ ?_
  · intro ax tx hs okx sm
    exact run_plain rfl (ownp_field Try.fld148_0 Try.inf34 (by decide) (OwnP.k0 o6 hs) (kp (sm 6 rfl) hs q33))
  · intro ax tx hs okx sm d0
    have e0 : At (Ty.val (ptrAt x1 0)) tx ax (.tmp 23) := d0 rfl
    exact run_plain rfl (ownp_load Try.underlying34 rfl (OwnP.k0 o6 hs) e0 rfl)
  · intro ax tx hs okx sm
    exact run_plain rfl (ownp_field Try.fld148_1 Try.inf34 (by decide) (OwnP.k0 o6 hs) (kp (sm 6 rfl) hs q33))
  · intro ax tx hs okx sm d0
    have e2 : At (Ty.val (ptrAt x1 1)) tx ax (.tmp 25) := d0 rfl
    exact run_plain rfl (ownp_load Try.underlying34 rfl (OwnP.k0 o6 hs) e2 rfl)
  · intro ax tx hs okx sm d0 d1
    have e1 : At (Ty.lst Ty.int (g1)) tx ax (.tmp 24) := d0 rfl
    have e3 : At (Ty.lst Ty.int (g2)) tx ax (.tmp 26) := d1 rfl
    exact run_plain rfl (y_arr2 Try.underlying152 Try.inf34 Try.inf152 (by simp [Value.cells]) one_sl one_sl e1 e3)
  · intro ax tx hs okx sm
    exact run_plain rfl (y_move rfl)
  intro a12 s13 D6
  have ok12 := D6.ok
  have F13 := F12.step0 D6.stp
  have q35 : At (Ty.int n) s13 a12 (.tmp 8) := D6.kt q34 rfl
  have o7 := OwnP.k0 o6 D6.stp
  have q36 : At (Ty.agg [(Ty.lst Ty.int (g1)), (Ty.lst Ty.int (g2))]) s13 a12 (.tmp 27) := D6.done 4
  have q37 : At (Ty.int (0 : Int)) s13 a12 (.tmp 28) := D6.done 5
  clear D6
  refine tn ?_
  refine wp_block ?_
  refine loop (fun n1 a13 w1 => ∃ (t2 : GW) (k : Nat), t2.w = w1 ∧ FromL [] s0 t2 ∧ Ok 45 a13 ∧ At (Ty.nat k) t2 a13 (.tmp 28) ∧ At (Ty.int (n - ((fix2 g1 g2 k : Nat) : Int))) t2 a13 (.tmp 8) ∧ At (Ty.agg [(Ty.lst Ty.int (g1)), (Ty.lst Ty.int (g2))]) t2 a13 (.tmp 27) ∧ (k ≤ 2) ∧ n1 = 2 - k) (2 - (0)) ?_ ?_
  ·
   exact ⟨s13, 0, rfl, F13, ok12, (cvi (by (first | rfl | omega | (simp_all; done) | (simp_all; omega))) q37), (cvi (by (show n = n - ((0 : Nat) : Int); omega)) q35), q36, by omega, rfl⟩
  ·
   rintro n2 a14 w2 ⟨t3, k, rfl, F14, ok13, q38, q39, q40, hk, rfl⟩
   have hf2 := fix2_le (f := g1) (b := g2) (k := k)
   refine wp_seq ?_
   refine reg (a := a14) (σ := t3) rfl (fun i_ => List.getD [(Ty.pr (Ty.bool (decide (((k : Nat) : Int) < (2 : Int)))))] i_ Pr.any) ok13 rfl ⟨?_, trivial⟩ ?_
   · intro ax tx hs okx sm
     exact run_plain rfl (y_lss (kp (sm 28 rfl) hs q38) rfl)
   intro a15 s14 D7
   have ok14 := D7.ok
   have F15 := F14.step0 D7.stp
   have q41 : At (Ty.nat k) s14 a15 (.tmp 28) := D7.kt q38 rfl
   have q42 : At (Ty.int (n - ((fix2 g1 g2 k : Nat) : Int))) s14 a15 (.tmp 8) := D7.kt q39 rfl
   have q43 : At (Ty.agg [(Ty.lst Ty.int (g1)), (Ty.lst Ty.int (g2))]) s14 a15 (.tmp 27) := D7.kt q40 rfl
   have q44 : At (Ty.bool (decide (((k : Nat) : Int) < (2 : Int)))) s14 a15 (.tmp 29) := D7.done 0
   clear D7
   refine tn ?_
   refine wp_seq ?_
   refine cond_p (p := (((k : Nat) : Int) < (2 : Int))) q44 (fun c2 => ?_) (fun c2 => ?_)
   ·
    have e1_ : g1.length = (frR (runsL s)).length := (by rw [hg1, List.length_map]); have e2_ : g2.length = (bkR (runsL s)).length := (by rw [hg2, List.length_map]); have hlk : (List.getD [(g1), (g2)] k []).length ≤ 12 := (by rcases (show k = 0 ∨ k = 1 by omega) with h_ | h_ <;> rw [h_]; (show g1.length ≤ 12; omega); (show g2.length ≤ 12; omega))
    refine wp_skip ?_
    refine tn ?_
    refine wp_seq ?_
    refine wp_block ?_
    refine wp_seq ?_
    refine reg (a := a15) (σ := s14) rfl (fun i_ => List.getD [(Ty.pr (Ty.lst Ty.int ([(g1), (g2)].getD k []))), (Ty.pr (Ty.lst Ty.int ([(g1), (g2)].getD k [])))] i_ Pr.any) ok14 rfl ⟨?_, ?_, trivial⟩ ?_
    · intro ax tx hs okx sm
      exact run_plain rfl (y_arri (f := (Ty.lst Ty.int)) (xs := [(g1), (g2)]) (i := k) [] Try.underlying152 Try.underlying34 rfl Try.inf34 (kp (sm 27 rfl) hs q43) (kp (sm 28 rfl) hs q41) (by show k < 2; omega) rfl)
    · intro ax tx hs okx sm d0 d1
      have e0 : At (Ty.lst Ty.int ([(g1), (g2)].getD k [])) tx ax (.tmp 30) := d0 rfl
      exact run_plain rfl (y_assign e0)
    intro a16 s15 D8
    have ok15 := D8.ok
    have F16 := F15.step0 D8.stp
    have q45 : At (Ty.nat k) s15 a16 (.tmp 28) := D8.kt q41 rfl
    have q46 : At (Ty.int (n - ((fix2 g1 g2 k : Nat) : Int))) s15 a16 (.tmp 8) := D8.kt q42 rfl
    have q47 : At (Ty.agg [(Ty.lst Ty.int (g1)), (Ty.lst Ty.int (g2))]) s15 a16 (.tmp 27) := D8.kt q43 rfl
    have q48 : At (Ty.lst Ty.int ([(g1), (g2)].getD k [])) s15 a16 (.tmp 10) := D8.done 1
    clear D8
    refine tn ?_
    refine wp_seq ?_
    refine reg (a := a16) (σ := s15) rfl (fun i_ => List.getD [(Ty.pr (Ty.lst Ty.int ([(g1), (g2)].getD k []))), (Ty.pr (Ty.nat (List.length ([(g1), (g2)].getD k [])))), (Ty.pr (Ty.int (0 : Int)))] i_ Pr.any) ok15 rfl ⟨?_, ?_, ?_, trivial⟩ ?_
    · intro ax tx hs okx sm
      exact run_plain rfl (y_move (kp (sm 10 rfl) hs q48))
    · intro ax tx hs okx sm d0
      have e0 : At (Ty.lst Ty.int ([(g1), (g2)].getD k [])) tx ax (.tmp 31) := d0 rfl
      exact run_plain rfl (y_len Try.underlying34 e0)
    · intro ax tx hs okx sm
      exact run_plain rfl (y_move rfl)
    intro a17 s16 D9
    have ok16 := D9.ok
    have F17 := F16.step0 D9.stp
    have q49 : At (Ty.nat k) s16 a17 (.tmp 28) := D9.kt q45 rfl
    have q50 : At (Ty.int (n - ((fix2 g1 g2 k : Nat) : Int))) s16 a17 (.tmp 8) := D9.kt q46 rfl
    have q51 : At (Ty.agg [(Ty.lst Ty.int (g1)), (Ty.lst Ty.int (g2))]) s16 a17 (.tmp 27) := D9.kt q47 rfl
    have q52 : At (Ty.lst Ty.int ([(g1), (g2)].getD k [])) s16 a17 (.tmp 31) := D9.done 0
    have q53 : At (Ty.nat (List.length ([(g1), (g2)].getD k []))) s16 a17 (.tmp 32) := D9.done 1
    have q54 : At (Ty.int (0 : Int)) s16 a17 (.tmp 33) := D9.done 2
    clear D9
    refine tn ?_
    refine wp_block ?_
    refine loop (fun n3 a18 w3 => ∃ (t4 : GW) (i : Nat), t4.w = w3 ∧ FromL [] s0 t4 ∧ Ok 45 a18 ∧ At (Ty.nat i) t4 a18 (.tmp 33) ∧ At (Ty.int ((n - ((fix2 g1 g2 k : Nat) : Int)) - ((fixL ((List.getD [(g1), (g2)] k []).take i) : Nat) : Int))) t4 a18 (.tmp 8) ∧ At (Ty.nat k) t4 a18 (.tmp 28) ∧ At (Ty.agg [(Ty.lst Ty.int (g1)), (Ty.lst Ty.int (g2))]) t4 a18 (.tmp 27) ∧ At (Ty.lst Ty.int ([(g1), (g2)].getD k [])) t4 a18 (.tmp 31) ∧ At (Ty.nat (List.length ([(g1), (g2)].getD k []))) t4 a18 (.tmp 32) ∧ (i ≤ (List.getD [(g1), (g2)] k []).length) ∧ n3 = (List.getD [(g1), (g2)] k []).length - i) ((List.getD [(g1), (g2)] k []).length - (0)) ?_ ?_
    ·
     exact ⟨s16, 0, rfl, F17, ok16, (cvi (by (first | rfl | omega | (simp_all; done) | (simp_all; omega))) q54), (cvi (by (show _ = _ - ((0 : Nat) : Int); omega)) q50), q49, q51, q52, q53, by omega, rfl⟩
    ·
     rintro n4 a19 w4 ⟨t5, i, rfl, F18, ok17, q55, q56, q57, q58, q59, q60, hi, rfl⟩
     have hfl := fixL_le ((List.getD [(g1), (g2)] k []).take i)
     have htl := List.length_take_le i (List.getD [(g1), (g2)] k [])
     refine wp_seq ?_
     refine reg (a := a19) (σ := t5) rfl (fun i_ => List.getD [(Ty.pr (Ty.bool (decide (((i : Nat) : Int) < (((List.length ([(g1), (g2)].getD k [])) : Nat) : Int)))))] i_ Pr.any) ok17 rfl ⟨?_, trivial⟩ ?_
     · intro ax tx hs okx sm
       exact run_plain rfl (y_lss (kp (sm 33 rfl) hs q55) (kp (sm 32 rfl) hs q60))
     intro a20 s17 D10
     have ok18 := D10.ok
     have F19 := F18.step0 D10.stp
     have q61 : At (Ty.nat i) s17 a20 (.tmp 33) := D10.kt q55 rfl
     have q62 : At (Ty.int ((n - ((fix2 g1 g2 k : Nat) : Int)) - ((fixL ((List.getD [(g1), (g2)] k []).take i) : Nat) : Int))) s17 a20 (.tmp 8) := D10.kt q56 rfl
     have q63 : At (Ty.nat k) s17 a20 (.tmp 28) := D10.kt q57 rfl
     have q64 : At (Ty.agg [(Ty.lst Ty.int (g1)), (Ty.lst Ty.int (g2))]) s17 a20 (.tmp 27) := D10.kt q58 rfl
     have q65 : At (Ty.lst Ty.int ([(g1), (g2)].getD k [])) s17 a20 (.tmp 31) := D10.kt q59 rfl
     have q66 : At (Ty.nat (List.length ([(g1), (g2)].getD k []))) s17 a20 (.tmp 32) := D10.kt q60 rfl
     have q67 : At (Ty.bool (decide (((i : Nat) : Int) < (((List.length ([(g1), (g2)].getD k [])) : Nat) : Int)))) s17 a20 (.tmp 34) := D10.done 0
     clear D10
     refine tn ?_
     refine wp_seq ?_
     refine cond_p (p := (((i : Nat) : Int) < (((List.length ([(g1), (g2)].getD k [])) : Nat) : Int))) q67 (fun c3 => ?_) (fun c3 => ?_)
     ·
      refine wp_skip ?_
      refine tn ?_
      refine wp_seq ?_
      refine wp_block ?_
      refine wp_seq ?_
      refine reg (a := a20) (σ := s17) rfl (fun i_ => List.getD [(Ty.pr (Ty.ref [(Ty.int (([(g1), (g2)].getD k []).getD i 0))])), (Ty.pr (Ty.int (([(g1), (g2)].getD k []).getD i 0))), (Ty.pr (Ty.int (([(g1), (g2)].getD k []).getD i 0)))] i_ Pr.any) ok18 rfl ⟨?_, ?_, ?_, trivial⟩ ?_
      · intro ax tx hs okx sm
        exact run_plain rfl (y_index1 Try.underlying34 Try.inf3 (kp (sm 31 rfl) hs q65) (kp (sm 33 rfl) hs q61) (by omega) (lst_get Ty.int ([(g1), (g2)].getD k []) 0 i (by omega)))
      · intro ax tx hs okx sm d0
        have e0 : At (Ty.ref [(Ty.int (([(g1), (g2)].getD k []).getD i 0))]) tx ax (.tmp 35) := d0 rfl
        exact run_plain rfl (y_load Try.underlying3 rfl e0 rfl)
      · intro ax tx hs okx sm d0 d1 d2
        have e1 : At (Ty.int (([(g1), (g2)].getD k []).getD i 0)) tx ax (.tmp 36) := d0 rfl
        have e0 : At (Ty.ref [(Ty.int (([(g1), (g2)].getD k []).getD i 0))]) tx ax (.tmp 35) := d1 rfl
        exact run_plain rfl (y_assign e1)
      intro a21 s18 D11
      have ok19 := D11.ok
      have F20 := F19.step0 D11.stp
      have q68 : At (Ty.nat i) s18 a21 (.tmp 33) := D11.kt q61 rfl
      have q69 : At (Ty.int ((n - ((fix2 g1 g2 k : Nat) : Int)) - ((fixL ((List.getD [(g1), (g2)] k []).take i) : Nat) : Int))) s18 a21 (.tmp 8) := D11.kt q62 rfl
      have q70 : At (Ty.nat k) s18 a21 (.tmp 28) := D11.kt q63 rfl
      have q71 : At (Ty.agg [(Ty.lst Ty.int (g1)), (Ty.lst Ty.int (g2))]) s18 a21 (.tmp 27) := D11.kt q64 rfl
      have q72 : At (Ty.lst Ty.int ([(g1), (g2)].getD k [])) s18 a21 (.tmp 31) := D11.kt q65 rfl
      have q73 : At (Ty.nat (List.length ([(g1), (g2)].getD k []))) s18 a21 (.tmp 32) := D11.kt q66 rfl
      have q74 : At (Ty.int (([(g1), (g2)].getD k []).getD i 0)) s18 a21 (.tmp 12) := D11.done 2
      clear D11
      refine tn ?_
      refine wp_seq ?_
      refine reg (a := a21) (σ := s18) rfl (fun i_ => List.getD [(Ty.pr (Ty.int (([(g1), (g2)].getD k []).getD i 0))), (Ty.pr (Ty.bool (decide ((0 : Int) ≤ (([(g1), (g2)].getD k []).getD i 0)))))] i_ Pr.any) ok19 rfl ⟨?_, ?_, trivial⟩ ?_
      · intro ax tx hs okx sm
        exact run_plain rfl (y_move (kp (sm 12 rfl) hs q74))
      · intro ax tx hs okx sm d0
        have e0 : At (Ty.int (([(g1), (g2)].getD k []).getD i 0)) tx ax (.tmp 37) := d0 rfl
        exact run_plain rfl (y_geq e0 rfl)
      intro a22 s19 D12
      have ok20 := D12.ok
      have F21 := F20.step0 D12.stp
      have q75 : At (Ty.nat i) s19 a22 (.tmp 33) := D12.kt q68 rfl
      have q76 : At (Ty.int ((n - ((fix2 g1 g2 k : Nat) : Int)) - ((fixL ((List.getD [(g1), (g2)] k []).take i) : Nat) : Int))) s19 a22 (.tmp 8) := D12.kt q69 rfl
      have q77 : At (Ty.nat k) s19 a22 (.tmp 28) := D12.kt q70 rfl
      have q78 : At (Ty.agg [(Ty.lst Ty.int (g1)), (Ty.lst Ty.int (g2))]) s19 a22 (.tmp 27) := D12.kt q71 rfl
      have q79 : At (Ty.lst Ty.int ([(g1), (g2)].getD k [])) s19 a22 (.tmp 31) := D12.kt q72 rfl
      have q80 : At (Ty.nat (List.length ([(g1), (g2)].getD k []))) s19 a22 (.tmp 32) := D12.kt q73 rfl
      have q81 : At (Ty.bool (decide ((0 : Int) ≤ (([(g1), (g2)].getD k []).getD i 0)))) s19 a22 (.tmp 38) := D12.done 1
      clear D12
      refine tn ?_
      refine cond_p (p := ((0 : Int) ≤ (([(g1), (g2)].getD k []).getD i 0))) q81 (fun c4 => ?_) (fun c4 => ?_)
      ·
       refine reg (a := a22) (σ := s19) rfl (fun i_ => List.getD [(Ty.pr (Ty.int ((n - ((fix2 g1 g2 k : Nat) : Int)) - ((fixL ((List.getD [(g1), (g2)] k []).take i) : Nat) : Int)))), (Ty.pr (Ty.int (((n - ((fix2 g1 g2 k : Nat) : Int)) - ((fixL ((List.getD [(g1), (g2)] k []).take i) : Nat) : Int)) - (1 : Int)))), (Ty.pr (Ty.int (((n - ((fix2 g1 g2 k : Nat) : Int)) - ((fixL ((List.getD [(g1), (g2)] k []).take i) : Nat) : Int)) - (1 : Int))))] i_ Pr.any) ok20 rfl ⟨?_, ?_, ?_, trivial⟩ ?_
       · intro ax tx hs okx sm
         exact run_plain rfl (y_move (kp (sm 8 rfl) hs q76))
       · intro ax tx hs okx sm d0
         have e0 : At (Ty.int ((n - ((fix2 g1 g2 k : Nat) : Int)) - ((fixL ((List.getD [(g1), (g2)] k []).take i) : Nat) : Int))) tx ax (.tmp 39) := d0 rfl
         exact run_plain rfl (y_sub e0 rfl (w64 (by omega) (by omega)))
       · intro ax tx hs okx sm d0 d1 d2
         have e1 : At (Ty.int (((n - ((fix2 g1 g2 k : Nat) : Int)) - ((fixL ((List.getD [(g1), (g2)] k []).take i) : Nat) : Int)) - (1 : Int))) tx ax (.tmp 40) := d0 rfl
         have e0 : At (Ty.int ((n - ((fix2 g1 g2 k : Nat) : Int)) - ((fixL ((List.getD [(g1), (g2)] k []).take i) : Nat) : Int))) tx ax (.tmp 39) := d1 rfl
         exact run_plain rfl (y_assign e1)
       intro a23 s20 D13
       have ok21 := D13.ok
       have F22 := F21.step0 D13.stp
       have q82 : At (Ty.nat i) s20 a23 (.tmp 33) := D13.kt q75 rfl
       have q83 : At (Ty.nat k) s20 a23 (.tmp 28) := D13.kt q77 rfl
       have q84 : At (Ty.agg [(Ty.lst Ty.int (g1)), (Ty.lst Ty.int (g2))]) s20 a23 (.tmp 27) := D13.kt q78 rfl
       have q85 : At (Ty.lst Ty.int ([(g1), (g2)].getD k [])) s20 a23 (.tmp 31) := D13.kt q79 rfl
       have q86 : At (Ty.nat (List.length ([(g1), (g2)].getD k []))) s20 a23 (.tmp 32) := D13.kt q80 rfl
       have q87 : At (Ty.int (((n - ((fix2 g1 g2 k : Nat) : Int)) - ((fixL ((List.getD [(g1), (g2)] k []).take i) : Nat) : Int)) - (1 : Int))) s20 a23 (.tmp 8) := D13.done 2
       clear D13
       refine bn ?_
       refine tn ?_
       refine reg (a := a23) (σ := s20) rfl (fun i_ => List.getD [(Ty.pr (Ty.nat (i + 1))), (Ty.pr (Ty.nat (i + 1)))] i_ Pr.any) ok21 rfl ⟨?_, ?_, trivial⟩ ?_
       · intro ax tx hs okx sm
         exact run_plain rfl ((y_add (kp (sm 33 rfl) hs q82) rfl (w64 (by omega) (by omega))).mono (fun τ _ h => cvi (σ := τ) (by first | omega | exact (Int.natCast_mul _ _).symm) h))
       · intro ax tx hs okx sm d0
         have e0 : At (Ty.nat (i + 1)) tx ax (.tmp 41) := d0 rfl
         exact run_plain rfl (y_move e0)
       intro a24 s21 D14
       have ok22 := D14.ok
       have F23 := F22.step0 D14.stp
       have q88 : At (Ty.nat k) s21 a24 (.tmp 28) := D14.kt q83 rfl
       have q89 : At (Ty.agg [(Ty.lst Ty.int (g1)), (Ty.lst Ty.int (g2))]) s21 a24 (.tmp 27) := D14.kt q84 rfl
       have q90 : At (Ty.lst Ty.int ([(g1), (g2)].getD k [])) s21 a24 (.tmp 31) := D14.kt q85 rfl
       have q91 : At (Ty.nat (List.length ([(g1), (g2)].getD k []))) s21 a24 (.tmp 32) := D14.kt q86 rfl
       have q92 : At (Ty.int (((n - ((fix2 g1 g2 k : Nat) : Int)) - ((fixL ((List.getD [(g1), (g2)] k []).take i) : Nat) : Int)) - (1 : Int))) s21 a24 (.tmp 8) := D14.kt q87 rfl
       have q93 : At (Ty.nat (i + 1)) s21 a24 (.tmp 33) := D14.done 1
       clear D14
       exact tn ⟨(List.getD [(g1), (g2)] k []).length - ((i+1)), by omega, s21, (i+1), rfl, F23, ok22, (cvi (by (first | rfl | omega | (simp_all; done) | (simp_all; omega))) q93), (cvi (by (rw [fix_yes (by omega) c4]; omega)) q92), q88, q89, q90, q91, by omega, rfl⟩
      ·
       refine wp_skip ?_
       refine bn ?_
       refine tn ?_
       refine reg (a := a22) (σ := s19) rfl (fun i_ => List.getD [(Ty.pr (Ty.nat (i + 1))), (Ty.pr (Ty.nat (i + 1)))] i_ Pr.any) ok20 rfl ⟨?_, ?_, trivial⟩ ?_
       · intro ax tx hs okx sm
         exact run_plain rfl ((y_add (kp (sm 33 rfl) hs q75) rfl (w64 (by omega) (by omega))).mono (fun τ _ h => cvi (σ := τ) (by first | omega | exact (Int.natCast_mul _ _).symm) h))
       · intro ax tx hs okx sm d0
         have e0 : At (Ty.nat (i + 1)) tx ax (.tmp 41) := d0 rfl
         exact run_plain rfl (y_move e0)
       intro a25 s22 D15
       have ok23 := D15.ok
       have F24 := F21.step0 D15.stp
       have q94 : At (Ty.int ((n - ((fix2 g1 g2 k : Nat) : Int)) - ((fixL ((List.getD [(g1), (g2)] k []).take i) : Nat) : Int))) s22 a25 (.tmp 8) := D15.kt q76 rfl
       have q95 : At (Ty.nat k) s22 a25 (.tmp 28) := D15.kt q77 rfl
       have q96 : At (Ty.agg [(Ty.lst Ty.int (g1)), (Ty.lst Ty.int (g2))]) s22 a25 (.tmp 27) := D15.kt q78 rfl
       have q97 : At (Ty.lst Ty.int ([(g1), (g2)].getD k [])) s22 a25 (.tmp 31) := D15.kt q79 rfl
       have q98 : At (Ty.nat (List.length ([(g1), (g2)].getD k []))) s22 a25 (.tmp 32) := D15.kt q80 rfl
       have q99 : At (Ty.nat (i + 1)) s22 a25 (.tmp 33) := D15.done 1
       clear D15
       exact tn ⟨(List.getD [(g1), (g2)] k []).length - ((i+1)), by omega, s22, (i+1), rfl, F24, ok23, (cvi (by (first | rfl | omega | (simp_all; done) | (simp_all; omega))) q99), (cvi (by (rw [fix_no (by omega) c4])) q94), q95, q96, q97, q98, by omega, rfl⟩
     ·
      have hie : i = (List.getD [(g1), (g2)] k []).length := (by omega)
      refine wp_exit ?_
      refine tx ?_
      refine tx ?_
      refine bx ?_
      refine bn ?_
      refine tn ?_
      refine reg (a := a20) (σ := s17) rfl (fun i_ => List.getD [(Ty.pr (Ty.nat (k + 1))), (Ty.pr (Ty.nat (k + 1)))] i_ Pr.any) ok18 rfl ⟨?_, ?_, trivial⟩ ?_
      · intro ax tx hs okx sm
        exact run_plain rfl ((y_add (kp (sm 28 rfl) hs q63) rfl (w64 (by omega) (by omega))).mono (fun τ _ h => cvi (σ := τ) (by first | omega | exact (Int.natCast_mul _ _).symm) h))
      · intro ax tx hs okx sm d0
        have e0 : At (Ty.nat (k + 1)) tx ax (.tmp 42) := d0 rfl
        exact run_plain rfl (y_move e0)
      intro a26 s23 D16
      have ok24 := D16.ok
      have F25 := F19.step0 D16.stp
      have q100 : At (Ty.int ((n - ((fix2 g1 g2 k : Nat) : Int)) - ((fixL ((List.getD [(g1), (g2)] k []).take i) : Nat) : Int))) s23 a26 (.tmp 8) := D16.kt q62 rfl
      have q101 : At (Ty.agg [(Ty.lst Ty.int (g1)), (Ty.lst Ty.int (g2))]) s23 a26 (.tmp 27) := D16.kt q64 rfl
      have q102 : At (Ty.nat (k + 1)) s23 a26 (.tmp 28) := D16.done 1
      clear D16
      exact tn ⟨2 - ((k+1)), by omega, s23, (k+1), rfl, F25, ok24, (cvi (by (first | rfl | omega | (simp_all; done) | (simp_all; omega))) q102), (cvi (by (rw [fix2_succ (by omega)]; rw [hie, List.take_length]; omega)) q100), q101, by omega, rfl⟩
   ·
    have hk2 : fix2 g1 g2 k = fixL g1 + fixL g2 := (by rw [show k = 2 by omega]; rfl)
    refine wp_exit ?_
    refine tx ?_
    refine tx ?_
    refine bx ?_
    refine tn ?_
    refine wp_seq ?_
    refine reg (a := a15) (σ := s14) rfl (fun i_ => List.getD [(Ty.pr (Ty.int (n - ((fix2 g1 g2 k : Nat) : Int)))), (Ty.pr (Ty.nat (fct (((n - ((fix2 g1 g2 k : Nat) : Int))).toNat)))), (Ty.pr (Ty.nat (fct (((n - ((fix2 g1 g2 k : Nat) : Int))).toNat)))), (Ty.pr (Ty.int (0 : Int)))] i_ Pr.any) ok14 rfl ⟨?_, ?_, ?_, ?_, trivial⟩ ?_
    · intro ax tx hs okx sm
      exact run_plain rfl (y_move (kp (sm 8 rfl) hs q42))
    · intro ax tx hs okx sm d0
      have e0 : At (Ty.int (n - ((fix2 g1 g2 k : Nat) : Int))) tx ax (.tmp 43) := d0 rfl
      exact run_plain rfl (y_call #[ax.eval (.tmp 43)] Try.func84 rfl rfl (by simp only [List.map_toArray, List.map_cons, List.map_nil]) (rowAll_fn (((n - ((fix2 g1 g2 k : Nat) : Int))).toNat) _ _ (cvi (σ := tx) (by omega) e0) (by omega)))
    · intro ax tx hs okx sm d0 d1 d2 d3
      have e1 : At (Ty.nat (fct (((n - ((fix2 g1 g2 k : Nat) : Int))).toNat))) tx ax (.tmp 44) := d0 rfl
      have e0 : At (Ty.int (n - ((fix2 g1 g2 k : Nat) : Int))) tx ax (.tmp 43) := d2 rfl
      exact run_plain rfl (y_assign e1)
    · intro ax tx hs okx sm d0 d1 d2 d3
      have e2 : At (Ty.nat (fct (((n - ((fix2 g1 g2 k : Nat) : Int))).toNat))) tx ax (.tmp 4) := d0 rfl
      have e0 : At (Ty.int (n - ((fix2 g1 g2 k : Nat) : Int))) tx ax (.tmp 43) := d1 rfl
      have e1 : At (Ty.nat (fct (((n - ((fix2 g1 g2 k : Nat) : Int))).toNat))) tx ax (.tmp 44) := d2 rfl
      exact run_plain rfl (y_assign rfl)
    intro a27 s24 D17
    have ok25 := D17.ok
    have F26 := F15.step0 D17.stp
    have q103 : At (Ty.nat (fct (((n - ((fix2 g1 g2 k : Nat) : Int))).toNat))) s24 a27 (.tmp 4) := D17.done 2
    have q104 : At (Ty.int (0 : Int)) s24 a27 (.tmp 5) := D17.done 3
    clear D17
    refine tn ?_
    refine wp_ret ?_
    exact retL2 rfl ok25 F26 (hasT2 (cvi (by (rw [if_pos h0, ← hg1, ← hg2, ← hk2, show (n - ((fix2 g1 g2 k : Nat) : Int)).toNat = (n).toNat - fix2 g1 g2 k by omega])) q103) (cvi (by (exact h0.symm)) q104))


set_option maxHeartbeats 4000000 in
set_option maxRecDepth 100000 in
theorem mucheck_fn (n : Int) (s : ByteArray) (σ : GW)  (v0 v1 : Value) (hv0 : Ty.has (Ty.int n) σ v0) (hv1 : Ty.has (Ty.val (Value.string s)) σ v1)  (hn64 : -9223372036854775808 ≤ n ∧ n ≤ 9223372036854775807) (hs : s.size ≤ 17592186044416) :
    FnC Try.prog 34 #[v0, v1] σ (Ty.int (patMay n (runsL s))) := by
 refine fn_intro0 Try.func34 rfl Try.ntmps34 (Nat.le_of_ble_eq_true rfl) (fun s0 a0 hle F0 ok0 hargs => ?_)
 have p0 : At (Ty.int n) s0 a0 (.tmp 0) := by have e := hargs 0 _ rfl; show Ty.has _ _ _; rw [e]; exact Ty.up _ hle hv0
 have p1 : At (Ty.val (Value.string s)) s0 a0 (.tmp 1) := by have e := hargs 1 _ rfl; show Ty.has _ _ _; rw [e]; exact Ty.up _ hle hv1
 clear hargs
 refine wp_seq ?_
 refine reg (a := a0) (σ := s0) rfl (fun i_ => List.getD [(Ty.pr (Ty.int (0 : Int)))] i_ Pr.any) ok0 rfl ⟨?_, trivial⟩ ?_
 · intro ax tx hs okx sm
   exact run_plain rfl (y_assign rfl)
 intro a1 s1 D1
 have ok1 := D1.ok
 have F1 := F0.step0 D1.stp
 have q1 : At (Ty.int n) s1 a1 (.tmp 0) := D1.kt p0 rfl
 have q2 : At (Ty.val (Value.string s)) s1 a1 (.tmp 1) := D1.kt p1 rfl
 clear D1
 refine tn ?_
 refine wp_seq ?_
 refine reg2 (a := a1) (σ := s1) rfl 2 (fun i_ => List.getD [(Ty.pr (Ty.int n)), (Ty.pr (Ty.val (Value.string s)))] i_ Pr.any) ok1 rfl (by decide) rfl ⟨?_, ?_, trivial⟩ ?_
 · intro ax tx hs okx sm
   exact run_plain rfl (y_move (kp (sm 0 rfl) hs q1))
 · intro ax tx hs okx sm
   exact run_plain rfl (y_move (kp (sm 1 rfl) hs q2))
 intro a2 s2 D2
 have ok2 := D2.ok
 have F2 := F1.step0 D2.stp
 have q3 : At (Ty.int n) s2 a2 (.tmp 8) := D2.done 0 (by decide)
 have q4 : At (Ty.val (Value.string s)) s2 a2 (.tmp 9) := D2.done 1 (by decide)
 clear D2
 refine tailL (L := []) (R := (fun v τ' => ∃ τ, (fun v τ => ∃ (fr : List Int), ∃ (bk : List Int), ∃ (st : Bool), (Ty.has (Ty.tup2 (Ty.agg [(Ty.lst Ty.int fr), (Ty.lst Ty.int bk), (Ty.bool st)]) (Ty.int (patMay n (runsL s)))) τ v) ∧ (patMay n (runsL s) = 0 → fr = List.map bellQ (frR (runsL s)) ∧ bk = List.map bellQ (bkR (runsL s)))) v τ ∧ Back [] τ τ')) rfl rfl (by decide) ok2 (y_callL (L := []) [] [] #[a2.eval (.tmp 8), a2.eval (.tmp 9)] rfl (by decide) Try.func88 rfl rfl (by simp only [List.map_toArray, List.map_cons, List.map_nil]) (mread_fn (n) (s) _ (GW.low_lend _ (by decide)) _ _ (Ty.up _ (GW.le_lend _ _) q3) (Ty.up _ (GW.le_lend _ _) q4)  (by omega) (by omega))) (fun a3 s3 hs1 ok3 r1 sm1 => ?_)
 have F3 := F2.stepL hs1 (by decide)
 obtain ⟨t1, ⟨g1, g2, g3, hT1, hp1⟩, B1⟩ := r1
 have q5 : At (Ty.tup2 (Ty.agg [(Ty.lst Ty.int (g1)), (Ty.lst Ty.int (g2)), (Ty.bool (g3))]) (Ty.int (patMay n (runsL s)))) s3 a3 (.tmp 10) := Ty.up _ B1.le hT1
 refine tailL (L := []) (R := (fun v τ => Pr.has (Ty.pr (Ty.tup2 (Ty.agg [(Ty.lst Ty.int (g1)), (Ty.lst Ty.int (g2)), (Ty.bool (g3))]) (Ty.int (patMay n (runsL s))))) τ v)) rfl rfl (by decide) ok3 (Yld.toL (y_move q5)) (fun a4 s4 hs2 ok4 r2 sm2 => ?_)
 have F4 := F3.stepL hs2 (by decide)
 have q6 : At (Ty.tup2 (Ty.agg [(Ty.lst Ty.int (g1)), (Ty.lst Ty.int (g2)), (Ty.bool (g3))]) (Ty.int (patMay n (runsL s)))) s4 a4 (.tmp 7) := r2
 clear r2
 refine tailL (L := []) (R := (fun v τ => Pr.has (Ty.pr (Ty.agg [(Ty.lst Ty.int (g1)), (Ty.lst Ty.int (g2)), (Ty.bool (g3))])) τ v)) rfl rfl (by decide) ok4 (Yld.toL (y_ext2_0 q6)) (fun a5 s5 hs3 ok5 r3 sm3 => ?_)
 have F5 := F4.stepL hs3 (by decide)
 have q7 : At (Ty.tup2 (Ty.agg [(Ty.lst Ty.int (g1)), (Ty.lst Ty.int (g2)), (Ty.bool (g3))]) (Ty.int (patMay n (runsL s)))) s5 a5 (.tmp 7) := kpL hs3 (by decide) (sm3 7 (by decide)) q6
 have q8 : At (Ty.agg [(Ty.lst Ty.int (g1)), (Ty.lst Ty.int (g2)), (Ty.bool (g3))]) s5 a5 (.tmp 11) := r3
 clear r3
 refine tailL (L := []) (R := (fun v τ => Pr.has (Ty.pr (Ty.int (patMay n (runsL s)))) τ v)) rfl rfl (by decide) ok5 (Yld.toL (y_ext2_1 q7)) (fun a6 s6 hs4 ok6 r4 sm4 => ?_)
 have F6 := F5.stepL hs4 (by decide)
 have q9 : At (Ty.agg [(Ty.lst Ty.int (g1)), (Ty.lst Ty.int (g2)), (Ty.bool (g3))]) s6 a6 (.tmp 11) := kpL hs4 (by decide) (sm4 11 (by decide)) q8
 have q10 : At (Ty.int (patMay n (runsL s))) s6 a6 (.tmp 12) := r4
 clear r4
 refine tailL (L := []) (R := (fun v τ => Pr.has (Pr.ownp 4 [(Ty.val (Value.slice none 0 0)), (Ty.val (Value.slice none 0 0)), (Ty.bool false)]) τ v)) rfl rfl (by decide) ok6 (Yld.toL (y_alloc Try.inf148 rfl (alloc_vals (vs := [.slice none 0 0, .slice none 0 0, .bool false]) rfl))) (fun a7 s7 hs5 ok7 r5 sm5 => ?_)
 have F7 := F6.stepL hs5 (by decide)
 have q11 : At (Ty.agg [(Ty.lst Ty.int (g1)), (Ty.lst Ty.int (g2)), (Ty.bool (g3))]) s7 a7 (.tmp 11) := kpL hs5 (by decide) (sm5 11 (by decide)) q9
 have q12 : At (Ty.int (patMay n (runsL s))) s7 a7 (.tmp 12) := kpL hs5 (by decide) (sm5 12 (by decide)) q10
 obtain ⟨x1, hx1⟩ : ∃ x, a7.eval (.tmp 5) = x := ⟨_, rfl⟩
 have q13 : At (Ty.val x1) s7 a7 (.tmp 5) := hx1
 have o1 : OwnP s7 4 x1 [(Ty.val (Value.slice none 0 0)), (Ty.val (Value.slice none 0 0)), (Ty.bool false)] := al2 (R := (Pr.ownp 4 [(Ty.val (Value.slice none 0 0)), (Ty.val (Value.slice none 0 0)), (Ty.bool false)])) hx1 r5
 clear r5
 refine tailL0 (L := [4]) (R := (fun _ τ => OwnP τ 4 x1 [(Ty.lst Ty.int (g1)), (Ty.lst Ty.int (g2)), (Ty.bool (g3))])) rfl rfl (YldM.toL (m_storeagg Try.inf148 (by decide) o1 q13 rfl q11 (by intro U hU; simp only [List.mem_cons, List.not_mem_nil, or_false] at hU; rcases hU with rfl | rfl | rfl <;> first | exact one_val rfl | exact one_sl | exact one_ref))) (fun v1 s8 hs6 r6 => ?_)
 have F8 := F7.stepL hs6 (by decide)
 have q14 : At (Ty.int (patMay n (runsL s))) s8 a7 (.tmp 12) := kpL hs6 (by decide) rfl q12
 have o2 : OwnP s8 4 x1 [(Ty.lst Ty.int (g1)), (Ty.lst Ty.int (g2)), (Ty.bool (g3))] := r6
 clear r6
 refine tailL (L := []) (R := (fun v τ => Pr.has (Ty.pr (Ty.int (patMay n (runsL s)))) τ v)) rfl rfl (by decide) ok7 (Yld.toL (y_assign q14)) (fun a8 s9 hs7 ok8 r7 sm6 => ?_)
 have F9 := F8.stepL hs7 (by decide)
 have o3 := OwnP.keepL o2 hs7 (by decide) (by decide)
 have q16 : At (Ty.int (patMay n (runsL s))) s9 a8 (.tmp 6) := r7
 clear r7
 refine wpList_nil ?_
 refine tn ?_
 refine wp_seq ?_
 refine reg (a := a8) (σ := s9) rfl (fun i_ => List.getD [(Ty.pr (Ty.int (patMay n (runsL s)))), (Ty.pr (Ty.int (patMay n (runsL s))))] i_ Pr.any) ok8 rfl ⟨?_, ?_, trivial⟩ ?_
 · intro ax tx hs okx sm
   exact run_plain rfl (y_move (kp (sm 6 rfl) hs q16))
 · intro ax tx hs okx sm d0 d1
   have e0 : At (Ty.int (patMay n (runsL s))) tx ax (.tmp 13) := d0 rfl
   exact run_plain rfl (y_assign e0)
 intro a9 s10 D3
 have ok9 := D3.ok
 have F10 := F9.step0 D3.stp
 have q17 : At (Ty.int (patMay n (runsL s))) s10 a9 (.tmp 4) := D3.done 1
 clear D3
 refine tn ?_
 refine wp_ret ?_
 exact retL1 rfl ok9 F10 q17


set_option maxHeartbeats 4000000 in
set_option maxRecDepth 100000 in
theorem rFact_fn : ∀ (m : Nat) (n : Nat) (σ : GW)  (v0 : Value) (hv0 : Ty.has (Ty.nat n) σ v0)  (hm : m = n) (hn : n ≤ 12), FnC Try.prog 35 #[v0] σ (Ty.nat (fct n)) := by
 intro m
 induction m using Nat.strongRecOn with
 | _ m ih =>
 intro n σ v0 hv0 hm hn
 refine fn_intro0 Try.func35 rfl Try.ntmps35 (Nat.le_of_ble_eq_true rfl) (fun s0 a0 hle F0 ok0 hargs => ?_)
 have p0 : At (Ty.nat n) s0 a0 (.tmp 0) := by have e := hargs 0 _ rfl; show Ty.has _ _ _; rw [e]; exact Ty.up _ hle hv0
 clear hargs
 refine wp_seq ?_
 refine reg (a := a0) (σ := s0) rfl (fun i_ => List.getD [(Ty.pr (Ty.int (0 : Int)))] i_ Pr.any) ok0 rfl ⟨?_, trivial⟩ ?_
 · intro ax tx hs okx sm
   exact run_plain rfl (y_assign rfl)
 intro a1 s1 D1
 have ok1 := D1.ok
 have F1 := F0.step0 D1.stp
 have q1 : At (Ty.nat n) s1 a1 (.tmp 0) := D1.kt p0 rfl
 clear D1
 refine tn ?_
 refine wp_seq ?_
 refine wp_seq ?_
 refine reg (a := a1) (σ := s1) rfl (fun i_ => List.getD [(Ty.pr (Ty.nat n)), (Ty.pr (Ty.bool (decide (((n : Nat) : Int) < (2 : Int)))))] i_ Pr.any) ok1 rfl ⟨?_, ?_, trivial⟩ ?_
 · intro ax tx hs okx sm
   exact run_plain rfl (y_move (kp (sm 0 rfl) hs q1))
 · intro ax tx hs okx sm d0
   have e0 : At (Ty.nat n) tx ax (.tmp 3) := d0 rfl
   exact run_plain rfl (y_lss e0 rfl)
 intro a2 s2 D2
 have ok2 := D2.ok
 have F2 := F1.step0 D2.stp
 have q2 : At (Ty.nat n) s2 a2 (.tmp 0) := D2.kt q1 rfl
 have q3 : At (Ty.bool (decide (((n : Nat) : Int) < (2 : Int)))) s2 a2 (.tmp 4) := D2.done 1
 clear D2
 refine tn ?_
 refine cond_p (p := (((n : Nat) : Int) < (2 : Int))) q3 (fun c1 => ?_) (fun c1 => ?_)
 ·
  refine wp_seq ?_
  refine reg (a := a2) (σ := s2) rfl (fun i_ => List.getD [(Ty.pr (Ty.int (1 : Int)))] i_ Pr.any) ok2 rfl ⟨?_, trivial⟩ ?_
  · intro ax tx hs okx sm
    exact run_plain rfl (y_assign rfl)
  intro a3 s3 D3
  have ok3 := D3.ok
  have F3 := F2.step0 D3.stp
  have q4 : At (Ty.int (1 : Int)) s3 a3 (.tmp 2) := D3.done 0
  clear D3
  refine tn ?_
  refine wp_ret ?_
  refine tr ?_
  exact retL1 rfl ok3 F3 (cvi (by (rw [fct_small (by omega)]; rfl)) q4)
 ·
  have hm2 : ((n : Nat) : Int) * ((fct (n - 1) : Nat) : Int) ≤ 479001600 ∧ 0 ≤ ((n : Nat) : Int) * ((fct (n - 1) : Nat) : Int) := (by have h1 := fct_le12 hn; have h2 := fct_rec (n := n) (by omega); rw [← Int.natCast_mul]; omega)
  refine wp_skip ?_
  refine tn ?_
  refine wp_seq ?_
  refine reg (a := a2) (σ := s2) rfl (fun i_ => List.getD [(Ty.pr (Ty.nat n)), (Ty.pr (Ty.nat n)), (Ty.pr (Ty.nat (n - 1))), (Ty.pr (Ty.nat (fct ((n - 1))))), (Ty.pr (Ty.nat (n * (fct ((n - 1)))))), (Ty.pr (Ty.nat (n * (fct ((n - 1))))))] i_ Pr.any) ok2 rfl ⟨?_, ?_, ?_, ?_, ?_, ?_, trivial⟩ ?_
  · intro ax tx hs okx sm
    exact run_plain rfl (y_move (kp (sm 0 rfl) hs q2))
  · intro ax tx hs okx sm
    exact run_plain rfl (y_move (kp (sm 0 rfl) hs q2))
  · intro ax tx hs okx sm d0
    have e1 : At (Ty.nat n) tx ax (.tmp 6) := d0 rfl
    exact run_plain rfl ((y_sub e1 rfl (w64 (by omega) (by omega))).mono (fun τ _ h => cvi (σ := τ) (by omega) h))
  · intro ax tx hs okx sm d0
    have e2 : At (Ty.nat (n - 1)) tx ax (.tmp 7) := d0 rfl
    exact run_plain rfl (y_call #[ax.eval (.tmp 7)] Try.func35 rfl rfl (by simp only [List.map_toArray, List.map_cons, List.map_nil]) (ih (((n - 1))) (by omega) ((n - 1)) _ _ (cvi (σ := tx) (by omega) e2) (by omega) (by omega)))
  · intro ax tx hs okx sm d0 d1
    have e0 : At (Ty.nat n) tx ax (.tmp 5) := d0 rfl
    have e3 : At (Ty.nat (fct ((n - 1)))) tx ax (.tmp 8) := d1 rfl
    exact run_plain rfl ((y_mul e0 e3 (w64 (by omega) (by omega))).mono (fun τ _ h => cvi (σ := τ) (by first | omega | exact (Int.natCast_mul _ _).symm) h))
  · intro ax tx hs okx sm d0 d1 d2 d3 d4 d5 d6
    have e4 : At (Ty.nat (n * (fct ((n - 1))))) tx ax (.tmp 9) := d0 rfl
    have e3 : At (Ty.nat (fct ((n - 1)))) tx ax (.tmp 8) := d1 rfl
    have e0 : At (Ty.nat n) tx ax (.tmp 5) := d2 rfl
    have e1 : At (Ty.nat n) tx ax (.tmp 6) := d3 rfl
    have e2 : At (Ty.nat (n - 1)) tx ax (.tmp 7) := d4 rfl
    exact run_plain rfl (y_assign e4)
  intro a4 s4 D4
  have ok4 := D4.ok
  have F4 := F2.step0 D4.stp
  have q5 : At (Ty.nat (n * (fct ((n - 1))))) s4 a4 (.tmp 2) := D4.done 5
  clear D4
  refine tn ?_
  refine wp_ret ?_
  exact retL1 rfl ok4 F4 (cvi (by (rw [fct_rec (by omega)])) q5)


set_option maxRecDepth 100000 in
theorem rRounds_fn (n : Nat) (σ : GW) (v0 : Value) (hv0 : Ty.has (Ty.nat n) σ v0) (hn : n ≤ 1000000) :
    FnC Try.prog 24 #[v0] σ (Ty.lst Ty.int (roundsL n)) := by
 refine fn_intro Try.func24 rfl Try.ntmps24 (Nat.le_of_ble_eq_true rfl) (fun s0 a0 hle F0 ok0 hargs => ?_)
 have p0 : At (Ty.nat n) s0 a0 (.tmp 0) := by have e := hargs 0 _ rfl; show Ty.has _ _ _; rw [e]; exact Ty.up _ hle hv0
 clear hargs
 refine wp_seq ?_
 refine reg (a := a0) (σ := s0) rfl (fun i_ => List.getD [(Ty.pr (Ty.val (Value.slice none 0 0)))] i_ Pr.any) ok0 rfl ⟨?_, trivial⟩ ?_
 · intro ax tx hs okx sm
   exact run_plain rfl (y_assign rfl)
 intro a1 s1 D1
 have ok1 := D1.ok
 have F1 := F0.step0 D1.stp
 have q1 : At (Ty.nat n) s1 a1 (.tmp 0) := D1.kt p0 rfl
 clear D1
 refine tn ?_
 refine wp_seq ?_
 refine reg (a := a1) (σ := s1) rfl (fun i_ => List.getD [(Ty.pr (Ty.val (Value.slice none 0 0)))] i_ Pr.any) ok1 rfl ⟨?_, trivial⟩ ?_
 · intro ax tx hs okx sm
   exact run_plain rfl (y_assign rfl)
 intro a2 s2 D2
 have ok2 := D2.ok
 have F2 := F1.step0 D2.stp
 have q2 : At (Ty.nat n) s2 a2 (.tmp 0) := D2.kt q1 rfl
 have q3 : At (Ty.val (Value.slice none 0 0)) s2 a2 (.tmp 3) := D2.done 0
 clear D2
 refine tn ?_
 refine wp_seq ?_
 refine wp_seq ?_
 refine reg (a := a2) (σ := s2) rfl (fun i_ => List.getD [(Ty.pr (Ty.int (0 : Int)))] i_ Pr.any) ok2 rfl ⟨?_, trivial⟩ ?_
 · intro ax tx hs okx sm
   exact run_plain rfl (y_assign rfl)
 intro a3 s3 D3
 have ok3 := D3.ok
 have F3 := F2.step0 D3.stp
 have q4 : At (Ty.nat n) s3 a3 (.tmp 0) := D3.kt q2 rfl
 have q5 : At (Ty.val (Value.slice none 0 0)) s3 a3 (.tmp 3) := D3.kt q3 rfl
 have q6 : At (Ty.int (0 : Int)) s3 a3 (.tmp 4) := D3.done 0
 clear D3
 refine tn ?_
 refine wp_block ?_
 refine loop (fun n1 a4 w1 => ∃ (t1 : GW) (k : Nat), t1.w = w1 ∧ From s0 t1 ∧ Ok 15 a4 ∧ (Pr.own 2 3 1 (List.length (roundsL k)) (List.map Ty.int (roundsL k))).has t1 (a4.eval (.tmp 3)) ∧ At (Ty.nat k) t1 a4 (.tmp 4) ∧ At (Ty.nat n) t1 a4 (.tmp 0) ∧ (k ≤ n) ∧ n1 = n - k) (n - (0)) ?_ ?_
 ·
  exact ⟨s3, 0, rfl, F3, ok3, (by have e : a3.eval (.tmp 3) = _ := q5; rw [e]; exact Own.nil _ _ _ _), (cvi (by (first | rfl | omega | (simp_all; done) | (simp_all; omega))) q6), q4, by omega, rfl⟩
 ·
  rintro n2 a5 w2 ⟨t2, k, rfl, F4, ok4, q7, q8, q9, hk, rfl⟩
  have hp := roundsL_len k
  refine wp_seq ?_
  refine wp_seq ?_
  refine reg (a := a5) (σ := t2) rfl (fun i_ => List.getD [(Ty.pr (Ty.nat k)), (Ty.pr (Ty.nat n)), (Ty.pr (Ty.bool (decide (((k : Nat) : Int) < ((n : Nat) : Int)))))] i_ Pr.any) ok4 rfl ⟨?_, ?_, ?_, trivial⟩ ?_
  · intro ax tx hs okx sm
    exact run_plain rfl (y_move (kp (sm 4 rfl) hs q8))
  · intro ax tx hs okx sm
    exact run_plain rfl (y_move (kp (sm 0 rfl) hs q9))
  · intro ax tx hs okx sm d0 d1
    have e0 : At (Ty.nat k) tx ax (.tmp 5) := d0 rfl
    have e1 : At (Ty.nat n) tx ax (.tmp 6) := d1 rfl
    exact run_plain rfl (y_lss e0 e1)
  intro a6 s4 D4
  have ok5 := D4.ok
  have F5 := F4.step0 D4.stp
  have q10 : (Pr.own 2 3 1 (List.length (roundsL k)) (List.map Ty.int (roundsL k))).has s4 (a6.eval (.tmp 3)) := D4.ko q7 rfl
  have q11 : At (Ty.nat k) s4 a6 (.tmp 4) := D4.kt q8 rfl
  have q12 : At (Ty.nat n) s4 a6 (.tmp 0) := D4.kt q9 rfl
  have q13 : At (Ty.bool (decide (((k : Nat) : Int) < ((n : Nat) : Int)))) s4 a6 (.tmp 7) := D4.done 2
  clear D4
  refine tn ?_
  refine cond_p (p := (((k : Nat) : Int) < ((n : Nat) : Int))) q13 (fun c1 => ?_) (fun c1 => ?_)
  ·
   refine wp_skip ?_
   refine tn ?_
   refine wp_seq ?_
   refine wp_block ?_
   refine reg2 (a := a6) (σ := s4) rfl 3 (fun i_ => List.getD [(Ty.pr (Ty.val (a6.eval (.tmp 3)))), (Ty.pr (Ty.nat k)), (Ty.pr (Ty.sl 1 1 [(Ty.nat k)]))] i_ Pr.any) ok5 rfl (by decide) rfl ⟨?_, ?_, ?_, trivial⟩ ?_
   · intro ax tx hs okx sm
     exact run_plain rfl (y_move (sm 3 rfl))
   · intro ax tx hs okx sm
     exact run_plain rfl (y_move (kp (sm 4 rfl) hs q11))
   · intro ax tx hs okx sm d0
     have e1 : At (Ty.nat k) tx ax (.tmp 11) := d0 rfl
     exact run_plain rfl (y_build1o Try.underlying34 Try.inf3 rfl (one_val rfl) e1)
   intro a7 s5 D5
   have ok6 := D5.ok
   have F6 := F5.step0 D5.stp
   have q14 := (Pr.own 2 3 1 (List.length (roundsL k)) (List.map Ty.int (roundsL k))).up D5.stp q10
   have q15 : a7.eval (.tmp 3) = a6.eval (.tmp 3) := D5.same 3 rfl
   have q16 : At (Ty.nat k) s5 a7 (.tmp 4) := D5.kt q11 rfl
   have q17 : At (Ty.nat n) s5 a7 (.tmp 0) := D5.kt q12 rfl
   have q18 : At (Ty.val (a6.eval (.tmp 3))) s5 a7 (.tmp 10) := D5.done 0 (by decide)
   have q19 : At (Ty.sl 1 1 [(Ty.nat k)]) s5 a7 (.tmp 12) := D5.done 2 (by decide)
   clear D5
   refine tail_step (m := 2) (R := (fun v τ => Own τ 2 3 1 v ((List.length (roundsL k)) + 1) ((List.map Ty.int (roundsL k)) ++ [(Ty.nat k)]))) rfl rfl (by decide) ok6 (m_append Try.underlying34 Try.inf3 (by decide) rfl (by decide) (al q18 q14) q19 (by intro U hU; simp at hU;  subst hU; exact one_val rfl) (by omega) (by omega)) (fun a8 s6 hs1 ok7 r1 sm1 => ?_)
   have F7 := F6.step hs1 (by decide)
   have q20 : At (Ty.nat k) s6 a8 (.tmp 4) := kpm hs1 (by decide) (sm1 4 (by decide)) q16
   have q21 : At (Ty.nat n) s6 a8 (.tmp 0) := kpm hs1 (by decide) (sm1 0 (by decide)) q17
   have q22 : At (Ty.sl 1 1 [(Ty.nat k)]) s6 a8 (.tmp 12) := kpm hs1 (by decide) (sm1 12 (by decide)) q19
   have q23 : (Pr.own 2 3 1 (List.length ((roundsL k) ++ [((k : Nat) : Int)])) (List.map Ty.int ((roundsL k) ++ [((k : Nat) : Int)]))).has s6 (a8.eval (.tmp 13)) := (cvo (by simp) (by first | (rw [List.map_append]; rfl) | simp) r1)
   refine tail_step (m := 0) (R := (fun v τ => Pr.has (Pr.own 2 3 1 (List.length ((roundsL k) ++ [((k : Nat) : Int)])) (List.map Ty.int ((roundsL k) ++ [((k : Nat) : Int)]))) τ v)) rfl rfl (by decide) ok7 (Yld.toM (y_assign q23)) (fun a9 s7 hs2 ok8 r2 sm2 => ?_)
   have F8 := F7.step hs2 (by decide)
   have q24 : At (Ty.nat k) s7 a9 (.tmp 4) := kpm hs2 (by decide) (sm2 4 (by decide)) q20
   have q25 : At (Ty.nat n) s7 a9 (.tmp 0) := kpm hs2 (by decide) (sm2 0 (by decide)) q21
   have q26 : At (Ty.sl 1 1 [(Ty.nat k)]) s7 a9 (.tmp 12) := kpm hs2 (by decide) (sm2 12 (by decide)) q22
   have q27 : (Pr.own 2 3 1 (List.length ((roundsL k) ++ [((k : Nat) : Int)])) (List.map Ty.int ((roundsL k) ++ [((k : Nat) : Int)]))).has s7 (a9.eval (.tmp 13)) := kpmo hs2 (by decide) (.inl rfl) (sm2 13 (by decide)) q23
   have q28 : (Pr.own 2 3 1 (List.length ((roundsL k) ++ [((k : Nat) : Int)])) (List.map Ty.int ((roundsL k) ++ [((k : Nat) : Int)]))).has s7 (a9.eval (.tmp 3)) := r2
   refine wpList_nil ?_
   refine bn ?_
   refine tn ?_
   refine reg (a := a9) (σ := s7) rfl (fun i_ => List.getD [(Ty.pr (Ty.nat k)), (Ty.pr (Ty.int (((k : Nat) : Int) + (1 : Int)))), (Ty.pr (Ty.int (((k : Nat) : Int) + (1 : Int))))] i_ Pr.any) ok8 rfl ⟨?_, ?_, ?_, trivial⟩ ?_
   · intro ax tx hs okx sm
     exact run_plain rfl (y_move (kp (sm 4 rfl) hs q24))
   · intro ax tx hs okx sm d0
     have e0 : At (Ty.nat k) tx ax (.tmp 8) := d0 rfl
     exact run_plain rfl (y_add e0 rfl (w64 (by omega) (by omega)))
   · intro ax tx hs okx sm d0 d1 d2
     have e1 : At (Ty.int (((k : Nat) : Int) + (1 : Int))) tx ax (.tmp 9) := d0 rfl
     have e0 : At (Ty.nat k) tx ax (.tmp 8) := d1 rfl
     exact run_plain rfl (y_assign e1)
   intro a10 s8 D6
   have ok9 := D6.ok
   have F9 := F8.step0 D6.stp
   have q29 : At (Ty.nat n) s8 a10 (.tmp 0) := D6.kt q25 rfl
   have q30 : (Pr.own 2 3 1 (List.length ((roundsL k) ++ [((k : Nat) : Int)])) (List.map Ty.int ((roundsL k) ++ [((k : Nat) : Int)]))).has s8 (a10.eval (.tmp 3)) := D6.ko q28 rfl
   have q31 : At (Ty.int (((k : Nat) : Int) + (1 : Int))) s8 a10 (.tmp 4) := D6.done 2
   clear D6
   exact tn ⟨n - ((k+1)), by omega, s8, (k+1), rfl, F9, ok9, (cvo (by (rw [roundsL_succ k])) (by (rw [roundsL_succ k])) q30), (cvi (by (first | rfl | omega | (simp_all; done) | (simp_all; omega))) q31), q29, by omega, rfl⟩
  ·
   refine wp_exit ?_
   refine tx ?_
   refine tx ?_
   refine bx ?_
   refine tn ?_
   refine wp_seq ?_
   refine reg (a := a6) (σ := s4) rfl (fun i_ => List.getD [(Ty.pr (Ty.val (a6.eval (.tmp 3)))), (Ty.pr (Ty.val (a6.eval (.tmp 3))))] i_ Pr.any) ok5 rfl ⟨?_, ?_, trivial⟩ ?_
   · intro ax tx hs okx sm
     exact run_plain rfl (y_move (sm 3 rfl))
   · intro ax tx hs okx sm d0 d1
     have e0 : At (Ty.val (a6.eval (.tmp 3))) tx ax (.tmp 14) := d0 rfl
     exact run_plain rfl (y_assign e0)
   intro a11 s9 D7
   have ok10 := D7.ok
   have F10 := F5.step0 D7.stp
   have q32 : (Pr.own 2 3 1 (List.length (roundsL k)) (List.map Ty.int (roundsL k))).has s9 (a11.eval (.tmp 2)) := al (show _ = _ from D7.done 1) ((Pr.own 2 3 1 (List.length (roundsL k)) (List.map Ty.int (roundsL k))).up D7.stp q10)
   clear D7
   refine tn ?_
   refine wp_ret ?_
   obtain ⟨t3, e1, h1, q33⟩ := Own.seal q32 (by decide)
   rw [← e1]
   have F11 := F10.step h1 (by decide)
   exact ret1 rfl ok10 F11 (cvt (by (obtain rfl : k = n := (by omega); rfl)) q33)


set_option maxHeartbeats 4000000 in
set_option maxRecDepth 100000 in
theorem rAt_fn (n : Nat) (k : Nat) (σ : GW)  (v0 v1 : Value) (hv0 : Ty.has (Ty.nat n) σ v0) (hv1 : Ty.has (Ty.nat k) σ v1)  (hn : n ≤ 12) (hk : k < fct n) :
    FnC Try.prog 37 #[v0, v1] σ (Ty.lst Ty.int (atL n k)) := by
 refine fn_intro0 Try.func37 rfl Try.ntmps37 (Nat.le_of_ble_eq_true rfl) (fun s0 a0 hle F0 ok0 hargs => ?_)
 have p0 : At (Ty.nat n) s0 a0 (.tmp 0) := by have e := hargs 0 _ rfl; show Ty.has _ _ _; rw [e]; exact Ty.up _ hle hv0
 have p1 : At (Ty.nat k) s0 a0 (.tmp 1) := by have e := hargs 1 _ rfl; show Ty.has _ _ _; rw [e]; exact Ty.up _ hle hv1
 clear hargs
 refine wp_seq ?_
 refine reg (a := a0) (σ := s0) rfl (fun i_ => List.getD [(Ty.pr (Ty.val (Value.slice none 0 0)))] i_ Pr.any) ok0 rfl ⟨?_, trivial⟩ ?_
 · intro ax tx hs okx sm
   exact run_plain rfl (y_assign rfl)
 intro a1 s1 D1
 have ok1 := D1.ok
 have F1 := F0.step0 D1.stp
 have q1 : At (Ty.nat n) s1 a1 (.tmp 0) := D1.kt p0 rfl
 have q2 : At (Ty.nat k) s1 a1 (.tmp 1) := D1.kt p1 rfl
 clear D1
 refine tn ?_
 refine wp_seq ?_
 refine reg (a := a1) (σ := s1) rfl (fun i_ => List.getD [(Ty.pr (Ty.val (Value.slice none 0 0)))] i_ Pr.any) ok1 rfl ⟨?_, trivial⟩ ?_
 · intro ax tx hs okx sm
   exact run_plain rfl (y_assign rfl)
 intro a2 s2 D2
 have ok2 := D2.ok
 have F2 := F1.step0 D2.stp
 have q3 : At (Ty.nat n) s2 a2 (.tmp 0) := D2.kt q1 rfl
 have q4 : At (Ty.nat k) s2 a2 (.tmp 1) := D2.kt q2 rfl
 have q5 : At (Ty.val (Value.slice none 0 0)) s2 a2 (.tmp 5) := D2.done 0
 clear D2
 refine tn ?_
 refine wp_seq ?_
 refine reg (a := a2) (σ := s2) rfl (fun i_ => List.getD [(Ty.pr (Ty.nat n)), (Ty.pr (Ty.lst Ty.int (roundsL n))), (Ty.pr (Ty.lst Ty.int (roundsL n)))] i_ Pr.any) ok2 rfl ⟨?_, ?_, ?_, trivial⟩ ?_
 · intro ax tx hs okx sm
   exact run_plain rfl (y_move (kp (sm 0 rfl) hs q3))
 · intro ax tx hs okx sm d0
   have e0 : At (Ty.nat n) tx ax (.tmp 9) := d0 rfl
   exact run_plain rfl (y_call #[ax.eval (.tmp 9)] Try.func24 rfl rfl (by simp only [List.map_toArray, List.map_cons, List.map_nil]) (rRounds_fn (n) _ _ e0 (by omega)))
 · intro ax tx hs okx sm d0 d1 d2 d3
   have e1 : At (Ty.lst Ty.int (roundsL n)) tx ax (.tmp 10) := d0 rfl
   have e0 : At (Ty.nat n) tx ax (.tmp 9) := d2 rfl
   exact run_plain rfl (y_assign e1)
 intro a3 s3 D3
 have ok3 := D3.ok
 have F3 := F2.step0 D3.stp
 have q6 : At (Ty.nat k) s3 a3 (.tmp 1) := D3.kt q4 rfl
 have q7 : At (Ty.val (Value.slice none 0 0)) s3 a3 (.tmp 5) := D3.kt q5 rfl
 have q8 : At (Ty.lst Ty.int (roundsL n)) s3 a3 (.tmp 6) := D3.done 2
 clear D3
 refine tn ?_
 refine wp_seq ?_
 refine wp_block ?_
 have o1 : Own s3 5 3 1 (Value.slice none 0 0) 0 (List.map Ty.int ([] : List Int)) := Own.nil _ _ _ _
 refine loop (fun n1 a4 w1 => ∃ (t1 : GW) (m : Nat) (lf : List Int) (q : Nat) (os : List Int) (x5_0 : Value), t1.w = w1 ∧ FromL [] s0 t1 ∧ Ok 42 a4 ∧ At (Ty.lst Ty.int lf) t1 a4 (.tmp 6) ∧ At (Ty.val x5_0) t1 a4 (.tmp 5) ∧ At (Ty.nat q) t1 a4 (.tmp 1) ∧ Own t1 5 3 1 x5_0 (List.length os) (List.map Ty.int os) ∧ (os ++ atF m lf q = atL n k) ∧ (q < fct m) ∧ (lf.length = m) ∧ (os.length + m = n) ∧ n1 = m + 1) ((n) + 1) ?_ ?_
 ·
  exact ⟨s3, n, (roundsL n), k, ([] : List Int), (Value.slice none 0 0), rfl, F3, ok3, (cvt (by (first | rfl | omega | (simp_all; done) | (simp_all; omega))) q8), q7, (cvi (by (first | rfl | omega | (simp_all; done) | (simp_all; omega))) q6), (cvo (by (simp)) (by (simp)) o1), rfl, by omega, roundsL_len _, by simp, rfl⟩
 ·
  rintro n2 a5 w2 ⟨t2, m, lf, q, os, x5_0, rfl, F4, ok4, q9, q10, q11, o2, hos, hq, hlf, hol, rfl⟩
  have hf12 := fct_le12 (n := m) (by omega)
  have hfp := fct_pos (m - 1)
  refine wp_seq ?_
  refine wp_seq ?_
  refine reg (a := a5) (σ := t2) rfl (fun i_ => List.getD [(Ty.pr (Ty.lst Ty.int lf)), (Ty.pr (Ty.nat (List.length lf))), (Ty.pr (Ty.bool (decide ((0 : Int) < (((List.length lf) : Nat) : Int)))))] i_ Pr.any) ok4 rfl ⟨?_, ?_, ?_, trivial⟩ ?_
  · intro ax tx hs okx sm
    exact run_plain rfl (y_move (kp (sm 6 rfl) hs q9))
  · intro ax tx hs okx sm d0
    have e0 : At (Ty.lst Ty.int lf) tx ax (.tmp 11) := d0 rfl
    exact run_plain rfl (y_len Try.underlying34 e0)
  · intro ax tx hs okx sm d0
    have e1 : At (Ty.nat (List.length lf)) tx ax (.tmp 12) := d0 rfl
    exact run_plain rfl (y_gtr e1 rfl)
  intro a6 s4 D4
  have ok5 := D4.ok
  have F5 := F4.step0 D4.stp
  have q12 : At (Ty.lst Ty.int lf) s4 a6 (.tmp 6) := D4.kt q9 rfl
  have q13 : At (Ty.val x5_0) s4 a6 (.tmp 5) := D4.kt q10 rfl
  have q14 : At (Ty.nat q) s4 a6 (.tmp 1) := D4.kt q11 rfl
  have o3 := Own.k0 o2 D4.stp
  have q15 : At (Ty.bool (decide ((0 : Int) < (((List.length lf) : Nat) : Int)))) s4 a6 (.tmp 13) := D4.done 2
  clear D4
  refine tn ?_
  refine cond_p (p := ((0 : Int) < (((List.length lf) : Nat) : Int))) q15 (fun c1 => ?_) (fun c1 => ?_)
  ·
   have hdv := at_div (m := m) (q := q) (by omega) hq; have hdn : (0 : Int) ≤ ((q / fct (m - 1) : Nat) : Int) := Int.natCast_nonneg _; have hmn : (0 : Int) ≤ ((q % fct (m - 1) : Nat) : Int) := Int.natCast_nonneg _; have htk1 : (List.take (q / fct (m - 1)) lf).length ≤ 12 := (by rw [List.length_take]; omega); have hdk1 : (List.drop (q / fct (m - 1) + 1) lf).length ≤ 12 := (by rw [List.length_drop]; omega)
   refine wp_skip ?_
   refine tn ?_
   refine wp_block ?_
   refine wp_seq ?_
   refine reg (a := a6) (σ := s4) rfl (fun i_ => List.getD [(Ty.pr (Ty.lst Ty.int lf)), (Ty.pr (Ty.nat (List.length lf))), (Ty.pr (Ty.nat ((List.length lf) - 1))), (Ty.pr (Ty.nat (fct (((List.length lf) - 1))))), (Ty.pr (Ty.nat (fct (((List.length lf) - 1)))))] i_ Pr.any) ok5 rfl ⟨?_, ?_, ?_, ?_, ?_, trivial⟩ ?_
   · intro ax tx hs okx sm
     exact run_plain rfl (y_move (kp (sm 6 rfl) hs q12))
   · intro ax tx hs okx sm d0
     have e0 : At (Ty.lst Ty.int lf) tx ax (.tmp 14) := d0 rfl
     exact run_plain rfl (y_len Try.underlying34 e0)
   · intro ax tx hs okx sm d0
     have e1 : At (Ty.nat (List.length lf)) tx ax (.tmp 15) := d0 rfl
     exact run_plain rfl ((y_sub e1 rfl (w64 (by omega) (by omega))).mono (fun τ _ h => cvi (σ := τ) (by omega) h))
   · intro ax tx hs okx sm d0
     have e2 : At (Ty.nat ((List.length lf) - 1)) tx ax (.tmp 16) := d0 rfl
     exact run_plain rfl (y_call #[ax.eval (.tmp 16)] Try.func35 rfl rfl (by simp only [List.map_toArray, List.map_cons, List.map_nil]) (rFact_fn ((((List.length lf) - 1))) (((List.length lf) - 1)) _ _ (cvi (σ := tx) (by omega) e2) (by omega) (by omega)))
   · intro ax tx hs okx sm d0 d1 d2 d3 d4 d5
     have e3 : At (Ty.nat (fct (((List.length lf) - 1)))) tx ax (.tmp 17) := d0 rfl
     have e0 : At (Ty.lst Ty.int lf) tx ax (.tmp 14) := d2 rfl
     have e1 : At (Ty.nat (List.length lf)) tx ax (.tmp 15) := d3 rfl
     have e2 : At (Ty.nat ((List.length lf) - 1)) tx ax (.tmp 16) := d4 rfl
     exact run_plain rfl (y_assign e3)
   intro a7 s5 D5
   have ok6 := D5.ok
   have F6 := F5.step0 D5.stp
   have q16 : At (Ty.lst Ty.int lf) s5 a7 (.tmp 6) := D5.kt q12 rfl
   have q17 : At (Ty.val x5_0) s5 a7 (.tmp 5) := D5.kt q13 rfl
   have q18 : At (Ty.nat q) s5 a7 (.tmp 1) := D5.kt q14 rfl
   have o4 := Own.k0 o3 D5.stp
   have q19 : At (Ty.nat (fct (((List.length lf) - 1)))) s5 a7 (.tmp 7) := D5.done 4
   clear D5
   have q20 : At (Ty.nat (fct (m - 1))) s5 a7 (.tmp 7) := (cvi (by (first | rw [hlf] | (have e : ((((List.length lf : Nat) : Int) - (1 : Int))).toNat = m - 1 := (by omega); rw [e]))) q19)
   refine tn ?_
   refine wp_seq ?_
   refine reg (a := a7) (σ := s5) rfl (fun i_ => List.getD [(Ty.pr (Ty.nat q)), (Ty.pr (Ty.nat (fct (m - 1)))), (Ty.pr (Ty.nat (q / (fct (m - 1))))), (Ty.pr (Ty.nat (q / (fct (m - 1)))))] i_ Pr.any) ok6 rfl ⟨?_, ?_, ?_, ?_, trivial⟩ ?_
   · intro ax tx hs okx sm
     exact run_plain rfl (y_move (kp (sm 1 rfl) hs q18))
   · intro ax tx hs okx sm
     exact run_plain rfl (y_move (kp (sm 7 rfl) hs q20))
   · intro ax tx hs okx sm d0 d1
     have e0 : At (Ty.nat q) tx ax (.tmp 18) := d0 rfl
     have e1 : At (Ty.nat (fct (m - 1))) tx ax (.tmp 19) := d1 rfl
     exact run_plain rfl (y_quoN e0 e1 (by omega) (by omega))
   · intro ax tx hs okx sm d0 d1 d2 d3
     have e2 : At (Ty.nat (q / (fct (m - 1)))) tx ax (.tmp 20) := d0 rfl
     have e0 : At (Ty.nat q) tx ax (.tmp 18) := d1 rfl
     have e1 : At (Ty.nat (fct (m - 1))) tx ax (.tmp 19) := d2 rfl
     exact run_plain rfl (y_assign e2)
   intro a8 s6 D6
   have ok7 := D6.ok
   have F7 := F6.step0 D6.stp
   have q21 : At (Ty.lst Ty.int lf) s6 a8 (.tmp 6) := D6.kt q16 rfl
   have q22 : At (Ty.val x5_0) s6 a8 (.tmp 5) := D6.kt q17 rfl
   have q23 : At (Ty.nat q) s6 a8 (.tmp 1) := D6.kt q18 rfl
   have q24 : At (Ty.nat (fct (m - 1))) s6 a8 (.tmp 7) := D6.kt q20 rfl
   have o5 := Own.k0 o4 D6.stp
   have q25 : At (Ty.nat (q / (fct (m - 1)))) s6 a8 (.tmp 8) := D6.done 3
   clear D6
   refine tn ?_
   refine wp_seq ?_
   refine reg (a := a8) (σ := s6) rfl (fun i_ => List.getD [(Ty.pr (Ty.nat q)), (Ty.pr (Ty.nat (fct (m - 1)))), (Ty.pr (Ty.nat (q % (fct (m - 1))))), (Ty.pr (Ty.nat (q % (fct (m - 1)))))] i_ Pr.any) ok7 rfl ⟨?_, ?_, ?_, ?_, trivial⟩ ?_
   · intro ax tx hs okx sm
     exact run_plain rfl (y_move (kp (sm 1 rfl) hs q23))
   · intro ax tx hs okx sm
     exact run_plain rfl (y_move (kp (sm 7 rfl) hs q24))
   · intro ax tx hs okx sm d0 d1
     have e0 : At (Ty.nat q) tx ax (.tmp 21) := d0 rfl
     have e1 : At (Ty.nat (fct (m - 1))) tx ax (.tmp 22) := d1 rfl
     exact run_plain rfl (y_remN e0 e1 (by omega))
   · intro ax tx hs okx sm d0 d1 d2 d3
     have e2 : At (Ty.nat (q % (fct (m - 1)))) tx ax (.tmp 23) := d0 rfl
     have e0 : At (Ty.nat q) tx ax (.tmp 21) := d1 rfl
     have e1 : At (Ty.nat (fct (m - 1))) tx ax (.tmp 22) := d2 rfl
     exact run_plain rfl (y_assign e2)
   intro a9 s7 D7
   have ok8 := D7.ok
   have F8 := F7.step0 D7.stp
   have q26 : At (Ty.lst Ty.int lf) s7 a9 (.tmp 6) := D7.kt q21 rfl
   have q27 : At (Ty.val x5_0) s7 a9 (.tmp 5) := D7.kt q22 rfl
   have q28 : At (Ty.nat (q / (fct (m - 1)))) s7 a9 (.tmp 8) := D7.kt q25 rfl
   have o6 := Own.k0 o5 D7.stp
   have q29 : At (Ty.nat (q % (fct (m - 1)))) s7 a9 (.tmp 1) := D7.done 3
   clear D7
   refine tn ?_
   refine wp_seq ?_
   refine reg2 (a := a9) (σ := s7) rfl 6 (fun i_ => List.getD [(Ty.pr (Ty.val x5_0)), (Ty.pr (Ty.lst Ty.int lf)), (Ty.pr (Ty.nat (q / (fct (m - 1))))), (Ty.pr (Ty.ref [(Ty.int (lf.getD (q / (fct (m - 1))) 0))])), (Ty.pr (Ty.int (lf.getD (q / (fct (m - 1))) 0))), (Ty.pr (Ty.sl 1 1 [(Ty.int (lf.getD (q / (fct (m - 1))) 0))]))] i_ Pr.any) ok8 rfl (by decide) rfl ⟨?_, ?_, ?_, ?_, ?_, ?_, trivial⟩ ?_
   · intro ax tx hs okx sm
     exact run_plain rfl (y_move (kp (sm 5 rfl) hs q27))
   · intro ax tx hs okx sm
     exact run_plain rfl (y_move (kp (sm 6 rfl) hs q26))
   · intro ax tx hs okx sm
     exact run_plain rfl (y_move (kp (sm 8 rfl) hs q28))
   · intro ax tx hs okx sm d0 d1
     have e1 : At (Ty.lst Ty.int lf) tx ax (.tmp 25) := d0 rfl
     have e2 : At (Ty.nat (q / (fct (m - 1)))) tx ax (.tmp 26) := d1 rfl
     exact run_plain rfl (y_index1 Try.underlying34 Try.inf3 e1 e2 (by omega) (lst_get Ty.int lf 0 (q / (fct (m - 1))) (by omega)))
   · intro ax tx hs okx sm d0
     have e3 : At (Ty.ref [(Ty.int (lf.getD (q / (fct (m - 1))) 0))]) tx ax (.tmp 27) := d0 rfl
     exact run_plain rfl (y_load Try.underlying3 rfl e3 rfl)
   · intro ax tx hs okx sm d0
     have e4 : At (Ty.int (lf.getD (q / (fct (m - 1))) 0)) tx ax (.tmp 28) := d0 rfl
     exact run_plain rfl (y_build1o Try.underlying34 Try.inf3 rfl (one_val rfl) e4)
   intro a10 s8 D8
   have ok9 := D8.ok
   have F9 := F8.step0 D8.stp
   have q30 : At (Ty.lst Ty.int lf) s8 a10 (.tmp 6) := D8.kt q26 rfl
   have q31 : At (Ty.val x5_0) s8 a10 (.tmp 5) := D8.kt q27 rfl
   have q32 : At (Ty.nat (q / (fct (m - 1)))) s8 a10 (.tmp 8) := D8.kt q28 rfl
   have q33 : At (Ty.nat (q % (fct (m - 1)))) s8 a10 (.tmp 1) := D8.kt q29 rfl
   have o7 := Own.k0 o6 D8.stp
   have q34 : At (Ty.val x5_0) s8 a10 (.tmp 24) := D8.done 0 (by decide)
   have q35 : At (Ty.sl 1 1 [(Ty.int (lf.getD (q / (fct (m - 1))) 0))]) s8 a10 (.tmp 29) := D8.done 5 (by decide)
   have b1 := sl_le q35
   clear D8
   refine tailL (L := [5]) (R := (fun v τ => Own τ 5 3 1 v ((List.length os) + 1) ((List.map Ty.int os) ++ [(Ty.int (lf.getD (q / (fct (m - 1))) 0))]))) rfl rfl (by decide) ok9 (YldM.toL (m_append Try.underlying34 Try.inf3 (by decide) rfl (by decide) (al (R := (Pr.own 5 3 1 (List.length os) (List.map Ty.int os))) q34 o7) q35 (by intro U hU; simp at hU; subst hU; exact one_val rfl) (by omega) (by omega))) (fun a11 s9 hs1 ok10 r1 sm1 => ?_)
   have F10 := F9.stepL hs1 (by decide)
   have q36 : At (Ty.lst Ty.int lf) s9 a11 (.tmp 6) := kpL hs1 (by decide) (sm1 6 (by decide)) q30
   have q37 : At (Ty.val x5_0) s9 a11 (.tmp 5) := kpL hs1 (by decide) (sm1 5 (by decide)) q31
   have q38 : At (Ty.nat (q / (fct (m - 1)))) s9 a11 (.tmp 8) := kpL hs1 (by decide) (sm1 8 (by decide)) q32
   have q39 : At (Ty.nat (q % (fct (m - 1)))) s9 a11 (.tmp 1) := kpL hs1 (by decide) (sm1 1 (by decide)) q33
   obtain ⟨x1, hx1⟩ : ∃ x, a11.eval (.tmp 30) = x := ⟨_, rfl⟩
   have q40 : At (Ty.val x1) s9 a11 (.tmp 30) := hx1
   have o8 : Own s9 5 3 1 x1 (List.length (os ++ [(lf.getD (q / (fct (m - 1))) 0)])) (List.map Ty.int (os ++ [(lf.getD (q / (fct (m - 1))) 0)])) := al2 (R := (Pr.own 5 3 1 (List.length (os ++ [(lf.getD (q / (fct (m - 1))) 0)])) (List.map Ty.int (os ++ [(lf.getD (q / (fct (m - 1))) 0)])))) hx1 (cvo (by simp) (by first | (rw [List.map_append]; rfl) | simp) r1)
   clear r1
   refine tailL (L := []) (R := (fun v τ => Pr.has (Ty.pr (Ty.val x1)) τ v)) rfl rfl (by decide) ok10 (Yld.toL (y_assign q40)) (fun a12 s10 hs2 ok11 r2 sm2 => ?_)
   have F11 := F10.stepL hs2 (by decide)
   have q41 : At (Ty.lst Ty.int lf) s10 a12 (.tmp 6) := kpL hs2 (by decide) (sm2 6 (by decide)) q36
   have q42 : At (Ty.nat (q / (fct (m - 1)))) s10 a12 (.tmp 8) := kpL hs2 (by decide) (sm2 8 (by decide)) q38
   have q43 : At (Ty.nat (q % (fct (m - 1)))) s10 a12 (.tmp 1) := kpL hs2 (by decide) (sm2 1 (by decide)) q39
   have o9 := Own.keepL o8 hs2 (by decide) (by decide)
   have q44 : At (Ty.val x1) s10 a12 (.tmp 5) := r2
   clear r2
   refine wpList_nil ?_
   refine tn ?_
   refine reg2 (a := a12) (σ := s10) rfl 9 (fun i_ => List.getD [(Pr.own0 7 3), (Ty.pr (Ty.lst Ty.int lf)), (Ty.pr (Ty.nat (q / (fct (m - 1))))), (Ty.pr (Ty.lst Ty.int (lf.take (q / (fct (m - 1)))))), (Pr.own 7 3 1 (List.length (lf.take (q / (fct (m - 1))))) (List.map Ty.int (lf.take (q / (fct (m - 1)))))), (Ty.pr (Ty.lst Ty.int lf)), (Ty.pr (Ty.nat (q / (fct (m - 1))))), (Ty.pr (Ty.nat ((q / (fct (m - 1))) + 1))), (Ty.pr (Ty.lst Ty.int (lf.drop ((q / (fct (m - 1))) + 1))))] i_ Pr.any) ok11 rfl (by decide) rfl ⟨?_, ?_, ?_, ?_, ?_, ?_, ?_, ?_, ?_, trivial⟩ ?_
   · intro ax tx hs okx sm
     exact run_plain rfl (y_lit00 (k := 7) Try.underlying34 Try.inf3)
   · intro ax tx hs okx sm
     exact run_plain rfl (y_move (kp (sm 6 rfl) hs q41))
   · intro ax tx hs okx sm
     exact run_plain rfl (y_move (kp (sm 8 rfl) hs q42))
   · intro ax tx hs okx sm d0 d1
     have e1 : At (Ty.lst Ty.int lf) tx ax (.tmp 32) := d0 rfl
     have e2 : At (Ty.nat (q / (fct (m - 1)))) tx ax (.tmp 33) := d1 rfl
     exact run_plain rfl (y_take Try.underlying34 Try.inf3 e1 e2 (by omega))
   · intro ax tx hs okx sm d0 d1
     have e0 : (Pr.own0 7 3).has tx (ax.eval (.tmp 31)) := d0 rfl
     have e3 : At (Ty.lst Ty.int (lf.take (q / (fct (m - 1))))) tx ax (.tmp 34) := d1 rfl
     exact run_plain rfl (y_append0 Try.underlying34 Try.inf3 (by decide) rfl e0 e3 (one_map (fun _ => one_val rfl)) (by omega) (by omega))
   · intro ax tx hs okx sm
     exact run_plain rfl (y_move (kp (sm 6 rfl) hs q41))
   · intro ax tx hs okx sm
     exact run_plain rfl (y_move (kp (sm 8 rfl) hs q42))
   · intro ax tx hs okx sm d0
     have e6 : At (Ty.nat (q / (fct (m - 1)))) tx ax (.tmp 37) := d0 rfl
     exact run_plain rfl ((y_add e6 rfl (w64 (by omega) (by omega))).mono (fun τ _ h => cvi (σ := τ) (by first | omega | exact (Int.natCast_mul _ _).symm) h))
   · intro ax tx hs okx sm d0 d1
     have e5 : At (Ty.lst Ty.int lf) tx ax (.tmp 36) := d0 rfl
     have e7 : At (Ty.nat ((q / (fct (m - 1))) + 1)) tx ax (.tmp 38) := d1 rfl
     exact run_plain rfl (y_drop Try.underlying34 Try.inf3 e5 e7 (by omega))
   intro a13 s11 D9
   have ok12 := D9.ok
   have F12 := F11.step0 D9.stp
   have q45 : At (Ty.lst Ty.int lf) s11 a13 (.tmp 6) := D9.kt q41 rfl
   have q46 : At (Ty.nat (q % (fct (m - 1)))) s11 a13 (.tmp 1) := D9.kt q43 rfl
   have q47 : At (Ty.val x1) s11 a13 (.tmp 5) := D9.kt q44 rfl
   have o10 := Own.k0 o9 D9.stp
   obtain ⟨x2, hx2⟩ : ∃ x, a13.eval (.tmp 35) = x := ⟨_, rfl⟩
   have q48 : At (Ty.val x2) s11 a13 (.tmp 35) := hx2
   have o11 : Own s11 7 3 1 x2 (List.length (lf.take (q / (fct (m - 1))))) (List.map Ty.int (lf.take (q / (fct (m - 1))))) := al2 (R := (Pr.own 7 3 1 (List.length (lf.take (q / (fct (m - 1))))) (List.map Ty.int (lf.take (q / (fct (m - 1))))))) hx2 (D9.done 4 (by decide))
   have q49 : At (Ty.lst Ty.int (lf.drop ((q / (fct (m - 1))) + 1))) s11 a13 (.tmp 39) := D9.done 8 (by decide)
   have b2 := sl_le q49
   clear D9
   refine tailL (L := [7]) (R := (fun v τ => Own τ 7 3 1 v ((List.length (lf.take (q / (fct (m - 1))))) + (List.length (lf.drop ((q / (fct (m - 1))) + 1)))) ((List.map Ty.int (lf.take (q / (fct (m - 1))))) ++ (List.map Ty.int (lf.drop ((q / (fct (m - 1))) + 1)))))) rfl rfl (by decide) ok12 (YldM.toL (m_append Try.underlying34 Try.inf3 (by decide) rfl (by decide) (al (R := (Pr.own 7 3 1 (List.length (lf.take (q / (fct (m - 1))))) (List.map Ty.int (lf.take (q / (fct (m - 1))))))) q48 o11) q49 (one_map (fun _ => one_val rfl)) (by omega) (by omega))) (fun a14 s12 hs3 ok13 r3 sm3 => ?_)
   have F13 := F12.stepL hs3 (by decide)
   have q50 : At (Ty.lst Ty.int lf) s12 a14 (.tmp 6) := kpL hs3 (by decide) (sm3 6 (by decide)) q45
   have q51 : At (Ty.nat (q % (fct (m - 1)))) s12 a14 (.tmp 1) := kpL hs3 (by decide) (sm3 1 (by decide)) q46
   have q52 : At (Ty.val x1) s12 a14 (.tmp 5) := kpL hs3 (by decide) (sm3 5 (by decide)) q47
   have o13 := Own.keepL o10 hs3 (by decide) (by decide)
   obtain ⟨x3, hx3⟩ : ∃ x, a14.eval (.tmp 40) = x := ⟨_, rfl⟩
   have q53 : At (Ty.val x3) s12 a14 (.tmp 40) := hx3
   have o12 : Own s12 7 3 1 x3 (List.length ((lf.take (q / (fct (m - 1)))) ++ (lf.drop ((q / (fct (m - 1))) + 1)))) (List.map Ty.int ((lf.take (q / (fct (m - 1)))) ++ (lf.drop ((q / (fct (m - 1))) + 1)))) := al2 (R := (Pr.own 7 3 1 (List.length ((lf.take (q / (fct (m - 1)))) ++ (lf.drop ((q / (fct (m - 1))) + 1)))) (List.map Ty.int ((lf.take (q / (fct (m - 1)))) ++ (lf.drop ((q / (fct (m - 1))) + 1)))))) hx3 (cvo (by simp) (by first | (rw [List.map_append]; rfl) | simp) r3)
   clear r3
   refine tailL (L := []) (R := (fun v τ => Pr.has (Ty.pr (Ty.val x3)) τ v)) rfl rfl (by decide) ok13 (Yld.toL (y_assign q53)) (fun a15 s13 hs4 ok14 r4 sm4 => ?_)
   have F14 := F13.stepL hs4 (by decide)
   have q54 : At (Ty.nat (q % (fct (m - 1)))) s13 a15 (.tmp 1) := kpL hs4 (by decide) (sm4 1 (by decide)) q51
   have q55 : At (Ty.val x1) s13 a15 (.tmp 5) := kpL hs4 (by decide) (sm4 5 (by decide)) q52
   have o14 := Own.keepL o13 hs4 (by decide) (by decide)
   have o15 := Own.keepL o12 hs4 (by decide) (by decide)
   have q56 : At (Ty.val x3) s13 a15 (.tmp 6) := r4
   clear r4
   refine wpList_nil ?_
   refine bn ?_
   obtain ⟨t3, e1, h1, q57⟩ := Own.seal o15 (by decide)
   rw [← e1]
   have F15 := F14.step h1 (by decide)
   have o16 := Own.keepL o14 (h1.toL (L := [7]) (by simp)) (by decide) (by decide)
   have q58 := Ty.up (Ty.nat (q % (fct (m - 1)))) (h1.le (by decide)) q54
   have q59 := Ty.up (Ty.val x1) (h1.le (by decide)) q55
   have q60 : At (Ty.lst Ty.int ((lf.take (q / (fct (m - 1)))) ++ (lf.drop ((q / (fct (m - 1))) + 1)))) t3 a15 (.tmp 6) := by have e : a15.eval (.tmp 6) = x3 := q56; show Ty.has _ _ _; rw [e]; exact q57
   exact tn ⟨((m - 1)) + 1, by omega, t3, (m - 1), (lf.eraseIdx (q / (fct (m - 1)))), (q % (fct (m - 1))), (os ++ [lf.getD (q / (fct (m - 1))) 0]), x1, rfl, F15, ok14, (cvt (by (rw [erase_eq])) q60), q59, (cvi (by (first | rfl | omega | (simp_all; done) | (simp_all; omega))) q58), (cvo (by (simp)) (by (simp)) o16), at_step hos (by omega), hdv.2, by rw [List.length_eraseIdx, if_pos (by omega)]; omega, by rw [List.length_append, List.length_singleton]; omega, rfl⟩
  ·
   refine wp_exit ?_
   refine tx ?_
   refine tx ?_
   refine bx ?_
   refine tn ?_
   refine wp_seq ?_
   refine reg (a := a6) (σ := s4) rfl (fun i_ => List.getD [(Ty.pr (Ty.val x5_0)), (Ty.pr (Ty.val x5_0))] i_ Pr.any) ok5 rfl ⟨?_, ?_, trivial⟩ ?_
   · intro ax tx hs okx sm
     exact run_plain rfl (y_move (kp (sm 5 rfl) hs q13))
   · intro ax tx hs okx sm d0 d1
     have e0 : At (Ty.val x5_0) tx ax (.tmp 41) := d0 rfl
     exact run_plain rfl (y_assign e0)
   intro a16 s14 D10
   have ok15 := D10.ok
   have F16 := F5.step0 D10.stp
   have o17 := Own.k0 o3 D10.stp
   have q61 : At (Ty.val x5_0) s14 a16 (.tmp 4) := D10.done 1
   clear D10
   refine tn ?_
   refine wp_ret ?_
   obtain ⟨t4, e2, h2, q62⟩ := Own.seal o17 (by decide)
   rw [← e2]
   have F17 := F16.step h2 (by decide)
   have q63 : At (Ty.lst Ty.int os) t4 a16 (.tmp 4) := by have e : a16.eval (.tmp 4) = x5_0 := q61; show Ty.has _ _ _; rw [e]; exact q62
   exact retL1 rfl ok15 F17 (cvt (by (rw [← hos, show m = 0 by omega, atF, List.append_nil])) q63)


set_option maxHeartbeats 4000000 in
set_option maxRecDepth 100000 in
theorem musicSays_fn (n : Int) (ts : List ByteArray) (rows : List (List Int)) (σ : GW)  (v0 v1 v2 : Value) (hv0 : Ty.has (Ty.int n) σ v0) (hv1 : Ty.has (Ty.lst Ty.str ts) σ v1) (hv2 : Ty.has (Ty.lst Ty.ints rows) σ v2)  (hn : -9223372036854775808 ≤ n ∧ n ≤ 9223372036854775807) (hts : ∀ t ∈ ts, t.size ≤ 17592186044416) :
    FnC Try.prog 6 #[v0, v1, v2] σ (Ty.bool true) := by
 refine fn_intro0 Try.func6 rfl Try.ntmps6 (Nat.le_of_ble_eq_true rfl) (fun s0 a0 hle F0 ok0 hargs => ?_)
 have p0 : At (Ty.int n) s0 a0 (.tmp 0) := by have e := hargs 0 _ rfl; show Ty.has _ _ _; rw [e]; exact Ty.up _ hle hv0
 have p1 : At (Ty.lst Ty.str ts) s0 a0 (.tmp 1) := by have e := hargs 1 _ rfl; show Ty.has _ _ _; rw [e]; exact Ty.up _ hle hv1
 have b1 := sl_le p1
 have p2 : At (Ty.lst Ty.ints rows) s0 a0 (.tmp 2) := by have e := hargs 2 _ rfl; show Ty.has _ _ _; rw [e]; exact Ty.up _ hle hv2
 have b2 := sl_le p2
 clear hargs
 refine wp_seq ?_
 refine reg (a := a0) (σ := s0) rfl (fun i_ => List.getD [(Ty.pr (Ty.bool false))] i_ Pr.any) ok0 rfl ⟨?_, trivial⟩ ?_
 · intro ax tx hs okx sm
   exact run_plain rfl (y_assign rfl)
 intro a1 s1 D1
 have ok1 := D1.ok
 have F1 := F0.step0 D1.stp
 have q1 : At (Ty.int n) s1 a1 (.tmp 0) := D1.kt p0 rfl
 have q2 : At (Ty.lst Ty.str ts) s1 a1 (.tmp 1) := D1.kt p1 rfl
 have q3 : At (Ty.lst Ty.ints rows) s1 a1 (.tmp 2) := D1.kt p2 rfl
 clear D1
 refine tn ?_
 refine wp_seq ?_
 refine wp_seq ?_
 refine reg (a := a1) (σ := s1) rfl (fun i_ => List.getD [(Ty.pr (Ty.lst Ty.ints rows)), (Ty.pr (Ty.nat (List.length rows))), (Ty.pr (Ty.bool (decide ((200 : Int) < (((List.length rows) : Nat) : Int))))), (Ty.pr (Ty.bool (decide ((200 : Int) < (((List.length rows) : Nat) : Int))))), (Ty.pr (Ty.grd ((decide ((200 : Int) < (((List.length rows) : Nat) : Int))) = true) (Ty.lst Ty.ints rows))), (Ty.pr (Ty.grd ((decide ((200 : Int) < (((List.length rows) : Nat) : Int))) = true) (Ty.nat (List.length rows)))), (Ty.pr (Ty.grd ((decide ((200 : Int) < (((List.length rows) : Nat) : Int))) = true) (Ty.bool (decide ((((List.length rows) : Nat) : Int) < (20002 : Int)))))), (Ty.pr (Ty.bool ((decide ((200 : Int) < (((List.length rows) : Nat) : Int))) && (decide ((((List.length rows) : Nat) : Int) < (20002 : Int))))))] i_ Pr.any) ok1 rfl ⟨?_, ?_, ?_, ?_, ?_, ?_, ?_, ?_, trivial⟩ ?_
 · intro ax tx hs okx sm
   exact run_plain rfl (y_move (kp (sm 2 rfl) hs q3))
 · intro ax tx hs okx sm d0
   have e0 : At (Ty.lst Ty.ints rows) tx ax (.tmp 18) := d0 rfl
   exact run_plain rfl (y_len Try.underlying33 e0)
 · intro ax tx hs okx sm d0
   have e1 : At (Ty.nat (List.length rows)) tx ax (.tmp 19) := d0 rfl
   exact run_plain rfl (y_gtr e1 rfl)
 · intro ax tx hs okx sm d0
   have e2 : At (Ty.bool (decide ((200 : Int) < (((List.length rows) : Nat) : Int)))) tx ax (.tmp 20) := d0 rfl
   exact run_plain rfl (y_move e2)
 · intro ax tx hs okx sm d0
   have e3 : At (Ty.bool (decide ((200 : Int) < (((List.length rows) : Nat) : Int)))) tx ax (.tmp 21) := d0 rfl
   refine run_guard (T := (Ty.lst Ty.ints rows)) okx rfl rfl (by decide) e3 (fun hg => ?_)
   have hp := of_decide_eq_true hg
   exact y_move (kp (sm 2 rfl) hs q3)
 · intro ax tx hs okx sm d0 d1
   have e4 : At (Ty.grd ((decide ((200 : Int) < (((List.length rows) : Nat) : Int))) = true) (Ty.lst Ty.ints rows)) tx ax (.tmp 22) := d0 rfl
   have e3 : At (Ty.bool (decide ((200 : Int) < (((List.length rows) : Nat) : Int)))) tx ax (.tmp 21) := d1 rfl
   refine run_guard (T := (Ty.nat (List.length rows))) okx rfl rfl (by decide) e3 (fun hg => ?_)
   have hp := of_decide_eq_true hg
   exact y_len Try.underlying33 (e4.1 hg)
 · intro ax tx hs okx sm d0 d1
   have e5 : At (Ty.grd ((decide ((200 : Int) < (((List.length rows) : Nat) : Int))) = true) (Ty.nat (List.length rows))) tx ax (.tmp 23) := d0 rfl
   have e3 : At (Ty.bool (decide ((200 : Int) < (((List.length rows) : Nat) : Int)))) tx ax (.tmp 21) := d1 rfl
   refine run_guard (T := (Ty.bool (decide ((((List.length rows) : Nat) : Int) < (20002 : Int))))) okx rfl rfl (by decide) e3 (fun hg => ?_)
   have hp := of_decide_eq_true hg
   exact y_lss (e5.1 hg) rfl
 · intro ax tx hs okx sm d0 d1
   have e3 : At (Ty.bool (decide ((200 : Int) < (((List.length rows) : Nat) : Int)))) tx ax (.tmp 21) := d0 rfl
   have e6 : At (Ty.grd ((decide ((200 : Int) < (((List.length rows) : Nat) : Int))) = true) (Ty.bool (decide ((((List.length rows) : Nat) : Int) < (20002 : Int))))) tx ax (.tmp 24) := d1 rfl
   exact run_plain rfl (y_pick_and e3 e6 rfl)
 intro a2 s2 D2
 have ok2 := D2.ok
 have F2 := F1.step0 D2.stp
 have q4 : At (Ty.int n) s2 a2 (.tmp 0) := D2.kt q1 rfl
 have q5 : At (Ty.lst Ty.str ts) s2 a2 (.tmp 1) := D2.kt q2 rfl
 have q6 : At (Ty.lst Ty.ints rows) s2 a2 (.tmp 2) := D2.kt q3 rfl
 have q7 : At (Ty.bool ((decide ((200 : Int) < (((List.length rows) : Nat) : Int))) && (decide ((((List.length rows) : Nat) : Int) < (20002 : Int))))) s2 a2 (.tmp 25) := D2.done 7
 clear D2
 refine tn ?_
 refine cond_t q7 (fun c1 => ?_) (fun c1 => ?_)
 ·
  obtain ⟨d1, d2⟩ := Bool.and_eq_true_iff.mp c1
  replace d1 := of_decide_eq_true d1
  replace d2 := of_decide_eq_true d2
  refine wp_seq ?_
  refine reg (a := a2) (σ := s2) rfl (fun i_ => List.getD [(Ty.pr (Ty.bool true))] i_ Pr.any) ok2 rfl ⟨?_, trivial⟩ ?_
  · intro ax tx hs okx sm
    exact run_plain rfl (y_assign rfl)
  intro a3 s3 D3
  have ok3 := D3.ok
  have F3 := F2.step0 D3.stp
  have q8 : At (Ty.bool true) s3 a3 (.tmp 6) := D3.done 0
  clear D3
  refine tn ?_
  refine wp_ret ?_
  refine tr ?_
  exact retL1 rfl ok3 F3 q8
 ·
  refine wp_skip ?_
  refine tn ?_
  refine wp_seq ?_
  refine reg (a := a2) (σ := s2) rfl (fun i_ => List.getD [(Ty.pr (Ty.int n)), (Ty.pr (Ty.lst Ty.str ts)), (Ty.pr (Ty.lst Ty.ints rows)), (Ty.pr (Ty.tup2 (Ty.lst Ty.int (if musMay n ts rows = 0 then musL ts rows else [])) (Ty.int (musMay n ts rows)))), (Ty.pr (Ty.tup2 (Ty.lst Ty.int (if musMay n ts rows = 0 then musL ts rows else [])) (Ty.int (musMay n ts rows)))), (Ty.pr (Ty.lst Ty.int (if musMay n ts rows = 0 then musL ts rows else []))), (Ty.pr (Ty.int (musMay n ts rows))), (Ty.pr (Ty.lst Ty.int (if musMay n ts rows = 0 then musL ts rows else []))), (Ty.pr (Ty.int (musMay n ts rows)))] i_ Pr.any) ok2 rfl ⟨?_, ?_, ?_, ?_, ?_, ?_, ?_, ?_, ?_, trivial⟩ ?_
  · intro ax tx hs okx sm
    exact run_plain rfl (y_move (kp (sm 0 rfl) hs q4))
  · intro ax tx hs okx sm
    exact run_plain rfl (y_move (kp (sm 1 rfl) hs q5))
  · intro ax tx hs okx sm
    exact run_plain rfl (y_move (kp (sm 2 rfl) hs q6))
  · intro ax tx hs okx sm d0 d1 d2
    have e0 : At (Ty.int n) tx ax (.tmp 27) := d0 rfl
    have e1 : At (Ty.lst Ty.str ts) tx ax (.tmp 28) := d1 rfl
    have e2 : At (Ty.lst Ty.ints rows) tx ax (.tmp 29) := d2 rfl
    exact run_plain rfl (y_call #[ax.eval (.tmp 27), ax.eval (.tmp 28), ax.eval (.tmp 29)] Try.func30 rfl rfl (by simp only [List.map_toArray, List.map_cons, List.map_nil]) (mucount_fn (n) (ts) (rows) _ _ _ _ e0 e1 e2 (by first | omega | assumption) (by first | omega | assumption)))
  · intro ax tx hs okx sm d0
    have e3 : At (Ty.tup2 (Ty.lst Ty.int (if musMay n ts rows = 0 then musL ts rows else [])) (Ty.int (musMay n ts rows))) tx ax (.tmp 30) := d0 rfl
    exact run_plain rfl (y_move e3)
  · intro ax tx hs okx sm d0
    have e4 : At (Ty.tup2 (Ty.lst Ty.int (if musMay n ts rows = 0 then musL ts rows else [])) (Ty.int (musMay n ts rows))) tx ax (.tmp 26) := d0 rfl
    exact run_plain rfl (y_ext2_0 e4)
  · intro ax tx hs okx sm d0 d1
    have e4 : At (Ty.tup2 (Ty.lst Ty.int (if musMay n ts rows = 0 then musL ts rows else [])) (Ty.int (musMay n ts rows))) tx ax (.tmp 26) := d0 rfl
    exact run_plain rfl (y_ext2_1 e4)
  · intro ax tx hs okx sm d0 d1 d2 d3 d4 d5 d6 d7 d8
    have e5 : At (Ty.lst Ty.int (if musMay n ts rows = 0 then musL ts rows else [])) tx ax (.tmp 31) := d0 rfl
    have e3 : At (Ty.tup2 (Ty.lst Ty.int (if musMay n ts rows = 0 then musL ts rows else [])) (Ty.int (musMay n ts rows))) tx ax (.tmp 30) := d1 rfl
    have e0 : At (Ty.int n) tx ax (.tmp 27) := d2 rfl
    have e1 : At (Ty.lst Ty.str ts) tx ax (.tmp 28) := d3 rfl
    have e2 : At (Ty.lst Ty.ints rows) tx ax (.tmp 29) := d4 rfl
    have e4 : At (Ty.tup2 (Ty.lst Ty.int (if musMay n ts rows = 0 then musL ts rows else [])) (Ty.int (musMay n ts rows))) tx ax (.tmp 26) := d6 rfl
    exact run_plain rfl (y_assign e5)
  · intro ax tx hs okx sm d0 d1 d2 d3 d4 d5 d6 d7 d8 d9
    have e6 : At (Ty.int (musMay n ts rows)) tx ax (.tmp 32) := d0 rfl
    have e7 : At (Ty.lst Ty.int (if musMay n ts rows = 0 then musL ts rows else [])) tx ax (.tmp 7) := d1 rfl
    have e0 : At (Ty.int n) tx ax (.tmp 27) := d2 rfl
    have e1 : At (Ty.lst Ty.str ts) tx ax (.tmp 28) := d3 rfl
    have e2 : At (Ty.lst Ty.ints rows) tx ax (.tmp 29) := d4 rfl
    have e3 : At (Ty.tup2 (Ty.lst Ty.int (if musMay n ts rows = 0 then musL ts rows else [])) (Ty.int (musMay n ts rows))) tx ax (.tmp 30) := d5 rfl
    have e4 : At (Ty.tup2 (Ty.lst Ty.int (if musMay n ts rows = 0 then musL ts rows else [])) (Ty.int (musMay n ts rows))) tx ax (.tmp 26) := d6 rfl
    have e5 : At (Ty.lst Ty.int (if musMay n ts rows = 0 then musL ts rows else [])) tx ax (.tmp 31) := d7 rfl
    exact run_plain rfl (y_assign e6)
  intro a4 s4 D4
  have ok4 := D4.ok
  have F4 := F2.step0 D4.stp
  have q9 : At (Ty.int n) s4 a4 (.tmp 0) := D4.kt q4 rfl
  have q10 : At (Ty.lst Ty.str ts) s4 a4 (.tmp 1) := D4.kt q5 rfl
  have q11 : At (Ty.lst Ty.ints rows) s4 a4 (.tmp 2) := D4.kt q6 rfl
  have q12 : At (Ty.lst Ty.int (if musMay n ts rows = 0 then musL ts rows else [])) s4 a4 (.tmp 7) := D4.done 7
  have q13 : At (Ty.int (musMay n ts rows)) s4 a4 (.tmp 8) := D4.done 8
  clear D4
  refine tn ?_
  refine wp_seq ?_
  refine reg (a := a4) (σ := s4) rfl (fun i_ => List.getD [(Ty.pr (Ty.int n)), (Ty.pr (Ty.lst Ty.str ts)), (Ty.pr (Ty.lst Ty.ints rows)), (Ty.pr (Ty.tup2 (Ty.lst Ty.int (if musMay n ts rows = 0 then musL ts rows else [])) (Ty.int (musMay n ts rows)))), (Ty.pr (Ty.tup2 (Ty.lst Ty.int (if musMay n ts rows = 0 then musL ts rows else [])) (Ty.int (musMay n ts rows)))), (Ty.pr (Ty.lst Ty.int (if musMay n ts rows = 0 then musL ts rows else []))), (Ty.pr (Ty.int (musMay n ts rows))), (Ty.pr (Ty.lst Ty.int (if musMay n ts rows = 0 then musL ts rows else []))), (Ty.pr (Ty.int (musMay n ts rows)))] i_ Pr.any) ok4 rfl ⟨?_, ?_, ?_, ?_, ?_, ?_, ?_, ?_, ?_, trivial⟩ ?_
  · intro ax tx hs okx sm
    exact run_plain rfl (y_move (kp (sm 0 rfl) hs q9))
  · intro ax tx hs okx sm
    exact run_plain rfl (y_move (kp (sm 1 rfl) hs q10))
  · intro ax tx hs okx sm
    exact run_plain rfl (y_move (kp (sm 2 rfl) hs q11))
  · intro ax tx hs okx sm d0 d1 d2
    have e0 : At (Ty.int n) tx ax (.tmp 34) := d0 rfl
    have e1 : At (Ty.lst Ty.str ts) tx ax (.tmp 35) := d1 rfl
    have e2 : At (Ty.lst Ty.ints rows) tx ax (.tmp 36) := d2 rfl
    exact run_plain rfl (y_call #[ax.eval (.tmp 34), ax.eval (.tmp 35), ax.eval (.tmp 36)] Try.func31 rfl rfl (by simp only [List.map_toArray, List.map_cons, List.map_nil]) (rMusic_fn (n) (ts) (rows) _ _ _ _ e0 e1 e2 (by first | omega | assumption) (by first | omega | assumption)))
  · intro ax tx hs okx sm d0
    have e3 : At (Ty.tup2 (Ty.lst Ty.int (if musMay n ts rows = 0 then musL ts rows else [])) (Ty.int (musMay n ts rows))) tx ax (.tmp 37) := d0 rfl
    exact run_plain rfl (y_move e3)
  · intro ax tx hs okx sm d0
    have e4 : At (Ty.tup2 (Ty.lst Ty.int (if musMay n ts rows = 0 then musL ts rows else [])) (Ty.int (musMay n ts rows))) tx ax (.tmp 33) := d0 rfl
    exact run_plain rfl (y_ext2_0 e4)
  · intro ax tx hs okx sm d0 d1
    have e4 : At (Ty.tup2 (Ty.lst Ty.int (if musMay n ts rows = 0 then musL ts rows else [])) (Ty.int (musMay n ts rows))) tx ax (.tmp 33) := d0 rfl
    exact run_plain rfl (y_ext2_1 e4)
  · intro ax tx hs okx sm d0 d1 d2 d3 d4 d5 d6 d7 d8
    have e5 : At (Ty.lst Ty.int (if musMay n ts rows = 0 then musL ts rows else [])) tx ax (.tmp 38) := d0 rfl
    have e3 : At (Ty.tup2 (Ty.lst Ty.int (if musMay n ts rows = 0 then musL ts rows else [])) (Ty.int (musMay n ts rows))) tx ax (.tmp 37) := d1 rfl
    have e0 : At (Ty.int n) tx ax (.tmp 34) := d2 rfl
    have e1 : At (Ty.lst Ty.str ts) tx ax (.tmp 35) := d3 rfl
    have e2 : At (Ty.lst Ty.ints rows) tx ax (.tmp 36) := d4 rfl
    have e4 : At (Ty.tup2 (Ty.lst Ty.int (if musMay n ts rows = 0 then musL ts rows else [])) (Ty.int (musMay n ts rows))) tx ax (.tmp 33) := d6 rfl
    exact run_plain rfl (y_assign e5)
  · intro ax tx hs okx sm d0 d1 d2 d3 d4 d5 d6 d7 d8 d9
    have e6 : At (Ty.int (musMay n ts rows)) tx ax (.tmp 39) := d0 rfl
    have e7 : At (Ty.lst Ty.int (if musMay n ts rows = 0 then musL ts rows else [])) tx ax (.tmp 9) := d1 rfl
    have e0 : At (Ty.int n) tx ax (.tmp 34) := d2 rfl
    have e1 : At (Ty.lst Ty.str ts) tx ax (.tmp 35) := d3 rfl
    have e2 : At (Ty.lst Ty.ints rows) tx ax (.tmp 36) := d4 rfl
    have e3 : At (Ty.tup2 (Ty.lst Ty.int (if musMay n ts rows = 0 then musL ts rows else [])) (Ty.int (musMay n ts rows))) tx ax (.tmp 37) := d5 rfl
    have e4 : At (Ty.tup2 (Ty.lst Ty.int (if musMay n ts rows = 0 then musL ts rows else [])) (Ty.int (musMay n ts rows))) tx ax (.tmp 33) := d6 rfl
    have e5 : At (Ty.lst Ty.int (if musMay n ts rows = 0 then musL ts rows else [])) tx ax (.tmp 38) := d7 rfl
    exact run_plain rfl (y_assign e6)
  intro a5 s5 D5
  have ok5 := D5.ok
  have F5 := F4.step0 D5.stp
  have q14 : At (Ty.int n) s5 a5 (.tmp 0) := D5.kt q9 rfl
  have q15 : At (Ty.lst Ty.str ts) s5 a5 (.tmp 1) := D5.kt q10 rfl
  have q16 : At (Ty.lst Ty.int (if musMay n ts rows = 0 then musL ts rows else [])) s5 a5 (.tmp 7) := D5.kt q12 rfl
  have q17 : At (Ty.int (musMay n ts rows)) s5 a5 (.tmp 8) := D5.kt q13 rfl
  have q18 : At (Ty.lst Ty.int (if musMay n ts rows = 0 then musL ts rows else [])) s5 a5 (.tmp 9) := D5.done 7
  have q19 : At (Ty.int (musMay n ts rows)) s5 a5 (.tmp 10) := D5.done 8
  clear D5
  refine tn ?_
  refine wp_seq ?_
  refine wp_seq ?_
  refine reg (a := a5) (σ := s5) rfl (fun i_ => List.getD [(Ty.pr (Ty.int (musMay n ts rows))), (Ty.pr (Ty.int (musMay n ts rows))), (Ty.pr (Ty.bool (decide ((musMay n ts rows) ≠ (musMay n ts rows))))), (Ty.pr (Ty.bool (decide ((musMay n ts rows) ≠ (musMay n ts rows))))), (Ty.pr (Ty.grd ((decide ((musMay n ts rows) ≠ (musMay n ts rows))) = false) (Ty.lst Ty.int (if musMay n ts rows = 0 then musL ts rows else [])))), (Ty.pr (Ty.grd ((decide ((musMay n ts rows) ≠ (musMay n ts rows))) = false) (Ty.lst Ty.int (if musMay n ts rows = 0 then musL ts rows else [])))), (Ty.pr (Ty.grd ((decide ((musMay n ts rows) ≠ (musMay n ts rows))) = false) (Ty.bool (decide (((if musMay n ts rows = 0 then musL ts rows else [])) = ((if musMay n ts rows = 0 then musL ts rows else []))))))), (Ty.pr (Ty.grd ((decide ((musMay n ts rows) ≠ (musMay n ts rows))) = false) (Ty.bool (!(decide (((if musMay n ts rows = 0 then musL ts rows else [])) = ((if musMay n ts rows = 0 then musL ts rows else [])))))))), (Ty.pr (Ty.bool ((decide ((musMay n ts rows) ≠ (musMay n ts rows))) || (!(decide (((if musMay n ts rows = 0 then musL ts rows else [])) = ((if musMay n ts rows = 0 then musL ts rows else []))))))))] i_ Pr.any) ok5 rfl ⟨?_, ?_, ?_, ?_, ?_, ?_, ?_, ?_, ?_, trivial⟩ ?_
  · intro ax tx hs okx sm
    exact run_plain rfl (y_move (kp (sm 8 rfl) hs q17))
  · intro ax tx hs okx sm
    exact run_plain rfl (y_move (kp (sm 10 rfl) hs q19))
  · intro ax tx hs okx sm d0 d1
    have e0 : At (Ty.int (musMay n ts rows)) tx ax (.tmp 40) := d0 rfl
    have e1 : At (Ty.int (musMay n ts rows)) tx ax (.tmp 41) := d1 rfl
    exact run_plain rfl (y_neq e0 e1)
  · intro ax tx hs okx sm d0
    have e2 : At (Ty.bool (decide ((musMay n ts rows) ≠ (musMay n ts rows)))) tx ax (.tmp 42) := d0 rfl
    exact run_plain rfl (y_move e2)
  · intro ax tx hs okx sm d0
    have e3 : At (Ty.bool (decide ((musMay n ts rows) ≠ (musMay n ts rows)))) tx ax (.tmp 43) := d0 rfl
    refine run_guard (T := (Ty.lst Ty.int (if musMay n ts rows = 0 then musL ts rows else []))) okx rfl rfl (by decide) e3 (fun hg => ?_)
    have hp := of_decide_eq_false hg
    exact y_move (kp (sm 7 rfl) hs q16)
  · intro ax tx hs okx sm d0
    have e3 : At (Ty.bool (decide ((musMay n ts rows) ≠ (musMay n ts rows)))) tx ax (.tmp 43) := d0 rfl
    refine run_guard (T := (Ty.lst Ty.int (if musMay n ts rows = 0 then musL ts rows else []))) okx rfl rfl (by decide) e3 (fun hg => ?_)
    have hp := of_decide_eq_false hg
    exact y_move (kp (sm 9 rfl) hs q18)
  · intro ax tx hs okx sm d0 d1 d2 d3
    have e4 : At (Ty.grd ((decide ((musMay n ts rows) ≠ (musMay n ts rows))) = false) (Ty.lst Ty.int (if musMay n ts rows = 0 then musL ts rows else []))) tx ax (.tmp 44) := d0 rfl
    have e5 : At (Ty.grd ((decide ((musMay n ts rows) ≠ (musMay n ts rows))) = false) (Ty.lst Ty.int (if musMay n ts rows = 0 then musL ts rows else []))) tx ax (.tmp 45) := d1 rfl
    have e3 : At (Ty.bool (decide ((musMay n ts rows) ≠ (musMay n ts rows)))) tx ax (.tmp 43) := d2 rfl
    refine run_guard (T := (Ty.bool (decide (((if musMay n ts rows = 0 then musL ts rows else [])) = ((if musMay n ts rows = 0 then musL ts rows else [])))))) okx rfl rfl (by decide) e3 (fun hg => ?_)
    have hp := of_decide_eq_false hg
    exact y_call #[ax.eval (.tmp 44), ax.eval (.tmp 45)] Try.func25 rfl rfl (by simp only [List.map_toArray, List.map_cons, List.map_nil]) (rsame_fn ((if musMay n ts rows = 0 then musL ts rows else [])) ((if musMay n ts rows = 0 then musL ts rows else [])) _ _ _ (e4.1 hg) (e5.1 hg) )
  · intro ax tx hs okx sm d0 d1
    have e6 : At (Ty.grd ((decide ((musMay n ts rows) ≠ (musMay n ts rows))) = false) (Ty.bool (decide (((if musMay n ts rows = 0 then musL ts rows else [])) = ((if musMay n ts rows = 0 then musL ts rows else [])))))) tx ax (.tmp 46) := d0 rfl
    have e3 : At (Ty.bool (decide ((musMay n ts rows) ≠ (musMay n ts rows)))) tx ax (.tmp 43) := d1 rfl
    refine run_guard (T := (Ty.bool (!(decide (((if musMay n ts rows = 0 then musL ts rows else [])) = ((if musMay n ts rows = 0 then musL ts rows else []))))))) okx rfl rfl (by decide) e3 (fun hg => ?_)
    have hp := of_decide_eq_false hg
    exact y_not (e6.1 hg)
  · intro ax tx hs okx sm d0 d1
    have e3 : At (Ty.bool (decide ((musMay n ts rows) ≠ (musMay n ts rows)))) tx ax (.tmp 43) := d0 rfl
    have e7 : At (Ty.grd ((decide ((musMay n ts rows) ≠ (musMay n ts rows))) = false) (Ty.bool (!(decide (((if musMay n ts rows = 0 then musL ts rows else [])) = ((if musMay n ts rows = 0 then musL ts rows else []))))))) tx ax (.tmp 47) := d1 rfl
    exact run_plain rfl (y_pick_or e3 rfl e7)
  intro a6 s6 D6
  have ok6 := D6.ok
  have F6 := F5.step0 D6.stp
  have q20 : At (Ty.int n) s6 a6 (.tmp 0) := D6.kt q14 rfl
  have q21 : At (Ty.lst Ty.str ts) s6 a6 (.tmp 1) := D6.kt q15 rfl
  have q22 : At (Ty.bool ((decide ((musMay n ts rows) ≠ (musMay n ts rows))) || (!(decide (((if musMay n ts rows = 0 then musL ts rows else [])) = ((if musMay n ts rows = 0 then musL ts rows else []))))))) s6 a6 (.tmp 48) := D6.done 8
  clear D6
  refine tn ?_
  refine cond_t q22 (fun c2 => ?_) (fun c2 => ?_)
  ·
   exfalso
   simp at c2
  ·
   obtain ⟨d3, d4⟩ := Bool.or_eq_false_iff.mp c2
   replace d3 := of_decide_eq_false d3
   refine wp_skip ?_
   refine tn ?_
   refine wp_seq ?_
   refine wp_seq ?_
   refine reg (a := a6) (σ := s6) rfl (fun i_ => List.getD [(Ty.pr (Ty.int (0 : Int)))] i_ Pr.any) ok6 rfl ⟨?_, trivial⟩ ?_
   · intro ax tx hs okx sm
     exact run_plain rfl (y_assign rfl)
   intro a7 s7 D7
   have ok7 := D7.ok
   have F7 := F6.step0 D7.stp
   have q23 : At (Ty.int n) s7 a7 (.tmp 0) := D7.kt q20 rfl
   have q24 : At (Ty.lst Ty.str ts) s7 a7 (.tmp 1) := D7.kt q21 rfl
   have q25 : At (Ty.int (0 : Int)) s7 a7 (.tmp 11) := D7.done 0
   clear D7
   refine tn ?_
   refine wp_block ?_
   refine loop (fun n1 a8 w1 => ∃ (t1 : GW) (i : Nat), t1.w = w1 ∧ FromL [] s0 t1 ∧ Ok 121 a8 ∧ At (Ty.nat i) t1 a8 (.tmp 11) ∧ At (Ty.int n) t1 a8 (.tmp 0) ∧ At (Ty.lst Ty.str ts) t1 a8 (.tmp 1) ∧ (i ≤ ts.length) ∧ n1 = ts.length - i) (ts.length - (0)) ?_ ?_
   ·
    exact ⟨s7, 0, rfl, F7, ok7, (cvi (by (first | rfl | omega | (simp_all; done) | (simp_all; omega))) q25), q23, q24, by omega, rfl⟩
   ·
    rintro n2 a9 w2 ⟨t2, i, rfl, F8, ok8, q26, q27, q28, hi, rfl⟩
    refine wp_seq ?_
    refine wp_seq ?_
    refine reg (a := a9) (σ := t2) rfl (fun i_ => List.getD [(Ty.pr (Ty.nat i)), (Ty.pr (Ty.lst Ty.str ts)), (Ty.pr (Ty.nat (List.length ts))), (Ty.pr (Ty.bool (decide (((i : Nat) : Int) < (((List.length ts) : Nat) : Int))))), (Ty.pr (Ty.bool (decide (((i : Nat) : Int) < (((List.length ts) : Nat) : Int))))), (Ty.pr (Ty.grd ((decide (((i : Nat) : Int) < (((List.length ts) : Nat) : Int))) = true) (Ty.nat i))), (Ty.pr (Ty.grd ((decide (((i : Nat) : Int) < (((List.length ts) : Nat) : Int))) = true) (Ty.bool (decide (((i : Nat) : Int) < (60 : Int)))))), (Ty.pr (Ty.bool ((decide (((i : Nat) : Int) < (((List.length ts) : Nat) : Int))) && (decide (((i : Nat) : Int) < (60 : Int))))))] i_ Pr.any) ok8 rfl ⟨?_, ?_, ?_, ?_, ?_, ?_, ?_, ?_, trivial⟩ ?_
    · intro ax tx hs okx sm
      exact run_plain rfl (y_move (kp (sm 11 rfl) hs q26))
    · intro ax tx hs okx sm
      exact run_plain rfl (y_move (kp (sm 1 rfl) hs q28))
    · intro ax tx hs okx sm d0
      have e1 : At (Ty.lst Ty.str ts) tx ax (.tmp 50) := d0 rfl
      exact run_plain rfl (y_len Try.underlying55 e1)
    · intro ax tx hs okx sm d0 d1
      have e0 : At (Ty.nat i) tx ax (.tmp 49) := d0 rfl
      have e2 : At (Ty.nat (List.length ts)) tx ax (.tmp 51) := d1 rfl
      exact run_plain rfl (y_lss e0 e2)
    · intro ax tx hs okx sm d0
      have e3 : At (Ty.bool (decide (((i : Nat) : Int) < (((List.length ts) : Nat) : Int)))) tx ax (.tmp 52) := d0 rfl
      exact run_plain rfl (y_move e3)
    · intro ax tx hs okx sm d0
      have e4 : At (Ty.bool (decide (((i : Nat) : Int) < (((List.length ts) : Nat) : Int)))) tx ax (.tmp 53) := d0 rfl
      refine run_guard (T := (Ty.nat i)) okx rfl rfl (by decide) e4 (fun hg => ?_)
      have hp := of_decide_eq_true hg
      exact y_move (kp (sm 11 rfl) hs q26)
    · intro ax tx hs okx sm d0 d1
      have e5 : At (Ty.grd ((decide (((i : Nat) : Int) < (((List.length ts) : Nat) : Int))) = true) (Ty.nat i)) tx ax (.tmp 54) := d0 rfl
      have e4 : At (Ty.bool (decide (((i : Nat) : Int) < (((List.length ts) : Nat) : Int)))) tx ax (.tmp 53) := d1 rfl
      refine run_guard (T := (Ty.bool (decide (((i : Nat) : Int) < (60 : Int))))) okx rfl rfl (by decide) e4 (fun hg => ?_)
      have hp := of_decide_eq_true hg
      exact y_lss (e5.1 hg) rfl
    · intro ax tx hs okx sm d0 d1
      have e4 : At (Ty.bool (decide (((i : Nat) : Int) < (((List.length ts) : Nat) : Int)))) tx ax (.tmp 53) := d0 rfl
      have e6 : At (Ty.grd ((decide (((i : Nat) : Int) < (((List.length ts) : Nat) : Int))) = true) (Ty.bool (decide (((i : Nat) : Int) < (60 : Int))))) tx ax (.tmp 55) := d1 rfl
      exact run_plain rfl (y_pick_and e4 e6 rfl)
    intro a10 s8 D8
    have ok9 := D8.ok
    have F9 := F8.step0 D8.stp
    have q29 : At (Ty.nat i) s8 a10 (.tmp 11) := D8.kt q26 rfl
    have q30 : At (Ty.int n) s8 a10 (.tmp 0) := D8.kt q27 rfl
    have q31 : At (Ty.lst Ty.str ts) s8 a10 (.tmp 1) := D8.kt q28 rfl
    have q32 : At (Ty.bool ((decide (((i : Nat) : Int) < (((List.length ts) : Nat) : Int))) && (decide (((i : Nat) : Int) < (60 : Int))))) s8 a10 (.tmp 56) := D8.done 7
    clear D8
    refine tn ?_
    refine cond_t q32 (fun c3 => ?_) (fun c3 => ?_)
    ·
     obtain ⟨d5, d6⟩ := Bool.and_eq_true_iff.mp c3
     replace d5 := of_decide_eq_true d5
     replace d6 := of_decide_eq_true d6
     simp only [Bool.and_eq_true, decide_eq_true_eq] at c3; have htz := hts _ (mem_getD ByteArray.empty (show i < ts.length by omega))
     refine wp_skip ?_
     refine tn ?_
     refine wp_seq ?_
     refine wp_block ?_
     refine wp_seq ?_
     refine reg (a := a10) (σ := s8) rfl (fun i_ => List.getD [(Ty.pr (Ty.int n)), (Ty.pr (Ty.lst Ty.str ts)), (Ty.pr (Ty.nat i)), (Ty.pr (Ty.ref [(Ty.val (Value.string (ts.getD i ByteArray.empty)))])), (Ty.pr (Ty.val (Value.string (ts.getD i ByteArray.empty)))), (Ty.pr (Ty.int (patMay n (runsL ((ts.getD i ByteArray.empty)))))), (Ty.pr (Ty.int (patMay n (runsL ((ts.getD i ByteArray.empty))))))] i_ Pr.any) ok9 rfl ⟨?_, ?_, ?_, ?_, ?_, ?_, ?_, trivial⟩ ?_
     · intro ax tx hs okx sm
       exact run_plain rfl (y_move (kp (sm 0 rfl) hs q30))
     · intro ax tx hs okx sm
       exact run_plain rfl (y_move (kp (sm 1 rfl) hs q31))
     · intro ax tx hs okx sm
       exact run_plain rfl (y_move (kp (sm 11 rfl) hs q29))
     · intro ax tx hs okx sm d0 d1
       have e1 : At (Ty.lst Ty.str ts) tx ax (.tmp 60) := d0 rfl
       have e2 : At (Ty.nat i) tx ax (.tmp 61) := d1 rfl
       exact run_plain rfl (y_index1 Try.underlying55 Try.inf9 e1 e2 (by omega) (lst_get Ty.str ts ByteArray.empty i (by omega)))
     · intro ax tx hs okx sm d0
       have e3 : At (Ty.ref [(Ty.val (Value.string (ts.getD i ByteArray.empty)))]) tx ax (.tmp 62) := d0 rfl
       exact run_plain rfl (y_load Try.underlying9 rfl e3 rfl)
     · intro ax tx hs okx sm d0 d1
       have e0 : At (Ty.int n) tx ax (.tmp 59) := d0 rfl
       have e4 : At (Ty.val (Value.string (ts.getD i ByteArray.empty))) tx ax (.tmp 63) := d1 rfl
       exact run_plain rfl (y_call #[ax.eval (.tmp 59), ax.eval (.tmp 63)] Try.func32 rfl rfl (by simp only [List.map_toArray, List.map_cons, List.map_nil]) (rPatternMay_fn (n) ((ts.getD i ByteArray.empty)) _ _ _ e0 e4 (by omega) (by omega)))
     · intro ax tx hs okx sm d0 d1 d2 d3 d4 d5 d6 d7
       have e5 : At (Ty.int (patMay n (runsL ((ts.getD i ByteArray.empty))))) tx ax (.tmp 64) := d0 rfl
       have e0 : At (Ty.int n) tx ax (.tmp 59) := d2 rfl
       have e1 : At (Ty.lst Ty.str ts) tx ax (.tmp 60) := d3 rfl
       have e2 : At (Ty.nat i) tx ax (.tmp 61) := d4 rfl
       have e3 : At (Ty.ref [(Ty.val (Value.string (ts.getD i ByteArray.empty)))]) tx ax (.tmp 62) := d5 rfl
       have e4 : At (Ty.val (Value.string (ts.getD i ByteArray.empty))) tx ax (.tmp 63) := d6 rfl
       exact run_plain rfl (y_assign e5)
     intro a11 s9 D9
     have ok10 := D9.ok
     have F10 := F9.step0 D9.stp
     have q33 : At (Ty.nat i) s9 a11 (.tmp 11) := D9.kt q29 rfl
     have q34 : At (Ty.int n) s9 a11 (.tmp 0) := D9.kt q30 rfl
     have q35 : At (Ty.lst Ty.str ts) s9 a11 (.tmp 1) := D9.kt q31 rfl
     have q36 : At (Ty.int (patMay n (runsL ((ts.getD i ByteArray.empty))))) s9 a11 (.tmp 12) := D9.done 6
     clear D9
     refine tn ?_
     refine wp_seq ?_
     refine reg (a := a11) (σ := s9) rfl (fun i_ => List.getD [(Ty.pr (Ty.int n)), (Ty.pr (Ty.lst Ty.str ts)), (Ty.pr (Ty.nat i)), (Ty.pr (Ty.ref [(Ty.val (Value.string (ts.getD i ByteArray.empty)))])), (Ty.pr (Ty.val (Value.string (ts.getD i ByteArray.empty)))), (Ty.pr (Ty.tup2 (Ty.nat (if patMay n (runsL ((ts.getD i ByteArray.empty))) = 0 then fct ((n).toNat - (fixL (List.map bellQ (frR (runsL ((ts.getD i ByteArray.empty))))) + fixL (List.map bellQ (bkR (runsL ((ts.getD i ByteArray.empty))))))) else 0)) (Ty.int (patMay n (runsL ((ts.getD i ByteArray.empty))))))), (Ty.pr (Ty.tup2 (Ty.nat (if patMay n (runsL ((ts.getD i ByteArray.empty))) = 0 then fct ((n).toNat - (fixL (List.map bellQ (frR (runsL ((ts.getD i ByteArray.empty))))) + fixL (List.map bellQ (bkR (runsL ((ts.getD i ByteArray.empty))))))) else 0)) (Ty.int (patMay n (runsL ((ts.getD i ByteArray.empty))))))), (Ty.pr (Ty.nat (if patMay n (runsL ((ts.getD i ByteArray.empty))) = 0 then fct ((n).toNat - (fixL (List.map bellQ (frR (runsL ((ts.getD i ByteArray.empty))))) + fixL (List.map bellQ (bkR (runsL ((ts.getD i ByteArray.empty))))))) else 0))), (Ty.pr (Ty.int (patMay n (runsL ((ts.getD i ByteArray.empty)))))), (Ty.pr (Ty.nat (if patMay n (runsL ((ts.getD i ByteArray.empty))) = 0 then fct ((n).toNat - (fixL (List.map bellQ (frR (runsL ((ts.getD i ByteArray.empty))))) + fixL (List.map bellQ (bkR (runsL ((ts.getD i ByteArray.empty))))))) else 0))), (Ty.pr (Ty.int (patMay n (runsL ((ts.getD i ByteArray.empty))))))] i_ Pr.any) ok10 rfl ⟨?_, ?_, ?_, ?_, ?_, ?_, ?_, ?_, ?_, ?_, ?_, trivial⟩ ?_
     · intro ax tx hs okx sm
       exact run_plain rfl (y_move (kp (sm 0 rfl) hs q34))
     · intro ax tx hs okx sm
       exact run_plain rfl (y_move (kp (sm 1 rfl) hs q35))
     · intro ax tx hs okx sm
       exact run_plain rfl (y_move (kp (sm 11 rfl) hs q33))
     · intro ax tx hs okx sm d0 d1
       have e1 : At (Ty.lst Ty.str ts) tx ax (.tmp 67) := d0 rfl
       have e2 : At (Ty.nat i) tx ax (.tmp 68) := d1 rfl
       exact run_plain rfl (y_index1 Try.underlying55 Try.inf9 e1 e2 (by omega) (lst_get Ty.str ts ByteArray.empty i (by omega)))
     · intro ax tx hs okx sm d0
       have e3 : At (Ty.ref [(Ty.val (Value.string (ts.getD i ByteArray.empty)))]) tx ax (.tmp 69) := d0 rfl
       exact run_plain rfl (y_load Try.underlying9 rfl e3 rfl)
     · intro ax tx hs okx sm d0 d1
       have e0 : At (Ty.int n) tx ax (.tmp 66) := d0 rfl
       have e4 : At (Ty.val (Value.string (ts.getD i ByteArray.empty))) tx ax (.tmp 70) := d1 rfl
       exact run_plain rfl (y_call #[ax.eval (.tmp 66), ax.eval (.tmp 70)] Try.func33 rfl rfl (by simp only [List.map_toArray, List.map_cons, List.map_nil]) (muall_fn (n) ((ts.getD i ByteArray.empty)) _ _ _ e0 e4 (by omega) (by omega)))
     · intro ax tx hs okx sm d0
       have e5 : At (Ty.tup2 (Ty.nat (if patMay n (runsL ((ts.getD i ByteArray.empty))) = 0 then fct ((n).toNat - (fixL (List.map bellQ (frR (runsL ((ts.getD i ByteArray.empty))))) + fixL (List.map bellQ (bkR (runsL ((ts.getD i ByteArray.empty))))))) else 0)) (Ty.int (patMay n (runsL ((ts.getD i ByteArray.empty)))))) tx ax (.tmp 71) := d0 rfl
       exact run_plain rfl (y_move e5)
     · intro ax tx hs okx sm d0
       have e6 : At (Ty.tup2 (Ty.nat (if patMay n (runsL ((ts.getD i ByteArray.empty))) = 0 then fct ((n).toNat - (fixL (List.map bellQ (frR (runsL ((ts.getD i ByteArray.empty))))) + fixL (List.map bellQ (bkR (runsL ((ts.getD i ByteArray.empty))))))) else 0)) (Ty.int (patMay n (runsL ((ts.getD i ByteArray.empty)))))) tx ax (.tmp 65) := d0 rfl
       exact run_plain rfl (y_ext2_0 e6)
     · intro ax tx hs okx sm d0 d1
       have e6 : At (Ty.tup2 (Ty.nat (if patMay n (runsL ((ts.getD i ByteArray.empty))) = 0 then fct ((n).toNat - (fixL (List.map bellQ (frR (runsL ((ts.getD i ByteArray.empty))))) + fixL (List.map bellQ (bkR (runsL ((ts.getD i ByteArray.empty))))))) else 0)) (Ty.int (patMay n (runsL ((ts.getD i ByteArray.empty)))))) tx ax (.tmp 65) := d0 rfl
       exact run_plain rfl (y_ext2_1 e6)
     · intro ax tx hs okx sm d0 d1 d2 d3 d4 d5 d6 d7 d8 d9 d10
       have e7 : At (Ty.nat (if patMay n (runsL ((ts.getD i ByteArray.empty))) = 0 then fct ((n).toNat - (fixL (List.map bellQ (frR (runsL ((ts.getD i ByteArray.empty))))) + fixL (List.map bellQ (bkR (runsL ((ts.getD i ByteArray.empty))))))) else 0)) tx ax (.tmp 72) := d0 rfl
       have e5 : At (Ty.tup2 (Ty.nat (if patMay n (runsL ((ts.getD i ByteArray.empty))) = 0 then fct ((n).toNat - (fixL (List.map bellQ (frR (runsL ((ts.getD i ByteArray.empty))))) + fixL (List.map bellQ (bkR (runsL ((ts.getD i ByteArray.empty))))))) else 0)) (Ty.int (patMay n (runsL ((ts.getD i ByteArray.empty)))))) tx ax (.tmp 71) := d1 rfl
       have e0 : At (Ty.int n) tx ax (.tmp 66) := d2 rfl
       have e1 : At (Ty.lst Ty.str ts) tx ax (.tmp 67) := d3 rfl
       have e2 : At (Ty.nat i) tx ax (.tmp 68) := d4 rfl
       have e3 : At (Ty.ref [(Ty.val (Value.string (ts.getD i ByteArray.empty)))]) tx ax (.tmp 69) := d5 rfl
       have e4 : At (Ty.val (Value.string (ts.getD i ByteArray.empty))) tx ax (.tmp 70) := d6 rfl
       have e6 : At (Ty.tup2 (Ty.nat (if patMay n (runsL ((ts.getD i ByteArray.empty))) = 0 then fct ((n).toNat - (fixL (List.map bellQ (frR (runsL ((ts.getD i ByteArray.empty))))) + fixL (List.map bellQ (bkR (runsL ((ts.getD i ByteArray.empty))))))) else 0)) (Ty.int (patMay n (runsL ((ts.getD i ByteArray.empty)))))) tx ax (.tmp 65) := d8 rfl
       exact run_plain rfl (y_assign e7)
     · intro ax tx hs okx sm d0 d1 d2 d3 d4 d5 d6 d7 d8 d9 d10 d11
       have e8 : At (Ty.int (patMay n (runsL ((ts.getD i ByteArray.empty))))) tx ax (.tmp 73) := d0 rfl
       have e9 : At (Ty.nat (if patMay n (runsL ((ts.getD i ByteArray.empty))) = 0 then fct ((n).toNat - (fixL (List.map bellQ (frR (runsL ((ts.getD i ByteArray.empty))))) + fixL (List.map bellQ (bkR (runsL ((ts.getD i ByteArray.empty))))))) else 0)) tx ax (.tmp 13) := d1 rfl
       have e0 : At (Ty.int n) tx ax (.tmp 66) := d2 rfl
       have e1 : At (Ty.lst Ty.str ts) tx ax (.tmp 67) := d3 rfl
       have e2 : At (Ty.nat i) tx ax (.tmp 68) := d4 rfl
       have e3 : At (Ty.ref [(Ty.val (Value.string (ts.getD i ByteArray.empty)))]) tx ax (.tmp 69) := d5 rfl
       have e4 : At (Ty.val (Value.string (ts.getD i ByteArray.empty))) tx ax (.tmp 70) := d6 rfl
       have e5 : At (Ty.tup2 (Ty.nat (if patMay n (runsL ((ts.getD i ByteArray.empty))) = 0 then fct ((n).toNat - (fixL (List.map bellQ (frR (runsL ((ts.getD i ByteArray.empty))))) + fixL (List.map bellQ (bkR (runsL ((ts.getD i ByteArray.empty))))))) else 0)) (Ty.int (patMay n (runsL ((ts.getD i ByteArray.empty)))))) tx ax (.tmp 71) := d7 rfl
       have e6 : At (Ty.tup2 (Ty.nat (if patMay n (runsL ((ts.getD i ByteArray.empty))) = 0 then fct ((n).toNat - (fixL (List.map bellQ (frR (runsL ((ts.getD i ByteArray.empty))))) + fixL (List.map bellQ (bkR (runsL ((ts.getD i ByteArray.empty))))))) else 0)) (Ty.int (patMay n (runsL ((ts.getD i ByteArray.empty)))))) tx ax (.tmp 65) := d8 rfl
       have e7 : At (Ty.nat (if patMay n (runsL ((ts.getD i ByteArray.empty))) = 0 then fct ((n).toNat - (fixL (List.map bellQ (frR (runsL ((ts.getD i ByteArray.empty))))) + fixL (List.map bellQ (bkR (runsL ((ts.getD i ByteArray.empty))))))) else 0)) tx ax (.tmp 72) := d9 rfl
       exact run_plain rfl (y_assign e8)
     intro a12 s10 D10
     have ok11 := D10.ok
     have F11 := F10.step0 D10.stp
     have q37 : At (Ty.nat i) s10 a12 (.tmp 11) := D10.kt q33 rfl
     have q38 : At (Ty.int n) s10 a12 (.tmp 0) := D10.kt q34 rfl
     have q39 : At (Ty.lst Ty.str ts) s10 a12 (.tmp 1) := D10.kt q35 rfl
     have q40 : At (Ty.int (patMay n (runsL ((ts.getD i ByteArray.empty))))) s10 a12 (.tmp 12) := D10.kt q36 rfl
     have q41 : At (Ty.nat (if patMay n (runsL ((ts.getD i ByteArray.empty))) = 0 then fct ((n).toNat - (fixL (List.map bellQ (frR (runsL ((ts.getD i ByteArray.empty))))) + fixL (List.map bellQ (bkR (runsL ((ts.getD i ByteArray.empty))))))) else 0)) s10 a12 (.tmp 13) := D10.done 9
     have q42 : At (Ty.int (patMay n (runsL ((ts.getD i ByteArray.empty))))) s10 a12 (.tmp 14) := D10.done 10
     clear D10
     refine tn ?_
     refine wp_seq ?_
     refine wp_seq ?_
     refine reg (a := a12) (σ := s10) rfl (fun i_ => List.getD [(Ty.pr (Ty.int n)), (Ty.pr (Ty.lst Ty.str ts)), (Ty.pr (Ty.nat i)), (Ty.pr (Ty.ref [(Ty.val (Value.string (ts.getD i ByteArray.empty)))])), (Ty.pr (Ty.val (Value.string (ts.getD i ByteArray.empty)))), (Ty.pr (Ty.int (patMay n (runsL ((ts.getD i ByteArray.empty)))))), (Ty.pr (Ty.int (patMay n (runsL ((ts.getD i ByteArray.empty)))))), (Ty.pr (Ty.bool (decide ((patMay n (runsL ((ts.getD i ByteArray.empty)))) ≠ (patMay n (runsL ((ts.getD i ByteArray.empty)))))))), (Ty.pr (Ty.bool (decide ((patMay n (runsL ((ts.getD i ByteArray.empty)))) ≠ (patMay n (runsL ((ts.getD i ByteArray.empty)))))))), (Ty.pr (Ty.grd ((decide ((patMay n (runsL ((ts.getD i ByteArray.empty)))) ≠ (patMay n (runsL ((ts.getD i ByteArray.empty)))))) = false) (Ty.int (patMay n (runsL ((ts.getD i ByteArray.empty))))))), (Ty.pr (Ty.grd ((decide ((patMay n (runsL ((ts.getD i ByteArray.empty)))) ≠ (patMay n (runsL ((ts.getD i ByteArray.empty)))))) = false) (Ty.int (patMay n (runsL ((ts.getD i ByteArray.empty))))))), (Ty.pr (Ty.grd ((decide ((patMay n (runsL ((ts.getD i ByteArray.empty)))) ≠ (patMay n (runsL ((ts.getD i ByteArray.empty)))))) = false) (Ty.bool (decide ((patMay n (runsL ((ts.getD i ByteArray.empty)))) ≠ (patMay n (runsL ((ts.getD i ByteArray.empty))))))))), (Ty.pr (Ty.bool ((decide ((patMay n (runsL ((ts.getD i ByteArray.empty)))) ≠ (patMay n (runsL ((ts.getD i ByteArray.empty)))))) || (decide ((patMay n (runsL ((ts.getD i ByteArray.empty)))) ≠ (patMay n (runsL ((ts.getD i ByteArray.empty))))))))), (Ty.pr (Ty.bool ((decide ((patMay n (runsL ((ts.getD i ByteArray.empty)))) ≠ (patMay n (runsL ((ts.getD i ByteArray.empty)))))) || (decide ((patMay n (runsL ((ts.getD i ByteArray.empty)))) ≠ (patMay n (runsL ((ts.getD i ByteArray.empty))))))))), (Ty.pr (Ty.grd (((decide ((patMay n (runsL ((ts.getD i ByteArray.empty)))) ≠ (patMay n (runsL ((ts.getD i ByteArray.empty)))))) || (decide ((patMay n (runsL ((ts.getD i ByteArray.empty)))) ≠ (patMay n (runsL ((ts.getD i ByteArray.empty))))))) = false) (Ty.int (patMay n (runsL ((ts.getD i ByteArray.empty))))))), (Ty.pr (Ty.grd (((decide ((patMay n (runsL ((ts.getD i ByteArray.empty)))) ≠ (patMay n (runsL ((ts.getD i ByteArray.empty)))))) || (decide ((patMay n (runsL ((ts.getD i ByteArray.empty)))) ≠ (patMay n (runsL ((ts.getD i ByteArray.empty))))))) = false) (Ty.bool (decide ((patMay n (runsL ((ts.getD i ByteArray.empty)))) ≠ (0 : Int)))))), (Ty.pr (Ty.grd (((decide ((patMay n (runsL ((ts.getD i ByteArray.empty)))) ≠ (patMay n (runsL ((ts.getD i ByteArray.empty)))))) || (decide ((patMay n (runsL ((ts.getD i ByteArray.empty)))) ≠ (patMay n (runsL ((ts.getD i ByteArray.empty))))))) = false) (Ty.bool (decide ((patMay n (runsL ((ts.getD i ByteArray.empty)))) ≠ (0 : Int)))))), (Ty.pr (Ty.grd ((((decide ((patMay n (runsL ((ts.getD i ByteArray.empty)))) ≠ (patMay n (runsL ((ts.getD i ByteArray.empty)))))) || (decide ((patMay n (runsL ((ts.getD i ByteArray.empty)))) ≠ (patMay n (runsL ((ts.getD i ByteArray.empty))))))) = false) ∧ (decide ((patMay n (runsL ((ts.getD i ByteArray.empty)))) ≠ (0 : Int))) = true) (Ty.nat (if patMay n (runsL ((ts.getD i ByteArray.empty))) = 0 then fct ((n).toNat - (fixL (List.map bellQ (frR (runsL ((ts.getD i ByteArray.empty))))) + fixL (List.map bellQ (bkR (runsL ((ts.getD i ByteArray.empty))))))) else 0)))), (Ty.pr (Ty.grd ((((decide ((patMay n (runsL ((ts.getD i ByteArray.empty)))) ≠ (patMay n (runsL ((ts.getD i ByteArray.empty)))))) || (decide ((patMay n (runsL ((ts.getD i ByteArray.empty)))) ≠ (patMay n (runsL ((ts.getD i ByteArray.empty))))))) = false) ∧ (decide ((patMay n (runsL ((ts.getD i ByteArray.empty)))) ≠ (0 : Int))) = true) (Ty.bool (decide ((((if patMay n (runsL ((ts.getD i ByteArray.empty))) = 0 then fct ((n).toNat - (fixL (List.map bellQ (frR (runsL ((ts.getD i ByteArray.empty))))) + fixL (List.map bellQ (bkR (runsL ((ts.getD i ByteArray.empty))))))) else 0) : Nat) : Int) ≠ (0 : Int)))))), (Ty.pr (Ty.grd (((decide ((patMay n (runsL ((ts.getD i ByteArray.empty)))) ≠ (patMay n (runsL ((ts.getD i ByteArray.empty)))))) || (decide ((patMay n (runsL ((ts.getD i ByteArray.empty)))) ≠ (patMay n (runsL ((ts.getD i ByteArray.empty))))))) = false) (Ty.bool ((decide ((patMay n (runsL ((ts.getD i ByteArray.empty)))) ≠ (0 : Int))) && (decide ((((if patMay n (runsL ((ts.getD i ByteArray.empty))) = 0 then fct ((n).toNat - (fixL (List.map bellQ (frR (runsL ((ts.getD i ByteArray.empty))))) + fixL (List.map bellQ (bkR (runsL ((ts.getD i ByteArray.empty))))))) else 0) : Nat) : Int) ≠ (0 : Int))))))), (Ty.pr (Ty.bool (((decide ((patMay n (runsL ((ts.getD i ByteArray.empty)))) ≠ (patMay n (runsL ((ts.getD i ByteArray.empty)))))) || (decide ((patMay n (runsL ((ts.getD i ByteArray.empty)))) ≠ (patMay n (runsL ((ts.getD i ByteArray.empty))))))) || ((decide ((patMay n (runsL ((ts.getD i ByteArray.empty)))) ≠ (0 : Int))) && (decide ((((if patMay n (runsL ((ts.getD i ByteArray.empty))) = 0 then fct ((n).toNat - (fixL (List.map bellQ (frR (runsL ((ts.getD i ByteArray.empty))))) + fixL (List.map bellQ (bkR (runsL ((ts.getD i ByteArray.empty))))))) else 0) : Nat) : Int) ≠ (0 : Int)))))))] i_ Pr.any) ok11 rfl ⟨?_, ?_, ?_, ?_, ?_, ?_, ?_, ?_, ?_, ?_, ?_, ?_, ?_, ?_, ?_, ?_, ?_, ?_, ?_, ?_, ?_, trivial⟩ ?_
     · intro ax tx hs okx sm
       exact run_plain rfl (y_move (kp (sm 0 rfl) hs q38))
     · intro ax tx hs okx sm
       exact run_plain rfl (y_move (kp (sm 1 rfl) hs q39))
     · intro ax tx hs okx sm
       exact run_plain rfl (y_move (kp (sm 11 rfl) hs q37))
     · intro ax tx hs okx sm d0 d1
       have e1 : At (Ty.lst Ty.str ts) tx ax (.tmp 75) := d0 rfl
       have e2 : At (Ty.nat i) tx ax (.tmp 76) := d1 rfl
       exact run_plain rfl (y_index1 Try.underlying55 Try.inf9 e1 e2 (by omega) (lst_get Ty.str ts ByteArray.empty i (by omega)))
     · intro ax tx hs okx sm d0
       have e3 : At (Ty.ref [(Ty.val (Value.string (ts.getD i ByteArray.empty)))]) tx ax (.tmp 77) := d0 rfl
       exact run_plain rfl (y_load Try.underlying9 rfl e3 rfl)
     · intro ax tx hs okx sm d0 d1
       have e0 : At (Ty.int n) tx ax (.tmp 74) := d0 rfl
       have e4 : At (Ty.val (Value.string (ts.getD i ByteArray.empty))) tx ax (.tmp 78) := d1 rfl
       exact run_plain rfl (y_call #[ax.eval (.tmp 74), ax.eval (.tmp 78)] Try.func34 rfl rfl (by simp only [List.map_toArray, List.map_cons, List.map_nil]) (mucheck_fn (n) ((ts.getD i ByteArray.empty)) _ _ _ e0 e4 (by omega) (by omega)))
     · intro ax tx hs okx sm
       exact run_plain rfl (y_move (kp (sm 12 rfl) hs q40))
     · intro ax tx hs okx sm d0 d1
       have e5 : At (Ty.int (patMay n (runsL ((ts.getD i ByteArray.empty))))) tx ax (.tmp 79) := d0 rfl
       have e6 : At (Ty.int (patMay n (runsL ((ts.getD i ByteArray.empty))))) tx ax (.tmp 80) := d1 rfl
       exact run_plain rfl (y_neq e5 e6)
     · intro ax tx hs okx sm d0 d1
       have e7 : At (Ty.bool (decide ((patMay n (runsL ((ts.getD i ByteArray.empty)))) ≠ (patMay n (runsL ((ts.getD i ByteArray.empty))))))) tx ax (.tmp 81) := d0 rfl
       have e5 : At (Ty.int (patMay n (runsL ((ts.getD i ByteArray.empty))))) tx ax (.tmp 79) := d1 rfl
       exact run_plain rfl (y_move e7)
     · intro ax tx hs okx sm d0
       have e8 : At (Ty.bool (decide ((patMay n (runsL ((ts.getD i ByteArray.empty)))) ≠ (patMay n (runsL ((ts.getD i ByteArray.empty))))))) tx ax (.tmp 82) := d0 rfl
       refine run_guard (T := (Ty.int (patMay n (runsL ((ts.getD i ByteArray.empty)))))) okx rfl rfl (by decide) e8 (fun hg => ?_)
       have hp := of_decide_eq_false hg
       exact y_move (kp (sm 14 rfl) hs q42)
     · intro ax tx hs okx sm d0
       have e8 : At (Ty.bool (decide ((patMay n (runsL ((ts.getD i ByteArray.empty)))) ≠ (patMay n (runsL ((ts.getD i ByteArray.empty))))))) tx ax (.tmp 82) := d0 rfl
       refine run_guard (T := (Ty.int (patMay n (runsL ((ts.getD i ByteArray.empty)))))) okx rfl rfl (by decide) e8 (fun hg => ?_)
       have hp := of_decide_eq_false hg
       exact y_move (kp (sm 12 rfl) hs q40)
     · intro ax tx hs okx sm d0 d1 d2
       have e9 : At (Ty.grd ((decide ((patMay n (runsL ((ts.getD i ByteArray.empty)))) ≠ (patMay n (runsL ((ts.getD i ByteArray.empty)))))) = false) (Ty.int (patMay n (runsL ((ts.getD i ByteArray.empty)))))) tx ax (.tmp 83) := d0 rfl
       have e10 : At (Ty.grd ((decide ((patMay n (runsL ((ts.getD i ByteArray.empty)))) ≠ (patMay n (runsL ((ts.getD i ByteArray.empty)))))) = false) (Ty.int (patMay n (runsL ((ts.getD i ByteArray.empty)))))) tx ax (.tmp 84) := d1 rfl
       have e8 : At (Ty.bool (decide ((patMay n (runsL ((ts.getD i ByteArray.empty)))) ≠ (patMay n (runsL ((ts.getD i ByteArray.empty))))))) tx ax (.tmp 82) := d2 rfl
       refine run_guard (T := (Ty.bool (decide ((patMay n (runsL ((ts.getD i ByteArray.empty)))) ≠ (patMay n (runsL ((ts.getD i ByteArray.empty)))))))) okx rfl rfl (by decide) e8 (fun hg => ?_)
       have hp := of_decide_eq_false hg
       exact y_neq (e9.1 hg) (e10.1 hg)
     · intro ax tx hs okx sm d0 d1
       have e8 : At (Ty.bool (decide ((patMay n (runsL ((ts.getD i ByteArray.empty)))) ≠ (patMay n (runsL ((ts.getD i ByteArray.empty))))))) tx ax (.tmp 82) := d0 rfl
       have e11 : At (Ty.grd ((decide ((patMay n (runsL ((ts.getD i ByteArray.empty)))) ≠ (patMay n (runsL ((ts.getD i ByteArray.empty)))))) = false) (Ty.bool (decide ((patMay n (runsL ((ts.getD i ByteArray.empty)))) ≠ (patMay n (runsL ((ts.getD i ByteArray.empty)))))))) tx ax (.tmp 85) := d1 rfl
       exact run_plain rfl (y_pick_or e8 rfl e11)
     · intro ax tx hs okx sm d0 d1
       have e12 : At (Ty.bool ((decide ((patMay n (runsL ((ts.getD i ByteArray.empty)))) ≠ (patMay n (runsL ((ts.getD i ByteArray.empty)))))) || (decide ((patMay n (runsL ((ts.getD i ByteArray.empty)))) ≠ (patMay n (runsL ((ts.getD i ByteArray.empty)))))))) tx ax (.tmp 86) := d0 rfl
       have e8 : At (Ty.bool (decide ((patMay n (runsL ((ts.getD i ByteArray.empty)))) ≠ (patMay n (runsL ((ts.getD i ByteArray.empty))))))) tx ax (.tmp 82) := d1 rfl
       exact run_plain rfl (y_move e12)
     · intro ax tx hs okx sm d0
       have e13 : At (Ty.bool ((decide ((patMay n (runsL ((ts.getD i ByteArray.empty)))) ≠ (patMay n (runsL ((ts.getD i ByteArray.empty)))))) || (decide ((patMay n (runsL ((ts.getD i ByteArray.empty)))) ≠ (patMay n (runsL ((ts.getD i ByteArray.empty)))))))) tx ax (.tmp 87) := d0 rfl
       refine run_guard (T := (Ty.int (patMay n (runsL ((ts.getD i ByteArray.empty)))))) okx rfl rfl (by decide) e13 (fun hg => ?_)
       obtain ⟨d7, d8⟩ := Bool.or_eq_false_iff.mp hg
       have d7 := of_decide_eq_false d7
       have d8 := of_decide_eq_false d8
       exact y_move (kp (sm 12 rfl) hs q40)
     · intro ax tx hs okx sm d0 d1
       have e14 : At (Ty.grd (((decide ((patMay n (runsL ((ts.getD i ByteArray.empty)))) ≠ (patMay n (runsL ((ts.getD i ByteArray.empty)))))) || (decide ((patMay n (runsL ((ts.getD i ByteArray.empty)))) ≠ (patMay n (runsL ((ts.getD i ByteArray.empty))))))) = false) (Ty.int (patMay n (runsL ((ts.getD i ByteArray.empty)))))) tx ax (.tmp 88) := d0 rfl
       have e13 : At (Ty.bool ((decide ((patMay n (runsL ((ts.getD i ByteArray.empty)))) ≠ (patMay n (runsL ((ts.getD i ByteArray.empty)))))) || (decide ((patMay n (runsL ((ts.getD i ByteArray.empty)))) ≠ (patMay n (runsL ((ts.getD i ByteArray.empty)))))))) tx ax (.tmp 87) := d1 rfl
       refine run_guard (T := (Ty.bool (decide ((patMay n (runsL ((ts.getD i ByteArray.empty)))) ≠ (0 : Int))))) okx rfl rfl (by decide) e13 (fun hg => ?_)
       obtain ⟨d9, d10⟩ := Bool.or_eq_false_iff.mp hg
       have d9 := of_decide_eq_false d9
       have d10 := of_decide_eq_false d10
       exact y_neq (e14.1 hg) rfl
     · intro ax tx hs okx sm d0 d1 d2
       have e15 : At (Ty.grd (((decide ((patMay n (runsL ((ts.getD i ByteArray.empty)))) ≠ (patMay n (runsL ((ts.getD i ByteArray.empty)))))) || (decide ((patMay n (runsL ((ts.getD i ByteArray.empty)))) ≠ (patMay n (runsL ((ts.getD i ByteArray.empty))))))) = false) (Ty.bool (decide ((patMay n (runsL ((ts.getD i ByteArray.empty)))) ≠ (0 : Int))))) tx ax (.tmp 89) := d0 rfl
       have e13 : At (Ty.bool ((decide ((patMay n (runsL ((ts.getD i ByteArray.empty)))) ≠ (patMay n (runsL ((ts.getD i ByteArray.empty)))))) || (decide ((patMay n (runsL ((ts.getD i ByteArray.empty)))) ≠ (patMay n (runsL ((ts.getD i ByteArray.empty)))))))) tx ax (.tmp 87) := d1 rfl
       refine run_guard (T := (Ty.bool (decide ((patMay n (runsL ((ts.getD i ByteArray.empty)))) ≠ (0 : Int))))) okx rfl rfl (by decide) e13 (fun hg => ?_)
       obtain ⟨d11, d12⟩ := Bool.or_eq_false_iff.mp hg
       have d11 := of_decide_eq_false d11
       have d12 := of_decide_eq_false d12
       exact y_move (e15.1 hg)
     · intro ax tx hs okx sm d0
       have e16 : At (Ty.grd (((decide ((patMay n (runsL ((ts.getD i ByteArray.empty)))) ≠ (patMay n (runsL ((ts.getD i ByteArray.empty)))))) || (decide ((patMay n (runsL ((ts.getD i ByteArray.empty)))) ≠ (patMay n (runsL ((ts.getD i ByteArray.empty))))))) = false) (Ty.bool (decide ((patMay n (runsL ((ts.getD i ByteArray.empty)))) ≠ (0 : Int))))) tx ax (.tmp 90) := d0 rfl
       refine run_guard2 (T := (Ty.nat (if patMay n (runsL ((ts.getD i ByteArray.empty))) = 0 then fct ((n).toNat - (fixL (List.map bellQ (frR (runsL ((ts.getD i ByteArray.empty))))) + fixL (List.map bellQ (bkR (runsL ((ts.getD i ByteArray.empty))))))) else 0))) okx rfl rfl (by decide) e16 (fun hg => ?_)
       have hp := of_decide_eq_true hg.2
       exact y_move (kp (sm 13 rfl) hs q41)
     · intro ax tx hs okx sm d0 d1
       have e17 : At (Ty.grd ((((decide ((patMay n (runsL ((ts.getD i ByteArray.empty)))) ≠ (patMay n (runsL ((ts.getD i ByteArray.empty)))))) || (decide ((patMay n (runsL ((ts.getD i ByteArray.empty)))) ≠ (patMay n (runsL ((ts.getD i ByteArray.empty))))))) = false) ∧ (decide ((patMay n (runsL ((ts.getD i ByteArray.empty)))) ≠ (0 : Int))) = true) (Ty.nat (if patMay n (runsL ((ts.getD i ByteArray.empty))) = 0 then fct ((n).toNat - (fixL (List.map bellQ (frR (runsL ((ts.getD i ByteArray.empty))))) + fixL (List.map bellQ (bkR (runsL ((ts.getD i ByteArray.empty))))))) else 0))) tx ax (.tmp 91) := d0 rfl
       have e16 : At (Ty.grd (((decide ((patMay n (runsL ((ts.getD i ByteArray.empty)))) ≠ (patMay n (runsL ((ts.getD i ByteArray.empty)))))) || (decide ((patMay n (runsL ((ts.getD i ByteArray.empty)))) ≠ (patMay n (runsL ((ts.getD i ByteArray.empty))))))) = false) (Ty.bool (decide ((patMay n (runsL ((ts.getD i ByteArray.empty)))) ≠ (0 : Int))))) tx ax (.tmp 90) := d1 rfl
       refine run_guard2 (T := (Ty.bool (decide ((((if patMay n (runsL ((ts.getD i ByteArray.empty))) = 0 then fct ((n).toNat - (fixL (List.map bellQ (frR (runsL ((ts.getD i ByteArray.empty))))) + fixL (List.map bellQ (bkR (runsL ((ts.getD i ByteArray.empty))))))) else 0) : Nat) : Int) ≠ (0 : Int))))) okx rfl rfl (by decide) e16 (fun hg => ?_)
       have hp := of_decide_eq_true hg.2
       exact y_neq (e17.1 hg) rfl
     · intro ax tx hs okx sm d0 d1 d2
       have e16 : At (Ty.grd (((decide ((patMay n (runsL ((ts.getD i ByteArray.empty)))) ≠ (patMay n (runsL ((ts.getD i ByteArray.empty)))))) || (decide ((patMay n (runsL ((ts.getD i ByteArray.empty)))) ≠ (patMay n (runsL ((ts.getD i ByteArray.empty))))))) = false) (Ty.bool (decide ((patMay n (runsL ((ts.getD i ByteArray.empty)))) ≠ (0 : Int))))) tx ax (.tmp 90) := d0 rfl
       have e18 : At (Ty.grd ((((decide ((patMay n (runsL ((ts.getD i ByteArray.empty)))) ≠ (patMay n (runsL ((ts.getD i ByteArray.empty)))))) || (decide ((patMay n (runsL ((ts.getD i ByteArray.empty)))) ≠ (patMay n (runsL ((ts.getD i ByteArray.empty))))))) = false) ∧ (decide ((patMay n (runsL ((ts.getD i ByteArray.empty)))) ≠ (0 : Int))) = true) (Ty.bool (decide ((((if patMay n (runsL ((ts.getD i ByteArray.empty))) = 0 then fct ((n).toNat - (fixL (List.map bellQ (frR (runsL ((ts.getD i ByteArray.empty))))) + fixL (List.map bellQ (bkR (runsL ((ts.getD i ByteArray.empty))))))) else 0) : Nat) : Int) ≠ (0 : Int))))) tx ax (.tmp 92) := d1 rfl
       have e13 : At (Ty.bool ((decide ((patMay n (runsL ((ts.getD i ByteArray.empty)))) ≠ (patMay n (runsL ((ts.getD i ByteArray.empty)))))) || (decide ((patMay n (runsL ((ts.getD i ByteArray.empty)))) ≠ (patMay n (runsL ((ts.getD i ByteArray.empty)))))))) tx ax (.tmp 87) := d2 rfl
       refine run_guard (T := (Ty.bool ((decide ((patMay n (runsL ((ts.getD i ByteArray.empty)))) ≠ (0 : Int))) && (decide ((((if patMay n (runsL ((ts.getD i ByteArray.empty))) = 0 then fct ((n).toNat - (fixL (List.map bellQ (frR (runsL ((ts.getD i ByteArray.empty))))) + fixL (List.map bellQ (bkR (runsL ((ts.getD i ByteArray.empty))))))) else 0) : Nat) : Int) ≠ (0 : Int)))))) okx rfl rfl (by decide) e13 (fun hg => ?_)
       obtain ⟨d13, d14⟩ := Bool.or_eq_false_iff.mp hg
       have d13 := of_decide_eq_false d13
       have d14 := of_decide_eq_false d14
       exact y_pick_and (e16.1 hg) (grd_part hg e18) rfl
     · intro ax tx hs okx sm d0 d1
       have e13 : At (Ty.bool ((decide ((patMay n (runsL ((ts.getD i ByteArray.empty)))) ≠ (patMay n (runsL ((ts.getD i ByteArray.empty)))))) || (decide ((patMay n (runsL ((ts.getD i ByteArray.empty)))) ≠ (patMay n (runsL ((ts.getD i ByteArray.empty)))))))) tx ax (.tmp 87) := d0 rfl
       have e19 : At (Ty.grd (((decide ((patMay n (runsL ((ts.getD i ByteArray.empty)))) ≠ (patMay n (runsL ((ts.getD i ByteArray.empty)))))) || (decide ((patMay n (runsL ((ts.getD i ByteArray.empty)))) ≠ (patMay n (runsL ((ts.getD i ByteArray.empty))))))) = false) (Ty.bool ((decide ((patMay n (runsL ((ts.getD i ByteArray.empty)))) ≠ (0 : Int))) && (decide ((((if patMay n (runsL ((ts.getD i ByteArray.empty))) = 0 then fct ((n).toNat - (fixL (List.map bellQ (frR (runsL ((ts.getD i ByteArray.empty))))) + fixL (List.map bellQ (bkR (runsL ((ts.getD i ByteArray.empty))))))) else 0) : Nat) : Int) ≠ (0 : Int)))))) tx ax (.tmp 93) := d1 rfl
       exact run_plain rfl (y_pick_or e13 rfl e19)
     intro a13 s11 D11
     have ok12 := D11.ok
     have F12 := F11.step0 D11.stp
     have q43 : At (Ty.nat i) s11 a13 (.tmp 11) := D11.kt q37 rfl
     have q44 : At (Ty.int n) s11 a13 (.tmp 0) := D11.kt q38 rfl
     have q45 : At (Ty.lst Ty.str ts) s11 a13 (.tmp 1) := D11.kt q39 rfl
     have q46 : At (Ty.int (patMay n (runsL ((ts.getD i ByteArray.empty))))) s11 a13 (.tmp 12) := D11.kt q40 rfl
     have q47 : At (Ty.nat (if patMay n (runsL ((ts.getD i ByteArray.empty))) = 0 then fct ((n).toNat - (fixL (List.map bellQ (frR (runsL ((ts.getD i ByteArray.empty))))) + fixL (List.map bellQ (bkR (runsL ((ts.getD i ByteArray.empty))))))) else 0)) s11 a13 (.tmp 13) := D11.kt q41 rfl
     have q48 : At (Ty.bool (((decide ((patMay n (runsL ((ts.getD i ByteArray.empty)))) ≠ (patMay n (runsL ((ts.getD i ByteArray.empty)))))) || (decide ((patMay n (runsL ((ts.getD i ByteArray.empty)))) ≠ (patMay n (runsL ((ts.getD i ByteArray.empty))))))) || ((decide ((patMay n (runsL ((ts.getD i ByteArray.empty)))) ≠ (0 : Int))) && (decide ((((if patMay n (runsL ((ts.getD i ByteArray.empty))) = 0 then fct ((n).toNat - (fixL (List.map bellQ (frR (runsL ((ts.getD i ByteArray.empty))))) + fixL (List.map bellQ (bkR (runsL ((ts.getD i ByteArray.empty))))))) else 0) : Nat) : Int) ≠ (0 : Int)))))) s11 a13 (.tmp 94) := D11.done 20
     clear D11
     refine tn ?_
     refine cond_t q48 (fun c4 => ?_) (fun c4 => ?_)
     ·
      exfalso
      generalize patMay n (runsL (ts.getD i ByteArray.empty)) = A_ at c4; by_cases hz : A_ = 0 <;> simp [hz] at c4
     ·
      obtain ⟨d15, d16⟩ := Bool.or_eq_false_iff.mp c4
      obtain ⟨d17, d18⟩ := Bool.or_eq_false_iff.mp d15
      replace d17 := of_decide_eq_false d17
      replace d18 := of_decide_eq_false d18
      refine wp_skip ?_
      refine tn ?_
      refine wp_seq ?_
      refine wp_seq ?_
      refine reg (a := a13) (σ := s11) rfl (fun i_ => List.getD [(Ty.pr (Ty.int (patMay n (runsL ((ts.getD i ByteArray.empty)))))), (Ty.pr (Ty.bool (decide ((patMay n (runsL ((ts.getD i ByteArray.empty)))) ≠ (0 : Int))))), (Ty.pr (Ty.bool (decide ((patMay n (runsL ((ts.getD i ByteArray.empty)))) ≠ (0 : Int))))), (Ty.pr (Ty.grd ((decide ((patMay n (runsL ((ts.getD i ByteArray.empty)))) ≠ (0 : Int))) = false) (Ty.int n))), (Ty.pr (Ty.grd ((decide ((patMay n (runsL ((ts.getD i ByteArray.empty)))) ≠ (0 : Int))) = false) (Ty.bool (decide ((5 : Int) < n))))), (Ty.pr (Ty.bool ((decide ((patMay n (runsL ((ts.getD i ByteArray.empty)))) ≠ (0 : Int))) || (decide ((5 : Int) < n)))))] i_ Pr.any) ok12 rfl ⟨?_, ?_, ?_, ?_, ?_, ?_, trivial⟩ ?_
      · intro ax tx hs okx sm
        exact run_plain rfl (y_move (kp (sm 12 rfl) hs q46))
      · intro ax tx hs okx sm d0
        have e0 : At (Ty.int (patMay n (runsL ((ts.getD i ByteArray.empty))))) tx ax (.tmp 95) := d0 rfl
        exact run_plain rfl (y_neq e0 rfl)
      · intro ax tx hs okx sm d0
        have e1 : At (Ty.bool (decide ((patMay n (runsL ((ts.getD i ByteArray.empty)))) ≠ (0 : Int)))) tx ax (.tmp 96) := d0 rfl
        exact run_plain rfl (y_move e1)
      · intro ax tx hs okx sm d0
        have e2 : At (Ty.bool (decide ((patMay n (runsL ((ts.getD i ByteArray.empty)))) ≠ (0 : Int)))) tx ax (.tmp 97) := d0 rfl
        refine run_guard (T := (Ty.int n)) okx rfl rfl (by decide) e2 (fun hg => ?_)
        have hp := of_decide_eq_false hg
        exact y_move (kp (sm 0 rfl) hs q44)
      · intro ax tx hs okx sm d0 d1
        have e3 : At (Ty.grd ((decide ((patMay n (runsL ((ts.getD i ByteArray.empty)))) ≠ (0 : Int))) = false) (Ty.int n)) tx ax (.tmp 98) := d0 rfl
        have e2 : At (Ty.bool (decide ((patMay n (runsL ((ts.getD i ByteArray.empty)))) ≠ (0 : Int)))) tx ax (.tmp 97) := d1 rfl
        refine run_guard (T := (Ty.bool (decide ((5 : Int) < n)))) okx rfl rfl (by decide) e2 (fun hg => ?_)
        have hp := of_decide_eq_false hg
        exact y_gtr (e3.1 hg) rfl
      · intro ax tx hs okx sm d0 d1
        have e2 : At (Ty.bool (decide ((patMay n (runsL ((ts.getD i ByteArray.empty)))) ≠ (0 : Int)))) tx ax (.tmp 97) := d0 rfl
        have e4 : At (Ty.grd ((decide ((patMay n (runsL ((ts.getD i ByteArray.empty)))) ≠ (0 : Int))) = false) (Ty.bool (decide ((5 : Int) < n)))) tx ax (.tmp 99) := d1 rfl
        exact run_plain rfl (y_pick_or e2 rfl e4)
      intro a14 s12 D12
      have ok13 := D12.ok
      have F13 := F12.step0 D12.stp
      have q49 : At (Ty.nat i) s12 a14 (.tmp 11) := D12.kt q43 rfl
      have q50 : At (Ty.int n) s12 a14 (.tmp 0) := D12.kt q44 rfl
      have q51 : At (Ty.lst Ty.str ts) s12 a14 (.tmp 1) := D12.kt q45 rfl
      have q52 : At (Ty.nat (if patMay n (runsL ((ts.getD i ByteArray.empty))) = 0 then fct ((n).toNat - (fixL (List.map bellQ (frR (runsL ((ts.getD i ByteArray.empty))))) + fixL (List.map bellQ (bkR (runsL ((ts.getD i ByteArray.empty))))))) else 0)) s12 a14 (.tmp 13) := D12.kt q47 rfl
      have q53 : At (Ty.bool ((decide ((patMay n (runsL ((ts.getD i ByteArray.empty)))) ≠ (0 : Int))) || (decide ((5 : Int) < n)))) s12 a14 (.tmp 100) := D12.done 5
      clear D12
      refine tn ?_
      refine cond_t q53 (fun c5 => ?_) (fun c5 => ?_)
      ·
       refine wp_exit ?_
       refine tx ?_
       refine bx ?_
       refine tn ?_
       refine reg (a := a14) (σ := s12) rfl (fun i_ => List.getD [(Ty.pr (Ty.nat i)), (Ty.pr (Ty.nat (i + 1))), (Ty.pr (Ty.nat (i + 1)))] i_ Pr.any) ok13 rfl ⟨?_, ?_, ?_, trivial⟩ ?_
       · intro ax tx hs okx sm
         exact run_plain rfl (y_move (kp (sm 11 rfl) hs q49))
       · intro ax tx hs okx sm d0
         have e0 : At (Ty.nat i) tx ax (.tmp 57) := d0 rfl
         exact run_plain rfl ((y_add e0 rfl (w64 (by omega) (by omega))).mono (fun τ _ h => cvi (σ := τ) (by first | omega | exact (Int.natCast_mul _ _).symm) h))
       · intro ax tx hs okx sm d0 d1 d2
         have e1 : At (Ty.nat (i + 1)) tx ax (.tmp 58) := d0 rfl
         have e0 : At (Ty.nat i) tx ax (.tmp 57) := d1 rfl
         exact run_plain rfl (y_assign e1)
       intro a15 s13 D13
       have ok14 := D13.ok
       have F14 := F13.step0 D13.stp
       have q54 : At (Ty.int n) s13 a15 (.tmp 0) := D13.kt q50 rfl
       have q55 : At (Ty.lst Ty.str ts) s13 a15 (.tmp 1) := D13.kt q51 rfl
       have q56 : At (Ty.nat (i + 1)) s13 a15 (.tmp 11) := D13.done 2
       clear D13
       exact tn ⟨ts.length - ((i+1)), by omega, s13, (i+1), rfl, F14, ok14, (cvi (by (first | rfl | omega | (simp_all; done) | (simp_all; omega))) q56), q54, q55, by omega, rfl⟩
      ·
       obtain ⟨d19, d20⟩ := Bool.or_eq_false_iff.mp c5
       replace d19 := of_decide_eq_false d19
       replace d20 := of_decide_eq_false d20
       simp only [Bool.or_eq_false_iff, decide_eq_false_iff_not] at c5; have hz : patMay n (runsL (ts.getD i ByteArray.empty)) = 0 := Classical.not_not.1 c5.1; have hpf := pat_facts hz; have hlp := like_pre hz; have hf12 := fct_le12 (n := (n).toNat) (by omega); have hlc := like_count (n := (n).toNat) (l := runsL (ts.getD i ByteArray.empty)) (by rw [show ((((n).toNat : Nat)) : Int) = n by omega]; exact hz)
       refine wp_skip ?_
       refine tn ?_
       refine wp_seq ?_
       refine reg (a := a14) (σ := s12) rfl (fun i_ => List.getD [(Ty.pr (Ty.int (0 : Int)))] i_ Pr.any) ok13 rfl ⟨?_, trivial⟩ ?_
       · intro ax tx hs okx sm
         exact run_plain rfl (y_assign rfl)
       intro a16 s14 D14
       have ok15 := D14.ok
       have F15 := F13.step0 D14.stp
       have q57 : At (Ty.nat i) s14 a16 (.tmp 11) := D14.kt q49 rfl
       have q58 : At (Ty.int n) s14 a16 (.tmp 0) := D14.kt q50 rfl
       have q59 : At (Ty.lst Ty.str ts) s14 a16 (.tmp 1) := D14.kt q51 rfl
       have q60 : At (Ty.nat (if patMay n (runsL ((ts.getD i ByteArray.empty))) = 0 then fct ((n).toNat - (fixL (List.map bellQ (frR (runsL ((ts.getD i ByteArray.empty))))) + fixL (List.map bellQ (bkR (runsL ((ts.getD i ByteArray.empty))))))) else 0)) s14 a16 (.tmp 13) := D14.kt q52 rfl
       have q61 : At (Ty.int (0 : Int)) s14 a16 (.tmp 15) := D14.done 0
       clear D14
       refine tn ?_
       refine wp_seq ?_
       refine wp_seq ?_
       refine reg (a := a16) (σ := s14) rfl (fun i_ => List.getD [(Ty.pr (Ty.int (0 : Int)))] i_ Pr.any) ok15 rfl ⟨?_, trivial⟩ ?_
       · intro ax tx hs okx sm
         exact run_plain rfl (y_assign rfl)
       intro a17 s15 D15
       have ok16 := D15.ok
       have F16 := F15.step0 D15.stp
       have q62 : At (Ty.nat i) s15 a17 (.tmp 11) := D15.kt q57 rfl
       have q63 : At (Ty.int n) s15 a17 (.tmp 0) := D15.kt q58 rfl
       have q64 : At (Ty.lst Ty.str ts) s15 a17 (.tmp 1) := D15.kt q59 rfl
       have q65 : At (Ty.nat (if patMay n (runsL ((ts.getD i ByteArray.empty))) = 0 then fct ((n).toNat - (fixL (List.map bellQ (frR (runsL ((ts.getD i ByteArray.empty))))) + fixL (List.map bellQ (bkR (runsL ((ts.getD i ByteArray.empty))))))) else 0)) s15 a17 (.tmp 13) := D15.kt q60 rfl
       have q66 : At (Ty.int (0 : Int)) s15 a17 (.tmp 15) := D15.kt q61 rfl
       have q67 : At (Ty.int (0 : Int)) s15 a17 (.tmp 16) := D15.done 0
       clear D15
       refine tn ?_
       refine wp_block ?_
       refine loop (fun n3 a18 w3 => ∃ (t3 : GW) (j : Nat), t3.w = w3 ∧ FromL [] s0 t3 ∧ Ok 121 a18 ∧ At (Ty.nat j) t3 a18 (.tmp 16) ∧ At (Ty.nat ((List.range j).countP fun k_ => likeT (ts.getD i ByteArray.empty) (atL (n).toNat k_))) t3 a18 (.tmp 15) ∧ At (Ty.nat i) t3 a18 (.tmp 11) ∧ At (Ty.int n) t3 a18 (.tmp 0) ∧ At (Ty.lst Ty.str ts) t3 a18 (.tmp 1) ∧ At (Ty.nat (if patMay n (runsL ((ts.getD i ByteArray.empty))) = 0 then fct ((n).toNat - (fixL (List.map bellQ (frR (runsL ((ts.getD i ByteArray.empty))))) + fixL (List.map bellQ (bkR (runsL ((ts.getD i ByteArray.empty))))))) else 0)) t3 a18 (.tmp 13) ∧ (j ≤ (fct (n).toNat)) ∧ n3 = (fct (n).toNat) - j) ((fct (n).toNat) - (0)) ?_ ?_
       ·
        exact ⟨s15, 0, rfl, F16, ok16, (cvi (by (first | rfl | omega | (simp_all; done) | (simp_all; omega))) q67), (cvi (by (rfl)) q66), q62, q63, q64, q65, by omega, rfl⟩
       ·
        rintro n4 a19 w4 ⟨t4, j, rfl, F17, ok17, q68, q69, q70, q71, q72, q73, hj, rfl⟩
        have hcl : ((List.range j).countP fun k_ => likeT (ts.getD i ByteArray.empty) (atL (n).toNat k_)) ≤ (List.range j).length := List.countP_le_length
        have hjl := List.length_range (n := j)
        refine wp_seq ?_
        refine wp_seq ?_
        refine reg (a := a19) (σ := t4) rfl (fun i_ => List.getD [(Ty.pr (Ty.nat j)), (Ty.pr (Ty.int n)), (Ty.pr (Ty.nat (fct ((n).toNat)))), (Ty.pr (Ty.bool (decide (((j : Nat) : Int) < (((fct ((n).toNat)) : Nat) : Int)))))] i_ Pr.any) ok17 rfl ⟨?_, ?_, ?_, ?_, trivial⟩ ?_
        · intro ax tx hs okx sm
          exact run_plain rfl (y_move (kp (sm 16 rfl) hs q68))
        · intro ax tx hs okx sm
          exact run_plain rfl (y_move (kp (sm 0 rfl) hs q71))
        · intro ax tx hs okx sm d0
          have e1 : At (Ty.int n) tx ax (.tmp 102) := d0 rfl
          exact run_plain rfl (y_call #[ax.eval (.tmp 102)] Try.func35 rfl rfl (by simp only [List.map_toArray, List.map_cons, List.map_nil]) (rFact_fn (((n).toNat)) ((n).toNat) _ _ (cvi (σ := tx) (by omega) e1) (by omega) (by omega)))
        · intro ax tx hs okx sm d0 d1
          have e0 : At (Ty.nat j) tx ax (.tmp 101) := d0 rfl
          have e2 : At (Ty.nat (fct ((n).toNat))) tx ax (.tmp 103) := d1 rfl
          exact run_plain rfl (y_lss e0 e2)
        intro a20 s16 D16
        have ok18 := D16.ok
        have F18 := F17.step0 D16.stp
        have q74 : At (Ty.nat j) s16 a20 (.tmp 16) := D16.kt q68 rfl
        have q75 : At (Ty.nat ((List.range j).countP fun k_ => likeT (ts.getD i ByteArray.empty) (atL (n).toNat k_))) s16 a20 (.tmp 15) := D16.kt q69 rfl
        have q76 : At (Ty.nat i) s16 a20 (.tmp 11) := D16.kt q70 rfl
        have q77 : At (Ty.int n) s16 a20 (.tmp 0) := D16.kt q71 rfl
        have q78 : At (Ty.lst Ty.str ts) s16 a20 (.tmp 1) := D16.kt q72 rfl
        have q79 : At (Ty.nat (if patMay n (runsL ((ts.getD i ByteArray.empty))) = 0 then fct ((n).toNat - (fixL (List.map bellQ (frR (runsL ((ts.getD i ByteArray.empty))))) + fixL (List.map bellQ (bkR (runsL ((ts.getD i ByteArray.empty))))))) else 0)) s16 a20 (.tmp 13) := D16.kt q73 rfl
        have q80 : At (Ty.bool (decide (((j : Nat) : Int) < (((fct ((n).toNat)) : Nat) : Int)))) s16 a20 (.tmp 104) := D16.done 3
        clear D16
        refine tn ?_
        refine cond_p (p := (((j : Nat) : Int) < (((fct ((n).toNat)) : Nat) : Int))) q80 (fun c6 => ?_) (fun c6 => ?_)
        ·
         have hal := at_len (n).toNat j; have hlw : (frR (runsL (ts.getD i ByteArray.empty))).length ≤ (atL (n).toNat j).length ∧ (bkR (runsL (ts.getD i ByteArray.empty))).length ≤ (atL (n).toNat j).length := (by rw [hal]; omega)
         refine wp_skip ?_
         refine tn ?_
         refine wp_seq ?_
         refine wp_block ?_
         refine wp_seq ?_
         refine reg (a := a20) (σ := s16) rfl (fun i_ => List.getD [(Ty.pr (Ty.lst Ty.str ts)), (Ty.pr (Ty.nat i)), (Ty.pr (Ty.ref [(Ty.val (Value.string (ts.getD i ByteArray.empty)))])), (Ty.pr (Ty.val (Value.string (ts.getD i ByteArray.empty)))), (Ty.pr (Ty.int n)), (Ty.pr (Ty.nat j)), (Ty.pr (Ty.lst Ty.int (atL ((n).toNat) (j)))), (Ty.pr (Ty.bool (likeB (List.map bellQ (frR (runsL ((ts.getD i ByteArray.empty))))) (List.map bellQ (bkR (runsL ((ts.getD i ByteArray.empty))))) ((atL ((n).toNat) (j)))))), (Ty.pr (Ty.bool (likeB (List.map bellQ (frR (runsL ((ts.getD i ByteArray.empty))))) (List.map bellQ (bkR (runsL ((ts.getD i ByteArray.empty))))) ((atL ((n).toNat) (j))))))] i_ Pr.any) ok18 rfl ⟨?_, ?_, ?_, ?_, ?_, ?_, ?_, ?_, ?_, trivial⟩ ?_
         · intro ax tx hs okx sm
           exact run_plain rfl (y_move (kp (sm 1 rfl) hs q78))
         · intro ax tx hs okx sm
           exact run_plain rfl (y_move (kp (sm 11 rfl) hs q76))
         · intro ax tx hs okx sm d0 d1
           have e0 : At (Ty.lst Ty.str ts) tx ax (.tmp 107) := d0 rfl
           have e1 : At (Ty.nat i) tx ax (.tmp 108) := d1 rfl
           exact run_plain rfl (y_index1 Try.underlying55 Try.inf9 e0 e1 (by omega) (lst_get Ty.str ts ByteArray.empty i (by omega)))
         · intro ax tx hs okx sm d0
           have e2 : At (Ty.ref [(Ty.val (Value.string (ts.getD i ByteArray.empty)))]) tx ax (.tmp 109) := d0 rfl
           exact run_plain rfl (y_load Try.underlying9 rfl e2 rfl)
         · intro ax tx hs okx sm
           exact run_plain rfl (y_move (kp (sm 0 rfl) hs q77))
         · intro ax tx hs okx sm
           exact run_plain rfl (y_move (kp (sm 16 rfl) hs q74))
         · intro ax tx hs okx sm d0 d1
           have e4 : At (Ty.int n) tx ax (.tmp 111) := d0 rfl
           have e5 : At (Ty.nat j) tx ax (.tmp 112) := d1 rfl
           exact run_plain rfl (y_call #[ax.eval (.tmp 111), ax.eval (.tmp 112)] Try.func37 rfl rfl (by simp only [List.map_toArray, List.map_cons, List.map_nil]) (rAt_fn ((n).toNat) (j) _ _ _ (cvi (σ := tx) (by first | omega | assumption) e4) (cvi (σ := tx) (by first | omega | assumption) e5) (by first | omega | assumption) (by first | omega | assumption)))
         · intro ax tx hs okx sm d0 d1 d2
           have e3 : At (Ty.val (Value.string (ts.getD i ByteArray.empty))) tx ax (.tmp 110) := d0 rfl
           have e6 : At (Ty.lst Ty.int (atL ((n).toNat) (j))) tx ax (.tmp 113) := d1 rfl
           exact run_plain rfl (y_call #[ax.eval (.tmp 110), ax.eval (.tmp 113)] Try.func36 rfl rfl (by simp only [List.map_toArray, List.map_cons, List.map_nil]) (rLike_fn ((ts.getD i ByteArray.empty)) ((atL ((n).toNat) (j))) _ _ _ e3 e6 (by omega) (by omega) (by omega)))
         · intro ax tx hs okx sm d0 d1 d2 d3 d4 d5 d6 d7 d8 d9
           have e7 : At (Ty.bool (likeB (List.map bellQ (frR (runsL ((ts.getD i ByteArray.empty))))) (List.map bellQ (bkR (runsL ((ts.getD i ByteArray.empty))))) ((atL ((n).toNat) (j))))) tx ax (.tmp 114) := d0 rfl
           have e0 : At (Ty.lst Ty.str ts) tx ax (.tmp 107) := d2 rfl
           have e1 : At (Ty.nat i) tx ax (.tmp 108) := d3 rfl
           have e2 : At (Ty.ref [(Ty.val (Value.string (ts.getD i ByteArray.empty)))]) tx ax (.tmp 109) := d4 rfl
           have e3 : At (Ty.val (Value.string (ts.getD i ByteArray.empty))) tx ax (.tmp 110) := d5 rfl
           have e4 : At (Ty.int n) tx ax (.tmp 111) := d6 rfl
           have e5 : At (Ty.nat j) tx ax (.tmp 112) := d7 rfl
           have e6 : At (Ty.lst Ty.int (atL ((n).toNat) (j))) tx ax (.tmp 113) := d8 rfl
           exact run_plain rfl (y_assign e7)
         intro a21 s17 D17
         have ok19 := D17.ok
         have F19 := F18.step0 D17.stp
         have q81 : At (Ty.nat j) s17 a21 (.tmp 16) := D17.kt q74 rfl
         have q82 : At (Ty.nat ((List.range j).countP fun k_ => likeT (ts.getD i ByteArray.empty) (atL (n).toNat k_))) s17 a21 (.tmp 15) := D17.kt q75 rfl
         have q83 : At (Ty.nat i) s17 a21 (.tmp 11) := D17.kt q76 rfl
         have q84 : At (Ty.int n) s17 a21 (.tmp 0) := D17.kt q77 rfl
         have q85 : At (Ty.lst Ty.str ts) s17 a21 (.tmp 1) := D17.kt q78 rfl
         have q86 : At (Ty.nat (if patMay n (runsL ((ts.getD i ByteArray.empty))) = 0 then fct ((n).toNat - (fixL (List.map bellQ (frR (runsL ((ts.getD i ByteArray.empty))))) + fixL (List.map bellQ (bkR (runsL ((ts.getD i ByteArray.empty))))))) else 0)) s17 a21 (.tmp 13) := D17.kt q79 rfl
         have q87 : At (Ty.bool (likeB (List.map bellQ (frR (runsL ((ts.getD i ByteArray.empty))))) (List.map bellQ (bkR (runsL ((ts.getD i ByteArray.empty))))) ((atL ((n).toNat) (j))))) s17 a21 (.tmp 17) := D17.done 8
         clear D17
         refine tn ?_
         refine wp_seq ?_
         refine reg (a := a21) (σ := s17) rfl (fun i_ => List.getD [(Ty.pr (Ty.bool (likeB (List.map bellQ (frR (runsL ((ts.getD i ByteArray.empty))))) (List.map bellQ (bkR (runsL ((ts.getD i ByteArray.empty))))) ((atL ((n).toNat) (j))))))] i_ Pr.any) ok19 rfl ⟨?_, trivial⟩ ?_
         · intro ax tx hs okx sm
           exact run_plain rfl (y_move (kp (sm 17 rfl) hs q87))
         intro a22 s18 D18
         have ok20 := D18.ok
         have F20 := F19.step0 D18.stp
         have q88 : At (Ty.nat j) s18 a22 (.tmp 16) := D18.kt q81 rfl
         have q89 : At (Ty.nat ((List.range j).countP fun k_ => likeT (ts.getD i ByteArray.empty) (atL (n).toNat k_))) s18 a22 (.tmp 15) := D18.kt q82 rfl
         have q90 : At (Ty.nat i) s18 a22 (.tmp 11) := D18.kt q83 rfl
         have q91 : At (Ty.int n) s18 a22 (.tmp 0) := D18.kt q84 rfl
         have q92 : At (Ty.lst Ty.str ts) s18 a22 (.tmp 1) := D18.kt q85 rfl
         have q93 : At (Ty.nat (if patMay n (runsL ((ts.getD i ByteArray.empty))) = 0 then fct ((n).toNat - (fixL (List.map bellQ (frR (runsL ((ts.getD i ByteArray.empty))))) + fixL (List.map bellQ (bkR (runsL ((ts.getD i ByteArray.empty))))))) else 0)) s18 a22 (.tmp 13) := D18.kt q86 rfl
         have q94 : At (Ty.bool (likeB (List.map bellQ (frR (runsL ((ts.getD i ByteArray.empty))))) (List.map bellQ (bkR (runsL ((ts.getD i ByteArray.empty))))) ((atL ((n).toNat) (j))))) s18 a22 (.tmp 115) := D18.done 0
         clear D18
         refine tn ?_
         refine cond_t q94 (fun c7 => ?_) (fun c7 => ?_)
         ·
          refine reg (a := a22) (σ := s18) rfl (fun i_ => List.getD [(Ty.pr (Ty.nat ((List.range j).countP fun k_ => likeT (ts.getD i ByteArray.empty) (atL (n).toNat k_)))), (Ty.pr (Ty.nat (((List.range j).countP fun k_ => likeT (ts.getD i ByteArray.empty) (atL (n).toNat k_)) + 1))), (Ty.pr (Ty.nat (((List.range j).countP fun k_ => likeT (ts.getD i ByteArray.empty) (atL (n).toNat k_)) + 1)))] i_ Pr.any) ok20 rfl ⟨?_, ?_, ?_, trivial⟩ ?_
          · intro ax tx hs okx sm
            exact run_plain rfl (y_move (kp (sm 15 rfl) hs q89))
          · intro ax tx hs okx sm d0
            have e0 : At (Ty.nat ((List.range j).countP fun k_ => likeT (ts.getD i ByteArray.empty) (atL (n).toNat k_))) tx ax (.tmp 116) := d0 rfl
            exact run_plain rfl ((y_add e0 rfl (w64 (by omega) (by omega))).mono (fun τ _ h => cvi (σ := τ) (by first | omega | exact (Int.natCast_mul _ _).symm) h))
          · intro ax tx hs okx sm d0 d1 d2
            have e1 : At (Ty.nat (((List.range j).countP fun k_ => likeT (ts.getD i ByteArray.empty) (atL (n).toNat k_)) + 1)) tx ax (.tmp 117) := d0 rfl
            have e0 : At (Ty.nat ((List.range j).countP fun k_ => likeT (ts.getD i ByteArray.empty) (atL (n).toNat k_))) tx ax (.tmp 116) := d1 rfl
            exact run_plain rfl (y_assign e1)
          intro a23 s19 D19
          have ok21 := D19.ok
          have F21 := F20.step0 D19.stp
          have q95 : At (Ty.nat j) s19 a23 (.tmp 16) := D19.kt q88 rfl
          have q96 : At (Ty.nat i) s19 a23 (.tmp 11) := D19.kt q90 rfl
          have q97 : At (Ty.int n) s19 a23 (.tmp 0) := D19.kt q91 rfl
          have q98 : At (Ty.lst Ty.str ts) s19 a23 (.tmp 1) := D19.kt q92 rfl
          have q99 : At (Ty.nat (if patMay n (runsL ((ts.getD i ByteArray.empty))) = 0 then fct ((n).toNat - (fixL (List.map bellQ (frR (runsL ((ts.getD i ByteArray.empty))))) + fixL (List.map bellQ (bkR (runsL ((ts.getD i ByteArray.empty))))))) else 0)) s19 a23 (.tmp 13) := D19.kt q93 rfl
          have q100 : At (Ty.nat (((List.range j).countP fun k_ => likeT (ts.getD i ByteArray.empty) (atL (n).toNat k_)) + 1)) s19 a23 (.tmp 15) := D19.done 2
          clear D19
          refine bn ?_
          refine tn ?_
          refine reg (a := a23) (σ := s19) rfl (fun i_ => List.getD [(Ty.pr (Ty.nat j)), (Ty.pr (Ty.nat (j + 1))), (Ty.pr (Ty.nat (j + 1)))] i_ Pr.any) ok21 rfl ⟨?_, ?_, ?_, trivial⟩ ?_
          · intro ax tx hs okx sm
            exact run_plain rfl (y_move (kp (sm 16 rfl) hs q95))
          · intro ax tx hs okx sm d0
            have e0 : At (Ty.nat j) tx ax (.tmp 105) := d0 rfl
            exact run_plain rfl ((y_add e0 rfl (w64 (by omega) (by omega))).mono (fun τ _ h => cvi (σ := τ) (by first | omega | exact (Int.natCast_mul _ _).symm) h))
          · intro ax tx hs okx sm d0 d1 d2
            have e1 : At (Ty.nat (j + 1)) tx ax (.tmp 106) := d0 rfl
            have e0 : At (Ty.nat j) tx ax (.tmp 105) := d1 rfl
            exact run_plain rfl (y_assign e1)
          intro a24 s20 D20
          have ok22 := D20.ok
          have F22 := F21.step0 D20.stp
          have q101 : At (Ty.nat i) s20 a24 (.tmp 11) := D20.kt q96 rfl
          have q102 : At (Ty.int n) s20 a24 (.tmp 0) := D20.kt q97 rfl
          have q103 : At (Ty.lst Ty.str ts) s20 a24 (.tmp 1) := D20.kt q98 rfl
          have q104 : At (Ty.nat (if patMay n (runsL ((ts.getD i ByteArray.empty))) = 0 then fct ((n).toNat - (fixL (List.map bellQ (frR (runsL ((ts.getD i ByteArray.empty))))) + fixL (List.map bellQ (bkR (runsL ((ts.getD i ByteArray.empty))))))) else 0)) s20 a24 (.tmp 13) := D20.kt q99 rfl
          have q105 : At (Ty.nat (((List.range j).countP fun k_ => likeT (ts.getD i ByteArray.empty) (atL (n).toNat k_)) + 1)) s20 a24 (.tmp 15) := D20.kt q100 rfl
          have q106 : At (Ty.nat (j + 1)) s20 a24 (.tmp 16) := D20.done 2
          clear D20
          exact tn ⟨(fct (n).toNat) - ((j+1)), by omega, s20, (j+1), rfl, F22, ok22, (cvi (by (first | rfl | omega | (simp_all; done) | (simp_all; omega))) q106), (cvi (by (rw [List.range_succ, List.countP_append, List.countP_singleton]; simp only [likeT, c7, if_true])) q105), q101, q102, q103, q104, by omega, rfl⟩
         ·
          refine wp_skip ?_
          refine bn ?_
          refine tn ?_
          refine reg (a := a22) (σ := s18) rfl (fun i_ => List.getD [(Ty.pr (Ty.nat j)), (Ty.pr (Ty.nat (j + 1))), (Ty.pr (Ty.nat (j + 1)))] i_ Pr.any) ok20 rfl ⟨?_, ?_, ?_, trivial⟩ ?_
          · intro ax tx hs okx sm
            exact run_plain rfl (y_move (kp (sm 16 rfl) hs q88))
          · intro ax tx hs okx sm d0
            have e0 : At (Ty.nat j) tx ax (.tmp 105) := d0 rfl
            exact run_plain rfl ((y_add e0 rfl (w64 (by omega) (by omega))).mono (fun τ _ h => cvi (σ := τ) (by first | omega | exact (Int.natCast_mul _ _).symm) h))
          · intro ax tx hs okx sm d0 d1 d2
            have e1 : At (Ty.nat (j + 1)) tx ax (.tmp 106) := d0 rfl
            have e0 : At (Ty.nat j) tx ax (.tmp 105) := d1 rfl
            exact run_plain rfl (y_assign e1)
          intro a25 s21 D21
          have ok23 := D21.ok
          have F23 := F20.step0 D21.stp
          have q107 : At (Ty.nat ((List.range j).countP fun k_ => likeT (ts.getD i ByteArray.empty) (atL (n).toNat k_))) s21 a25 (.tmp 15) := D21.kt q89 rfl
          have q108 : At (Ty.nat i) s21 a25 (.tmp 11) := D21.kt q90 rfl
          have q109 : At (Ty.int n) s21 a25 (.tmp 0) := D21.kt q91 rfl
          have q110 : At (Ty.lst Ty.str ts) s21 a25 (.tmp 1) := D21.kt q92 rfl
          have q111 : At (Ty.nat (if patMay n (runsL ((ts.getD i ByteArray.empty))) = 0 then fct ((n).toNat - (fixL (List.map bellQ (frR (runsL ((ts.getD i ByteArray.empty))))) + fixL (List.map bellQ (bkR (runsL ((ts.getD i ByteArray.empty))))))) else 0)) s21 a25 (.tmp 13) := D21.kt q93 rfl
          have q112 : At (Ty.nat (j + 1)) s21 a25 (.tmp 16) := D21.done 2
          clear D21
          exact tn ⟨(fct (n).toNat) - ((j+1)), by omega, s21, (j+1), rfl, F23, ok23, (cvi (by (first | rfl | omega | (simp_all; done) | (simp_all; omega))) q112), (cvi (by (rw [List.range_succ, List.countP_append, List.countP_singleton]; simp only [likeT, c7]; rfl)) q107), q108, q109, q110, q111, by omega, rfl⟩
        ·
         have hje : j = fct (n).toNat := (by omega)
         refine wp_exit ?_
         refine tx ?_
         refine tx ?_
         refine bx ?_
         refine tn ?_
         refine wp_seq ?_
         refine reg (a := a20) (σ := s16) rfl (fun i_ => List.getD [(Ty.pr (Ty.nat (if patMay n (runsL ((ts.getD i ByteArray.empty))) = 0 then fct ((n).toNat - (fixL (List.map bellQ (frR (runsL ((ts.getD i ByteArray.empty))))) + fixL (List.map bellQ (bkR (runsL ((ts.getD i ByteArray.empty))))))) else 0))), (Ty.pr (Ty.nat ((List.range j).countP fun k_ => likeT (ts.getD i ByteArray.empty) (atL (n).toNat k_)))), (Ty.pr (Ty.bool (decide ((((if patMay n (runsL ((ts.getD i ByteArray.empty))) = 0 then fct ((n).toNat - (fixL (List.map bellQ (frR (runsL ((ts.getD i ByteArray.empty))))) + fixL (List.map bellQ (bkR (runsL ((ts.getD i ByteArray.empty))))))) else 0) : Nat) : Int) ≠ ((((List.range j).countP fun k_ => likeT (ts.getD i ByteArray.empty) (atL (n).toNat k_)) : Nat) : Int)))))] i_ Pr.any) ok18 rfl ⟨?_, ?_, ?_, trivial⟩ ?_
         · intro ax tx hs okx sm
           exact run_plain rfl (y_move (kp (sm 13 rfl) hs q79))
         · intro ax tx hs okx sm
           exact run_plain rfl (y_move (kp (sm 15 rfl) hs q75))
         · intro ax tx hs okx sm d0 d1
           have e0 : At (Ty.nat (if patMay n (runsL ((ts.getD i ByteArray.empty))) = 0 then fct ((n).toNat - (fixL (List.map bellQ (frR (runsL ((ts.getD i ByteArray.empty))))) + fixL (List.map bellQ (bkR (runsL ((ts.getD i ByteArray.empty))))))) else 0)) tx ax (.tmp 118) := d0 rfl
           have e1 : At (Ty.nat ((List.range j).countP fun k_ => likeT (ts.getD i ByteArray.empty) (atL (n).toNat k_))) tx ax (.tmp 119) := d1 rfl
           exact run_plain rfl (y_neq e0 e1)
         intro a26 s22 D22
         have ok24 := D22.ok
         have F24 := F18.step0 D22.stp
         have q113 : At (Ty.nat i) s22 a26 (.tmp 11) := D22.kt q76 rfl
         have q114 : At (Ty.int n) s22 a26 (.tmp 0) := D22.kt q77 rfl
         have q115 : At (Ty.lst Ty.str ts) s22 a26 (.tmp 1) := D22.kt q78 rfl
         have q116 : At (Ty.bool (decide ((((if patMay n (runsL ((ts.getD i ByteArray.empty))) = 0 then fct ((n).toNat - (fixL (List.map bellQ (frR (runsL ((ts.getD i ByteArray.empty))))) + fixL (List.map bellQ (bkR (runsL ((ts.getD i ByteArray.empty))))))) else 0) : Nat) : Int) ≠ ((((List.range j).countP fun k_ => likeT (ts.getD i ByteArray.empty) (atL (n).toNat k_)) : Nat) : Int)))) s22 a26 (.tmp 120) := D22.done 2
         clear D22
         refine tn ?_
         refine cond_p (p := ((((if patMay n (runsL ((ts.getD i ByteArray.empty))) = 0 then fct ((n).toNat - (fixL (List.map bellQ (frR (runsL ((ts.getD i ByteArray.empty))))) + fixL (List.map bellQ (bkR (runsL ((ts.getD i ByteArray.empty))))))) else 0) : Nat) : Int) ≠ ((((List.range j).countP fun k_ => likeT (ts.getD i ByteArray.empty) (atL (n).toNat k_)) : Nat) : Int))) q116 (fun c8 => ?_) (fun c8 => ?_)
         ·
          exfalso
          rw [if_pos hz, ← hlc, hje] at c8; exact c8 rfl
         ·
          refine wp_skip ?_
          refine bn ?_
          refine tn ?_
          refine reg (a := a26) (σ := s22) rfl (fun i_ => List.getD [(Ty.pr (Ty.nat i)), (Ty.pr (Ty.nat (i + 1))), (Ty.pr (Ty.nat (i + 1)))] i_ Pr.any) ok24 rfl ⟨?_, ?_, ?_, trivial⟩ ?_
          · intro ax tx hs okx sm
            exact run_plain rfl (y_move (kp (sm 11 rfl) hs q113))
          · intro ax tx hs okx sm d0
            have e0 : At (Ty.nat i) tx ax (.tmp 57) := d0 rfl
            exact run_plain rfl ((y_add e0 rfl (w64 (by omega) (by omega))).mono (fun τ _ h => cvi (σ := τ) (by first | omega | exact (Int.natCast_mul _ _).symm) h))
          · intro ax tx hs okx sm d0 d1 d2
            have e1 : At (Ty.nat (i + 1)) tx ax (.tmp 58) := d0 rfl
            have e0 : At (Ty.nat i) tx ax (.tmp 57) := d1 rfl
            exact run_plain rfl (y_assign e1)
          intro a27 s23 D23
          have ok25 := D23.ok
          have F25 := F24.step0 D23.stp
          have q117 : At (Ty.int n) s23 a27 (.tmp 0) := D23.kt q114 rfl
          have q118 : At (Ty.lst Ty.str ts) s23 a27 (.tmp 1) := D23.kt q115 rfl
          have q119 : At (Ty.nat (i + 1)) s23 a27 (.tmp 11) := D23.done 2
          clear D23
          exact tn ⟨ts.length - ((i+1)), by omega, s23, (i+1), rfl, F25, ok25, (cvi (by (first | rfl | omega | (simp_all; done) | (simp_all; omega))) q119), q117, q118, by omega, rfl⟩
    ·
     refine wp_exit ?_
     refine tx ?_
     refine tx ?_
     refine bx ?_
     refine tn ?_
     refine wp_seq ?_
     refine reg (a := a10) (σ := s8) rfl (fun i_ => List.getD [(Ty.pr (Ty.bool true))] i_ Pr.any) ok9 rfl ⟨?_, trivial⟩ ?_
     · intro ax tx hs okx sm
       exact run_plain rfl (y_assign rfl)
     intro a28 s24 D24
     have ok26 := D24.ok
     have F26 := F9.step0 D24.stp
     have q120 : At (Ty.bool true) s24 a28 (.tmp 6) := D24.done 0
     clear D24
     refine tn ?_
     refine wp_ret ?_
     exact retL1 rfl ok26 F26 q120


end Go.Proofs.Ytlhnpkaohfoicaa
