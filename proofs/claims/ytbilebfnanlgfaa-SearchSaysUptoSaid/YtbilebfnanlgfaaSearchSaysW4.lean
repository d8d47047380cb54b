/- The functions that the law SearchSays reaches, each by its contract. Part 4. -/
import Derived.Test.YtbilebfnanlgfaaSearchSaysW3
namespace Go.Proofs.Ytbilebfnanlgfaa
open Go.KL
theorem Try.inf89 : Info Try.prog 89 (.agg #[.string ByteArray.empty, .int .i64 0, .slice none 0 0, .slice none 0 0, .int .i64 0, .int .i64 0, .map none, .slice none 0 0, .int .i64 0, .slice none 0 0, .bool false]) 11 160 := by unfold Info; kernel_rfl
set_option maxHeartbeats 4000000 in
set_option maxRecDepth 100000 in
theorem touches_fn (nm : ByteArray) (n : Int) (l : List (List Int)) (cs : List BCall) (leads : Int) (many : Int) (σ : GW)  (v0 v1 v2 v3 : Value) (hv0 : Ty.has (Ty.agg [(Ty.val (Value.string nm)), (Ty.int n), (Ty.lst Ty.ints l)]) σ v0) (hv1 : Ty.has (Ty.lstc 2 callC cs) σ v1) (hv2 : Ty.has (Ty.int leads) σ v2) (hv3 : Ty.has (Ty.int many) σ v3)  (hnm : nm.size ≤ 1099511627776) (hn : -9223372036854775808 ≤ n ∧ n ≤ 9223372036854775807) :
    FnC Try.prog 15 #[v0, v1, v2, v3] σ (Ty.tup2 (Ty.lst Ty.ints (if qMay nm n l cs leads many = 0 then qFnd n l cs leads many else [])) (Ty.int (qMay nm n l cs leads many))) := by
 refine fn_intro0 Try.func15 rfl Try.ntmps15 (Nat.le_of_ble_eq_true rfl) (fun s0 a0 hle F0 ok0 hargs => ?_)
 have p0 : At (Ty.agg [(Ty.val (Value.string nm)), (Ty.int n), (Ty.lst Ty.ints l)]) s0 a0 (.tmp 0) := by have e := hargs 0 _ rfl; show Ty.has _ _ _; rw [e]; exact Ty.up _ hle hv0
 have p1 : At (Ty.lstc 2 callC cs) s0 a0 (.tmp 1) := by have e := hargs 1 _ rfl; show Ty.has _ _ _; rw [e]; exact Ty.up _ hle hv1
 have b1 := sl_le p1
 have p2 : At (Ty.int leads) s0 a0 (.tmp 2) := by have e := hargs 2 _ rfl; show Ty.has _ _ _; rw [e]; exact Ty.up _ hle hv2
 have p3 : At (Ty.int many) s0 a0 (.tmp 3) := by have e := hargs 3 _ rfl; show Ty.has _ _ _; rw [e]; exact Ty.up _ hle hv3
 clear hargs
 refine wp_seq ?_
 refine reg (a := a0) (σ := s0) rfl (fun i_ => List.getD [(Ty.pr (Ty.ref [(Ty.val (Value.string nm)), (Ty.int n), (Ty.lst Ty.ints l)])), (Ty.pr (Ty.val (Value.slice none 0 0))), (Ty.pr (Ty.int (0 : Int)))] i_ Pr.any) ok0 rfl ⟨?_, ?_, ?_, trivial⟩ ?_
 · intro ax tx hs okx sm
   exact run_plain rfl (y_boxagg (kp (sm 0 rfl) hs p0))
 · intro ax tx hs okx sm
   exact run_plain rfl (y_assign rfl)
 · intro ax tx hs okx sm d0
   exact run_plain rfl (y_assign rfl)
 intro a1 s1 D1
 have ok1 := D1.ok
 have F1 := F0.step0 D1.stp
 have q1 := D1.kt p1 rfl
 have q2 := D1.kt p2 rfl
 have q3 := D1.kt p3 rfl
 have q4 : At (Ty.ref [(Ty.val (Value.string nm)), (Ty.int n), (Ty.lst Ty.ints l)]) s1 a1 (.tmp 4) := D1.done 0
 clear D1
 refine tn ?_
 refine wp_seq ?_
 refine wp_seq ?_
 refine reg (a := a1) (σ := s1) rfl (fun i_ => List.getD [(Ty.pr (Ty.agg [(Ty.val (Value.string nm)), (Ty.int n), (Ty.lst Ty.ints l)])), (Ty.pr (Ty.lstc 2 callC cs)), (Ty.pr (Ty.int (callsMay nm n l cs))), (Ty.pr (Ty.int (callsMay nm n l cs)))] i_ Pr.any) ok1 rfl ⟨?_, ?_, ?_, ?_, trivial⟩ ?_
 · intro ax tx hs okx sm
   exact run_plain rfl (y_loadagg Try.underlying31 Try.inf31 (kp (sm 4 rfl) hs q4))
 · intro ax tx hs okx sm
   exact run_plain rfl (y_move (kp (sm 1 rfl) hs q1))
 · intro ax tx hs okx sm d0 d1
   have e0 := ed d0 rfl rfl rfl
   have e1 := ed d1 rfl rfl rfl
   exact run_plain rfl (y_call #[ax.eval (.tmp 16), ax.eval (.tmp 17)] Try.func47 rfl rfl (by simp only [List.map_toArray, List.map_cons, List.map_nil]) (callCheck_fn (nm) (n) (l) (cs) _ _ _ e0 e1 (by first | omega | assumption) (by first | omega | assumption)))
 · intro ax tx hs okx sm d0 d1 d2 d3 d4
   have e2 := ed d0 rfl rfl rfl
   exact run_plain rfl (y_assign e2)
 intro a2 s2 D2
 have ok2 := D2.ok
 have F2 := F1.step0 D2.stp
 have q5 := D2.kt q1 rfl
 have q6 := D2.kt q2 rfl
 have q7 := D2.kt q3 rfl
 have q8 := D2.kt q4 rfl
 have q9 : At (Ty.int (callsMay nm n l cs)) s2 a2 (.tmp 10) := D2.done 3
 clear D2
 refine tn ?_
 refine wp_seq ?_
 refine reg (a := a2) (σ := s2) rfl (fun i_ => List.getD [(Ty.pr (Ty.int (callsMay nm n l cs))), (Ty.pr (Ty.bool (decide ((callsMay nm n l cs) ≠ (0 : Int)))))] i_ Pr.any) ok2 rfl ⟨?_, ?_, trivial⟩ ?_
 · intro ax tx hs okx sm
   exact run_plain rfl (y_move (kp (sm 10 rfl) hs q9))
 · intro ax tx hs okx sm d0
   have e0 := ed d0 rfl rfl rfl
   exact run_plain rfl (y_neq e0 rfl)
 intro a3 s3 D3
 have ok3 := D3.ok
 have F3 := F2.step0 D3.stp
 have q10 := D3.kt q5 rfl
 have q11 := D3.kt q6 rfl
 have q12 := D3.kt q7 rfl
 have q13 := D3.kt q8 rfl
 have q14 := D3.kt q9 rfl
 have q15 : At (Ty.bool (decide ((callsMay nm n l cs) ≠ (0 : Int)))) s3 a3 (.tmp 20) := D3.done 1
 clear D3
 refine tn ?_
 refine cond_p (p := ((callsMay nm n l cs) ≠ (0 : Int))) q15 (fun c1 => ?_) (fun c1 => ?_)
 ·
  have hm := qMay_calls (leads := leads) (many := many) c1
  refine wp_seq ?_
  refine reg (a := a3) (σ := s3) rfl (fun i_ => List.getD [(Ty.pr (Ty.int (callsMay nm n l cs))), (Ty.pr (Ty.val (Value.slice none 0 0))), (Ty.pr (Ty.int (callsMay nm n l cs)))] i_ Pr.any) ok3 rfl ⟨?_, ?_, ?_, trivial⟩ ?_
  · intro ax tx hs okx sm d0
    exact run_plain rfl (y_move (kp (sm 10 rfl) hs q14))
  · intro ax tx hs okx sm d0
    exact run_plain rfl (y_assign rfl)
  · intro ax tx hs okx sm d0 d1 d2 d3
    have e0 := ed d0 rfl rfl rfl
    exact run_plain rfl (y_assign e0)
  intro a4 s4 D4
  have ok4 := D4.ok
  have F4 := F3.step0 D4.stp
  have q16 : At (Ty.val (Value.slice none 0 0)) s4 a4 (.tmp 8) := D4.done 1
  have q17 : At (Ty.int (callsMay nm n l cs)) s4 a4 (.tmp 9) := D4.done 2
  clear D4
  refine tn ?_
  refine wp_ret ?_
  refine tr ?_
  exact retL2 rfl ok4 F4 (hasT2 (nil_lst (by (rw [hm, if_neg c1])) q16) (cvi (by (exact hm.symm)) q17))
 ·
  have h0 := Classical.not_not.1 c1; obtain ⟨hok, hnn⟩ := callsMay_ok h0; have hc8 := hok.c8; have hc1 := hok.c1; have hl1 := hok.meth.l1; have hl2 := hok.meth.l2; have hn1 := hok.meth.n1; have hn2 := hok.meth.n2
  refine wp_skip ?_
  refine tn ?_
  refine wp_seq ?_
  refine wp_seq ?_
  refine reg (a := a3) (σ := s3) rfl (fun i_ => List.getD [(Ty.pr (Ty.int leads)), (Ty.pr (Ty.bool (decide (leads < (1 : Int))))), (Ty.pr (Ty.bool (decide (leads < (1 : Int))))), (Ty.pr (Ty.grd ((decide (leads < (1 : Int))) = false) (Ty.int leads))), (Ty.pr (Ty.grd ((decide (leads < (1 : Int))) = false) (Ty.bool (decide ((24 : Int) < leads))))), (Ty.pr (Ty.bool ((decide (leads < (1 : Int))) || (decide ((24 : Int) < leads))))), (Ty.pr (Ty.bool ((decide (leads < (1 : Int))) || (decide ((24 : Int) < leads))))), (Ty.pr (Ty.grd (((decide (leads < (1 : Int))) || (decide ((24 : Int) < leads))) = false) (Ty.int many))), (Ty.pr (Ty.grd (((decide (leads < (1 : Int))) || (decide ((24 : Int) < leads))) = false) (Ty.bool (decide (many < (1 : Int)))))), (Ty.pr (Ty.bool (((decide (leads < (1 : Int))) || (decide ((24 : Int) < leads))) || (decide (many < (1 : Int)))))), (Ty.pr (Ty.bool (((decide (leads < (1 : Int))) || (decide ((24 : Int) < leads))) || (decide (many < (1 : Int)))))), (Ty.pr (Ty.grd ((((decide (leads < (1 : Int))) || (decide ((24 : Int) < leads))) || (decide (many < (1 : Int)))) = false) (Ty.int many))), (Ty.pr (Ty.grd ((((decide (leads < (1 : Int))) || (decide ((24 : Int) < leads))) || (decide (many < (1 : Int)))) = false) (Ty.bool (decide ((50 : Int) < many))))), (Ty.pr (Ty.bool ((((decide (leads < (1 : Int))) || (decide ((24 : Int) < leads))) || (decide (many < (1 : Int)))) || (decide ((50 : Int) < many)))))] i_ Pr.any) ok3 rfl ⟨?_, ?_, ?_, ?_, ?_, ?_, ?_, ?_, ?_, ?_, ?_, ?_, ?_, ?_, trivial⟩ ?_
  · intro ax tx hs okx sm
    exact run_plain rfl (y_move (kp (sm 2 rfl) hs q11))
  · intro ax tx hs okx sm d0
    have e0 := ed d0 rfl rfl rfl
    exact run_plain rfl (y_lss e0 rfl)
  · intro ax tx hs okx sm d0
    have e1 := ed d0 rfl rfl rfl
    exact run_plain rfl (y_move e1)
  · intro ax tx hs okx sm d0
    have e2 := ed d0 rfl rfl rfl
    refine run_guard (T := (Ty.int leads)) okx rfl rfl (by decide) e2 (fun hg => ?_)
    have hp := of_decide_eq_false hg
    exact y_move (kp (sm 2 rfl) hs q11)
  · intro ax tx hs okx sm d0 d1
    have e3 := ed d0 rfl rfl rfl
    have e2 := ed d1 rfl rfl rfl
    refine run_guard (T := (Ty.bool (decide ((24 : Int) < leads)))) okx rfl rfl (by decide) e2 (fun hg => ?_)
    have hp := of_decide_eq_false hg
    exact y_gtr (e3.1 hg) rfl
  · intro ax tx hs okx sm d0 d1
    have e2 := ed d0 rfl rfl rfl
    have e4 := ed d1 rfl rfl rfl
    exact run_plain rfl (y_pick_or e2 rfl e4)
  · intro ax tx hs okx sm d0 d1
    have e5 := ed d0 rfl rfl rfl
    exact run_plain rfl (y_move e5)
  · intro ax tx hs okx sm d0
    have e6 := ed d0 rfl rfl rfl
    refine run_guard (T := (Ty.int many)) okx rfl rfl (by decide) e6 (fun hg => ?_)
    obtain ⟨d1, d2⟩ := Bool.or_eq_false_iff.mp hg
    have d1 := of_decide_eq_false d1
    have d2 := of_decide_eq_false d2
    exact y_move (kp (sm 3 rfl) hs q12)
  · intro ax tx hs okx sm d0 d1
    have e7 := ed d0 rfl rfl rfl
    have e6 := ed d1 rfl rfl rfl
    refine run_guard (T := (Ty.bool (decide (many < (1 : Int))))) okx rfl rfl (by decide) e6 (fun hg => ?_)
    obtain ⟨d3, d4⟩ := Bool.or_eq_false_iff.mp hg
    have d3 := of_decide_eq_false d3
    have d4 := of_decide_eq_false d4
    exact y_lss (e7.1 hg) rfl
  · intro ax tx hs okx sm d0 d1
    have e6 := ed d0 rfl rfl rfl
    have e8 := ed d1 rfl rfl rfl
    exact run_plain rfl (y_pick_or e6 rfl e8)
  · intro ax tx hs okx sm d0 d1
    have e9 := ed d0 rfl rfl rfl
    exact run_plain rfl (y_move e9)
  · intro ax tx hs okx sm d0
    have e10 := ed d0 rfl rfl rfl
    refine run_guard (T := (Ty.int many)) okx rfl rfl (by decide) e10 (fun hg => ?_)
    obtain ⟨d5, d6⟩ := Bool.or_eq_false_iff.mp hg
    obtain ⟨d7, d8⟩ := Bool.or_eq_false_iff.mp d5
    have d7 := of_decide_eq_false d7
    have d8 := of_decide_eq_false d8
    have d6 := of_decide_eq_false d6
    exact y_move (kp (sm 3 rfl) hs q12)
  · intro ax tx hs okx sm d0 d1
    have e11 := ed d0 rfl rfl rfl
    have e10 := ed d1 rfl rfl rfl
    refine run_guard (T := (Ty.bool (decide ((50 : Int) < many)))) okx rfl rfl (by decide) e10 (fun hg => ?_)
    obtain ⟨d9, d10⟩ := Bool.or_eq_false_iff.mp hg
    obtain ⟨d11, d12⟩ := Bool.or_eq_false_iff.mp d9
    have d11 := of_decide_eq_false d11
    have d12 := of_decide_eq_false d12
    have d10 := of_decide_eq_false d10
    exact y_gtr (e11.1 hg) rfl
  · intro ax tx hs okx sm d0 d1
    have e10 := ed d0 rfl rfl rfl
    have e12 := ed d1 rfl rfl rfl
    exact run_plain rfl (y_pick_or e10 rfl e12)
  intro a5 s5 D5
  have ok5 := D5.ok
  have F5 := F3.step0 D5.stp
  have q18 := D5.kt q10 rfl
  have q19 := D5.kt q11 rfl
  have q20 := D5.kt q12 rfl
  have q21 := D5.kt q13 rfl
  have q22 : At (Ty.bool ((((decide (leads < (1 : Int))) || (decide ((24 : Int) < leads))) || (decide (many < (1 : Int)))) || (decide ((50 : Int) < many)))) s5 a5 (.tmp 35) := D5.done 13
  clear D5
  refine tn ?_
  refine cond_t q22 (fun c2 => ?_) (fun c2 => ?_)
  ·
   simp only [Bool.or_eq_true, decide_eq_true_eq] at c2; have hm := qMay_cnt c1 (many := many) (leads := leads) (by omega)
   refine wp_seq ?_
   refine reg (a := a5) (σ := s5) rfl (fun i_ => List.getD [(Ty.pr (Ty.val (Value.slice none 0 0))), (Ty.pr (Ty.int (1 : Int)))] i_ Pr.any) ok5 rfl ⟨?_, ?_, trivial⟩ ?_
   · intro ax tx hs okx sm
     exact run_plain rfl (y_assign rfl)
   · intro ax tx hs okx sm d0 d1
     exact run_plain rfl (y_assign rfl)
   intro a6 s6 D6
   have ok6 := D6.ok
   have F6 := F5.step0 D6.stp
   have q23 : At (Ty.val (Value.slice none 0 0)) s6 a6 (.tmp 8) := D6.done 0
   have q24 : At (Ty.int (1 : Int)) s6 a6 (.tmp 9) := D6.done 1
   clear D6
   refine tn ?_
   refine wp_ret ?_
   refine tr ?_
   exact retL2 rfl ok6 F6 (hasT2 (nil_lst (by (rw [hm, if_neg (by decide)])) q23) (cvi (by (exact hm.symm)) q24))
  ·
   obtain ⟨d13, d14⟩ := Bool.or_eq_false_iff.mp c2
   obtain ⟨d15, d16⟩ := Bool.or_eq_false_iff.mp d13
   obtain ⟨d17, d18⟩ := Bool.or_eq_false_iff.mp d15
   replace d17 := of_decide_eq_false d17
   replace d18 := of_decide_eq_false d18
   replace d16 := of_decide_eq_false d16
   replace d14 := of_decide_eq_false d14
   have hxx : ¬ (leads < 1 ∨ 24 < leads ∨ many < 1 ∨ 50 < many) := (by simp only [Bool.or_eq_false_iff, decide_eq_false_iff_not] at c2; omega); obtain ⟨LN, hLN⟩ : ∃ LN, LN = leads.toNat := ⟨_, rfl⟩; obtain ⟨MN, hMN⟩ : ∃ MN, MN = many.toNat := ⟨_, rfl⟩; have hb1 : 1 ≤ LN := (by omega); have hb2 : LN ≤ 24 := (by omega); have hb3 : 1 ≤ MN := (by omega); have hb4 : MN ≤ 50 := (by omega)
   have q25 : At (Ty.nat LN) s5 a5 (.tmp 2) := cvt (T := (Ty.int leads)) (U := (Ty.nat LN)) (by exact congrArg Ty.int (show leads = ((LN : Nat) : Int) by omega)) q19
   have q26 : At (Ty.nat MN) s5 a5 (.tmp 3) := cvt (T := (Ty.int many)) (U := (Ty.nat MN)) (by exact congrArg Ty.int (show many = ((MN : Nat) : Int) by omega)) q20
   refine wp_skip ?_
   refine tn ?_
   refine wp_seq ?_
   refine reg2 (a := a5) (σ := s5) rfl 4 (fun i_ => List.getD [(Ty.pr (Ty.agg [(Ty.val (Value.string nm)), (Ty.int n), (Ty.lst Ty.ints l)])), (Ty.pr (Ty.nat LN)), (Ty.pr (Ty.nat MN)), (Pr.ownm Ty.int kI 41 (fun _ => none : Int → Option Int))] i_ Pr.any) ok5 rfl (by decide) rfl ⟨?_, ?_, ?_, ?_, trivial⟩ ?_
   · intro ax tx hs okx sm
     exact run_plain rfl (y_loadagg Try.underlying31 Try.inf31 (kp (sm 4 rfl) hs q21))
   · intro ax tx hs okx sm
     exact run_plain rfl (y_move (kp (sm 2 rfl) hs q25))
   · intro ax tx hs okx sm
     exact run_plain rfl (y_move (kp (sm 3 rfl) hs q26))
   · intro ax tx hs okx sm
     exact run_plain rfl (y_makemap 41)
   intro a7 s7 D7
   have ok7 := D7.ok
   have F7 := F5.step0 D7.stp
   have q27 := D7.kt q18 rfl
   have q28 := D7.kt q21 rfl
   have q29 : At (Ty.agg [(Ty.val (Value.string nm)), (Ty.int n), (Ty.lst Ty.ints l)]) s7 a7 (.tmp 36) := D7.done 0 (by decide)
   have q30 : At (Ty.nat LN) s7 a7 (.tmp 37) := D7.done 1 (by decide)
   have q31 : At (Ty.nat MN) s7 a7 (.tmp 38) := D7.done 2 (by decide)
   obtain ⟨x1, hx1⟩ : ∃ x, a7.eval (.tmp 39) = x := ⟨_, rfl⟩
   have q32 : At (Ty.val x1) s7 a7 (.tmp 39) := hx1
   have o1 : OwnM Ty.int kI s7 41 x1 (fun _ => none : Int → Option Int) := al2 (R := (Pr.ownm Ty.int kI 41 (fun _ => none : Int → Option Int))) hx1 (D7.done 3 (by decide))
   clear D7
   refine tailL (L := []) (R := (fun v τ => Pr.has (Ty.pr (Ty.agg [(Ty.val (Value.string nm)), (Ty.int n), (Ty.lst Ty.ints l), (Ty.val (Value.slice none 0 0)), (Ty.nat LN), (Ty.nat MN), (Ty.val x1), (Ty.val (Value.slice none 0 0)), (Ty.int (0 : Int)), (Ty.val (Value.slice none 0 0)), (Ty.bool false)])) τ v)) rfl rfl (by decide) ok7 (Yld.toL (y_bld2 [(0, (.tmp 36), [(Ty.val (Value.string nm)), (Ty.int n), (Ty.lst Ty.ints l)]), (2, (.tmp 37), [(Ty.nat LN)]), (3, (.tmp 38), [(Ty.nat MN)]), (4, (.tmp 39), [(Ty.val x1)])] [(Ty.val (Value.string ByteArray.empty)), (Ty.int (0 : Int)), (Ty.val (Value.slice none 0 0)), (Ty.val (Value.slice none 0 0)), (Ty.int (0 : Int)), (Ty.int (0 : Int)), (Ty.val (Value.map none)), (Ty.val (Value.slice none 0 0)), (Ty.int (0 : Int)), (Ty.val (Value.slice none 0 0)), (Ty.bool false)] (l := [(0, 3), (3, 1), (4, 1), (5, 1), (6, 1), (7, 1), (8, 1), (9, 1), (10, 1)]) rfl Try.inf89 rfl (alloc_vals (vs := [.string ByteArray.empty, .int .i64 0, .slice none 0 0, .slice none 0 0, .int .i64 0, .int .i64 0, .map none, .slice none 0 0, .int .i64 0, .slice none 0 0, .bool false]) rfl) rfl (by intro p hp; simp only [List.mem_cons, List.not_mem_nil, or_false] at hp; rcases hp with rfl | rfl | rfl | rfl; exact fits_agg q29; exact fits_one (one_val rfl) q30; exact fits_one (one_val rfl) q31; exact fits_one (one_val (OwnM.one o1)) q32))) (fun a8 s8 hs1 ok8 r1 sm1 => ?_)
   have F8 := F7.stepL hs1 (by decide)
   have q33 := kpL hs1 (by decide) (sm1 1 (by decide)) q27
   have q34 := kpL hs1 (by decide) (sm1 4 (by decide)) q28
   have o2 := OwnM.keepL o1 hs1 (by decide) (by decide)
   have q35 : At (Ty.agg [(Ty.val (Value.string nm)), (Ty.int n), (Ty.lst Ty.ints l), (Ty.val (Value.slice none 0 0)), (Ty.nat LN), (Ty.nat MN), (Ty.val x1), (Ty.val (Value.slice none 0 0)), (Ty.int (0 : Int)), (Ty.val (Value.slice none 0 0)), (Ty.bool false)]) s8 a8 (.tmp 40) := r1
   clear r1
   refine tailL (L := []) (R := (fun v τ => Pr.has (Pr.ownp 40 [(Ty.val (Value.string nm)), (Ty.int n), (Ty.lst Ty.ints l), (Ty.val (Value.slice none 0 0)), (Ty.nat LN), (Ty.nat MN), (Ty.val x1), (Ty.val (Value.slice none 0 0)), (Ty.int (0 : Int)), (Ty.val (Value.slice none 0 0)), (Ty.bool false)]) τ v)) rfl rfl (by decide) ok8 (Yld.toL (y_boxo 40 q35)) (fun a9 s9 hs2 ok9 r2 sm2 => ?_)
   have F9 := F8.stepL hs2 (by decide)
   have q36 := kpL hs2 (by decide) (sm2 1 (by decide)) q33
   have q37 := kpL hs2 (by decide) (sm2 4 (by decide)) q34
   have o4 := OwnM.keepL o2 hs2 (by decide) (by decide)
   obtain ⟨x2, hx2⟩ : ∃ x, a9.eval (.tmp 41) = x := ⟨_, rfl⟩
   have q38 : At (Ty.val x2) s9 a9 (.tmp 41) := hx2
   have o3 : OwnP s9 40 x2 [(Ty.val (Value.string nm)), (Ty.int n), (Ty.lst Ty.ints l), (Ty.val (Value.slice none 0 0)), (Ty.nat LN), (Ty.nat MN), (Ty.val x1), (Ty.val (Value.slice none 0 0)), (Ty.int (0 : Int)), (Ty.val (Value.slice none 0 0)), (Ty.bool false)] := al2 (R := (Pr.ownp 40 [(Ty.val (Value.string nm)), (Ty.int n), (Ty.lst Ty.ints l), (Ty.val (Value.slice none 0 0)), (Ty.nat LN), (Ty.nat MN), (Ty.val x1), (Ty.val (Value.slice none 0 0)), (Ty.int (0 : Int)), (Ty.val (Value.slice none 0 0)), (Ty.bool false)])) hx2 r2
   clear r2
   refine tailL (L := []) (R := (fun v τ => Pr.has (Ty.pr (Ty.val x2)) τ v)) rfl rfl (by decide) ok9 (Yld.toL (y_assign q38)) (fun a10 s10 hs3 ok10 r3 sm3 => ?_)
   have F10 := F9.stepL hs3 (by decide)
   have q39 := kpL hs3 (by decide) (sm3 1 (by decide)) q36
   have q40 := kpL hs3 (by decide) (sm3 4 (by decide)) q37
   have o5 := OwnM.keepL o4 hs3 (by decide) (by decide)
   have o6 := OwnP.keepL o3 hs3 (by decide) (by decide)
   have q41 : At (Ty.val x2) s10 a10 (.tmp 11) := r3
   clear r3
   refine wpList_nil ?_
   refine tn ?_
   refine wp_seq ?_
   refine wp_seq ?_
   refine reg (a := a10) (σ := s10) rfl (fun i_ => List.getD [(Ty.pr (Ty.lstc 2 callC cs)), (Ty.pr (Ty.nat (List.length cs))), (Ty.pr (Ty.int (0 : Int)))] i_ Pr.any) ok10 rfl ⟨?_, ?_, ?_, trivial⟩ ?_
   · intro ax tx hs okx sm
     exact run_plain rfl (y_move (kp (sm 1 rfl) hs q39))
   · intro ax tx hs okx sm d0
     have e0 := ed d0 rfl rfl rfl
     exact run_plain rfl (y_len Try.underlying22 e0)
   · intro ax tx hs okx sm
     exact run_plain rfl (y_move rfl)
   intro a11 s11 D8
   have ok11 := D8.ok
   have F11 := F10.step0 D8.stp
   have q42 := D8.kt q40 rfl
   have q43 := D8.kt q41 rfl
   have o7 := OwnM.k0 o5 D8.stp
   have o8 := OwnP.k0 o6 D8.stp
   have q44 : At (Ty.lstc 2 callC cs) s11 a11 (.tmp 42) := D8.done 0
   have q45 : At (Ty.nat (List.length cs)) s11 a11 (.tmp 43) := D8.done 1
   have q46 : At (Ty.int (0 : Int)) s11 a11 (.tmp 44) := D8.done 2
   clear D8
   refine tn ?_
   refine wp_block ?_
   have o9 : Own s11 50 29 1 (Value.slice none 0 0) 0 (List.map Ty.rows ([] : List (List (List Int)))) := Own.nil _ _ _ _
   refine loop (fun n1 a12 w1 => ∃ (t1 : GW) (k : Nat) (x11_0 ln mp : Value), t1.w = w1 ∧ FromL [] s0 t1 ∧ Ok 78 a12 ∧ At (Ty.nat k) t1 a12 (.tmp 44) ∧ At (Ty.val x11_0) t1 a12 (.tmp 11) ∧ At (Ty.ref [(Ty.val (Value.string nm)), (Ty.int n), (Ty.lst Ty.ints l)]) t1 a12 (.tmp 4) ∧ At (Ty.lstc 2 callC cs) t1 a12 (.tmp 42) ∧ At (Ty.nat (List.length cs)) t1 a12 (.tmp 43) ∧ OwnP t1 40 x11_0 [(Ty.val (Value.string nm)), (Ty.int n), (Ty.lst Ty.ints l), (Ty.val ln), (Ty.nat LN), (Ty.nat MN), (Ty.val mp), (Ty.val (Value.slice none 0 0)), (Ty.nat 0), (Ty.val (Value.slice none 0 0)), (Ty.bool false)] ∧ Own t1 50 29 1 ln (List.length (List.map (endsL l) (List.take k cs))) (List.map Ty.rows (List.map (endsL l) (List.take k cs))) ∧ OwnM Ty.int kI t1 41 mp (fun _ => none) ∧ (k ≤ cs.length) ∧ n1 = cs.length - k) (cs.length - (0)) ?_ ?_
   ·
    exact ⟨s11, 0, x2, (Value.slice none 0 0), x1, rfl, F11, ok11, (cvi (by (first | rfl | omega | (simp_all; done) | (simp_all; omega))) q46), q43, q42, q44, q45, (ownp_cell 8 (Ty.nat 0) o8 rfl (fun _ _ h => (cvi (by (first | rfl | omega | (simp_all; done) | (simp_all; omega))) h))), (cvo (by (rfl)) (by (rfl)) o9), (cvm (by (rfl)) o7), by omega, rfl⟩
   ·
    rintro n2 a13 w2 ⟨t2, k, x11_0, ln, mp, rfl, F12, ok12, q47, q48, q49, q50, q51, o10, o11, o12, hk, rfl⟩
    have hlm : (List.map (endsL l) (List.take k cs)).length = k := by rw [List.length_map, List.length_take]; omega
    refine wp_seq ?_
    refine reg (a := a13) (σ := t2) rfl (fun i_ => List.getD [(Ty.pr (Ty.bool (decide (((k : Nat) : Int) < (((List.length cs) : Nat) : Int)))))] i_ Pr.any) ok12 rfl ⟨?_, trivial⟩ ?_
    · intro ax tx hs okx sm
      exact run_plain rfl (y_lss (kp (sm 44 rfl) hs q47) (kp (sm 43 rfl) hs q51))
    intro a14 s12 D9
    have ok13 := D9.ok
    have F13 := F12.step0 D9.stp
    have q52 := D9.kt q47 rfl
    have q53 := D9.kt q48 rfl
    have q54 := D9.kt q49 rfl
    have q55 := D9.kt q50 rfl
    have q56 := D9.kt q51 rfl
    have o13 := OwnP.k0 o10 D9.stp
    have o14 := Own.k0 o11 D9.stp
    have o15 := OwnM.k0 o12 D9.stp
    have q57 : At (Ty.bool (decide (((k : Nat) : Int) < (((List.length cs) : Nat) : Int)))) s12 a14 (.tmp 45) := D9.done 0
    clear D9
    refine tn ?_
    refine wp_seq ?_
    refine cond_p (p := (((k : Nat) : Int) < (((List.length cs) : Nat) : Int))) q57 (fun c3 => ?_) (fun c3 => ?_)
    ·
     have hkc : k < cs.length := (by omega); have hshk := hok.short k hkc
     refine wp_skip ?_
     refine tn ?_
     refine wp_seq ?_
     refine wp_block ?_
     refine wp_seq ?_
     refine reg2 (a := a14) (σ := s12) rfl 3 (fun i_ => List.getD [(Ty.pr (Ty.ref [(Ty.val (Value.int .i32 ((cs.getD k D0)).1)), (Ty.lst Ty.ints ((cs.getD k D0)).2)])), (Ty.pr (Ty.agg [(Ty.val (Value.int .i32 ((cs.getD k D0)).1)), (Ty.lst Ty.ints ((cs.getD k D0)).2)])), (Pr.ownp 61 [(Ty.val (Value.int .i32 0)), (Ty.val (Value.slice none 0 0))])] i_ Pr.any) ok13 rfl (by decide) rfl ⟨?_, ?_, ?_, trivial⟩ ?_
     · intro ax tx hs okx sm
       exact run_plain rfl (y_indexc (i := ((k : Nat) : Int)) D0 Try.underlying22 Try.inf56 (kp (sm 42 rfl) hs q55) (kp (sm 44 rfl) hs q52) (by omega) (by omega) (by decide) (fun _ => rfl))
     · intro ax tx hs okx sm d0
       have e0 := ed d0 rfl rfl rfl
       exact run_plain rfl (y_loadagg Try.underlying56 Try.inf56 e0)
     · intro ax tx hs okx sm
       exact run_plain rfl (y_alloc Try.inf56 rfl (alloc_vals (vs := [.int .i32 0, .slice none 0 0]) rfl))
     intro a15 s13 D10
     have ok14 := D10.ok
     have F14 := F13.step0 D10.stp
     have q58 := D10.kt q52 rfl
     have q59 := D10.kt q53 rfl
     have q60 := D10.kt q54 rfl
     have q61 := D10.kt q55 rfl
     have q62 := D10.kt q56 rfl
     have o16 := OwnP.k0 o13 D10.stp
     have o17 := Own.k0 o14 D10.stp
     have o18 := OwnM.k0 o15 D10.stp
     have q63 : At (Ty.agg [(Ty.val (Value.int .i32 ((cs.getD k D0)).1)), (Ty.lst Ty.ints ((cs.getD k D0)).2)]) s13 a15 (.tmp 47) := D10.done 1 (by decide)
     obtain ⟨x3, hx3⟩ : ∃ x, a15.eval (.tmp 13) = x := ⟨_, rfl⟩
     have q64 : At (Ty.val x3) s13 a15 (.tmp 13) := hx3
     have o19 : OwnP s13 61 x3 [(Ty.val (Value.int .i32 0)), (Ty.val (Value.slice none 0 0))] := al2 (R := (Pr.ownp 61 [(Ty.val (Value.int .i32 0)), (Ty.val (Value.slice none 0 0))])) hx3 (D10.done 2 (by decide))
     clear D10
     refine tailL0 (L := [61]) (R := (fun _ τ => OwnP τ 61 x3 [(Ty.val (Value.int .i32 ((cs.getD k D0)).1)), (Ty.lst Ty.ints ((cs.getD k D0)).2)])) rfl rfl (YldM.toL (m_storeagg Try.inf56 (by decide) o19 q64 rfl q63 (by intro U hU; simp only [List.mem_cons, List.not_mem_nil, or_false] at hU; rcases hU with rfl | rfl <;> first | exact one_val rfl | exact one_sl | exact one_ref))) (fun v1 s14 hs4 r4 => ?_)
     have F15 := F14.stepL hs4 (by decide)
     have q65 := kpL hs4 (by decide) rfl q58
     have q66 := kpL hs4 (by decide) rfl q59
     have q67 := kpL hs4 (by decide) rfl q60
     have q68 := kpL hs4 (by decide) rfl q61
     have q69 := kpL hs4 (by decide) rfl q62
     have q70 := kpL hs4 (by decide) rfl q64
     have o21 := OwnP.keepL o16 hs4 (by decide) (by decide)
     have o22 := Own.keepL o17 hs4 (by decide) (by decide)
     have o23 := OwnM.keepL o18 hs4 (by decide) (by decide)
     have o20 : OwnP s14 61 x3 [(Ty.val (Value.int .i32 ((cs.getD k D0)).1)), (Ty.lst Ty.ints ((cs.getD k D0)).2)] := r4
     clear r4
     refine wpList_nil ?_
     refine tn ?_
     refine reg3 (a := a15) (σ := s14) rfl 10 9 57 [50] (by decide) (Pr.own 50 29 1 ((List.length (List.map (endsL l) (List.take k cs))) + 1) ((List.map Ty.rows (List.map (endsL l) (List.take k cs))) ++ [(Ty.lst Ty.ints (endsL l ((cs.getD k D0).1, (cs.getD k D0).2)))])) (fun i_ => List.getD [(Ty.val x11_0), (Ty.val x11_0), (Ty.val x11_0), (Ty.val (ptrAt x11_0 3)), (Ty.val ln), (Ty.agg [(Ty.val (Value.string nm)), (Ty.int n), (Ty.lst Ty.ints l)]), (Ty.agg [(Ty.val (Value.int .i32 ((cs.getD k D0)).1)), (Ty.lst Ty.ints ((cs.getD k D0)).2)]), (Ty.lst Ty.ints (endsL l ((((cs.getD k D0)).1), (((cs.getD k D0)).2)))), (Ty.sl 1 1 [(Ty.lst Ty.ints (endsL l ((((cs.getD k D0)).1), (((cs.getD k D0)).2))))]), Ty.any] i_ Ty.any) ok14 rfl (by decide) rfl (by decide) rfl (fun _ _ => trivial) rfl ⟨?_, ?_, ?_, ?_, ?_, ?_, ?_, ?_, ?_, ?_, trivial⟩ ?_
     · refine obR3 (by decide) ?_
       intro ax tx hs okx sm
       exact run_plain rfl (y_move (kpL hs (by decide) (sm 11 rfl) q66))
     · refine obR3 (by decide) ?_
       intro ax tx hs okx sm
       exact run_plain rfl (y_move (kpL hs (by decide) (sm 11 rfl) q66))
     · refine obR3 (by decide) ?_
       intro ax tx hs okx sm d0
       have e1 : At (Ty.val x11_0) tx ax (.tmp 49) := d0 rfl
       exact run_plain rfl (y_nilp (OwnP.keepL o21 hs (by decide) (by decide)) e1)
     · refine obR3 (by decide) ?_
       intro ax tx hs okx sm d0
       have e2 : At (Ty.val x11_0) tx ax (.tmp 50) := d0 rfl
       exact run_plain rfl (ownp_field Try.fld89_1 Try.inf87 (by decide) (OwnP.keepL o21 hs (by decide) (by decide)) e2)
     · refine obR3 (by decide) ?_
       intro ax tx hs okx sm d0
       have e3 : At (Ty.val (ptrAt x11_0 3)) tx ax (.tmp 51) := d0 rfl
       exact run_plain rfl (ownp_load Try.underlying87 rfl (OwnP.keepL o21 hs (by decide) (by decide)) e3 rfl)
     · refine obR3 (by decide) ?_
       intro ax tx hs okx sm
       exact run_plain rfl (y_loadagg Try.underlying31 Try.inf31 (kpL hs (by decide) (sm 4 rfl) q67))
     · refine obR3 (by decide) ?_
       intro ax tx hs okx sm
       exact run_plain rfl (ownp_loadagg Try.underlying56 Try.inf56 (OwnP.keepL o20 hs (by decide) (by decide)) (kpL hs (by decide) (sm 13 rfl) q70))
     · refine obR3 (by decide) ?_
       intro ax tx hs okx sm d0 d1
       have e5 : At (Ty.agg [(Ty.val (Value.string nm)), (Ty.int n), (Ty.lst Ty.ints l)]) tx ax (.tmp 53) := d0 rfl
       have e6 : At (Ty.agg [(Ty.val (Value.int .i32 ((cs.getD k D0)).1)), (Ty.lst Ty.ints ((cs.getD k D0)).2)]) tx ax (.tmp 54) := d1 rfl
       exact run_plain rfl (y_call #[ax.eval (.tmp 53), ax.eval (.tmp 54)] Try.func48 rfl rfl (by simp only [List.map_toArray, List.map_cons, List.map_nil]) (changes_fn (nm) (n) (l) (((cs.getD k D0)).1) (((cs.getD k D0)).2) _ _ _ e5 e6 (by first | omega | assumption) (by first | omega | assumption) (by first | omega | assumption)))
     · refine obR3 (by decide) ?_
       intro ax tx hs okx sm d0
       have e7 : At (Ty.lst Ty.ints (endsL l ((((cs.getD k D0)).1), (((cs.getD k D0)).2)))) tx ax (.tmp 55) := d0 rfl
       exact run_plain rfl (y_build1o Try.underlying87 Try.inf29 rfl (one_sl) e7)
     · refine obR3w rfl ?_
       intro ax tx hs okx sm d0 d1 d2
       have e4 : At (Ty.val ln) tx ax (.tmp 52) := d0 rfl
       have e8 : At (Ty.sl 1 1 [(Ty.lst Ty.ints (endsL l ((cs.getD k D0).1, (cs.getD k D0).2)))]) tx ax (.tmp 56) := d1 rfl
       exact YldM.toL (m_append Try.underlying87 Try.inf29 (by decide) rfl (by decide) (al (R := (Pr.own 50 29 1 (List.length (List.map (endsL l) (List.take k cs))) (List.map Ty.rows (List.map (endsL l) (List.take k cs))))) e4 (Own.k0 o22 hs)) e8 (by intro U hU; simp at hU; subst hU; exact one_sl) (by omega) (by omega))
     intro a16 s15 D11
     have ok15 := D11.ok
     have F16 := F15.stepL D11.stp (by decide)
     have q72 : At (Ty.nat k) s15 a16 (.tmp 44) := D11.kt (by decide) q65 rfl
     have q73 : At (Ty.val x11_0) s15 a16 (.tmp 11) := D11.kt (by decide) q66 rfl
     have q74 : At (Ty.ref [(Ty.val (Value.string nm)), (Ty.int n), (Ty.lst Ty.ints l)]) s15 a16 (.tmp 4) := D11.kt (by decide) q67 rfl
     have q75 : At (Ty.lstc 2 callC cs) s15 a16 (.tmp 42) := D11.kt (by decide) q68 rfl
     have q76 : At (Ty.nat (List.length cs)) s15 a16 (.tmp 43) := D11.kt (by decide) q69 rfl
     have o25 := OwnP.keepL o21 D11.stp (by decide) (by decide)
     have o26 := OwnM.keepL o23 D11.stp (by decide) (by decide)
     have o27 := OwnP.keepL o20 D11.stp (by decide) (by decide)
     have q77 : At (Ty.val x11_0) s15 a16 (.tmp 48) := D11.done 0 (by decide)
     obtain ⟨x4, hx4⟩ : ∃ x, a16.eval (.tmp 57) = x := ⟨_, rfl⟩
     have q78 : At (Ty.val x4) s15 a16 (.tmp 57) := hx4
     have o24 : Own s15 50 29 1 x4 (List.length ((List.map (endsL l) (List.take k cs)) ++ [(endsL l ((cs.getD k D0).1, (cs.getD k D0).2))])) (List.map Ty.rows ((List.map (endsL l) (List.take k cs)) ++ [(endsL l ((cs.getD k D0).1, (cs.getD k D0).2))])) := al2 (R := (Pr.own 50 29 1 (List.length ((List.map (endsL l) (List.take k cs)) ++ [(endsL l ((cs.getD k D0).1, (cs.getD k D0).2))])) (List.map Ty.rows ((List.map (endsL l) (List.take k cs)) ++ [(endsL l ((cs.getD k D0).1, (cs.getD k D0).2))])))) hx4 (cvo (by simp) (by first | (rw [List.map_append]; rfl) | simp) D11.donep)
     clear D11
     refine tailL (L := []) (R := (fun v τ => Pr.has (Ty.pr (Ty.val x11_0)) τ v)) rfl rfl (by decide) ok15 (Yld.toL (y_nilp o25 q77)) (fun a17 s16 hs5 ok16 r5 sm4 => ?_)
     have F17 := F16.stepL hs5 (by decide)
     have q79 := kpL hs5 (by decide) (sm4 44 (by decide)) q72
     have q80 := kpL hs5 (by decide) (sm4 11 (by decide)) q73
     have q81 := kpL hs5 (by decide) (sm4 4 (by decide)) q74
     have q82 := kpL hs5 (by decide) (sm4 42 (by decide)) q75
     have q83 := kpL hs5 (by decide) (sm4 43 (by decide)) q76
     have q84 := kpL hs5 (by decide) (sm4 57 (by decide)) q78
     have o28 := OwnP.keepL o25 hs5 (by decide) (by decide)
     have o29 := OwnM.keepL o26 hs5 (by decide) (by decide)
     have o30 := OwnP.keepL o27 hs5 (by decide) (by decide)
     have o31 := Own.keepL o24 hs5 (by decide) (by decide)
     have q85 : At (Ty.val x11_0) s16 a17 (.tmp 58) := r5
     clear r5
     refine tailL (L := []) (R := (fun v τ => Pr.has (Ty.pr (Ty.val (ptrAt x11_0 3))) τ v)) rfl rfl (by decide) ok16 (Yld.toL (ownp_field Try.fld89_1 Try.inf87 (by decide) o28 q85)) (fun a18 s17 hs6 ok17 r6 sm5 => ?_)
     have F18 := F17.stepL hs6 (by decide)
     have q86 := kpL hs6 (by decide) (sm5 44 (by decide)) q79
     have q87 := kpL hs6 (by decide) (sm5 11 (by decide)) q80
     have q88 := kpL hs6 (by decide) (sm5 4 (by decide)) q81
     have q89 := kpL hs6 (by decide) (sm5 42 (by decide)) q82
     have q90 := kpL hs6 (by decide) (sm5 43 (by decide)) q83
     have q91 := kpL hs6 (by decide) (sm5 57 (by decide)) q84
     have o32 := OwnP.keepL o28 hs6 (by decide) (by decide)
     have o33 := OwnM.keepL o29 hs6 (by decide) (by decide)
     have o34 := OwnP.keepL o30 hs6 (by decide) (by decide)
     have o35 := Own.keepL o31 hs6 (by decide) (by decide)
     have q92 : At (Ty.val (ptrAt x11_0 3)) s17 a18 (.tmp 59) := r6
     clear r6
     refine tailL0 (L := [40]) (R := (fun _ τ => OwnP τ 40 x11_0 ([(Ty.val (Value.string nm)), (Ty.int n), (Ty.lst Ty.ints l), (Ty.val ln), (Ty.nat LN), (Ty.nat MN), (Ty.val mp), (Ty.val (Value.slice none 0 0)), (Ty.nat 0), (Ty.val (Value.slice none 0 0)), (Ty.bool false)].set 3 (Ty.val x4)))) rfl rfl (YldM.toL (m_storep Try.inf87 (by decide) o32 q92 (Nat.le_of_ble_eq_true rfl) q91 (one_val (Own.one o35)))) (fun v2 s18 hs7 r7 => ?_)
     have F19 := F18.stepL hs7 (by decide)
     have q93 := kpL hs7 (by decide) rfl q86
     have q94 := kpL hs7 (by decide) rfl q87
     have q95 := kpL hs7 (by decide) rfl q88
     have q96 := kpL hs7 (by decide) rfl q89
     have q97 := kpL hs7 (by decide) rfl q90
     have o37 := OwnM.keepL o33 hs7 (by decide) (by decide)
     have o38 := OwnP.keepL o34 hs7 (by decide) (by decide)
     have o39 := Own.keepL o35 hs7 (by decide) (by decide)
     have o36 : OwnP s18 40 x11_0 [(Ty.val (Value.string nm)), (Ty.int n), (Ty.lst Ty.ints l), (Ty.val x4), (Ty.nat LN), (Ty.nat MN), (Ty.val mp), (Ty.val (Value.slice none 0 0)), (Ty.nat 0), (Ty.val (Value.slice none 0 0)), (Ty.bool false)] := r7
     clear r7
     refine wpList_nil ?_
     refine bn ?_
     refine tn ?_
     refine reg (a := a18) (σ := s18) rfl (fun i_ => List.getD [(Ty.pr (Ty.nat (k + 1))), (Ty.pr (Ty.nat (k + 1)))] i_ Pr.any) ok17 rfl ⟨?_, ?_, trivial⟩ ?_
     · intro ax tx hs okx sm
       exact run_plain rfl ((y_add (kp (sm 44 rfl) hs q93) rfl (w64 (by omega) (by omega))).mono (fun τ _ h => cvi (σ := τ) (by first | omega | exact (Int.natCast_mul _ _).symm) h))
     · intro ax tx hs okx sm d0
       have e0 := ed d0 rfl rfl rfl
       exact run_plain rfl (y_move e0)
     intro a19 s19 D12
     have ok18 := D12.ok
     have F20 := F19.step0 D12.stp
     have q99 := D12.kt q94 rfl
     have q100 := D12.kt q95 rfl
     have q101 := D12.kt q96 rfl
     have q102 := D12.kt q97 rfl
     have o40 := OwnM.k0 o37 D12.stp
     have o41 := Own.k0 o39 D12.stp
     have o42 := OwnP.k0 o36 D12.stp
     have q103 : At (Ty.nat (k + 1)) s19 a19 (.tmp 44) := D12.done 1
     clear D12
     exact tn ⟨cs.length - ((k+1)), by omega, s19, (k+1), x11_0, x4, mp, rfl, F20, ok18, (cvi (by (first | rfl | omega | (simp_all; done) | (simp_all; omega))) q103), q99, q100, q101, q102, o42, (cvo (by (rw [lines_snoc (by omega)])) (by (rw [lines_snoc (by omega)])) o41), o40, by omega, rfl⟩
    ·
     have hke : k = cs.length := (by omega)
     refine wp_exit ?_
     refine tx ?_
     refine tx ?_
     refine bx ?_
     refine tn ?_
     refine wp_seq ?_
     refine reg (a := a14) (σ := s12) rfl (fun i_ => List.getD [(Ty.pr (Ty.ref [(Ty.int n), (Ty.lst Ty.ints l)])), (Ty.pr (Ty.int n)), (Ty.pr (Ty.tup2 (Ty.lst Ty.int (roundsL ((n).toNat))) (Ty.int (0 : Int)))), (Ty.pr (Ty.tup2 (Ty.lst Ty.int (roundsL ((n).toNat))) (Ty.int (0 : Int)))), (Ty.pr (Ty.lst Ty.int (roundsL ((n).toNat)))), (Ty.pr (Ty.int (0 : Int))), (Ty.pr (Ty.lst Ty.int (roundsL ((n).toNat)))), (Ty.pr (Ty.int (0 : Int)))] i_ Pr.any) ok13 rfl ⟨?_, ?_, ?_, ?_, ?_, ?_, ?_, ?_, trivial⟩ ?_
     · intro ax tx hs okx sm
       exact run_plain rfl (y_field Try.fld31_1 Try.inf3 (by decide) (kp (sm 4 rfl) hs q54) rfl)
     · intro ax tx hs okx sm d0
       have e0 := ed d0 rfl rfl rfl
       exact run_plain rfl (y_load Try.underlying3 rfl e0 rfl)
     · intro ax tx hs okx sm d0
       have e1 := ed d0 rfl rfl rfl
       exact run_plain rfl (y_call #[ax.eval (.tmp 63)] Try.func49 rfl rfl (by simp only [List.map_toArray, List.map_cons, List.map_nil]) (rounds_fn ((n).toNat) _ _ (cvi (σ := tx) (by omega) e1) (by omega)))
     · intro ax tx hs okx sm d0
       have e2 := ed d0 rfl rfl rfl
       exact run_plain rfl (y_move e2)
     · intro ax tx hs okx sm d0
       have e3 := ed d0 rfl rfl rfl
       exact run_plain rfl (y_ext2_0 e3)
     · intro ax tx hs okx sm d0 d1
       have e3 := ed d0 rfl rfl rfl
       exact run_plain rfl (y_ext2_1 e3)
     · intro ax tx hs okx sm d0 d1 d2 d3 d4 d5 d6 d7
       have e4 := ed d0 rfl rfl rfl
       exact run_plain rfl (y_assign e4)
     · intro ax tx hs okx sm d0 d1 d2 d3 d4 d5 d6 d7 d8
       have e5 := ed d0 rfl rfl rfl
       exact run_plain rfl (y_assign e5)
     intro a20 s20 D13
     have ok19 := D13.ok
     have F21 := F13.step0 D13.stp
     have q104 := D13.kt q53 rfl
     have o43 := OwnP.k0 o13 D13.stp
     have o44 := Own.k0 o14 D13.stp
     have o45 := OwnM.k0 o15 D13.stp
     have q105 : At (Ty.lst Ty.int (roundsL ((n).toNat))) s20 a20 (.tmp 14) := D13.done 6
     clear D13
     refine tn ?_
     refine wp_seq ?_
     obtain ⟨t3, e1, h1, q106⟩ := Own.seal o44 (by decide)
     rw [← e1]
     have F22 := F21.step h1 (by decide)
     have o46 := OwnP.keepL o43 (h1.toL (L := [50]) (by simp)) (by decide) (by decide)
     have o47 := OwnM.keepL o45 (h1.toL (L := [50]) (by simp)) (by decide) (by decide)
     have q107 := Ty.up (Ty.val x11_0) (h1.le (by decide)) q104
     have q108 := Ty.up (Ty.lst Ty.int (roundsL ((n).toNat))) (h1.le (by decide)) q105
     have o48 := ownp_cellq 3 (Ty.lst Ty.rows (List.map (endsL l) (List.take k cs))) o46 rfl q106
     have p1_ : inCalls cs ([] : List Int) := fun i hi => by simp at hi
     have p2_ : QOk MN (Qst.mk 0 [] false) := qok_zero MN
     have p3_ : LN + List.length ([] : List Int) = LN := rfl
     have p4_ : trueP n.toNat l cs ([] : List Int) = true := true_nil _ _ _
     have p5_ : VisOk n.toNat l cs ([] : List Int) ([] : List Int) := vis_nil _ _ _
     have p6_ : roundsL n.toNat = tHd n.toNat l cs ([] : List Int) (List.length ([] : List Int)) := rfl
     have p7_ : (List.map (endsL l) cs) = cs.map (endsL l) := rfl
     have p8_ : List.map (endsL l) (List.take k cs) = List.map (endsL l) cs := by rw [hke, List.take_length]
     refine reg2 (a := a20) (σ := t3) rfl 2 (fun i_ => List.getD [(Ty.pr (Ty.val x11_0)), (Ty.pr (Ty.lst Ty.int (roundsL ((n).toNat))))] i_ Pr.any) ok19 rfl (by decide) rfl ⟨?_, ?_, trivial⟩ ?_
     · intro ax tx hs okx sm
       exact run_plain rfl (y_move (kp (sm 11 rfl) hs q107))
     · intro ax tx hs okx sm
       exact run_plain rfl (y_move (kp (sm 14 rfl) hs q108))
     intro a21 s21 D14
     have ok20 := D14.ok
     have F23 := F22.step0 D14.stp
     have q109 := D14.kt q107 rfl
     have o49 := OwnP.k0 o48 D14.stp
     have o50 := OwnM.k0 o47 D14.stp
     have q110 : At (Ty.val x11_0) s21 a21 (.tmp 67) := D14.done 0 (by decide)
     have q111 : At (Ty.lst Ty.int (roundsL ((n).toNat))) s21 a21 (.tmp 68) := D14.done 1 (by decide)
     clear D14
     have o51 : Own s21 42 3 1 (Value.slice none 0 0) 0 (List.map Ty.int ([] : List Int)) := Own.nil _ _ _ _
     have o52 : Own s21 43 23 1 ((Value.slice none 0 0)) 0 (List.map Ty.ints ([] : List (List Int))) := Own.nil _ _ _ _
     refine tailL (L := [40, 41, 42, 43]) (R := (fun v τ' => ∃ τ, (fun v τ => ∃ (pz : Value), ∃ (fz : Value), True ∧ (OwnP τ 40 x11_0 [(Ty.val (Value.string nm)), (Ty.int n), (Ty.lst Ty.ints l), (Ty.lst Ty.rows ((List.map (endsL l) (List.take k cs)))), (Ty.nat (LN)), (Ty.nat (MN)), (Ty.val mp), (Ty.val pz), (Ty.nat (goQ n.toNat l cs (LN) (MN) (LN) (([] : List Int)) (Qst.mk (0) (([] : List (List Int))) (false))).met), (Ty.val fz), (Ty.bool (goQ n.toNat l cs (LN) (MN) (LN) (([] : List Int)) (Qst.mk (0) (([] : List (List Int))) (false))).full)]) ∧ (OwnM Ty.int kI τ 41 mp (seenS (([] : List Int)))) ∧ (Own τ 42 3 1 pz (List.length (([] : List Int))) (List.map Ty.int (([] : List Int)))) ∧ (Own τ 43 23 1 fz (List.length (goQ n.toNat l cs (LN) (MN) (LN) (([] : List Int)) (Qst.mk (0) (([] : List (List Int))) (false))).found) (List.map Ty.ints (goQ n.toNat l cs (LN) (MN) (LN) (([] : List Int)) (Qst.mk (0) (([] : List (List Int))) (false))).found))) v τ ∧ Back [(40, 40), (41, 41), (42, 42), (43, 43)] τ τ')) rfl rfl (by decide) ok20 (y_callL (L := [40, 41, 42, 43]) [(40, 40), (41, 41), (42, 42), (43, 43)] [(40, 40), (41, 41), (42, 42), (43, 43)] #[a21.eval (.tmp 67), a21.eval (.tmp 68)] rfl (by decide) Try.func50 rfl rfl (by simp only [List.map_toArray, List.map_cons, List.map_nil]) (onward_fn (LN) (x11_0) (mp) ((Value.slice none 0 0)) (((Value.slice none 0 0))) (nm) (n) (l) ((List.map (endsL l) (List.take k cs))) (LN) (MN) (0) (([] : List (List Int))) (false) (cs) (([] : List Int)) (([] : List Int)) ((roundsL ((n).toNat))) _ (GW.low_lend _ (by decide)) _ _ (Ty.up _ (GW.le_lend _ _) q110) (Ty.up _ (GW.le_lend _ _) q111) (OwnP.ren (ownp_cell 10 (Ty.bool (false)) (ownp_cell 9 (Ty.val ((Value.slice none 0 0))) (ownp_cell 8 (Ty.nat (0)) (ownp_cell 5 (Ty.nat (MN)) (ownp_cell 4 (Ty.nat (LN)) (ownp_cell 3 (Ty.lst Ty.rows ((List.map (endsL l) (List.take k cs)))) o49 rfl (fun _ _ h => (cvt (by (first | rfl | omega | (simp_all; done) | (simp_all; omega))) h))) rfl (fun _ _ h => (cvi (by (first | rfl | omega | (simp_all; done) | (simp_all; omega))) h))) rfl (fun _ _ h => (cvi (by (first | rfl | omega | (simp_all; done) | (simp_all; omega))) h))) rfl (fun _ _ h => (cvi (by (first | rfl | omega | (simp_all; done) | (simp_all; omega))) h))) rfl (fun _ _ h => (cvt (by (first | rfl | omega | (simp_all; done) | (simp_all; omega))) h))) rfl (fun _ _ h => (cvb (by (first | rfl | omega | (simp_all; done) | (simp_all; omega))) h))) (GW.ren_lend _ _ (by decide) rfl)) (OwnM.ren (cvm (by (exact seenS_nil.symm)) o50) (GW.ren_lend _ _ (by decide) rfl)) (Own.ren (cvo (by (simp)) (by (simp)) o51) (GW.ren_lend _ _ (by decide) rfl)) (Own.ren (cvo (by (simp)) (by (simp)) o52) (GW.ren_lend _ _ (by decide) rfl)) (by first | omega | assumption) (by first | omega | assumption) (by first | omega | assumption) (by first | omega | assumption) (by first | omega | assumption) (by first | omega | assumption) (by first | omega | assumption) (by first | omega | assumption) (by first | omega | assumption) (by first | omega | assumption) (by first | omega | assumption) (by first | omega | assumption) (by first | omega | assumption))) (fun a22 s22 hs8 ok21 r8 sm6 => ?_)
     have F24 := F23.stepL hs8 (by decide)
     have q112 := kpL hs8 (by decide) (sm6 11 (by decide)) q109
     obtain ⟨t4, ⟨x5, x6, hT1, o53, o54, o55, o56⟩, B1⟩ := r8
     have o57 : OwnP s22 40 x11_0 [(Ty.val (Value.string nm)), (Ty.int n), (Ty.lst Ty.ints l), (Ty.lst Ty.rows ((List.map (endsL l) (List.take k cs)))), (Ty.nat (LN)), (Ty.nat (MN)), (Ty.val mp), (Ty.val x5), (Ty.nat (goQ n.toNat l cs (LN) (MN) (LN) (([] : List Int)) (Qst.mk (0) (([] : List (List Int))) (false))).met), (Ty.val x6), (Ty.bool (goQ n.toNat l cs (LN) (MN) (LN) (([] : List Int)) (Qst.mk (0) (([] : List (List Int))) (false))).full)] := OwnP.ren o53 (B1.ren (by decide) rfl)
     have o58 : OwnM Ty.int kI s22 41 mp (seenS (([] : List Int))) := OwnM.ren o54 (B1.ren (by decide) rfl)
     have o59 : Own s22 42 3 1 x5 (List.length (([] : List Int))) (List.map Ty.int (([] : List Int))) := Own.ren o55 (B1.ren (by decide) rfl)
     have o60 : Own s22 43 23 1 x6 (List.length (goQ n.toNat l cs (LN) (MN) (LN) (([] : List Int)) (Qst.mk (0) (([] : List (List Int))) (false))).found) (List.map Ty.ints (goQ n.toNat l cs (LN) (MN) (LN) (([] : List Int)) (Qst.mk (0) (([] : List (List Int))) (false))).found) := Own.ren o56 (B1.ren (by decide) rfl)
     refine wpList_nil ?_
     refine tn ?_
     refine wp_seq ?_
     refine wp_seq ?_
     refine reg (a := a22) (σ := s22) rfl (fun i_ => List.getD [(Ty.pr (Ty.val x11_0)), (Ty.pr (Ty.val x11_0)), (Ty.pr (Ty.val (ptrAt x11_0 10))), (Ty.pr (Ty.bool (goQ n.toNat l cs (LN) (MN) (LN) (([] : List Int)) (Qst.mk (0) (([] : List (List Int))) (false))).full))] i_ Pr.any) ok21 rfl ⟨?_, ?_, ?_, ?_, trivial⟩ ?_
     · intro ax tx hs okx sm
       exact run_plain rfl (y_move (kp (sm 11 rfl) hs q112))
     · intro ax tx hs okx sm d0
       have e0 := ed d0 rfl rfl rfl
       exact run_plain rfl (y_nilp (OwnP.k0 o57 hs) e0)
     · intro ax tx hs okx sm d0
       have e1 := ed d0 rfl rfl rfl
       exact run_plain rfl (ownp_field Try.fld89_8 Try.inf4 (by decide) (OwnP.k0 o57 hs) e1)
     · intro ax tx hs okx sm d0
       have e2 := ed d0 rfl rfl rfl
       exact run_plain rfl (ownp_load Try.underlying4 rfl (OwnP.k0 o57 hs) e2 rfl)
     intro a23 s23 D15
     have ok22 := D15.ok
     have F25 := F24.step0 D15.stp
     have q114 := D15.kt q112 rfl
     have o61 := OwnP.k0 o57 D15.stp
     have o62 := OwnM.k0 o58 D15.stp
     have o63 := Own.k0 o59 D15.stp
     have o64 := Own.k0 o60 D15.stp
     have q115 : At (Ty.bool (goQ n.toNat l cs (LN) (MN) (LN) (([] : List Int)) (Qst.mk (0) (([] : List (List Int))) (false))).full) s23 a23 (.tmp 73) := D15.done 3
     clear D15
     refine tn ?_
     refine cond_t q115 (fun c4 => ?_) (fun c4 => ?_)
     ·
      have hm := qMay_full c1 hxx (by rw [← hLN, ← hMN]; exact c4)
      refine wp_seq ?_
      refine reg (a := a23) (σ := s23) rfl (fun i_ => List.getD [(Ty.pr (Ty.val (Value.slice none 0 0))), (Ty.pr (Ty.int (3 : Int)))] i_ Pr.any) ok22 rfl ⟨?_, ?_, trivial⟩ ?_
      · intro ax tx hs okx sm
        exact run_plain rfl (y_assign rfl)
      · intro ax tx hs okx sm d0 d1
        exact run_plain rfl (y_assign rfl)
      intro a24 s24 D16
      have ok23 := D16.ok
      have F26 := F25.step0 D16.stp
      have o65 := OwnP.k0 o61 D16.stp
      have o66 := OwnM.k0 o62 D16.stp
      have o67 := Own.k0 o63 D16.stp
      have o68 := Own.k0 o64 D16.stp
      have q116 : At (Ty.val (Value.slice none 0 0)) s24 a24 (.tmp 8) := D16.done 0
      have q117 : At (Ty.int (3 : Int)) s24 a24 (.tmp 9) := D16.done 1
      clear D16
      refine tn ?_
      refine wp_ret ?_
      refine tr ?_
      exact retL2 rfl ok23 F26 (hasT2 (nil_lst (by (rw [hm, if_neg (by decide)])) q116) (cvi (by (exact hm.symm)) q117))
     ·
      have hm := qMay_ok c1 hxx (by rw [← hLN, ← hMN, Bool.not_eq_true]; exact c4)
      refine wp_skip ?_
      refine tn ?_
      refine wp_seq ?_
      refine reg (a := a23) (σ := s23) rfl (fun i_ => List.getD [(Ty.pr (Ty.val x11_0)), (Ty.pr (Ty.val x11_0)), (Ty.pr (Ty.val (ptrAt x11_0 9))), (Ty.pr (Ty.val x6)), (Ty.pr (Ty.val x6)), (Ty.pr (Ty.int (0 : Int)))] i_ Pr.any) ok22 rfl ⟨?_, ?_, ?_, ?_, ?_, ?_, trivial⟩ ?_
      · intro ax tx hs okx sm
        exact run_plain rfl (y_move (kp (sm 11 rfl) hs q114))
      · intro ax tx hs okx sm d0
        have e0 := ed d0 rfl rfl rfl
        exact run_plain rfl (y_nilp (OwnP.k0 o61 hs) e0)
      · intro ax tx hs okx sm d0
        have e1 := ed d0 rfl rfl rfl
        exact run_plain rfl (ownp_field Try.fld89_7 Try.inf29 (by decide) (OwnP.k0 o61 hs) e1)
      · intro ax tx hs okx sm d0
        have e2 := ed d0 rfl rfl rfl
        exact run_plain rfl (ownp_load Try.underlying29 rfl (OwnP.k0 o61 hs) e2 rfl)
      · intro ax tx hs okx sm d0 d1 d2 d3 d4
        have e3 := ed d0 rfl rfl rfl
        exact run_plain rfl (y_assign e3)
      · intro ax tx hs okx sm d0 d1 d2 d3 d4 d5
        exact run_plain rfl (y_assign rfl)
      intro a25 s25 D17
      have ok24 := D17.ok
      have F27 := F25.step0 D17.stp
      have o69 := OwnP.k0 o61 D17.stp
      have o70 := OwnM.k0 o62 D17.stp
      have o71 := Own.k0 o63 D17.stp
      have o72 := Own.k0 o64 D17.stp
      have q118 : At (Ty.val x6) s25 a25 (.tmp 8) := D17.done 4
      have q119 : At (Ty.int (0 : Int)) s25 a25 (.tmp 9) := D17.done 5
      clear D17
      refine tn ?_
      refine wp_ret ?_
      obtain ⟨t5, e2, h2, q120⟩ := Own.seal o72 (by decide)
      rw [← e2]
      have F28 := F27.step h2 (by decide)
      have q121 : At (Ty.lst Ty.ints (goQ n.toNat l cs (LN) (MN) (LN) (([] : List Int)) (Qst.mk (0) (([] : List (List Int))) (false))).found) t5 a25 (.tmp 8) := by have e : a25.eval (.tmp 8) = x6 := q118; show Ty.has _ _ _; rw [e]; exact q120
      have q122 := Ty.up (Ty.int (0 : Int)) (h2.le (by decide)) q119
      exact retL2 rfl ok24 F28 (hasT2 (cvt (by (rw [hm, if_pos rfl]; unfold qFnd; rw [← hLN, ← hMN])) q121) (cvi (by (exact hm.symm)) q122))


set_option maxHeartbeats 4000000 in
set_option maxRecDepth 100000 in
theorem rRuneAt_fn (s : ByteArray) (σ : GW)  (v0 : Value) (hv0 : Ty.has (Ty.val (Value.string s)) σ v0)  (hs : 1 ≤ s.size) :
    FnC Try.prog 74 #[v0] σ (Ty.tup2 (Ty.int (runM s 0)) (Ty.nat (wid s 0))) := by
 have hb256 := UInt8.toNat_lt (s.get! 0)
 have hb257 := UInt8.toNat_lt (s.get! ((0 : Int)).toNat)
 have hnb := nb_bd ((s.get! 0).toNat)
 refine fn_intro0 Try.func74 rfl Try.ntmps74 (Nat.le_of_ble_eq_true rfl) (fun s0 a0 hle F0 ok0 hargs => ?_)
 have p0 : At (Ty.val (Value.string s)) s0 a0 (.tmp 0) := by have e := hargs 0 _ rfl; show Ty.has _ _ _; rw [e]; exact Ty.up _ hle hv0
 clear hargs
 refine wp_seq ?_
 refine reg (a := a0) (σ := s0) rfl (fun i_ => List.getD [(Ty.pr (Ty.int (0 : Int))), (Ty.pr (Ty.int (0 : Int)))] i_ Pr.any) ok0 rfl ⟨?_, ?_, trivial⟩ ?_
 · intro ax tx hs okx sm
   exact run_plain rfl (y_assign rfl)
 · intro ax tx hs okx sm d0
   exact run_plain rfl (y_assign rfl)
 intro a1 s1 D1
 have ok1 := D1.ok
 have F1 := F0.step0 D1.stp
 have q1 := D1.kt p0 rfl
 clear D1
 refine tn ?_
 refine wp_seq ?_
 refine reg (a := a1) (σ := s1) rfl (fun i_ => List.getD [(Ty.pr (Ty.val (Value.string s))), (Ty.pr (Ty.val (Value.int .u8 (((s.get! ((0 : Int)).toNat).toNat : Nat) : Int)))), (Ty.pr (Ty.nat (s.get! ((0 : Int)).toNat).toNat)), (Ty.pr (Ty.nat (s.get! ((0 : Int)).toNat).toNat))] i_ Pr.any) ok1 rfl ⟨?_, ?_, ?_, ?_, trivial⟩ ?_
 · intro ax tx hs okx sm
   exact run_plain rfl (y_move (kp (sm 0 rfl) hs q1))
 · intro ax tx hs okx sm d0
   have e0 := ed d0 rfl rfl rfl
   exact run_plain rfl (y_sindex Try.underlying9 e0 rfl (by omega) (by omega))
 · intro ax tx hs okx sm d0
   have e1 := ed d0 rfl rfl rfl
   exact run_plain rfl (y_conv Try.underlying3 e1 (by exact w64 (by omega) (by omega)) (by rw [Try.underlying5]; rfl))
 · intro ax tx hs okx sm d0 d1 d2 d3
   have e2 := ed d0 rfl rfl rfl
   exact run_plain rfl (y_assign e2)
 intro a2 s2 D2
 have ok2 := D2.ok
 have F2 := F1.step0 D2.stp
 have q2 := D2.kt q1 rfl
 have q3 : At (Ty.nat (s.get! ((0 : Int)).toNat).toNat) s2 a2 (.tmp 4) := D2.done 3
 clear D2
 have q4 : At (Ty.nat ((s.get! 0).toNat)) s2 a2 (.tmp 4) := (cvi (by (rfl)) q3)
 refine tn ?_
 refine wp_seq ?_
 refine wp_seq ?_
 refine reg (a := a2) (σ := s2) rfl (fun i_ => List.getD [(Ty.pr (Ty.nat ((s.get! 0).toNat))), (Ty.pr (Ty.bool (decide (((((s.get! 0).toNat) : Nat) : Int) < (128 : Int)))))] i_ Pr.any) ok2 rfl ⟨?_, ?_, trivial⟩ ?_
 · intro ax tx hs okx sm
   exact run_plain rfl (y_move (kp (sm 4 rfl) hs q4))
 · intro ax tx hs okx sm d0
   have e0 := ed d0 rfl rfl rfl
   exact run_plain rfl (y_lss e0 rfl)
 intro a3 s3 D3
 have ok3 := D3.ok
 have F3 := F2.step0 D3.stp
 have q5 := D3.kt q2 rfl
 have q6 := D3.kt q4 rfl
 have q7 : At (Ty.bool (decide (((((s.get! 0).toNat) : Nat) : Int) < (128 : Int)))) s3 a3 (.tmp 12) := D3.done 1
 clear D3
 refine tn ?_
 refine cond_p (p := (((((s.get! 0).toNat) : Nat) : Int) < (128 : Int))) q7 (fun c1 => ?_) (fun c1 => ?_)
 ·
  refine wp_seq ?_
  refine reg (a := a3) (σ := s3) rfl (fun i_ => List.getD [(Ty.pr (Ty.nat ((s.get! 0).toNat))), (Ty.pr (Ty.nat ((s.get! 0).toNat))), (Ty.pr (Ty.int (1 : Int)))] i_ Pr.any) ok3 rfl ⟨?_, ?_, ?_, trivial⟩ ?_
  · intro ax tx hs okx sm
    exact run_plain rfl (y_move (kp (sm 4 rfl) hs q6))
  · intro ax tx hs okx sm d0 d1
    have e0 := ed d0 rfl rfl rfl
    exact run_plain rfl (y_assign e0)
  · intro ax tx hs okx sm d0 d1 d2
    exact run_plain rfl (y_assign rfl)
  intro a4 s4 D4
  have ok4 := D4.ok
  have F4 := F3.step0 D4.stp
  have q8 : At (Ty.nat ((s.get! 0).toNat)) s4 a4 (.tmp 2) := D4.done 1
  have q9 : At (Ty.int (1 : Int)) s4 a4 (.tmp 3) := D4.done 2
  clear D4
  refine tn ?_
  refine wp_ret ?_
  refine tr ?_
  exact retL2 rfl ok4 F4 (hasT2 (cvi (by (exact (rn_low (by omega)).1.symm)) q8) (cvi (by (have := (rn_low (s := s) (by omega)).2; omega)) q9))
 ·
  refine wp_skip ?_
  refine tn ?_
  refine wp_seq ?_
  refine reg (a := a3) (σ := s3) rfl (fun i_ => List.getD [(Ty.pr (Ty.int (0 : Int)))] i_ Pr.any) ok3 rfl ⟨?_, trivial⟩ ?_
  · intro ax tx hs okx sm
    exact run_plain rfl (y_assign rfl)
  intro a5 s5 D5
  have ok5 := D5.ok
  have F5 := F3.step0 D5.stp
  have q10 := D5.kt q5 rfl
  have q11 := D5.kt q6 rfl
  have q12 : At (Ty.int (0 : Int)) s5 a5 (.tmp 5) := D5.done 0
  clear D5
  refine tn ?_
  refine wp_seq ?_
  refine reg (a := a5) (σ := s5) rfl (fun i_ => List.getD [(Ty.pr (Ty.int (0 : Int)))] i_ Pr.any) ok5 rfl ⟨?_, trivial⟩ ?_
  · intro ax tx hs okx sm
    exact run_plain rfl (y_assign rfl)
  intro a6 s6 D6
  have ok6 := D6.ok
  have F6 := F5.step0 D6.stp
  have q13 := D6.kt q10 rfl
  have q14 := D6.kt q11 rfl
  have q15 := D6.kt q12 rfl
  have q16 : At (Ty.int (0 : Int)) s6 a6 (.tmp 6) := D6.done 0
  clear D6
  refine tn ?_
  refine wp_seq ?_
  refine wp_seq ?_
  refine reg (a := a6) (σ := s6) rfl (fun i_ => List.getD [(Ty.pr (Ty.nat ((s.get! 0).toNat))), (Ty.pr (Ty.bool (decide ((194 : Int) ≤ ((((s.get! 0).toNat) : Nat) : Int))))), (Ty.pr (Ty.bool (decide ((194 : Int) ≤ ((((s.get! 0).toNat) : Nat) : Int))))), (Ty.pr (Ty.grd ((decide ((194 : Int) ≤ ((((s.get! 0).toNat) : Nat) : Int))) = true) (Ty.nat ((s.get! 0).toNat)))), (Ty.pr (Ty.grd ((decide ((194 : Int) ≤ ((((s.get! 0).toNat) : Nat) : Int))) = true) (Ty.bool (decide (((((s.get! 0).toNat) : Nat) : Int) < (224 : Int)))))), (Ty.pr (Ty.bool ((decide ((194 : Int) ≤ ((((s.get! 0).toNat) : Nat) : Int))) && (decide (((((s.get! 0).toNat) : Nat) : Int) < (224 : Int))))))] i_ Pr.any) ok6 rfl ⟨?_, ?_, ?_, ?_, ?_, ?_, trivial⟩ ?_
  · intro ax tx hs okx sm
    exact run_plain rfl (y_move (kp (sm 4 rfl) hs q14))
  · intro ax tx hs okx sm d0
    have e0 := ed d0 rfl rfl rfl
    exact run_plain rfl (y_geq e0 rfl)
  · intro ax tx hs okx sm d0
    have e1 := ed d0 rfl rfl rfl
    exact run_plain rfl (y_move e1)
  · intro ax tx hs okx sm d0
    have e2 := ed d0 rfl rfl rfl
    refine run_guard (T := (Ty.nat ((s.get! 0).toNat))) okx rfl rfl (by decide) e2 (fun hg => ?_)
    have hp := of_decide_eq_true hg
    exact y_move (kp (sm 4 rfl) hs q14)
  · intro ax tx hs okx sm d0 d1
    have e3 := ed d0 rfl rfl rfl
    have e2 := ed d1 rfl rfl rfl
    refine run_guard (T := (Ty.bool (decide (((((s.get! 0).toNat) : Nat) : Int) < (224 : Int))))) okx rfl rfl (by decide) e2 (fun hg => ?_)
    have hp := of_decide_eq_true hg
    exact y_lss (e3.1 hg) rfl
  · intro ax tx hs okx sm d0 d1
    have e2 := ed d0 rfl rfl rfl
    have e4 := ed d1 rfl rfl rfl
    exact run_plain rfl (y_pick_and e2 e4 rfl)
  intro a7 s7 D7
  have ok7 := D7.ok
  have F7 := F6.step0 D7.stp
  have q17 := D7.kt q13 rfl
  have q18 := D7.kt q14 rfl
  have q19 := D7.kt q15 rfl
  have q20 := D7.kt q16 rfl
  have q21 : At (Ty.bool ((decide ((194 : Int) ≤ ((((s.get! 0).toNat) : Nat) : Int))) && (decide (((((s.get! 0).toNat) : Nat) : Int) < (224 : Int))))) s7 a7 (.tmp 19) := D7.done 5
  clear D7
  refine tn ?_
  refine Go.KL.join_then (Q' := fun a8 w1 => ∃ (t1 : GW), t1.w = w1 ∧ FromL [] s0 t1 ∧ Ok 86 a8 ∧ At (Ty.nat (nB ((s.get! 0).toNat))) t1 a8 (.tmp 5) ∧ At (Ty.nat (cB ((s.get! 0).toNat))) t1 a8 (.tmp 4) ∧ At (Ty.nat (lowB ((s.get! 0).toNat))) t1 a8 (.tmp 6) ∧ At (Ty.val (Value.string s)) t1 a8 (.tmp 0) ∧ True) ?_ ?_
  ·
   refine cond_t q21 (fun c2 => ?_) (fun c2 => ?_)
   ·
    obtain ⟨d1, d2⟩ := Bool.and_eq_true_iff.mp c2
    replace d1 := of_decide_eq_true d1
    replace d2 := of_decide_eq_true d2
    simp only [Bool.and_eq_true, decide_eq_true_eq] at c2; obtain ⟨n1, n2, n3⟩ := nb2 (b := ((s.get! 0).toNat)) (by omega)
    refine wp_seq ?_
    refine reg (a := a7) (σ := s7) rfl (fun i_ => List.getD [(Ty.pr (Ty.int (2 : Int)))] i_ Pr.any) ok7 rfl ⟨?_, trivial⟩ ?_
    · intro ax tx hs okx sm
      exact run_plain rfl (y_assign rfl)
    intro a9 s8 D8
    have ok8 := D8.ok
    have F8 := F7.step0 D8.stp
    have q22 := D8.kt q17 rfl
    have q23 := D8.kt q18 rfl
    have q24 : At (Ty.int (2 : Int)) s8 a9 (.tmp 5) := D8.done 0
    clear D8
    refine tn ?_
    refine wp_seq ?_
    refine reg (a := a9) (σ := s8) rfl (fun i_ => List.getD [(Ty.pr (Ty.nat ((s.get! 0).toNat))), (Ty.pr (Ty.int (((((s.get! 0).toNat) : Nat) : Int) - (192 : Int)))), (Ty.pr (Ty.int (((((s.get! 0).toNat) : Nat) : Int) - (192 : Int))))] i_ Pr.any) ok8 rfl ⟨?_, ?_, ?_, trivial⟩ ?_
    · intro ax tx hs okx sm
      exact run_plain rfl (y_move (kp (sm 4 rfl) hs q23))
    · intro ax tx hs okx sm d0
      have e0 := ed d0 rfl rfl rfl
      exact run_plain rfl (y_sub e0 rfl (w64 (by omega) (by omega)))
    · intro ax tx hs okx sm d0 d1 d2
      have e1 := ed d0 rfl rfl rfl
      exact run_plain rfl (y_assign e1)
    intro a10 s9 D9
    have ok9 := D9.ok
    have F9 := F8.step0 D9.stp
    have q25 := D9.kt q22 rfl
    have q26 := D9.kt q24 rfl
    have q27 : At (Ty.int (((((s.get! 0).toNat) : Nat) : Int) - (192 : Int))) s9 a10 (.tmp 4) := D9.done 2
    clear D9
    refine tn ?_
    refine reg (a := a10) (σ := s9) rfl (fun i_ => List.getD [(Ty.pr (Ty.int (128 : Int)))] i_ Pr.any) ok9 rfl ⟨?_, trivial⟩ ?_
    · intro ax tx hs okx sm
      exact run_plain rfl (y_assign rfl)
    intro a11 s10 D10
    have ok10 := D10.ok
    have F10 := F9.step0 D10.stp
    have q28 := D10.kt q25 rfl
    have q29 := D10.kt q26 rfl
    have q30 := D10.kt q27 rfl
    have q31 : At (Ty.int (128 : Int)) s10 a11 (.tmp 6) := D10.done 0
    clear D10
    exact tn ⟨s10, rfl, F10, ok10, (cvi (by (first | rfl | omega | (simp_all; done) | (simp_all; omega))) q29), (cvi (by (first | rfl | omega | (simp_all; done) | (simp_all; omega))) q30), (cvi (by (first | rfl | omega | (simp_all; done) | (simp_all; omega))) q31), q28, trivial⟩
   ·
    simp only [Bool.and_eq_false_iff, decide_eq_false_iff_not] at c2; have k1 : ¬ (194 ≤ ((s.get! 0).toNat) ∧ ((s.get! 0).toNat) < 224) := (by omega)
    refine wp_seq ?_
    refine reg (a := a7) (σ := s7) rfl (fun i_ => List.getD [(Ty.pr (Ty.nat ((s.get! 0).toNat))), (Ty.pr (Ty.bool (decide ((224 : Int) ≤ ((((s.get! 0).toNat) : Nat) : Int))))), (Ty.pr (Ty.bool (decide ((224 : Int) ≤ ((((s.get! 0).toNat) : Nat) : Int))))), (Ty.pr (Ty.grd ((decide ((224 : Int) ≤ ((((s.get! 0).toNat) : Nat) : Int))) = true) (Ty.nat ((s.get! 0).toNat)))), (Ty.pr (Ty.grd ((decide ((224 : Int) ≤ ((((s.get! 0).toNat) : Nat) : Int))) = true) (Ty.bool (decide (((((s.get! 0).toNat) : Nat) : Int) < (240 : Int)))))), (Ty.pr (Ty.bool ((decide ((224 : Int) ≤ ((((s.get! 0).toNat) : Nat) : Int))) && (decide (((((s.get! 0).toNat) : Nat) : Int) < (240 : Int))))))] i_ Pr.any) ok7 rfl ⟨?_, ?_, ?_, ?_, ?_, ?_, trivial⟩ ?_
    · intro ax tx hs okx sm
      exact run_plain rfl (y_move (kp (sm 4 rfl) hs q18))
    · intro ax tx hs okx sm d0
      have e0 := ed d0 rfl rfl rfl
      exact run_plain rfl (y_geq e0 rfl)
    · intro ax tx hs okx sm d0
      have e1 := ed d0 rfl rfl rfl
      exact run_plain rfl (y_move e1)
    · intro ax tx hs okx sm d0
      have e2 := ed d0 rfl rfl rfl
      refine run_guard (T := (Ty.nat ((s.get! 0).toNat))) okx rfl rfl (by decide) e2 (fun hg => ?_)
      have hp := of_decide_eq_true hg
      exact y_move (kp (sm 4 rfl) hs q18)
    · intro ax tx hs okx sm d0 d1
      have e3 := ed d0 rfl rfl rfl
      have e2 := ed d1 rfl rfl rfl
      refine run_guard (T := (Ty.bool (decide (((((s.get! 0).toNat) : Nat) : Int) < (240 : Int))))) okx rfl rfl (by decide) e2 (fun hg => ?_)
      have hp := of_decide_eq_true hg
      exact y_lss (e3.1 hg) rfl
    · intro ax tx hs okx sm d0 d1
      have e2 := ed d0 rfl rfl rfl
      have e4 := ed d1 rfl rfl rfl
      exact run_plain rfl (y_pick_and e2 e4 rfl)
    intro a12 s11 D11
    have ok11 := D11.ok
    have F11 := F7.step0 D11.stp
    have q32 := D11.kt q17 rfl
    have q33 := D11.kt q18 rfl
    have q34 := D11.kt q19 rfl
    have q35 := D11.kt q20 rfl
    have q36 : At (Ty.bool ((decide ((224 : Int) ≤ ((((s.get! 0).toNat) : Nat) : Int))) && (decide (((((s.get! 0).toNat) : Nat) : Int) < (240 : Int))))) s11 a12 (.tmp 27) := D11.done 5
    clear D11
    refine tn ?_
    refine cond_t q36 (fun c3 => ?_) (fun c3 => ?_)
    ·
     obtain ⟨d3, d4⟩ := Bool.and_eq_true_iff.mp c3
     replace d3 := of_decide_eq_true d3
     replace d4 := of_decide_eq_true d4
     simp only [Bool.and_eq_true, decide_eq_true_eq] at c3; obtain ⟨n1, n2, n3⟩ := nb3 (b := ((s.get! 0).toNat)) (by omega)
     refine wp_seq ?_
     refine reg (a := a12) (σ := s11) rfl (fun i_ => List.getD [(Ty.pr (Ty.int (3 : Int)))] i_ Pr.any) ok11 rfl ⟨?_, trivial⟩ ?_
     · intro ax tx hs okx sm
       exact run_plain rfl (y_assign rfl)
     intro a13 s12 D12
     have ok12 := D12.ok
     have F12 := F11.step0 D12.stp
     have q37 := D12.kt q32 rfl
     have q38 := D12.kt q33 rfl
     have q39 : At (Ty.int (3 : Int)) s12 a13 (.tmp 5) := D12.done 0
     clear D12
     refine tn ?_
     refine wp_seq ?_
     refine reg (a := a13) (σ := s12) rfl (fun i_ => List.getD [(Ty.pr (Ty.nat ((s.get! 0).toNat))), (Ty.pr (Ty.int (((((s.get! 0).toNat) : Nat) : Int) - (224 : Int)))), (Ty.pr (Ty.int (((((s.get! 0).toNat) : Nat) : Int) - (224 : Int))))] i_ Pr.any) ok12 rfl ⟨?_, ?_, ?_, trivial⟩ ?_
     · intro ax tx hs okx sm
       exact run_plain rfl (y_move (kp (sm 4 rfl) hs q38))
     · intro ax tx hs okx sm d0
       have e0 := ed d0 rfl rfl rfl
       exact run_plain rfl (y_sub e0 rfl (w64 (by omega) (by omega)))
     · intro ax tx hs okx sm d0 d1 d2
       have e1 := ed d0 rfl rfl rfl
       exact run_plain rfl (y_assign e1)
     intro a14 s13 D13
     have ok13 := D13.ok
     have F13 := F12.step0 D13.stp
     have q40 := D13.kt q37 rfl
     have q41 := D13.kt q39 rfl
     have q42 : At (Ty.int (((((s.get! 0).toNat) : Nat) : Int) - (224 : Int))) s13 a14 (.tmp 4) := D13.done 2
     clear D13
     refine tn ?_
     refine reg (a := a14) (σ := s13) rfl (fun i_ => List.getD [(Ty.pr (Ty.int (2048 : Int)))] i_ Pr.any) ok13 rfl ⟨?_, trivial⟩ ?_
     · intro ax tx hs okx sm
       exact run_plain rfl (y_assign rfl)
     intro a15 s14 D14
     have ok14 := D14.ok
     have F14 := F13.step0 D14.stp
     have q43 := D14.kt q40 rfl
     have q44 := D14.kt q41 rfl
     have q45 := D14.kt q42 rfl
     have q46 : At (Ty.int (2048 : Int)) s14 a15 (.tmp 6) := D14.done 0
     clear D14
     exact tn ⟨s14, rfl, F14, ok14, (cvi (by (first | rfl | omega | (simp_all; done) | (simp_all; omega))) q44), (cvi (by (first | rfl | omega | (simp_all; done) | (simp_all; omega))) q45), (cvi (by (first | rfl | omega | (simp_all; done) | (simp_all; omega))) q46), q43, trivial⟩
    ·
     simp only [Bool.and_eq_false_iff, decide_eq_false_iff_not] at c3; have k2 : ¬ (224 ≤ ((s.get! 0).toNat) ∧ ((s.get! 0).toNat) < 240) := (by omega)
     refine wp_seq ?_
     refine reg (a := a12) (σ := s11) rfl (fun i_ => List.getD [(Ty.pr (Ty.nat ((s.get! 0).toNat))), (Ty.pr (Ty.bool (decide ((240 : Int) ≤ ((((s.get! 0).toNat) : Nat) : Int))))), (Ty.pr (Ty.bool (decide ((240 : Int) ≤ ((((s.get! 0).toNat) : Nat) : Int))))), (Ty.pr (Ty.grd ((decide ((240 : Int) ≤ ((((s.get! 0).toNat) : Nat) : Int))) = true) (Ty.nat ((s.get! 0).toNat)))), (Ty.pr (Ty.grd ((decide ((240 : Int) ≤ ((((s.get! 0).toNat) : Nat) : Int))) = true) (Ty.bool (decide (((((s.get! 0).toNat) : Nat) : Int) < (245 : Int)))))), (Ty.pr (Ty.bool ((decide ((240 : Int) ≤ ((((s.get! 0).toNat) : Nat) : Int))) && (decide (((((s.get! 0).toNat) : Nat) : Int) < (245 : Int))))))] i_ Pr.any) ok11 rfl ⟨?_, ?_, ?_, ?_, ?_, ?_, trivial⟩ ?_
     · intro ax tx hs okx sm
       exact run_plain rfl (y_move (kp (sm 4 rfl) hs q33))
     · intro ax tx hs okx sm d0
       have e0 := ed d0 rfl rfl rfl
       exact run_plain rfl (y_geq e0 rfl)
     · intro ax tx hs okx sm d0
       have e1 := ed d0 rfl rfl rfl
       exact run_plain rfl (y_move e1)
     · intro ax tx hs okx sm d0
       have e2 := ed d0 rfl rfl rfl
       refine run_guard (T := (Ty.nat ((s.get! 0).toNat))) okx rfl rfl (by decide) e2 (fun hg => ?_)
       have hp := of_decide_eq_true hg
       exact y_move (kp (sm 4 rfl) hs q33)
     · intro ax tx hs okx sm d0 d1
       have e3 := ed d0 rfl rfl rfl
       have e2 := ed d1 rfl rfl rfl
       refine run_guard (T := (Ty.bool (decide (((((s.get! 0).toNat) : Nat) : Int) < (245 : Int))))) okx rfl rfl (by decide) e2 (fun hg => ?_)
       have hp := of_decide_eq_true hg
       exact y_lss (e3.1 hg) rfl
     · intro ax tx hs okx sm d0 d1
       have e2 := ed d0 rfl rfl rfl
       have e4 := ed d1 rfl rfl rfl
       exact run_plain rfl (y_pick_and e2 e4 rfl)
     intro a16 s15 D15
     have ok15 := D15.ok
     have F15 := F11.step0 D15.stp
     have q47 := D15.kt q32 rfl
     have q48 := D15.kt q33 rfl
     have q49 := D15.kt q34 rfl
     have q50 := D15.kt q35 rfl
     have q51 : At (Ty.bool ((decide ((240 : Int) ≤ ((((s.get! 0).toNat) : Nat) : Int))) && (decide (((((s.get! 0).toNat) : Nat) : Int) < (245 : Int))))) s15 a16 (.tmp 35) := D15.done 5
     clear D15
     refine tn ?_
     refine cond_t q51 (fun c4 => ?_) (fun c4 => ?_)
     ·
      obtain ⟨d5, d6⟩ := Bool.and_eq_true_iff.mp c4
      replace d5 := of_decide_eq_true d5
      replace d6 := of_decide_eq_true d6
      simp only [Bool.and_eq_true, decide_eq_true_eq] at c4; obtain ⟨n1, n2, n3⟩ := nb4 (b := ((s.get! 0).toNat)) (by omega)
      refine wp_seq ?_
      refine reg (a := a16) (σ := s15) rfl (fun i_ => List.getD [(Ty.pr (Ty.int (4 : Int)))] i_ Pr.any) ok15 rfl ⟨?_, trivial⟩ ?_
      · intro ax tx hs okx sm
        exact run_plain rfl (y_assign rfl)
      intro a17 s16 D16
      have ok16 := D16.ok
      have F16 := F15.step0 D16.stp
      have q52 := D16.kt q47 rfl
      have q53 := D16.kt q48 rfl
      have q54 : At (Ty.int (4 : Int)) s16 a17 (.tmp 5) := D16.done 0
      clear D16
      refine tn ?_
      refine wp_seq ?_
      refine reg (a := a17) (σ := s16) rfl (fun i_ => List.getD [(Ty.pr (Ty.nat ((s.get! 0).toNat))), (Ty.pr (Ty.int (((((s.get! 0).toNat) : Nat) : Int) - (240 : Int)))), (Ty.pr (Ty.int (((((s.get! 0).toNat) : Nat) : Int) - (240 : Int))))] i_ Pr.any) ok16 rfl ⟨?_, ?_, ?_, trivial⟩ ?_
      · intro ax tx hs okx sm
        exact run_plain rfl (y_move (kp (sm 4 rfl) hs q53))
      · intro ax tx hs okx sm d0
        have e0 := ed d0 rfl rfl rfl
        exact run_plain rfl (y_sub e0 rfl (w64 (by omega) (by omega)))
      · intro ax tx hs okx sm d0 d1 d2
        have e1 := ed d0 rfl rfl rfl
        exact run_plain rfl (y_assign e1)
      intro a18 s17 D17
      have ok17 := D17.ok
      have F17 := F16.step0 D17.stp
      have q55 := D17.kt q52 rfl
      have q56 := D17.kt q54 rfl
      have q57 : At (Ty.int (((((s.get! 0).toNat) : Nat) : Int) - (240 : Int))) s17 a18 (.tmp 4) := D17.done 2
      clear D17
      refine tn ?_
      refine reg (a := a18) (σ := s17) rfl (fun i_ => List.getD [(Ty.pr (Ty.int (65536 : Int)))] i_ Pr.any) ok17 rfl ⟨?_, trivial⟩ ?_
      · intro ax tx hs okx sm
        exact run_plain rfl (y_assign rfl)
      intro a19 s18 D18
      have ok18 := D18.ok
      have F18 := F17.step0 D18.stp
      have q58 := D18.kt q55 rfl
      have q59 := D18.kt q56 rfl
      have q60 := D18.kt q57 rfl
      have q61 : At (Ty.int (65536 : Int)) s18 a19 (.tmp 6) := D18.done 0
      clear D18
      exact tn ⟨s18, rfl, F18, ok18, (cvi (by (first | rfl | omega | (simp_all; done) | (simp_all; omega))) q59), (cvi (by (first | rfl | omega | (simp_all; done) | (simp_all; omega))) q60), (cvi (by (first | rfl | omega | (simp_all; done) | (simp_all; omega))) q61), q58, trivial⟩
     ·
      simp only [Bool.and_eq_false_iff, decide_eq_false_iff_not] at c4; have k3 : ¬ (240 ≤ ((s.get! 0).toNat) ∧ ((s.get! 0).toNat) < 245) := (by omega); obtain ⟨n1, n2, n3⟩ := nb0 k1 k2 k3
      refine wp_skip ?_
      exact tn ⟨s15, rfl, F15, ok15, (cvi (by (first | rfl | omega | (simp_all; done) | (simp_all; omega))) q49), (cvi (by (first | rfl | omega | (simp_all; done) | (simp_all; omega))) q48), (cvi (by (first | rfl | omega | (simp_all; done) | (simp_all; omega))) q50), q47, trivial⟩
  ·
   rintro a20 w2 ⟨t2, rfl, F19, ok19, q62, q63, q64, q65, -⟩
   refine wp_seq ?_
   refine wp_seq ?_
   refine reg (a := a20) (σ := t2) rfl (fun i_ => List.getD [(Ty.pr (Ty.nat (nB ((s.get! 0).toNat)))), (Ty.pr (Ty.bool (decide ((((nB ((s.get! 0).toNat)) : Nat) : Int) = (0 : Int))))), (Ty.pr (Ty.bool (decide ((((nB ((s.get! 0).toNat)) : Nat) : Int) = (0 : Int))))), (Ty.pr (Ty.grd ((decide ((((nB ((s.get! 0).toNat)) : Nat) : Int) = (0 : Int))) = false) (Ty.val (Value.string s)))), (Ty.pr (Ty.grd ((decide ((((nB ((s.get! 0).toNat)) : Nat) : Int) = (0 : Int))) = false) (Ty.nat (ByteArray.size s)))), (Ty.pr (Ty.grd ((decide ((((nB ((s.get! 0).toNat)) : Nat) : Int) = (0 : Int))) = false) (Ty.nat (nB ((s.get! 0).toNat))))), (Ty.pr (Ty.grd ((decide ((((nB ((s.get! 0).toNat)) : Nat) : Int) = (0 : Int))) = false) (Ty.bool (decide ((((ByteArray.size s) : Nat) : Int) < (((nB ((s.get! 0).toNat)) : Nat) : Int)))))), (Ty.pr (Ty.bool ((decide ((((nB ((s.get! 0).toNat)) : Nat) : Int) = (0 : Int))) || (decide ((((ByteArray.size s) : Nat) : Int) < (((nB ((s.get! 0).toNat)) : Nat) : Int))))))] i_ Pr.any) ok19 rfl ⟨?_, ?_, ?_, ?_, ?_, ?_, ?_, ?_, trivial⟩ ?_
   · intro ax tx hs okx sm
     exact run_plain rfl (y_move (kp (sm 5 rfl) hs q62))
   · intro ax tx hs okx sm d0
     have e0 := ed d0 rfl rfl rfl
     exact run_plain rfl (y_eql e0 rfl)
   · intro ax tx hs okx sm d0
     have e1 := ed d0 rfl rfl rfl
     exact run_plain rfl (y_move e1)
   · intro ax tx hs okx sm d0
     have e2 := ed d0 rfl rfl rfl
     refine run_guard (T := (Ty.val (Value.string s))) okx rfl rfl (by decide) e2 (fun hg => ?_)
     have hp := of_decide_eq_false hg
     exact y_move (kp (sm 0 rfl) hs q65)
   · intro ax tx hs okx sm d0 d1
     have e3 := ed d0 rfl rfl rfl
     have e2 := ed d1 rfl rfl rfl
     refine run_guard (T := (Ty.nat (ByteArray.size s))) okx rfl rfl (by decide) e2 (fun hg => ?_)
     have hp := of_decide_eq_false hg
     exact y_len_str Try.underlying9 (e3.1 hg)
   · intro ax tx hs okx sm d0
     have e2 := ed d0 rfl rfl rfl
     refine run_guard (T := (Ty.nat (nB ((s.get! 0).toNat)))) okx rfl rfl (by decide) e2 (fun hg => ?_)
     have hp := of_decide_eq_false hg
     exact y_move (kp (sm 5 rfl) hs q62)
   · intro ax tx hs okx sm d0 d1 d2
     have e4 := ed d0 rfl rfl rfl
     have e5 := ed d1 rfl rfl rfl
     have e2 := ed d2 rfl rfl rfl
     refine run_guard (T := (Ty.bool (decide ((((ByteArray.size s) : Nat) : Int) < (((nB ((s.get! 0).toNat)) : Nat) : Int))))) okx rfl rfl (by decide) e2 (fun hg => ?_)
     have hp := of_decide_eq_false hg
     exact y_lss (e4.1 hg) (e5.1 hg)
   · intro ax tx hs okx sm d0 d1
     have e2 := ed d0 rfl rfl rfl
     have e6 := ed d1 rfl rfl rfl
     exact run_plain rfl (y_pick_or e2 rfl e6)
   intro a21 s19 D19
   have ok20 := D19.ok
   have F20 := F19.step0 D19.stp
   have q66 := D19.kt q62 rfl
   have q67 := D19.kt q63 rfl
   have q68 := D19.kt q64 rfl
   have q69 := D19.kt q65 rfl
   have q70 : At (Ty.bool ((decide ((((nB ((s.get! 0).toNat)) : Nat) : Int) = (0 : Int))) || (decide ((((ByteArray.size s) : Nat) : Int) < (((nB ((s.get! 0).toNat)) : Nat) : Int))))) s19 a21 (.tmp 45) := D19.done 7
   clear D19
   refine tn ?_
   refine cond_t q70 (fun c5 => ?_) (fun c5 => ?_)
   ·
    simp only [Bool.or_eq_true, decide_eq_true_eq] at c5
    refine wp_seq ?_
    refine reg (a := a21) (σ := s19) rfl (fun i_ => List.getD [(Ty.pr (Ty.int (-1 : Int))), (Ty.pr (Ty.int (1 : Int)))] i_ Pr.any) ok20 rfl ⟨?_, ?_, trivial⟩ ?_
    · intro ax tx hs okx sm
      exact run_plain rfl (y_assign rfl)
    · intro ax tx hs okx sm d0 d1
      exact run_plain rfl (y_assign rfl)
    intro a22 s20 D20
    have ok21 := D20.ok
    have F21 := F20.step0 D20.stp
    have q71 : At (Ty.int (-1 : Int)) s20 a22 (.tmp 2) := D20.done 0
    have q72 : At (Ty.int (1 : Int)) s20 a22 (.tmp 3) := D20.done 1
    clear D20
    refine tn ?_
    refine wp_ret ?_
    refine tr ?_
    exact retL2 rfl ok21 F21 (hasT2 (cvi (by (exact (rn_short (by omega) (by omega) hs).1.symm)) q71) (cvi (by (have := (rn_short (s := s) (by omega) (by omega) hs).2; omega)) q72))
   ·
    obtain ⟨d7, d8⟩ := Bool.or_eq_false_iff.mp c5
    replace d7 := of_decide_eq_false d7
    replace d8 := of_decide_eq_false d8
    simp only [Bool.or_eq_false_iff, decide_eq_false_iff_not] at c5; have h0 : nB ((s.get! 0).toNat) ≠ 0 := (by omega); have hsz : nB ((s.get! 0).toNat) ≤ s.size := (by omega); have hcb := hnb.2 h0
    refine wp_skip ?_
    refine tn ?_
    refine wp_seq ?_
    refine wp_seq ?_
    refine reg (a := a21) (σ := s19) rfl (fun i_ => List.getD [(Ty.pr (Ty.int (1 : Int)))] i_ Pr.any) ok20 rfl ⟨?_, trivial⟩ ?_
    · intro ax tx hs okx sm
      exact run_plain rfl (y_assign rfl)
    intro a23 s21 D21
    have ok22 := D21.ok
    have F22 := F20.step0 D21.stp
    have q73 := D21.kt q66 rfl
    have q74 := D21.kt q67 rfl
    have q75 := D21.kt q68 rfl
    have q76 := D21.kt q69 rfl
    have q77 : At (Ty.int (1 : Int)) s21 a23 (.tmp 7) := D21.done 0
    clear D21
    refine tn ?_
    refine wp_block ?_
    refine loop (fun n1 a24 w3 => ∃ (t3 : GW) (j : Nat), t3.w = w3 ∧ FromL [] s0 t3 ∧ Ok 86 a24 ∧ At (Ty.nat (j + 1)) t3 a24 (.tmp 7) ∧ At (Ty.nat (accR s (cB ((s.get! 0).toNat)) j)) t3 a24 (.tmp 4) ∧ At (Ty.nat (nB ((s.get! 0).toNat))) t3 a24 (.tmp 5) ∧ At (Ty.nat (lowB ((s.get! 0).toNat))) t3 a24 (.tmp 6) ∧ At (Ty.val (Value.string s)) t3 a24 (.tmp 0) ∧ (j + 1 ≤ nB ((s.get! 0).toNat)) ∧ (∀ i, i < j → 128 ≤ (s.get! (i + 1)).toNat ∧ (s.get! (i + 1)).toNat < 192) ∧ n1 = nB ((s.get! 0).toNat) - j) (nB ((s.get! 0).toNat) - (0)) ?_ ?_
    ·
     exact ⟨s21, 0, rfl, F22, ok22, (cvi (by (rfl)) q77), (cvi (by (rfl)) q74), q73, q75, q76, by omega, fun j hj => absurd hj (Nat.not_lt_zero j), rfl⟩
    ·
     rintro n2 a25 w4 ⟨t4, j, rfl, F23, ok23, q78, q79, q80, q81, q82, hj, hc, rfl⟩
     have hab := acc_bd (s := s) (c := cB ((s.get! 0).toNat)) (by omega) hc (by omega)
     have hbk := UInt8.toNat_lt (s.get! (j + 1))
     refine wp_seq ?_
     refine wp_seq ?_
     refine reg (a := a25) (σ := t4) rfl (fun i_ => List.getD [(Ty.pr (Ty.nat (j + 1))), (Ty.pr (Ty.nat (nB ((s.get! 0).toNat)))), (Ty.pr (Ty.bool (decide ((((j + 1) : Nat) : Int) < (((nB ((s.get! 0).toNat)) : Nat) : Int)))))] i_ Pr.any) ok23 rfl ⟨?_, ?_, ?_, trivial⟩ ?_
     · intro ax tx hs okx sm
       exact run_plain rfl (y_move (kp (sm 7 rfl) hs q78))
     · intro ax tx hs okx sm
       exact run_plain rfl (y_move (kp (sm 5 rfl) hs q80))
     · intro ax tx hs okx sm d0 d1
       have e0 := ed d0 rfl rfl rfl
       have e1 := ed d1 rfl rfl rfl
       exact run_plain rfl (y_lss e0 e1)
     intro a26 s22 D22
     have ok24 := D22.ok
     have F24 := F23.step0 D22.stp
     have q83 := D22.kt q78 rfl
     have q84 := D22.kt q79 rfl
     have q85 := D22.kt q80 rfl
     have q86 := D22.kt q81 rfl
     have q87 := D22.kt q82 rfl
     have q88 : At (Ty.bool (decide ((((j + 1) : Nat) : Int) < (((nB ((s.get! 0).toNat)) : Nat) : Int)))) s22 a26 (.tmp 48) := D22.done 2
     clear D22
     refine tn ?_
     refine cond_p (p := ((((j + 1) : Nat) : Int) < (((nB ((s.get! 0).toNat)) : Nat) : Int))) q88 (fun c6 => ?_) (fun c6 => ?_)
     ·
      refine wp_skip ?_
      refine tn ?_
      refine wp_seq ?_
      refine wp_block ?_
      refine wp_seq ?_
      refine wp_seq ?_
      refine reg (a := a26) (σ := s22) rfl (fun i_ => List.getD [(Ty.pr (Ty.val (Value.string s))), (Ty.pr (Ty.nat (j + 1))), (Ty.pr (Ty.val (Value.int .u8 (((s.get! (j + 1)).toNat : Nat) : Int)))), (Ty.pr (Ty.bool (decide ((((s.get! (j + 1)).toNat : Nat) : Int) < (128 : Int))))), (Ty.pr (Ty.bool (decide ((((s.get! (j + 1)).toNat : Nat) : Int) < (128 : Int))))), (Ty.pr (Ty.grd ((decide ((((s.get! (j + 1)).toNat : Nat) : Int) < (128 : Int))) = false) (Ty.val (Value.string s)))), (Ty.pr (Ty.grd ((decide ((((s.get! (j + 1)).toNat : Nat) : Int) < (128 : Int))) = false) (Ty.nat (j + 1)))), (Ty.pr (Ty.grd ((decide ((((s.get! (j + 1)).toNat : Nat) : Int) < (128 : Int))) = false) (Ty.val (Value.int .u8 (((s.get! (j + 1)).toNat : Nat) : Int))))), (Ty.pr (Ty.grd ((decide ((((s.get! (j + 1)).toNat : Nat) : Int) < (128 : Int))) = false) (Ty.bool (decide ((192 : Int) ≤ (((s.get! (j + 1)).toNat : Nat) : Int)))))), (Ty.pr (Ty.bool ((decide ((((s.get! (j + 1)).toNat : Nat) : Int) < (128 : Int))) || (decide ((192 : Int) ≤ (((s.get! (j + 1)).toNat : Nat) : Int))))))] i_ Pr.any) ok24 rfl ⟨?_, ?_, ?_, ?_, ?_, ?_, ?_, ?_, ?_, ?_, trivial⟩ ?_
      · intro ax tx hs okx sm
        exact run_plain rfl (y_move (kp (sm 0 rfl) hs q87))
      · intro ax tx hs okx sm
        exact run_plain rfl (y_move (kp (sm 7 rfl) hs q83))
      · intro ax tx hs okx sm d0 d1
        have e0 := ed d0 rfl rfl rfl
        have e1 := ed d1 rfl rfl rfl
        exact run_plain rfl (y_sindex Try.underlying9 e0 e1 (by omega) (by omega))
      · intro ax tx hs okx sm d0
        have e2 := ed d0 rfl rfl rfl
        exact run_plain rfl (y_lss e2 rfl)
      · intro ax tx hs okx sm d0
        have e3 := ed d0 rfl rfl rfl
        exact run_plain rfl (y_move e3)
      · intro ax tx hs okx sm d0
        have e4 := ed d0 rfl rfl rfl
        refine run_guard (T := (Ty.val (Value.string s))) okx rfl rfl (by decide) e4 (fun hg => ?_)
        have hp := of_decide_eq_false hg
        exact y_move (kp (sm 0 rfl) hs q87)
      · intro ax tx hs okx sm d0
        have e4 := ed d0 rfl rfl rfl
        refine run_guard (T := (Ty.nat (j + 1))) okx rfl rfl (by decide) e4 (fun hg => ?_)
        have hp := of_decide_eq_false hg
        exact y_move (kp (sm 7 rfl) hs q83)
      · intro ax tx hs okx sm d0 d1 d2
        have e5 := ed d0 rfl rfl rfl
        have e6 := ed d1 rfl rfl rfl
        have e4 := ed d2 rfl rfl rfl
        refine run_guard (T := (Ty.val (Value.int .u8 (((s.get! (j + 1)).toNat : Nat) : Int)))) okx rfl rfl (by decide) e4 (fun hg => ?_)
        have hp := of_decide_eq_false hg
        exact y_sindex Try.underlying9 (e5.1 hg) (e6.1 hg) (by omega) (by omega)
      · intro ax tx hs okx sm d0 d1
        have e7 := ed d0 rfl rfl rfl
        have e4 := ed d1 rfl rfl rfl
        refine run_guard (T := (Ty.bool (decide ((192 : Int) ≤ (((s.get! (j + 1)).toNat : Nat) : Int))))) okx rfl rfl (by decide) e4 (fun hg => ?_)
        have hp := of_decide_eq_false hg
        exact y_geq (e7.1 hg) rfl
      · intro ax tx hs okx sm d0 d1
        have e4 := ed d0 rfl rfl rfl
        have e8 := ed d1 rfl rfl rfl
        exact run_plain rfl (y_pick_or e4 rfl e8)
      intro a27 s23 D23
      have ok25 := D23.ok
      have F25 := F24.step0 D23.stp
      have q89 := D23.kt q83 rfl
      have q90 := D23.kt q84 rfl
      have q91 := D23.kt q85 rfl
      have q92 := D23.kt q86 rfl
      have q93 := D23.kt q87 rfl
      have q94 : At (Ty.bool ((decide ((((s.get! (j + 1)).toNat : Nat) : Int) < (128 : Int))) || (decide ((192 : Int) ≤ (((s.get! (j + 1)).toNat : Nat) : Int))))) s23 a27 (.tmp 60) := D23.done 9
      clear D23
      refine tn ?_
      refine cond_t q94 (fun c7 => ?_) (fun c7 => ?_)
      ·
       simp only [Bool.or_eq_true, decide_eq_true_eq] at c7
       refine wp_seq ?_
       refine reg (a := a27) (σ := s23) rfl (fun i_ => List.getD [(Ty.pr (Ty.int (-1 : Int))), (Ty.pr (Ty.int (1 : Int)))] i_ Pr.any) ok25 rfl ⟨?_, ?_, trivial⟩ ?_
       · intro ax tx hs okx sm
         exact run_plain rfl (y_assign rfl)
       · intro ax tx hs okx sm d0 d1
         exact run_plain rfl (y_assign rfl)
       intro a28 s24 D24
       have ok26 := D24.ok
       have F26 := F25.step0 D24.stp
       have q95 : At (Ty.int (-1 : Int)) s24 a28 (.tmp 2) := D24.done 0
       have q96 : At (Ty.int (1 : Int)) s24 a28 (.tmp 3) := D24.done 1
       clear D24
       refine tn ?_
       refine wp_ret ?_
       refine tr ?_
       refine br ?_
       refine tr ?_
       refine tr ?_
       refine br ?_
       refine tr ?_
       exact retL2 rfl ok26 F26 (hasT2 (cvi (by (exact (rn_cont (j := j) (by omega) (by omega)).1.symm)) q95) (cvi (by (have := (rn_cont (s := s) (j := j) (by omega) (by omega)).2; omega)) q96))
      ·
       obtain ⟨d9, d10⟩ := Bool.or_eq_false_iff.mp c7
       replace d9 := of_decide_eq_false d9
       replace d10 := of_decide_eq_false d10
       simp only [Bool.or_eq_false_iff, decide_eq_false_iff_not] at c7
       refine wp_skip ?_
       refine tn ?_
       refine reg (a := a27) (σ := s23) rfl (fun i_ => List.getD [(Ty.pr (Ty.nat (accR s (cB ((s.get! 0).toNat)) j))), (Ty.pr (Ty.nat ((accR s (cB ((s.get! 0).toNat)) j) * 64))), (Ty.pr (Ty.val (Value.string s))), (Ty.pr (Ty.nat (j + 1))), (Ty.pr (Ty.val (Value.int .u8 (((s.get! (j + 1)).toNat : Nat) : Int)))), (Ty.pr (Ty.nat (s.get! (j + 1)).toNat)), (Ty.pr (Ty.nat (((accR s (cB ((s.get! 0).toNat)) j) * 64) + (s.get! (j + 1)).toNat))), (Ty.pr (Ty.int ((((((accR s (cB ((s.get! 0).toNat)) j) * 64) + (s.get! (j + 1)).toNat) : Nat) : Int) - (128 : Int)))), (Ty.pr (Ty.int ((((((accR s (cB ((s.get! 0).toNat)) j) * 64) + (s.get! (j + 1)).toNat) : Nat) : Int) - (128 : Int))))] i_ Pr.any) ok25 rfl ⟨?_, ?_, ?_, ?_, ?_, ?_, ?_, ?_, ?_, trivial⟩ ?_
       · intro ax tx hs okx sm
         exact run_plain rfl (y_move (kp (sm 4 rfl) hs q90))
       · intro ax tx hs okx sm d0
         have e0 := ed d0 rfl rfl rfl
         exact run_plain rfl ((y_mul e0 rfl (w64 (by omega) (by omega))).mono (fun τ _ h => cvi (σ := τ) (by first | omega | exact (Int.natCast_mul _ _).symm) h))
       · intro ax tx hs okx sm
         exact run_plain rfl (y_move (kp (sm 0 rfl) hs q93))
       · intro ax tx hs okx sm
         exact run_plain rfl (y_move (kp (sm 7 rfl) hs q89))
       · intro ax tx hs okx sm d0 d1
         have e2 := ed d0 rfl rfl rfl
         have e3 := ed d1 rfl rfl rfl
         exact run_plain rfl (y_sindex Try.underlying9 e2 e3 (by omega) (by omega))
       · intro ax tx hs okx sm d0
         have e4 := ed d0 rfl rfl rfl
         exact run_plain rfl (y_conv Try.underlying3 e4 (by exact w64 (by omega) (by omega)) (by rw [Try.underlying5]; rfl))
       · intro ax tx hs okx sm d0 d1
         have e1 := ed d0 rfl rfl rfl
         have e5 := ed d1 rfl rfl rfl
         exact run_plain rfl ((y_add e1 e5 (w64 (by omega) (by omega))).mono (fun τ _ h => cvi (σ := τ) (by first | omega | exact (Int.natCast_mul _ _).symm) h))
       · intro ax tx hs okx sm d0
         have e6 := ed d0 rfl rfl rfl
         exact run_plain rfl (y_sub e6 rfl (w64 (by omega) (by omega)))
       · intro ax tx hs okx sm d0 d1 d2 d3 d4 d5 d6 d7 d8
         have e7 := ed d0 rfl rfl rfl
         exact run_plain rfl (y_assign e7)
       intro a29 s25 D25
       have ok27 := D25.ok
       have F27 := F25.step0 D25.stp
       have q97 := D25.kt q89 rfl
       have q98 := D25.kt q91 rfl
       have q99 := D25.kt q92 rfl
       have q100 := D25.kt q93 rfl
       have q101 : At (Ty.int ((((((accR s (cB ((s.get! 0).toNat)) j) * 64) + (s.get! (j + 1)).toNat) : Nat) : Int) - (128 : Int))) s25 a29 (.tmp 4) := D25.done 8
       clear D25
       refine bn ?_
       refine tn ?_
       refine reg (a := a29) (σ := s25) rfl (fun i_ => List.getD [(Ty.pr (Ty.nat (j + 1))), (Ty.pr (Ty.nat ((j + 1) + 1))), (Ty.pr (Ty.nat ((j + 1) + 1)))] i_ Pr.any) ok27 rfl ⟨?_, ?_, ?_, trivial⟩ ?_
       · intro ax tx hs okx sm
         exact run_plain rfl (y_move (kp (sm 7 rfl) hs q97))
       · intro ax tx hs okx sm d0
         have e0 := ed d0 rfl rfl rfl
         exact run_plain rfl ((y_add e0 rfl (w64 (by omega) (by omega))).mono (fun τ _ h => cvi (σ := τ) (by first | omega | exact (Int.natCast_mul _ _).symm) h))
       · intro ax tx hs okx sm d0 d1 d2
         have e1 := ed d0 rfl rfl rfl
         exact run_plain rfl (y_assign e1)
       intro a30 s26 D26
       have ok28 := D26.ok
       have F28 := F27.step0 D26.stp
       have q102 := D26.kt q98 rfl
       have q103 := D26.kt q99 rfl
       have q104 := D26.kt q100 rfl
       have q105 := D26.kt q101 rfl
       have q106 : At (Ty.nat ((j + 1) + 1)) s26 a30 (.tmp 7) := D26.done 2
       clear D26
       have hac : accR s (cB ((s.get! 0).toNat)) (j + 1) = accR s (cB ((s.get! 0).toNat)) j * 64 + ((s.get! (j + 1)).toNat - 128) := rfl
       exact tn ⟨nB ((s.get! 0).toNat) - ((j + 1)), by omega, s26, (j + 1), rfl, F28, ok28, (cvi (by (first | rfl | omega | (simp_all; done) | (simp_all; omega))) q106), (cvi (by (first | rfl | omega | (simp_all; done) | (simp_all; omega))) q105), q102, q103, q104, by omega, acc_snoc hc (by omega) (by omega), rfl⟩
     ·
      have hje : j + 1 = nB ((s.get! 0).toNat) := (by omega)
      refine wp_exit ?_
      refine tx ?_
      refine tx ?_
      refine bx ?_
      refine tn ?_
      refine wp_seq ?_
      refine wp_seq ?_
      refine reg (a := a26) (σ := s22) rfl (fun i_ => List.getD [(Ty.pr (Ty.nat (accR s (cB ((s.get! 0).toNat)) j))), (Ty.pr (Ty.nat (lowB ((s.get! 0).toNat)))), (Ty.pr (Ty.bool (decide ((((accR s (cB ((s.get! 0).toNat)) j) : Nat) : Int) < (((lowB ((s.get! 0).toNat)) : Nat) : Int))))), (Ty.pr (Ty.bool (decide ((((accR s (cB ((s.get! 0).toNat)) j) : Nat) : Int) < (((lowB ((s.get! 0).toNat)) : Nat) : Int))))), (Ty.pr (Ty.grd ((decide ((((accR s (cB ((s.get! 0).toNat)) j) : Nat) : Int) < (((lowB ((s.get! 0).toNat)) : Nat) : Int))) = false) (Ty.nat (accR s (cB ((s.get! 0).toNat)) j)))), (Ty.pr (Ty.grd ((decide ((((accR s (cB ((s.get! 0).toNat)) j) : Nat) : Int) < (((lowB ((s.get! 0).toNat)) : Nat) : Int))) = false) (Ty.bool (decide ((1114111 : Int) < (((accR s (cB ((s.get! 0).toNat)) j) : Nat) : Int)))))), (Ty.pr (Ty.bool ((decide ((((accR s (cB ((s.get! 0).toNat)) j) : Nat) : Int) < (((lowB ((s.get! 0).toNat)) : Nat) : Int))) || (decide ((1114111 : Int) < (((accR s (cB ((s.get! 0).toNat)) j) : Nat) : Int)))))), (Ty.pr (Ty.bool ((decide ((((accR s (cB ((s.get! 0).toNat)) j) : Nat) : Int) < (((lowB ((s.get! 0).toNat)) : Nat) : Int))) || (decide ((1114111 : Int) < (((accR s (cB ((s.get! 0).toNat)) j) : Nat) : Int)))))), (Ty.pr (Ty.grd (((decide ((((accR s (cB ((s.get! 0).toNat)) j) : Nat) : Int) < (((lowB ((s.get! 0).toNat)) : Nat) : Int))) || (decide ((1114111 : Int) < (((accR s (cB ((s.get! 0).toNat)) j) : Nat) : Int)))) = false) (Ty.nat (accR s (cB ((s.get! 0).toNat)) j)))), (Ty.pr (Ty.grd (((decide ((((accR s (cB ((s.get! 0).toNat)) j) : Nat) : Int) < (((lowB ((s.get! 0).toNat)) : Nat) : Int))) || (decide ((1114111 : Int) < (((accR s (cB ((s.get! 0).toNat)) j) : Nat) : Int)))) = false) (Ty.bool (decide ((55296 : Int) ≤ (((accR s (cB ((s.get! 0).toNat)) j) : Nat) : Int)))))), (Ty.pr (Ty.grd (((decide ((((accR s (cB ((s.get! 0).toNat)) j) : Nat) : Int) < (((lowB ((s.get! 0).toNat)) : Nat) : Int))) || (decide ((1114111 : Int) < (((accR s (cB ((s.get! 0).toNat)) j) : Nat) : Int)))) = false) (Ty.bool (decide ((55296 : Int) ≤ (((accR s (cB ((s.get! 0).toNat)) j) : Nat) : Int)))))), (Ty.pr (Ty.grd ((((decide ((((accR s (cB ((s.get! 0).toNat)) j) : Nat) : Int) < (((lowB ((s.get! 0).toNat)) : Nat) : Int))) || (decide ((1114111 : Int) < (((accR s (cB ((s.get! 0).toNat)) j) : Nat) : Int)))) = false) ∧ (decide ((55296 : Int) ≤ (((accR s (cB ((s.get! 0).toNat)) j) : Nat) : Int))) = true) (Ty.nat (accR s (cB ((s.get! 0).toNat)) j)))), (Ty.pr (Ty.grd ((((decide ((((accR s (cB ((s.get! 0).toNat)) j) : Nat) : Int) < (((lowB ((s.get! 0).toNat)) : Nat) : Int))) || (decide ((1114111 : Int) < (((accR s (cB ((s.get! 0).toNat)) j) : Nat) : Int)))) = false) ∧ (decide ((55296 : Int) ≤ (((accR s (cB ((s.get! 0).toNat)) j) : Nat) : Int))) = true) (Ty.bool (decide ((((accR s (cB ((s.get! 0).toNat)) j) : Nat) : Int) < (57344 : Int)))))), (Ty.pr (Ty.grd (((decide ((((accR s (cB ((s.get! 0).toNat)) j) : Nat) : Int) < (((lowB ((s.get! 0).toNat)) : Nat) : Int))) || (decide ((1114111 : Int) < (((accR s (cB ((s.get! 0).toNat)) j) : Nat) : Int)))) = false) (Ty.bool ((decide ((55296 : Int) ≤ (((accR s (cB ((s.get! 0).toNat)) j) : Nat) : Int))) && (decide ((((accR s (cB ((s.get! 0).toNat)) j) : Nat) : Int) < (57344 : Int))))))), (Ty.pr (Ty.bool (((decide ((((accR s (cB ((s.get! 0).toNat)) j) : Nat) : Int) < (((lowB ((s.get! 0).toNat)) : Nat) : Int))) || (decide ((1114111 : Int) < (((accR s (cB ((s.get! 0).toNat)) j) : Nat) : Int)))) || ((decide ((55296 : Int) ≤ (((accR s (cB ((s.get! 0).toNat)) j) : Nat) : Int))) && (decide ((((accR s (cB ((s.get! 0).toNat)) j) : Nat) : Int) < (57344 : Int)))))))] i_ Pr.any) ok24 rfl ⟨?_, ?_, ?_, ?_, ?_, ?_, ?_, ?_, ?_, ?_, ?_, ?_, ?_, ?_, ?_, trivial⟩ ?_
      · intro ax tx hs okx sm
        exact run_plain rfl (y_move (kp (sm 4 rfl) hs q84))
      · intro ax tx hs okx sm
        exact run_plain rfl (y_move (kp (sm 6 rfl) hs q86))
      · intro ax tx hs okx sm d0 d1
        have e0 := ed d0 rfl rfl rfl
        have e1 := ed d1 rfl rfl rfl
        exact run_plain rfl (y_lss e0 e1)
      · intro ax tx hs okx sm d0
        have e2 := ed d0 rfl rfl rfl
        exact run_plain rfl (y_move e2)
      · intro ax tx hs okx sm d0
        have e3 := ed d0 rfl rfl rfl
        refine run_guard (T := (Ty.nat (accR s (cB ((s.get! 0).toNat)) j))) okx rfl rfl (by decide) e3 (fun hg => ?_)
        have hp := of_decide_eq_false hg
        exact y_move (kp (sm 4 rfl) hs q84)
      · intro ax tx hs okx sm d0 d1
        have e4 := ed d0 rfl rfl rfl
        have e3 := ed d1 rfl rfl rfl
        refine run_guard (T := (Ty.bool (decide ((1114111 : Int) < (((accR s (cB ((s.get! 0).toNat)) j) : Nat) : Int))))) okx rfl rfl (by decide) e3 (fun hg => ?_)
        have hp := of_decide_eq_false hg
        exact y_gtr (e4.1 hg) rfl
      · intro ax tx hs okx sm d0 d1
        have e3 := ed d0 rfl rfl rfl
        have e5 := ed d1 rfl rfl rfl
        exact run_plain rfl (y_pick_or e3 rfl e5)
      · intro ax tx hs okx sm d0 d1
        have e6 := ed d0 rfl rfl rfl
        exact run_plain rfl (y_move e6)
      · intro ax tx hs okx sm d0
        have e7 := ed d0 rfl rfl rfl
        refine run_guard (T := (Ty.nat (accR s (cB ((s.get! 0).toNat)) j))) okx rfl rfl (by decide) e7 (fun hg => ?_)
        obtain ⟨d11, d12⟩ := Bool.or_eq_false_iff.mp hg
        have d11 := of_decide_eq_false d11
        have d12 := of_decide_eq_false d12
        exact y_move (kp (sm 4 rfl) hs q84)
      · intro ax tx hs okx sm d0 d1
        have e8 := ed d0 rfl rfl rfl
        have e7 := ed d1 rfl rfl rfl
        refine run_guard (T := (Ty.bool (decide ((55296 : Int) ≤ (((accR s (cB ((s.get! 0).toNat)) j) : Nat) : Int))))) okx rfl rfl (by decide) e7 (fun hg => ?_)
        obtain ⟨d13, d14⟩ := Bool.or_eq_false_iff.mp hg
        have d13 := of_decide_eq_false d13
        have d14 := of_decide_eq_false d14
        exact y_geq (e8.1 hg) rfl
      · intro ax tx hs okx sm d0 d1 d2
        have e9 := ed d0 rfl rfl rfl
        have e7 := ed d1 rfl rfl rfl
        refine run_guard (T := (Ty.bool (decide ((55296 : Int) ≤ (((accR s (cB ((s.get! 0).toNat)) j) : Nat) : Int))))) okx rfl rfl (by decide) e7 (fun hg => ?_)
        obtain ⟨d15, d16⟩ := Bool.or_eq_false_iff.mp hg
        have d15 := of_decide_eq_false d15
        have d16 := of_decide_eq_false d16
        exact y_move (e9.1 hg)
      · intro ax tx hs okx sm d0
        have e10 := ed d0 rfl rfl rfl
        refine run_guard2 (T := (Ty.nat (accR s (cB ((s.get! 0).toNat)) j))) okx rfl rfl (by decide) e10 (fun hg => ?_)
        have hp := of_decide_eq_true hg.2
        exact y_move (kp (sm 4 rfl) hs q84)
      · intro ax tx hs okx sm d0 d1
        have e11 := ed d0 rfl rfl rfl
        have e10 := ed d1 rfl rfl rfl
        refine run_guard2 (T := (Ty.bool (decide ((((accR s (cB ((s.get! 0).toNat)) j) : Nat) : Int) < (57344 : Int))))) okx rfl rfl (by decide) e10 (fun hg => ?_)
        have hp := of_decide_eq_true hg.2
        exact y_lss (e11.1 hg) rfl
      · intro ax tx hs okx sm d0 d1 d2
        have e10 := ed d0 rfl rfl rfl
        have e12 := ed d1 rfl rfl rfl
        have e7 := ed d2 rfl rfl rfl
        refine run_guard (T := (Ty.bool ((decide ((55296 : Int) ≤ (((accR s (cB ((s.get! 0).toNat)) j) : Nat) : Int))) && (decide ((((accR s (cB ((s.get! 0).toNat)) j) : Nat) : Int) < (57344 : Int)))))) okx rfl rfl (by decide) e7 (fun hg => ?_)
        obtain ⟨d17, d18⟩ := Bool.or_eq_false_iff.mp hg
        have d17 := of_decide_eq_false d17
        have d18 := of_decide_eq_false d18
        exact y_pick_and (e10.1 hg) (grd_part hg e12) rfl
      · intro ax tx hs okx sm d0 d1
        have e7 := ed d0 rfl rfl rfl
        have e13 := ed d1 rfl rfl rfl
        exact run_plain rfl (y_pick_or e7 rfl e13)
      intro a31 s27 D27
      have ok29 := D27.ok
      have F29 := F24.step0 D27.stp
      have q107 := D27.kt q84 rfl
      have q108 := D27.kt q85 rfl
      have q109 : At (Ty.bool (((decide ((((accR s (cB ((s.get! 0).toNat)) j) : Nat) : Int) < (((lowB ((s.get! 0).toNat)) : Nat) : Int))) || (decide ((1114111 : Int) < (((accR s (cB ((s.get! 0).toNat)) j) : Nat) : Int)))) || ((decide ((55296 : Int) ≤ (((accR s (cB ((s.get! 0).toNat)) j) : Nat) : Int))) && (decide ((((accR s (cB ((s.get! 0).toNat)) j) : Nat) : Int) < (57344 : Int)))))) s27 a31 (.tmp 83) := D27.done 14
      clear D27
      refine tn ?_
      refine cond_t q109 (fun c8 => ?_) (fun c8 => ?_)
      ·
       simp only [Bool.or_eq_true, Bool.and_eq_true, decide_eq_true_eq] at c8
       refine wp_seq ?_
       refine reg (a := a31) (σ := s27) rfl (fun i_ => List.getD [(Ty.pr (Ty.int (-1 : Int))), (Ty.pr (Ty.int (1 : Int)))] i_ Pr.any) ok29 rfl ⟨?_, ?_, trivial⟩ ?_
       · intro ax tx hs okx sm
         exact run_plain rfl (y_assign rfl)
       · intro ax tx hs okx sm d0 d1
         exact run_plain rfl (y_assign rfl)
       intro a32 s28 D28
       have ok30 := D28.ok
       have F30 := F29.step0 D28.stp
       have q110 : At (Ty.int (-1 : Int)) s28 a32 (.tmp 2) := D28.done 0
       have q111 : At (Ty.int (1 : Int)) s28 a32 (.tmp 3) := D28.done 1
       clear D28
       refine tn ?_
       refine wp_ret ?_
       refine tr ?_
       exact retL2 rfl ok30 F30 (hasT2 (cvi (by (exact (rn_bad h0 hsz hje hc (by omega)).1.symm)) q110) (cvi (by (have := (rn_bad h0 hsz hje hc (by omega)).2; omega)) q111))
      ·
       obtain ⟨d19, d20⟩ := Bool.or_eq_false_iff.mp c8
       obtain ⟨d21, d22⟩ := Bool.or_eq_false_iff.mp d19
       replace d21 := of_decide_eq_false d21
       replace d22 := of_decide_eq_false d22
       simp only [Bool.or_eq_false_iff, Bool.and_eq_false_iff, decide_eq_false_iff_not] at c8
       refine wp_skip ?_
       refine tn ?_
       refine wp_seq ?_
       refine reg (a := a31) (σ := s27) rfl (fun i_ => List.getD [(Ty.pr (Ty.nat (accR s (cB ((s.get! 0).toNat)) j))), (Ty.pr (Ty.nat (nB ((s.get! 0).toNat)))), (Ty.pr (Ty.nat (accR s (cB ((s.get! 0).toNat)) j))), (Ty.pr (Ty.nat (nB ((s.get! 0).toNat))))] i_ Pr.any) ok29 rfl ⟨?_, ?_, ?_, ?_, trivial⟩ ?_
       · intro ax tx hs okx sm
         exact run_plain rfl (y_move (kp (sm 4 rfl) hs q107))
       · intro ax tx hs okx sm d0
         exact run_plain rfl (y_move (kp (sm 5 rfl) hs q108))
       · intro ax tx hs okx sm d0 d1 d2
         have e0 := ed d0 rfl rfl rfl
         exact run_plain rfl (y_assign e0)
       · intro ax tx hs okx sm d0 d1 d2 d3 d4
         have e1 := ed d0 rfl rfl rfl
         exact run_plain rfl (y_assign e1)
       intro a33 s29 D29
       have ok31 := D29.ok
       have F31 := F29.step0 D29.stp
       have q112 : At (Ty.nat (accR s (cB ((s.get! 0).toNat)) j)) s29 a33 (.tmp 2) := D29.done 2
       have q113 : At (Ty.nat (nB ((s.get! 0).toNat))) s29 a33 (.tmp 3) := D29.done 3
       clear D29
       refine tn ?_
       refine wp_ret ?_
       exact retL2 rfl ok31 F31 (hasT2 (cvi (by (exact (rn_ok h0 hsz hje hc (by omega)).1.symm)) q112) (cvi (by (have := (rn_ok h0 hsz hje hc (by omega)).2; omega)) q113))


set_option maxHeartbeats 4000000 in
set_option maxRecDepth 100000 in
theorem rRunes_fn (s : ByteArray) (σ : GW)  (v0 : Value) (hv0 : Ty.has (Ty.val (Value.string s)) σ v0)  (hs : s.size ≤ 17592186044416) :
    FnC Try.prog 45 #[v0] σ (Ty.lst Ty.int (runsL s)) := by
 refine fn_intro0 Try.func45 rfl Try.ntmps45 (Nat.le_of_ble_eq_true rfl) (fun s0 a0 hle F0 ok0 hargs => ?_)
 have p0 : At (Ty.val (Value.string s)) s0 a0 (.tmp 0) := by have e := hargs 0 _ rfl; show Ty.has _ _ _; rw [e]; exact Ty.up _ hle hv0
 clear hargs
 refine wp_seq ?_
 refine reg (a := a0) (σ := s0) rfl (fun i_ => List.getD [(Ty.pr (Ty.val (Value.slice none 0 0)))] i_ Pr.any) ok0 rfl ⟨?_, trivial⟩ ?_
 · intro ax tx hs okx sm
   exact run_plain rfl (y_assign rfl)
 intro a1 s1 D1
 have ok1 := D1.ok
 have F1 := F0.step0 D1.stp
 have q1 := D1.kt p0 rfl
 clear D1
 refine tn ?_
 refine wp_seq ?_
 refine reg (a := a1) (σ := s1) rfl (fun i_ => List.getD [(Ty.pr (Ty.val (Value.slice none 0 0)))] i_ Pr.any) ok1 rfl ⟨?_, trivial⟩ ?_
 · intro ax tx hs okx sm
   exact run_plain rfl (y_assign rfl)
 intro a2 s2 D2
 have ok2 := D2.ok
 have F2 := F1.step0 D2.stp
 have q2 := D2.kt q1 rfl
 have q3 : At (Ty.val (Value.slice none 0 0)) s2 a2 (.tmp 3) := D2.done 0
 clear D2
 refine tn ?_
 refine wp_seq ?_
 refine wp_block ?_
 have o1 : Own s2 5 3 1 (Value.slice none 0 0) 0 (List.map Ty.int ([] : List Int)) := Own.nil _ _ _ _
 refine loop (fun n1 a3 w1 => ∃ (t1 : GW) (p : Nat) (f : Nat) (xs : List Int) (x3_0 : Value), t1.w = w1 ∧ FromL [] s0 t1 ∧ Ok 22 a3 ∧ At (Ty.val (Value.string (ByteArray.extract s p (ByteArray.size s)))) t1 a3 (.tmp 0) ∧ At (Ty.val x3_0) t1 a3 (.tmp 3) ∧ Own t1 5 3 1 x3_0 (List.length xs) (List.map Ty.int xs) ∧ (xs ++ runsF s f p = runsL s) ∧ (s.size ≤ f + p) ∧ (p ≤ s.size) ∧ (xs.length ≤ p) ∧ n1 = s.size + 1 - p) (s.size + 1 - (0)) ?_ ?_
 ·
  exact ⟨s2, 0, s.size, ([] : List Int), (Value.slice none 0 0), rfl, F2, ok2, (cvt (by (rw [ByteArray.extract_zero_size])) q2), q3, (cvo (by (simp)) (by (simp)) o1), rfl, by omega, by omega, by simp, rfl⟩
 ·
  rintro n2 a4 w2 ⟨t2, p, f, xs, x3_0, rfl, F3, ok3, q4, q5, o2, heq, hf, hp, hx, rfl⟩
  have hez : (ByteArray.extract s p (ByteArray.size s)).size = s.size - p := by rw [ByteArray.size_extract]; omega
  have hw := wid_pos s p
  have her := ext_run s p
  refine wp_seq ?_
  refine wp_seq ?_
  refine reg (a := a4) (σ := t2) rfl (fun i_ => List.getD [(Ty.pr (Ty.val (Value.string (ByteArray.extract s p (ByteArray.size s))))), (Ty.pr (Ty.nat (ByteArray.size (ByteArray.extract s p (ByteArray.size s))))), (Ty.pr (Ty.bool (decide ((0 : Int) < (((ByteArray.size (ByteArray.extract s p (ByteArray.size s))) : Nat) : Int)))))] i_ Pr.any) ok3 rfl ⟨?_, ?_, ?_, trivial⟩ ?_
  · intro ax tx hs okx sm
    exact run_plain rfl (y_move (kp (sm 0 rfl) hs q4))
  · intro ax tx hs okx sm d0
    have e0 := ed d0 rfl rfl rfl
    exact run_plain rfl (y_len_str Try.underlying9 e0)
  · intro ax tx hs okx sm d0
    have e1 := ed d0 rfl rfl rfl
    exact run_plain rfl (y_gtr e1 rfl)
  intro a5 s3 D3
  have ok4 := D3.ok
  have F4 := F3.step0 D3.stp
  have q6 := D3.kt q4 rfl
  have q7 := D3.kt q5 rfl
  have o3 := Own.k0 o2 D3.stp
  have q8 : At (Ty.bool (decide ((0 : Int) < (((ByteArray.size (ByteArray.extract s p (ByteArray.size s))) : Nat) : Int)))) s3 a5 (.tmp 8) := D3.done 2
  clear D3
  refine tn ?_
  refine cond_p (p := ((0 : Int) < (((ByteArray.size (ByteArray.extract s p (ByteArray.size s))) : Nat) : Int))) q8 (fun c1 => ?_) (fun c1 => ?_)
  ·
   have hwi := wid_in (s := s) (p := p) (by omega)
   refine wp_skip ?_
   refine tn ?_
   refine wp_block ?_
   refine wp_seq ?_
   refine reg (a := a5) (σ := s3) rfl (fun i_ => List.getD [(Ty.pr (Ty.val (Value.string (ByteArray.extract s p (ByteArray.size s))))), (Ty.pr (Ty.tup2 (Ty.int (runM s p)) (Ty.nat (wid s p)))), (Ty.pr (Ty.tup2 (Ty.int (runM s p)) (Ty.nat (wid s p)))), (Ty.pr (Ty.int (runM s p))), (Ty.pr (Ty.nat (wid s p))), (Ty.pr (Ty.int (runM s p))), (Ty.pr (Ty.nat (wid s p)))] i_ Pr.any) ok4 rfl ⟨?_, ?_, ?_, ?_, ?_, ?_, ?_, trivial⟩ ?_
   · intro ax tx hs okx sm
     exact run_plain rfl (y_move (kp (sm 0 rfl) hs q6))
   · intro ax tx hs okx sm d0
     have e0 := ed d0 rfl rfl rfl
     exact run_plain rfl ((y_call #[ax.eval (.tmp 10)] Try.func74 rfl rfl (by simp only [List.map_toArray, List.map_cons, List.map_nil]) (rRuneAt_fn ((ByteArray.extract s p (ByteArray.size s))) _ _ e0 (by omega))).mono (fun τ _ h => cvt (σ := τ) (T := (Ty.tup2 (Ty.int (runM ((ByteArray.extract s p (ByteArray.size s))) 0)) (Ty.nat (wid ((ByteArray.extract s p (ByteArray.size s))) 0)))) (U := (Ty.tup2 (Ty.int (runM s p)) (Ty.nat (wid s p)))) (by rw [her.1, her.2]) h))
   · intro ax tx hs okx sm d0
     have e1 := ed d0 rfl rfl rfl
     exact run_plain rfl (y_move e1)
   · intro ax tx hs okx sm d0
     have e2 := ed d0 rfl rfl rfl
     exact run_plain rfl (y_ext2_0 e2)
   · intro ax tx hs okx sm d0 d1
     have e2 := ed d0 rfl rfl rfl
     exact run_plain rfl (y_ext2_1 e2)
   · intro ax tx hs okx sm d0 d1 d2 d3 d4 d5 d6
     have e3 := ed d0 rfl rfl rfl
     exact run_plain rfl (y_assign e3)
   · intro ax tx hs okx sm d0 d1 d2 d3 d4 d5 d6 d7
     have e4 := ed d0 rfl rfl rfl
     exact run_plain rfl (y_assign e4)
   intro a6 s4 D4
   have ok5 := D4.ok
   have F5 := F4.step0 D4.stp
   have q9 := D4.kt q6 rfl
   have q10 := D4.kt q7 rfl
   have o4 := Own.k0 o3 D4.stp
   have q11 : At (Ty.int (runM s p)) s4 a6 (.tmp 4) := D4.done 5
   have q12 : At (Ty.nat (wid s p)) s4 a6 (.tmp 5) := D4.done 6
   clear D4
   refine tn ?_
   refine wp_seq ?_
   refine reg2 (a := a6) (σ := s4) rfl 3 (fun i_ => List.getD [(Ty.pr (Ty.val x3_0)), (Ty.pr (Ty.int (runM s p))), (Ty.pr (Ty.sl 1 1 [(Ty.int (runM s p))]))] i_ Pr.any) ok5 rfl (by decide) rfl ⟨?_, ?_, ?_, trivial⟩ ?_
   · intro ax tx hs okx sm
     exact run_plain rfl (y_move (kp (sm 3 rfl) hs q10))
   · intro ax tx hs okx sm
     exact run_plain rfl (y_move (kp (sm 4 rfl) hs q11))
   · intro ax tx hs okx sm d0
     have e1 := ed d0 rfl rfl rfl
     exact run_plain rfl (y_build1o Try.underlying23 Try.inf3 rfl (one_val rfl) e1)
   intro a7 s5 D5
   have ok6 := D5.ok
   have F6 := F5.step0 D5.stp
   have q13 := D5.kt q9 rfl
   have q14 := D5.kt q10 rfl
   have q15 := D5.kt q12 rfl
   have o5 := Own.k0 o4 D5.stp
   have q16 : At (Ty.val x3_0) s5 a7 (.tmp 14) := D5.done 0 (by decide)
   have q17 : At (Ty.sl 1 1 [(Ty.int (runM s p))]) s5 a7 (.tmp 16) := D5.done 2 (by decide)
   have b1 := sl_le q17
   clear D5
   refine tailL (L := [5]) (R := (fun v τ => Own τ 5 3 1 v ((List.length xs) + 1) ((List.map Ty.int xs) ++ [(Ty.int (runM s p))]))) rfl rfl (by decide) ok6 (YldM.toL (m_append Try.underlying23 Try.inf3 (by decide) rfl (by decide) (al (R := (Pr.own 5 3 1 (List.length xs) (List.map Ty.int xs))) q16 o5) q17 (by intro U hU; simp at hU; subst hU; exact one_val rfl) (by omega) (by omega))) (fun a8 s6 hs1 ok7 r1 sm1 => ?_)
   have F7 := F6.stepL hs1 (by decide)
   have q18 := kpL hs1 (by decide) (sm1 0 (by decide)) q13
   have q19 := kpL hs1 (by decide) (sm1 3 (by decide)) q14
   have q20 := kpL hs1 (by decide) (sm1 5 (by decide)) q15
   obtain ⟨x1, hx1⟩ : ∃ x, a8.eval (.tmp 17) = x := ⟨_, rfl⟩
   have q21 : At (Ty.val x1) s6 a8 (.tmp 17) := hx1
   have o6 : Own s6 5 3 1 x1 (List.length (xs ++ [(runM s p)])) (List.map Ty.int (xs ++ [(runM s p)])) := al2 (R := (Pr.own 5 3 1 (List.length (xs ++ [(runM s p)])) (List.map Ty.int (xs ++ [(runM s p)])))) hx1 (cvo (by simp) (by first | (rw [List.map_append]; rfl) | simp) r1)
   clear r1
   refine tailL (L := []) (R := (fun v τ => Pr.has (Ty.pr (Ty.val x1)) τ v)) rfl rfl (by decide) ok7 (Yld.toL (y_assign q21)) (fun a9 s7 hs2 ok8 r2 sm2 => ?_)
   have F8 := F7.stepL hs2 (by decide)
   have q22 := kpL hs2 (by decide) (sm2 0 (by decide)) q18
   have q23 := kpL hs2 (by decide) (sm2 5 (by decide)) q20
   have o7 := Own.keepL o6 hs2 (by decide) (by decide)
   have q24 : At (Ty.val x1) s7 a9 (.tmp 3) := r2
   clear r2
   refine wpList_nil ?_
   refine tn ?_
   refine reg (a := a9) (σ := s7) rfl (fun i_ => List.getD [(Ty.pr (Ty.val (Value.string (ByteArray.extract s p (ByteArray.size s))))), (Ty.pr (Ty.nat (wid s p))), (Ty.pr (Ty.val (Value.string (ByteArray.extract (ByteArray.extract s p (ByteArray.size s)) (wid s p) (ByteArray.size (ByteArray.extract s p (ByteArray.size s))))))), (Ty.pr (Ty.val (Value.string (ByteArray.extract (ByteArray.extract s p (ByteArray.size s)) (wid s p) (ByteArray.size (ByteArray.extract s p (ByteArray.size s)))))))] i_ Pr.any) ok8 rfl ⟨?_, ?_, ?_, ?_, trivial⟩ ?_
   · intro ax tx hs okx sm
     exact run_plain rfl (y_move (kp (sm 0 rfl) hs q22))
   · intro ax tx hs okx sm
     exact run_plain rfl (y_move (kp (sm 5 rfl) hs q23))
   · intro ax tx hs okx sm d0 d1
     have e0 := ed d0 rfl rfl rfl
     have e1 := ed d1 rfl rfl rfl
     exact run_plain rfl (y_sfrom (l := (wid s p)) Try.underlying9 e0 e1 (by omega))
   · intro ax tx hs okx sm d0 d1 d2 d3
     have e2 := ed d0 rfl rfl rfl
     exact run_plain rfl (y_assign e2)
   intro a10 s8 D6
   have ok9 := D6.ok
   have F9 := F8.step0 D6.stp
   have q25 := D6.kt q24 rfl
   have o8 := Own.k0 o7 D6.stp
   have q26 : At (Ty.val (Value.string (ByteArray.extract (ByteArray.extract s p (ByteArray.size s)) (wid s p) (ByteArray.size (ByteArray.extract s p (ByteArray.size s)))))) s8 a10 (.tmp 0) := D6.done 3
   clear D6
   refine bn ?_
   exact tn ⟨s.size + 1 - ((p + wid s p)), by omega, s8, (p + wid s p), (f - 1), (xs ++ [runM s p]), x1, rfl, F9, ok9, (cvt (by (rw [ext_ext hwi])) q26), q25, (cvo (by (simp)) (by (simp)) o8), runsF_step heq (by omega) (by omega), by omega, by omega, by simp; omega, rfl⟩
  ·
   refine wp_exit ?_
   refine tx ?_
   refine tx ?_
   refine bx ?_
   refine tn ?_
   refine wp_seq ?_
   refine reg (a := a5) (σ := s3) rfl (fun i_ => List.getD [(Ty.pr (Ty.val x3_0)), (Ty.pr (Ty.val x3_0))] i_ Pr.any) ok4 rfl ⟨?_, ?_, trivial⟩ ?_
   · intro ax tx hs okx sm
     exact run_plain rfl (y_move (kp (sm 3 rfl) hs q7))
   · intro ax tx hs okx sm d0 d1
     have e0 := ed d0 rfl rfl rfl
     exact run_plain rfl (y_assign e0)
   intro a11 s9 D7
   have ok10 := D7.ok
   have F10 := F4.step0 D7.stp
   have o9 := Own.k0 o3 D7.stp
   have q27 : At (Ty.val x3_0) s9 a11 (.tmp 2) := D7.done 1
   clear D7
   refine tn ?_
   refine wp_ret ?_
   obtain ⟨t3, e1, h1, q28⟩ := Own.seal o9 (by decide)
   rw [← e1]
   have F11 := F10.step h1 (by decide)
   have q29 : At (Ty.lst Ty.int xs) t3 a11 (.tmp 2) := by have e : a11.eval (.tmp 2) = x3_0 := q27; show Ty.has _ _ _; rw [e]; exact q28
   exact retL1 rfl ok10 F11 (cvt (by (rw [runsF_end (by omega), List.append_nil] at heq; rw [heq])) q29)


end Go.Proofs.Ytbilebfnanlgfaa
