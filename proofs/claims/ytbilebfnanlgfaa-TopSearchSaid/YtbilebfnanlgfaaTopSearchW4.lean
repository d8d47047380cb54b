/- The functions that the law TopSearch reaches, each by its contract. Part 4. -/
import Derived.Test.YtbilebfnanlgfaaTopSearchW3
namespace Go.Proofs.Ytbilebfnanlgfaa
open Go.KL
theorem Try.inf89 : Info Try.prog 89 (.agg #[.string ByteArray.empty, .int .i64 0, .slice none 0 0, .slice none 0 0, .int .i64 0, .int .i64 0, .map none, .slice none 0 0, .int .i64 0, .slice none 0 0, .bool false]) 11 160 := by unfold Info; kernel_rfl
set_option maxHeartbeats 4000000 in
set_option maxRecDepth 100000 in
theorem touches_fn (nm : ByteArray) (n : Int) (l : List (List Int)) (cs : List BCall) (leads : Int) (many : Int) (σ : GW)  (v0 v1 v2 v3 : Value) (hv0 : Ty.has (Ty.agg [(Ty.val (Value.string nm)), (Ty.int n), (Ty.lst Ty.ints l)]) σ v0) (hv1 : Ty.has (Ty.lstc 2 callC cs) σ v1) (hv2 : Ty.has (Ty.int leads) σ v2) (hv3 : Ty.has (Ty.int many) σ v3)  (hnm : nm.size ≤ 1099511627776) (hn : -9223372036854775808 ≤ n ∧ n ≤ 9223372036854775807) :
    FnC Try.prog 15 #[v0, v1, v2, v3] σ (Ty.tup2 (Ty.lst Ty.ints (if qMay nm n l cs leads many = 0 then qFnd n l cs leads many else [])) (Ty.int (qMay nm n l cs leads many))) := by
 refine fn_intro0 Try.func15 rfl Try.ntmps15 (Nat.le_of_ble_eq_true rfl) (fun s0 a0 hle F0 ok0 hargs => ?_)
 have p0 : At (Ty.agg [(Ty.val (Value.string nm)), (Ty.int n), (Ty.lst Ty.ints l)]) s0 a0 (.tmp 0) := by have e := hargs 0 _ rfl; show Ty.has _ _ _; rw [e]; exact Ty.up _ hle hv0
 have p1 : At (Ty.lstc 2 callC cs) s0 a0 (.tmp 1) := by have e := hargs 1 _ rfl; show Ty.has _ _ _; rw [e]; exact Ty.up _ hle hv1
 have b1 := sl_le p1
 have p2 : At (Ty.int leads) s0 a0 (.tmp 2) := by have e := hargs 2 _ rfl; show Ty.has _ _ _; rw [e]; exact Ty.up _ hle hv2
 have p3 : At (Ty.int many) s0 a0 (.tmp 3) := by have e := hargs 3 _ rfl; show Ty.has _ _ _; rw [e]; exact Ty.up _ hle hv3
 clear hargs
 refine wp_seq ?_
 refine reg (a := a0) (σ := s0) rfl (fun i_ => List.getD [(Ty.pr (Ty.ref [(Ty.val (Value.string nm)), (Ty.int n), (Ty.lst Ty.ints l)])), (Ty.pr (Ty.val (Value.slice none 0 0))), (Ty.pr (Ty.int (0 : Int)))] i_ Pr.any) ok0 rfl ⟨?_, ?_, ?_, trivial⟩ ?_
 · intro ax tx hs okx sm
   exact run_plain rfl (y_boxagg (kp (sm 0 rfl) hs p0))
 · intro ax tx hs okx sm
   exact run_plain rfl (y_assign rfl)
 · intro ax tx hs okx sm d0
   exact run_plain rfl (y_assign rfl)
 intro a1 s1 D1
 have ok1 := D1.ok
 have F1 := F0.step0 D1.stp
 have q1 := D1.kt p1 rfl
 have q2 := D1.kt p2 rfl
 have q3 := D1.kt p3 rfl
 have q4 : At (Ty.ref [(Ty.val (Value.string nm)), (Ty.int n), (Ty.lst Ty.ints l)]) s1 a1 (.tmp 4) := D1.done 0
 clear D1
 refine tn ?_
 refine wp_seq ?_
 refine wp_seq ?_
 refine reg (a := a1) (σ := s1) rfl (fun i_ => List.getD [(Ty.pr (Ty.agg [(Ty.val (Value.string nm)), (Ty.int n), (Ty.lst Ty.ints l)])), (Ty.pr (Ty.lstc 2 callC cs)), (Ty.pr (Ty.int (callsMay nm n l cs))), (Ty.pr (Ty.int (callsMay nm n l cs)))] i_ Pr.any) ok1 rfl ⟨?_, ?_, ?_, ?_, trivial⟩ ?_
 · intro ax tx hs okx sm
   exact run_plain rfl (y_loadagg Try.underlying31 Try.inf31 (kp (sm 4 rfl) hs q4))
 · intro ax tx hs okx sm
   exact run_plain rfl (y_move (kp (sm 1 rfl) hs q1))
 · intro ax tx hs okx sm d0 d1
   have e0 := ed d0 rfl rfl rfl
   have e1 := ed d1 rfl rfl rfl
   exact run_plain rfl (y_call #[ax.eval (.tmp 16), ax.eval (.tmp 17)] Try.func47 rfl rfl (by simp only [List.map_toArray, List.map_cons, List.map_nil]) (callCheck_fn (nm) (n) (l) (cs) _ _ _ e0 e1 (by first | omega | assumption) (by first | omega | assumption)))
 · intro ax tx hs okx sm d0 d1 d2 d3 d4
   have e2 := ed d0 rfl rfl rfl
   exact run_plain rfl (y_assign e2)
 intro a2 s2 D2
 have ok2 := D2.ok
 have F2 := F1.step0 D2.stp
 have q5 := D2.kt q1 rfl
 have q6 := D2.kt q2 rfl
 have q7 := D2.kt q3 rfl
 have q8 := D2.kt q4 rfl
 have q9 : At (Ty.int (callsMay nm n l cs)) s2 a2 (.tmp 10) := D2.done 3
 clear D2
 refine tn ?_
 refine wp_seq ?_
 refine reg (a := a2) (σ := s2) rfl (fun i_ => List.getD [(Ty.pr (Ty.int (callsMay nm n l cs))), (Ty.pr (Ty.bool (decide ((callsMay nm n l cs) ≠ (0 : Int)))))] i_ Pr.any) ok2 rfl ⟨?_, ?_, trivial⟩ ?_
 · intro ax tx hs okx sm
   exact run_plain rfl (y_move (kp (sm 10 rfl) hs q9))
 · intro ax tx hs okx sm d0
   have e0 := ed d0 rfl rfl rfl
   exact run_plain rfl (y_neq e0 rfl)
 intro a3 s3 D3
 have ok3 := D3.ok
 have F3 := F2.step0 D3.stp
 have q10 := D3.kt q5 rfl
 have q11 := D3.kt q6 rfl
 have q12 := D3.kt q7 rfl
 have q13 := D3.kt q8 rfl
 have q14 := D3.kt q9 rfl
 have q15 : At (Ty.bool (decide ((callsMay nm n l cs) ≠ (0 : Int)))) s3 a3 (.tmp 20) := D3.done 1
 clear D3
 refine tn ?_
 refine cond_p (p := ((callsMay nm n l cs) ≠ (0 : Int))) q15 (fun c1 => ?_) (fun c1 => ?_)
 ·
  have hm := qMay_calls (leads := leads) (many := many) c1
  refine wp_seq ?_
  refine reg (a := a3) (σ := s3) rfl (fun i_ => List.getD [(Ty.pr (Ty.int (callsMay nm n l cs))), (Ty.pr (Ty.val (Value.slice none 0 0))), (Ty.pr (Ty.int (callsMay nm n l cs)))] i_ Pr.any) ok3 rfl ⟨?_, ?_, ?_, trivial⟩ ?_
  · intro ax tx hs okx sm d0
    exact run_plain rfl (y_move (kp (sm 10 rfl) hs q14))
  · intro ax tx hs okx sm d0
    exact run_plain rfl (y_assign rfl)
  · intro ax tx hs okx sm d0 d1 d2 d3
    have e0 := ed d0 rfl rfl rfl
    exact run_plain rfl (y_assign e0)
  intro a4 s4 D4
  have ok4 := D4.ok
  have F4 := F3.step0 D4.stp
  have q16 : At (Ty.val (Value.slice none 0 0)) s4 a4 (.tmp 8) := D4.done 1
  have q17 : At (Ty.int (callsMay nm n l cs)) s4 a4 (.tmp 9) := D4.done 2
  clear D4
  refine tn ?_
  refine wp_ret ?_
  refine tr ?_
  exact retL2 rfl ok4 F4 (hasT2 (nil_lst (by (rw [hm, if_neg c1])) q16) (cvi (by (exact hm.symm)) q17))
 ·
  have h0 := Classical.not_not.1 c1; obtain ⟨hok, hnn⟩ := callsMay_ok h0; have hc8 := hok.c8; have hc1 := hok.c1; have hl1 := hok.meth.l1; have hl2 := hok.meth.l2; have hn1 := hok.meth.n1; have hn2 := hok.meth.n2
  refine wp_skip ?_
  refine tn ?_
  refine wp_seq ?_
  refine wp_seq ?_
  refine reg (a := a3) (σ := s3) rfl (fun i_ => List.getD [(Ty.pr (Ty.int leads)), (Ty.pr (Ty.bool (decide (leads < (1 : Int))))), (Ty.pr (Ty.bool (decide (leads < (1 : Int))))), (Ty.pr (Ty.grd ((decide (leads < (1 : Int))) = false) (Ty.int leads))), (Ty.pr (Ty.grd ((decide (leads < (1 : Int))) = false) (Ty.bool (decide ((24 : Int) < leads))))), (Ty.pr (Ty.bool ((decide (leads < (1 : Int))) || (decide ((24 : Int) < leads))))), (Ty.pr (Ty.bool ((decide (leads < (1 : Int))) || (decide ((24 : Int) < leads))))), (Ty.pr (Ty.grd (((decide (leads < (1 : Int))) || (decide ((24 : Int) < leads))) = false) (Ty.int many))), (Ty.pr (Ty.grd (((decide (leads < (1 : Int))) || (decide ((24 : Int) < leads))) = false) (Ty.bool (decide (many < (1 : Int)))))), (Ty.pr (Ty.bool (((decide (leads < (1 : Int))) || (decide ((24 : Int) < leads))) || (decide (many < (1 : Int)))))), (Ty.pr (Ty.bool (((decide (leads < (1 : Int))) || (decide ((24 : Int) < leads))) || (decide (many < (1 : Int)))))), (Ty.pr (Ty.grd ((((decide (leads < (1 : Int))) || (decide ((24 : Int) < leads))) || (decide (many < (1 : Int)))) = false) (Ty.int many))), (Ty.pr (Ty.grd ((((decide (leads < (1 : Int))) || (decide ((24 : Int) < leads))) || (decide (many < (1 : Int)))) = false) (Ty.bool (decide ((50 : Int) < many))))), (Ty.pr (Ty.bool ((((decide (leads < (1 : Int))) || (decide ((24 : Int) < leads))) || (decide (many < (1 : Int)))) || (decide ((50 : Int) < many)))))] i_ Pr.any) ok3 rfl ⟨?_, ?_, ?_, ?_, ?_, ?_, ?_, ?_, ?_, ?_, ?_, ?_, ?_, ?_, trivial⟩ ?_
  · intro ax tx hs okx sm
    exact run_plain rfl (y_move (kp (sm 2 rfl) hs q11))
  · intro ax tx hs okx sm d0
    have e0 := ed d0 rfl rfl rfl
    exact run_plain rfl (y_lss e0 rfl)
  · intro ax tx hs okx sm d0
    have e1 := ed d0 rfl rfl rfl
    exact run_plain rfl (y_move e1)
  · intro ax tx hs okx sm d0
    have e2 := ed d0 rfl rfl rfl
    refine run_guard (T := (Ty.int leads)) okx rfl rfl (by decide) e2 (fun hg => ?_)
    have hp := of_decide_eq_false hg
    exact y_move (kp (sm 2 rfl) hs q11)
  · intro ax tx hs okx sm d0 d1
    have e3 := ed d0 rfl rfl rfl
    have e2 := ed d1 rfl rfl rfl
    refine run_guard (T := (Ty.bool (decide ((24 : Int) < leads)))) okx rfl rfl (by decide) e2 (fun hg => ?_)
    have hp := of_decide_eq_false hg
    exact y_gtr (e3.1 hg) rfl
  · intro ax tx hs okx sm d0 d1
    have e2 := ed d0 rfl rfl rfl
    have e4 := ed d1 rfl rfl rfl
    exact run_plain rfl (y_pick_or e2 rfl e4)
  · intro ax tx hs okx sm d0 d1
    have e5 := ed d0 rfl rfl rfl
    exact run_plain rfl (y_move e5)
  · intro ax tx hs okx sm d0
    have e6 := ed d0 rfl rfl rfl
    refine run_guard (T := (Ty.int many)) okx rfl rfl (by decide) e6 (fun hg => ?_)
    obtain ⟨d1, d2⟩ := Bool.or_eq_false_iff.mp hg
    have d1 := of_decide_eq_false d1
    have d2 := of_decide_eq_false d2
    exact y_move (kp (sm 3 rfl) hs q12)
  · intro ax tx hs okx sm d0 d1
    have e7 := ed d0 rfl rfl rfl
    have e6 := ed d1 rfl rfl rfl
    refine run_guard (T := (Ty.bool (decide (many < (1 : Int))))) okx rfl rfl (by decide) e6 (fun hg => ?_)
    obtain ⟨d3, d4⟩ := Bool.or_eq_false_iff.mp hg
    have d3 := of_decide_eq_false d3
    have d4 := of_decide_eq_false d4
    exact y_lss (e7.1 hg) rfl
  · intro ax tx hs okx sm d0 d1
    have e6 := ed d0 rfl rfl rfl
    have e8 := ed d1 rfl rfl rfl
    exact run_plain rfl (y_pick_or e6 rfl e8)
  · intro ax tx hs okx sm d0 d1
    have e9 := ed d0 rfl rfl rfl
    exact run_plain rfl (y_move e9)
  · intro ax tx hs okx sm d0
    have e10 := ed d0 rfl rfl rfl
    refine run_guard (T := (Ty.int many)) okx rfl rfl (by decide) e10 (fun hg => ?_)
    obtain ⟨d5, d6⟩ := Bool.or_eq_false_iff.mp hg
    obtain ⟨d7, d8⟩ := Bool.or_eq_false_iff.mp d5
    have d7 := of_decide_eq_false d7
    have d8 := of_decide_eq_false d8
    have d6 := of_decide_eq_false d6
    exact y_move (kp (sm 3 rfl) hs q12)
  · intro ax tx hs okx sm d0 d1
    have e11 := ed d0 rfl rfl rfl
    have e10 := ed d1 rfl rfl rfl
    refine run_guard (T := (Ty.bool (decide ((50 : Int) < many)))) okx rfl rfl (by decide) e10 (fun hg => ?_)
    obtain ⟨d9, d10⟩ := Bool.or_eq_false_iff.mp hg
    obtain ⟨d11, d12⟩ := Bool.or_eq_false_iff.mp d9
    have d11 := of_decide_eq_false d11
    have d12 := of_decide_eq_false d12
    have d10 := of_decide_eq_false d10
    exact y_gtr (e11.1 hg) rfl
  · intro ax tx hs okx sm d0 d1
    have e10 := ed d0 rfl rfl rfl
    have e12 := ed d1 rfl rfl rfl
    exact run_plain rfl (y_pick_or e10 rfl e12)
  intro a5 s5 D5
  have ok5 := D5.ok
  have F5 := F3.step0 D5.stp
  have q18 := D5.kt q10 rfl
  have q19 := D5.kt q11 rfl
  have q20 := D5.kt q12 rfl
  have q21 := D5.kt q13 rfl
  have q22 : At (Ty.bool ((((decide (leads < (1 : Int))) || (decide ((24 : Int) < leads))) || (decide (many < (1 : Int)))) || (decide ((50 : Int) < many)))) s5 a5 (.tmp 35) := D5.done 13
  clear D5
  refine tn ?_
  refine cond_t q22 (fun c2 => ?_) (fun c2 => ?_)
  ·
   simp only [Bool.or_eq_true, decide_eq_true_eq] at c2; have hm := qMay_cnt c1 (many := many) (leads := leads) (by omega)
   refine wp_seq ?_
   refine reg (a := a5) (σ := s5) rfl (fun i_ => List.getD [(Ty.pr (Ty.val (Value.slice none 0 0))), (Ty.pr (Ty.int (1 : Int)))] i_ Pr.any) ok5 rfl ⟨?_, ?_, trivial⟩ ?_
   · intro ax tx hs okx sm
     exact run_plain rfl (y_assign rfl)
   · intro ax tx hs okx sm d0 d1
     exact run_plain rfl (y_assign rfl)
   intro a6 s6 D6
   have ok6 := D6.ok
   have F6 := F5.step0 D6.stp
   have q23 : At (Ty.val (Value.slice none 0 0)) s6 a6 (.tmp 8) := D6.done 0
   have q24 : At (Ty.int (1 : Int)) s6 a6 (.tmp 9) := D6.done 1
   clear D6
   refine tn ?_
   refine wp_ret ?_
   refine tr ?_
   exact retL2 rfl ok6 F6 (hasT2 (nil_lst (by (rw [hm, if_neg (by decide)])) q23) (cvi (by (exact hm.symm)) q24))
  ·
   obtain ⟨d13, d14⟩ := Bool.or_eq_false_iff.mp c2
   obtain ⟨d15, d16⟩ := Bool.or_eq_false_iff.mp d13
   obtain ⟨d17, d18⟩ := Bool.or_eq_false_iff.mp d15
   replace d17 := of_decide_eq_false d17
   replace d18 := of_decide_eq_false d18
   replace d16 := of_decide_eq_false d16
   replace d14 := of_decide_eq_false d14
   have hxx : ¬ (leads < 1 ∨ 24 < leads ∨ many < 1 ∨ 50 < many) := (by simp only [Bool.or_eq_false_iff, decide_eq_false_iff_not] at c2; omega); obtain ⟨LN, hLN⟩ : ∃ LN, LN = leads.toNat := ⟨_, rfl⟩; obtain ⟨MN, hMN⟩ : ∃ MN, MN = many.toNat := ⟨_, rfl⟩; have hb1 : 1 ≤ LN := (by omega); have hb2 : LN ≤ 24 := (by omega); have hb3 : 1 ≤ MN := (by omega); have hb4 : MN ≤ 50 := (by omega)
   have q25 : At (Ty.nat LN) s5 a5 (.tmp 2) := cvt (T := (Ty.int leads)) (U := (Ty.nat LN)) (by exact congrArg Ty.int (show leads = ((LN : Nat) : Int) by omega)) q19
   have q26 : At (Ty.nat MN) s5 a5 (.tmp 3) := cvt (T := (Ty.int many)) (U := (Ty.nat MN)) (by exact congrArg Ty.int (show many = ((MN : Nat) : Int) by omega)) q20
   refine wp_skip ?_
   refine tn ?_
   refine wp_seq ?_
   refine reg2 (a := a5) (σ := s5) rfl 4 (fun i_ => List.getD [(Ty.pr (Ty.agg [(Ty.val (Value.string nm)), (Ty.int n), (Ty.lst Ty.ints l)])), (Ty.pr (Ty.nat LN)), (Ty.pr (Ty.nat MN)), (Pr.ownm Ty.int kI 41 (fun _ => none : Int → Option Int))] i_ Pr.any) ok5 rfl (by decide) rfl ⟨?_, ?_, ?_, ?_, trivial⟩ ?_
   · intro ax tx hs okx sm
     exact run_plain rfl (y_loadagg Try.underlying31 Try.inf31 (kp (sm 4 rfl) hs q21))
   · intro ax tx hs okx sm
     exact run_plain rfl (y_move (kp (sm 2 rfl) hs q25))
   · intro ax tx hs okx sm
     exact run_plain rfl (y_move (kp (sm 3 rfl) hs q26))
   · intro ax tx hs okx sm
     exact run_plain rfl (y_makemap 41)
   intro a7 s7 D7
   have ok7 := D7.ok
   have F7 := F5.step0 D7.stp
   have q27 := D7.kt q18 rfl
   have q28 := D7.kt q21 rfl
   have q29 : At (Ty.agg [(Ty.val (Value.string nm)), (Ty.int n), (Ty.lst Ty.ints l)]) s7 a7 (.tmp 36) := D7.done 0 (by decide)
   have q30 : At (Ty.nat LN) s7 a7 (.tmp 37) := D7.done 1 (by decide)
   have q31 : At (Ty.nat MN) s7 a7 (.tmp 38) := D7.done 2 (by decide)
   obtain ⟨x1, hx1⟩ : ∃ x, a7.eval (.tmp 39) = x := ⟨_, rfl⟩
   have q32 : At (Ty.val x1) s7 a7 (.tmp 39) := hx1
   have o1 : OwnM Ty.int kI s7 41 x1 (fun _ => none : Int → Option Int) := al2 (R := (Pr.ownm Ty.int kI 41 (fun _ => none : Int → Option Int))) hx1 (D7.done 3 (by decide))
   clear D7
   refine tailL (L := []) (R := (fun v τ => Pr.has (Ty.pr (Ty.agg [(Ty.val (Value.string nm)), (Ty.int n), (Ty.lst Ty.ints l), (Ty.val (Value.slice none 0 0)), (Ty.nat LN), (Ty.nat MN), (Ty.val x1), (Ty.val (Value.slice none 0 0)), (Ty.int (0 : Int)), (Ty.val (Value.slice none 0 0)), (Ty.bool false)])) τ v)) rfl rfl (by decide) ok7 (Yld.toL (y_bld2 [(0, (.tmp 36), [(Ty.val (Value.string nm)), (Ty.int n), (Ty.lst Ty.ints l)]), (2, (.tmp 37), [(Ty.nat LN)]), (3, (.tmp 38), [(Ty.nat MN)]), (4, (.tmp 39), [(Ty.val x1)])] [(Ty.val (Value.string ByteArray.empty)), (Ty.int (0 : Int)), (Ty.val (Value.slice none 0 0)), (Ty.val (Value.slice none 0 0)), (Ty.int (0 : Int)), (Ty.int (0 : Int)), (Ty.val (Value.map none)), (Ty.val (Value.slice none 0 0)), (Ty.int (0 : Int)), (Ty.val (Value.slice none 0 0)), (Ty.bool false)] (l := [(0, 3), (3, 1), (4, 1), (5, 1), (6, 1), (7, 1), (8, 1), (9, 1), (10, 1)]) rfl Try.inf89 rfl (alloc_vals (vs := [.string ByteArray.empty, .int .i64 0, .slice none 0 0, .slice none 0 0, .int .i64 0, .int .i64 0, .map none, .slice none 0 0, .int .i64 0, .slice none 0 0, .bool false]) rfl) rfl (by intro p hp; simp only [List.mem_cons, List.not_mem_nil, or_false] at hp; rcases hp with rfl | rfl | rfl | rfl; exact fits_agg q29; exact fits_one (one_val rfl) q30; exact fits_one (one_val rfl) q31; exact fits_one (one_val (OwnM.one o1)) q32))) (fun a8 s8 hs1 ok8 r1 sm1 => ?_)
   have F8 := F7.stepL hs1 (by decide)
   have q33 := kpL hs1 (by decide) (sm1 1 (by decide)) q27
   have q34 := kpL hs1 (by decide) (sm1 4 (by decide)) q28
   have o2 := OwnM.keepL o1 hs1 (by decide) (by decide)
   have q35 : At (Ty.agg [(Ty.val (Value.string nm)), (Ty.int n), (Ty.lst Ty.ints l), (Ty.val (Value.slice none 0 0)), (Ty.nat LN), (Ty.nat MN), (Ty.val x1), (Ty.val (Value.slice none 0 0)), (Ty.int (0 : Int)), (Ty.val (Value.slice none 0 0)), (Ty.bool false)]) s8 a8 (.tmp 40) := r1
   clear r1
   refine tailL (L := []) (R := (fun v τ => Pr.has (Pr.ownp 40 [(Ty.val (Value.string nm)), (Ty.int n), (Ty.lst Ty.ints l), (Ty.val (Value.slice none 0 0)), (Ty.nat LN), (Ty.nat MN), (Ty.val x1), (Ty.val (Value.slice none 0 0)), (Ty.int (0 : Int)), (Ty.val (Value.slice none 0 0)), (Ty.bool false)]) τ v)) rfl rfl (by decide) ok8 (Yld.toL (y_boxo 40 q35)) (fun a9 s9 hs2 ok9 r2 sm2 => ?_)
   have F9 := F8.stepL hs2 (by decide)
   have q36 := kpL hs2 (by decide) (sm2 1 (by decide)) q33
   have q37 := kpL hs2 (by decide) (sm2 4 (by decide)) q34
   have o4 := OwnM.keepL o2 hs2 (by decide) (by decide)
   obtain ⟨x2, hx2⟩ : ∃ x, a9.eval (.tmp 41) = x := ⟨_, rfl⟩
   have q38 : At (Ty.val x2) s9 a9 (.tmp 41) := hx2
   have o3 : OwnP s9 40 x2 [(Ty.val (Value.string nm)), (Ty.int n), (Ty.lst Ty.ints l), (Ty.val (Value.slice none 0 0)), (Ty.nat LN), (Ty.nat MN), (Ty.val x1), (Ty.val (Value.slice none 0 0)), (Ty.int (0 : Int)), (Ty.val (Value.slice none 0 0)), (Ty.bool false)] := al2 (R := (Pr.ownp 40 [(Ty.val (Value.string nm)), (Ty.int n), (Ty.lst Ty.ints l), (Ty.val (Value.slice none 0 0)), (Ty.nat LN), (Ty.nat MN), (Ty.val x1), (Ty.val (Value.slice none 0 0)), (Ty.int (0 : Int)), (Ty.val (Value.slice none 0 0)), (Ty.bool false)])) hx2 r2
   clear r2
   refine tailL (L := []) (R := (fun v τ => Pr.has (Ty.pr (Ty.val x2)) τ v)) rfl rfl (by decide) ok9 (Yld.toL (y_assign q38)) (fun a10 s10 hs3 ok10 r3 sm3 => ?_)
   have F10 := F9.stepL hs3 (by decide)
   have q39 := kpL hs3 (by decide) (sm3 1 (by decide)) q36
   have q40 := kpL hs3 (by decide) (sm3 4 (by decide)) q37
   have o5 := OwnM.keepL o4 hs3 (by decide) (by decide)
   have o6 := OwnP.keepL o3 hs3 (by decide) (by decide)
   have q41 : At (Ty.val x2) s10 a10 (.tmp 11) := r3
   clear r3
   refine wpList_nil ?_
   refine tn ?_
   refine wp_seq ?_
   refine wp_seq ?_
   refine reg (a := a10) (σ := s10) rfl (fun i_ => List.getD [(Ty.pr (Ty.lstc 2 callC cs)), (Ty.pr (Ty.nat (List.length cs))), (Ty.pr (Ty.int (0 : Int)))] i_ Pr.any) ok10 rfl ⟨?_, ?_, ?_, trivial⟩ ?_
   · intro ax tx hs okx sm
     exact run_plain rfl (y_move (kp (sm 1 rfl) hs q39))
   · intro ax tx hs okx sm d0
     have e0 := ed d0 rfl rfl rfl
     exact run_plain rfl (y_len Try.underlying22 e0)
   · intro ax tx hs okx sm
     exact run_plain rfl (y_move rfl)
   intro a11 s11 D8
   have ok11 := D8.ok
   have F11 := F10.step0 D8.stp
   have q42 := D8.kt q40 rfl
   have q43 := D8.kt q41 rfl
   have o7 := OwnM.k0 o5 D8.stp
   have o8 := OwnP.k0 o6 D8.stp
   have q44 : At (Ty.lstc 2 callC cs) s11 a11 (.tmp 42) := D8.done 0
   have q45 : At (Ty.nat (List.length cs)) s11 a11 (.tmp 43) := D8.done 1
   have q46 : At (Ty.int (0 : Int)) s11 a11 (.tmp 44) := D8.done 2
   clear D8
   refine tn ?_
   refine wp_block ?_
   have o9 : Own s11 50 29 1 (Value.slice none 0 0) 0 (List.map Ty.rows ([] : List (List (List Int)))) := Own.nil _ _ _ _
   refine loop (fun n1 a12 w1 => ∃ (t1 : GW) (k : Nat) (x11_0 ln mp : Value), t1.w = w1 ∧ FromL [] s0 t1 ∧ Ok 78 a12 ∧ At (Ty.nat k) t1 a12 (.tmp 44) ∧ At (Ty.val x11_0) t1 a12 (.tmp 11) ∧ At (Ty.ref [(Ty.val (Value.string nm)), (Ty.int n), (Ty.lst Ty.ints l)]) t1 a12 (.tmp 4) ∧ At (Ty.lstc 2 callC cs) t1 a12 (.tmp 42) ∧ At (Ty.nat (List.length cs)) t1 a12 (.tmp 43) ∧ OwnP t1 40 x11_0 [(Ty.val (Value.string nm)), (Ty.int n), (Ty.lst Ty.ints l), (Ty.val ln), (Ty.nat LN), (Ty.nat MN), (Ty.val mp), (Ty.val (Value.slice none 0 0)), (Ty.nat 0), (Ty.val (Value.slice none 0 0)), (Ty.bool false)] ∧ Own t1 50 29 1 ln (List.length (List.map (endsL l) (List.take k cs))) (List.map Ty.rows (List.map (endsL l) (List.take k cs))) ∧ OwnM Ty.int kI t1 41 mp (fun _ => none) ∧ (k ≤ cs.length) ∧ n1 = cs.length - k) (cs.length - (0)) ?_ ?_
   ·
    exact ⟨s11, 0, x2, (Value.slice none 0 0), x1, rfl, F11, ok11, (cvi (by (first | rfl | omega | (simp_all; done) | (simp_all; omega))) q46), q43, q42, q44, q45, (ownp_cell 8 (Ty.nat 0) o8 rfl (fun _ _ h => (cvi (by (first | rfl | omega | (simp_all; done) | (simp_all; omega))) h))), (cvo (by (rfl)) (by (rfl)) o9), (cvm (by (rfl)) o7), by omega, rfl⟩
   ·
    rintro n2 a13 w2 ⟨t2, k, x11_0, ln, mp, rfl, F12, ok12, q47, q48, q49, q50, q51, o10, o11, o12, hk, rfl⟩
    have hlm : (List.map (endsL l) (List.take k cs)).length = k := by rw [List.length_map, List.length_take]; omega
    refine wp_seq ?_
    refine reg (a := a13) (σ := t2) rfl (fun i_ => List.getD [(Ty.pr (Ty.bool (decide (((k : Nat) : Int) < (((List.length cs) : Nat) : Int)))))] i_ Pr.any) ok12 rfl ⟨?_, trivial⟩ ?_
    · intro ax tx hs okx sm
      exact run_plain rfl (y_lss (kp (sm 44 rfl) hs q47) (kp (sm 43 rfl) hs q51))
    intro a14 s12 D9
    have ok13 := D9.ok
    have F13 := F12.step0 D9.stp
    have q52 := D9.kt q47 rfl
    have q53 := D9.kt q48 rfl
    have q54 := D9.kt q49 rfl
    have q55 := D9.kt q50 rfl
    have q56 := D9.kt q51 rfl
    have o13 := OwnP.k0 o10 D9.stp
    have o14 := Own.k0 o11 D9.stp
    have o15 := OwnM.k0 o12 D9.stp
    have q57 : At (Ty.bool (decide (((k : Nat) : Int) < (((List.length cs) : Nat) : Int)))) s12 a14 (.tmp 45) := D9.done 0
    clear D9
    refine tn ?_
    refine wp_seq ?_
    refine cond_p (p := (((k : Nat) : Int) < (((List.length cs) : Nat) : Int))) q57 (fun c3 => ?_) (fun c3 => ?_)
    ·
     have hkc : k < cs.length := (by omega); have hshk := hok.short k hkc
     refine wp_skip ?_
     refine tn ?_
     refine wp_seq ?_
     refine wp_block ?_
     refine wp_seq ?_
     refine reg2 (a := a14) (σ := s12) rfl 3 (fun i_ => List.getD [(Ty.pr (Ty.ref [(Ty.val (Value.int .i32 ((cs.getD k D0)).1)), (Ty.lst Ty.ints ((cs.getD k D0)).2)])), (Ty.pr (Ty.agg [(Ty.val (Value.int .i32 ((cs.getD k D0)).1)), (Ty.lst Ty.ints ((cs.getD k D0)).2)])), (Pr.ownp 61 [(Ty.val (Value.int .i32 0)), (Ty.val (Value.slice none 0 0))])] i_ Pr.any) ok13 rfl (by decide) rfl ⟨?_, ?_, ?_, trivial⟩ ?_
     · intro ax tx hs okx sm
       exact run_plain rfl (y_indexc (i := ((k : Nat) : Int)) D0 Try.underlying22 Try.inf56 (kp (sm 42 rfl) hs q55) (kp (sm 44 rfl) hs q52) (by omega) (by omega) (by decide) (fun _ => rfl))
     · intro ax tx hs okx sm d0
       have e0 := ed d0 rfl rfl rfl
       exact run_plain rfl (y_loadagg Try.underlying56 Try.inf56 e0)
     · intro ax tx hs okx sm
       exact run_plain rfl (y_alloc Try.inf56 rfl (alloc_vals (vs := [.int .i32 0, .slice none 0 0]) rfl))
     intro a15 s13 D10
     have ok14 := D10.ok
     have F14 := F13.step0 D10.stp
     have q58 := D10.kt q52 rfl
     have q59 := D10.kt q53 rfl
     have q60 := D10.kt q54 rfl
     have q61 := D10.kt q55 rfl
     have q62 := D10.kt q56 rfl
     have o16 := OwnP.k0 o13 D10.stp
     have o17 := Own.k0 o14 D10.stp
     have o18 := OwnM.k0 o15 D10.stp
     have q63 : At (Ty.agg [(Ty.val (Value.int .i32 ((cs.getD k D0)).1)), (Ty.lst Ty.ints ((cs.getD k D0)).2)]) s13 a15 (.tmp 47) := D10.done 1 (by decide)
     obtain ⟨x3, hx3⟩ : ∃ x, a15.eval (.tmp 13) = x := ⟨_, rfl⟩
     have q64 : At (Ty.val x3) s13 a15 (.tmp 13) := hx3
     have o19 : OwnP s13 61 x3 [(Ty.val (Value.int .i32 0)), (Ty.val (Value.slice none 0 0))] := al2 (R := (Pr.ownp 61 [(Ty.val (Value.int .i32 0)), (Ty.val (Value.slice none 0 0))])) hx3 (D10.done 2 (by decide))
     clear D10
     refine tailL0 (L := [61]) (R := (fun _ τ => OwnP τ 61 x3 [(Ty.val (Value.int .i32 ((cs.getD k D0)).1)), (Ty.lst Ty.ints ((cs.getD k D0)).2)])) rfl rfl (YldM.toL (m_storeagg Try.inf56 (by decide) o19 q64 rfl q63 (by intro U hU; simp only [List.mem_cons, List.not_mem_nil, or_false] at hU; rcases hU with rfl | rfl <;> first | exact one_val rfl | exact one_sl | exact one_ref))) (fun v1 s14 hs4 r4 => ?_)
     have F15 := F14.stepL hs4 (by decide)
     have q65 := kpL hs4 (by decide) rfl q58
     have q66 := kpL hs4 (by decide) rfl q59
     have q67 := kpL hs4 (by decide) rfl q60
     have q68 := kpL hs4 (by decide) rfl q61
     have q69 := kpL hs4 (by decide) rfl q62
     have q70 := kpL hs4 (by decide) rfl q64
     have o21 := OwnP.keepL o16 hs4 (by decide) (by decide)
     have o22 := Own.keepL o17 hs4 (by decide) (by decide)
     have o23 := OwnM.keepL o18 hs4 (by decide) (by decide)
     have o20 : OwnP s14 61 x3 [(Ty.val (Value.int .i32 ((cs.getD k D0)).1)), (Ty.lst Ty.ints ((cs.getD k D0)).2)] := r4
     clear r4
     refine wpList_nil ?_
     refine tn ?_
     refine reg3 (a := a15) (σ := s14) rfl 10 9 57 [50] (by decide) (Pr.own 50 29 1 ((List.length (List.map (endsL l) (List.take k cs))) + 1) ((List.map Ty.rows (List.map (endsL l) (List.take k cs))) ++ [(Ty.lst Ty.ints (endsL l ((cs.getD k D0).1, (cs.getD k D0).2)))])) (fun i_ => List.getD [(Ty.val x11_0), (Ty.val x11_0), (Ty.val x11_0), (Ty.val (ptrAt x11_0 3)), (Ty.val ln), (Ty.agg [(Ty.val (Value.string nm)), (Ty.int n), (Ty.lst Ty.ints l)]), (Ty.agg [(Ty.val (Value.int .i32 ((cs.getD k D0)).1)), (Ty.lst Ty.ints ((cs.getD k D0)).2)]), (Ty.lst Ty.ints (endsL l ((((cs.getD k D0)).1), (((cs.getD k D0)).2)))), (Ty.sl 1 1 [(Ty.lst Ty.ints (endsL l ((((cs.getD k D0)).1), (((cs.getD k D0)).2))))]), Ty.any] i_ Ty.any) ok14 rfl (by decide) rfl (by decide) rfl (fun _ _ => trivial) rfl ⟨?_, ?_, ?_, ?_, ?_, ?_, ?_, ?_, ?_, ?_, trivial⟩ ?_
     · refine obR3 (by decide) ?_
       intro ax tx hs okx sm
       exact run_plain rfl (y_move (kpL hs (by decide) (sm 11 rfl) q66))
     · refine obR3 (by decide) ?_
       intro ax tx hs okx sm
       exact run_plain rfl (y_move (kpL hs (by decide) (sm 11 rfl) q66))
     · refine obR3 (by decide) ?_
       intro ax tx hs okx sm d0
       have e1 : At (Ty.val x11_0) tx ax (.tmp 49) := d0 rfl
       exact run_plain rfl (y_nilp (OwnP.keepL o21 hs (by decide) (by decide)) e1)
     · refine obR3 (by decide) ?_
       intro ax tx hs okx sm d0
       have e2 : At (Ty.val x11_0) tx ax (.tmp 50) := d0 rfl
       exact run_plain rfl (ownp_field Try.fld89_1 Try.inf87 (by decide) (OwnP.keepL o21 hs (by decide) (by decide)) e2)
     · refine obR3 (by decide) ?_
       intro ax tx hs okx sm d0
       have e3 : At (Ty.val (ptrAt x11_0 3)) tx ax (.tmp 51) := d0 rfl
       exact run_plain rfl (ownp_load Try.underlying87 rfl (OwnP.keepL o21 hs (by decide) (by decide)) e3 rfl)
     · refine obR3 (by decide) ?_
       intro ax tx hs okx sm
       exact run_plain rfl (y_loadagg Try.underlying31 Try.inf31 (kpL hs (by decide) (sm 4 rfl) q67))
     · refine obR3 (by decide) ?_
       intro ax tx hs okx sm
       exact run_plain rfl (ownp_loadagg Try.underlying56 Try.inf56 (OwnP.keepL o20 hs (by decide) (by decide)) (kpL hs (by decide) (sm 13 rfl) q70))
     · refine obR3 (by decide) ?_
       intro ax tx hs okx sm d0 d1
       have e5 : At (Ty.agg [(Ty.val (Value.string nm)), (Ty.int n), (Ty.lst Ty.ints l)]) tx ax (.tmp 53) := d0 rfl
       have e6 : At (Ty.agg [(Ty.val (Value.int .i32 ((cs.getD k D0)).1)), (Ty.lst Ty.ints ((cs.getD k D0)).2)]) tx ax (.tmp 54) := d1 rfl
       exact run_plain rfl (y_call #[ax.eval (.tmp 53), ax.eval (.tmp 54)] Try.func48 rfl rfl (by simp only [List.map_toArray, List.map_cons, List.map_nil]) (changes_fn (nm) (n) (l) (((cs.getD k D0)).1) (((cs.getD k D0)).2) _ _ _ e5 e6 (by first | omega | assumption) (by first | omega | assumption) (by first | omega | assumption)))
     · refine obR3 (by decide) ?_
       intro ax tx hs okx sm d0
       have e7 : At (Ty.lst Ty.ints (endsL l ((((cs.getD k D0)).1), (((cs.getD k D0)).2)))) tx ax (.tmp 55) := d0 rfl
       exact run_plain rfl (y_build1o Try.underlying87 Try.inf29 rfl (one_sl) e7)
     · refine obR3w rfl ?_
       intro ax tx hs okx sm d0 d1 d2
       have e4 : At (Ty.val ln) tx ax (.tmp 52) := d0 rfl
       have e8 : At (Ty.sl 1 1 [(Ty.lst Ty.ints (endsL l ((cs.getD k D0).1, (cs.getD k D0).2)))]) tx ax (.tmp 56) := d1 rfl
       exact YldM.toL (m_append Try.underlying87 Try.inf29 (by decide) rfl (by decide) (al (R := (Pr.own 50 29 1 (List.length (List.map (endsL l) (List.take k cs))) (List.map Ty.rows (List.map (endsL l) (List.take k cs))))) e4 (Own.k0 o22 hs)) e8 (by intro U hU; simp at hU; subst hU; exact one_sl) (by omega) (by omega))
     intro a16 s15 D11
     have ok15 := D11.ok
     have F16 := F15.stepL D11.stp (by decide)
     have q72 : At (Ty.nat k) s15 a16 (.tmp 44) := D11.kt (by decide) q65 rfl
     have q73 : At (Ty.val x11_0) s15 a16 (.tmp 11) := D11.kt (by decide) q66 rfl
     have q74 : At (Ty.ref [(Ty.val (Value.string nm)), (Ty.int n), (Ty.lst Ty.ints l)]) s15 a16 (.tmp 4) := D11.kt (by decide) q67 rfl
     have q75 : At (Ty.lstc 2 callC cs) s15 a16 (.tmp 42) := D11.kt (by decide) q68 rfl
     have q76 : At (Ty.nat (List.length cs)) s15 a16 (.tmp 43) := D11.kt (by decide) q69 rfl
     have o25 := OwnP.keepL o21 D11.stp (by decide) (by decide)
     have o26 := OwnM.keepL o23 D11.stp (by decide) (by decide)
     have o27 := OwnP.keepL o20 D11.stp (by decide) (by decide)
     have q77 : At (Ty.val x11_0) s15 a16 (.tmp 48) := D11.done 0 (by decide)
     obtain ⟨x4, hx4⟩ : ∃ x, a16.eval (.tmp 57) = x := ⟨_, rfl⟩
     have q78 : At (Ty.val x4) s15 a16 (.tmp 57) := hx4
     have o24 : Own s15 50 29 1 x4 (List.length ((List.map (endsL l) (List.take k cs)) ++ [(endsL l ((cs.getD k D0).1, (cs.getD k D0).2))])) (List.map Ty.rows ((List.map (endsL l) (List.take k cs)) ++ [(endsL l ((cs.getD k D0).1, (cs.getD k D0).2))])) := al2 (R := (Pr.own 50 29 1 (List.length ((List.map (endsL l) (List.take k cs)) ++ [(endsL l ((cs.getD k D0).1, (cs.getD k D0).2))])) (List.map Ty.rows ((List.map (endsL l) (List.take k cs)) ++ [(endsL l ((cs.getD k D0).1, (cs.getD k D0).2))])))) hx4 (cvo (by simp) (by first | (rw [List.map_append]; rfl) | simp) D11.donep)
     clear D11
     refine tailL (L := []) (R := (fun v τ => Pr.has (Ty.pr (Ty.val x11_0)) τ v)) rfl rfl (by decide) ok15 (Yld.toL (y_nilp o25 q77)) (fun a17 s16 hs5 ok16 r5 sm4 => ?_)
     have F17 := F16.stepL hs5 (by decide)
     have q79 := kpL hs5 (by decide) (sm4 44 (by decide)) q72
     have q80 := kpL hs5 (by decide) (sm4 11 (by decide)) q73
     have q81 := kpL hs5 (by decide) (sm4 4 (by decide)) q74
     have q82 := kpL hs5 (by decide) (sm4 42 (by decide)) q75
     have q83 := kpL hs5 (by decide) (sm4 43 (by decide)) q76
     have q84 := kpL hs5 (by decide) (sm4 57 (by decide)) q78
     have o28 := OwnP.keepL o25 hs5 (by decide) (by decide)
     have o29 := OwnM.keepL o26 hs5 (by decide) (by decide)
     have o30 := OwnP.keepL o27 hs5 (by decide) (by decide)
     have o31 := Own.keepL o24 hs5 (by decide) (by decide)
     have q85 : At (Ty.val x11_0) s16 a17 (.tmp 58) := r5
     clear r5
     refine tailL (L := []) (R := (fun v τ => Pr.has (Ty.pr (Ty.val (ptrAt x11_0 3))) τ v)) rfl rfl (by decide) ok16 (Yld.toL (ownp_field Try.fld89_1 Try.inf87 (by decide) o28 q85)) (fun a18 s17 hs6 ok17 r6 sm5 => ?_)
     have F18 := F17.stepL hs6 (by decide)
     have q86 := kpL hs6 (by decide) (sm5 44 (by decide)) q79
     have q87 := kpL hs6 (by decide) (sm5 11 (by decide)) q80
     have q88 := kpL hs6 (by decide) (sm5 4 (by decide)) q81
     have q89 := kpL hs6 (by decide) (sm5 42 (by decide)) q82
     have q90 := kpL hs6 (by decide) (sm5 43 (by decide)) q83
     have q91 := kpL hs6 (by decide) (sm5 57 (by decide)) q84
     have o32 := OwnP.keepL o28 hs6 (by decide) (by decide)
     have o33 := OwnM.keepL o29 hs6 (by decide) (by decide)
     have o34 := OwnP.keepL o30 hs6 (by decide) (by decide)
     have o35 := Own.keepL o31 hs6 (by decide) (by decide)
     have q92 : At (Ty.val (ptrAt x11_0 3)) s17 a18 (.tmp 59) := r6
     clear r6
     refine tailL0 (L := [40]) (R := (fun _ τ => OwnP τ 40 x11_0 ([(Ty.val (Value.string nm)), (Ty.int n), (Ty.lst Ty.ints l), (Ty.val ln), (Ty.nat LN), (Ty.nat MN), (Ty.val mp), (Ty.val (Value.slice none 0 0)), (Ty.nat 0), (Ty.val (Value.slice none 0 0)), (Ty.bool false)].set 3 (Ty.val x4)))) rfl rfl (YldM.toL (m_storep Try.inf87 (by decide) o32 q92 (Nat.le_of_ble_eq_true rfl) q91 (one_val (Own.one o35)))) (fun v2 s18 hs7 r7 => ?_)
     have F19 := F18.stepL hs7 (by decide)
     have q93 := kpL hs7 (by decide) rfl q86
     have q94 := kpL hs7 (by decide) rfl q87
     have q95 := kpL hs7 (by decide) rfl q88
     have q96 := kpL hs7 (by decide) rfl q89
     have q97 := kpL hs7 (by decide) rfl q90
     have o37 := OwnM.keepL o33 hs7 (by decide) (by decide)
     have o38 := OwnP.keepL o34 hs7 (by decide) (by decide)
     have o39 := Own.keepL o35 hs7 (by decide) (by decide)
     have o36 : OwnP s18 40 x11_0 [(Ty.val (Value.string nm)), (Ty.int n), (Ty.lst Ty.ints l), (Ty.val x4), (Ty.nat LN), (Ty.nat MN), (Ty.val mp), (Ty.val (Value.slice none 0 0)), (Ty.nat 0), (Ty.val (Value.slice none 0 0)), (Ty.bool false)] := r7
     clear r7
     refine wpList_nil ?_
     refine bn ?_
     refine tn ?_
     refine reg (a := a18) (σ := s18) rfl (fun i_ => List.getD [(Ty.pr (Ty.nat (k + 1))), (Ty.pr (Ty.nat (k + 1)))] i_ Pr.any) ok17 rfl ⟨?_, ?_, trivial⟩ ?_
     · intro ax tx hs okx sm
       exact run_plain rfl ((y_add (kp (sm 44 rfl) hs q93) rfl (w64 (by omega) (by omega))).mono (fun τ _ h => cvi (σ := τ) (by first | omega | exact (Int.natCast_mul _ _).symm) h))
     · intro ax tx hs okx sm d0
       have e0 := ed d0 rfl rfl rfl
       exact run_plain rfl (y_move e0)
     intro a19 s19 D12
     have ok18 := D12.ok
     have F20 := F19.step0 D12.stp
     have q99 := D12.kt q94 rfl
     have q100 := D12.kt q95 rfl
     have q101 := D12.kt q96 rfl
     have q102 := D12.kt q97 rfl
     have o40 := OwnM.k0 o37 D12.stp
     have o41 := Own.k0 o39 D12.stp
     have o42 := OwnP.k0 o36 D12.stp
     have q103 : At (Ty.nat (k + 1)) s19 a19 (.tmp 44) := D12.done 1
     clear D12
     exact tn ⟨cs.length - ((k+1)), by omega, s19, (k+1), x11_0, x4, mp, rfl, F20, ok18, (cvi (by (first | rfl | omega | (simp_all; done) | (simp_all; omega))) q103), q99, q100, q101, q102, o42, (cvo (by (rw [lines_snoc (by omega)])) (by (rw [lines_snoc (by omega)])) o41), o40, by omega, rfl⟩
    ·
     have hke : k = cs.length := (by omega)
     refine wp_exit ?_
     refine tx ?_
     refine tx ?_
     refine bx ?_
     refine tn ?_
     refine wp_seq ?_
     refine reg (a := a14) (σ := s12) rfl (fun i_ => List.getD [(Ty.pr (Ty.ref [(Ty.int n), (Ty.lst Ty.ints l)])), (Ty.pr (Ty.int n)), (Ty.pr (Ty.tup2 (Ty.lst Ty.int (roundsL ((n).toNat))) (Ty.int (0 : Int)))), (Ty.pr (Ty.tup2 (Ty.lst Ty.int (roundsL ((n).toNat))) (Ty.int (0 : Int)))), (Ty.pr (Ty.lst Ty.int (roundsL ((n).toNat)))), (Ty.pr (Ty.int (0 : Int))), (Ty.pr (Ty.lst Ty.int (roundsL ((n).toNat)))), (Ty.pr (Ty.int (0 : Int)))] i_ Pr.any) ok13 rfl ⟨?_, ?_, ?_, ?_, ?_, ?_, ?_, ?_, trivial⟩ ?_
     · intro ax tx hs okx sm
       exact run_plain rfl (y_field Try.fld31_1 Try.inf3 (by decide) (kp (sm 4 rfl) hs q54) rfl)
     · intro ax tx hs okx sm d0
       have e0 := ed d0 rfl rfl rfl
       exact run_plain rfl (y_load Try.underlying3 rfl e0 rfl)
     · intro ax tx hs okx sm d0
       have e1 := ed d0 rfl rfl rfl
       exact run_plain rfl (y_call #[ax.eval (.tmp 63)] Try.func49 rfl rfl (by simp only [List.map_toArray, List.map_cons, List.map_nil]) (rounds_fn ((n).toNat) _ _ (cvi (σ := tx) (by omega) e1) (by omega)))
     · intro ax tx hs okx sm d0
       have e2 := ed d0 rfl rfl rfl
       exact run_plain rfl (y_move e2)
     · intro ax tx hs okx sm d0
       have e3 := ed d0 rfl rfl rfl
       exact run_plain rfl (y_ext2_0 e3)
     · intro ax tx hs okx sm d0 d1
       have e3 := ed d0 rfl rfl rfl
       exact run_plain rfl (y_ext2_1 e3)
     · intro ax tx hs okx sm d0 d1 d2 d3 d4 d5 d6 d7
       have e4 := ed d0 rfl rfl rfl
       exact run_plain rfl (y_assign e4)
     · intro ax tx hs okx sm d0 d1 d2 d3 d4 d5 d6 d7 d8
       have e5 := ed d0 rfl rfl rfl
       exact run_plain rfl (y_assign e5)
     intro a20 s20 D13
     have ok19 := D13.ok
     have F21 := F13.step0 D13.stp
     have q104 := D13.kt q53 rfl
     have o43 := OwnP.k0 o13 D13.stp
     have o44 := Own.k0 o14 D13.stp
     have o45 := OwnM.k0 o15 D13.stp
     have q105 : At (Ty.lst Ty.int (roundsL ((n).toNat))) s20 a20 (.tmp 14) := D13.done 6
     clear D13
     refine tn ?_
     refine wp_seq ?_
     obtain ⟨t3, e1, h1, q106⟩ := Own.seal o44 (by decide)
     rw [← e1]
     have F22 := F21.step h1 (by decide)
     have o46 := OwnP.keepL o43 (h1.toL (L := [50]) (by simp)) (by decide) (by decide)
     have o47 := OwnM.keepL o45 (h1.toL (L := [50]) (by simp)) (by decide) (by decide)
     have q107 := Ty.up (Ty.val x11_0) (h1.le (by decide)) q104
     have q108 := Ty.up (Ty.lst Ty.int (roundsL ((n).toNat))) (h1.le (by decide)) q105
     have o48 := ownp_cellq 3 (Ty.lst Ty.rows (List.map (endsL l) (List.take k cs))) o46 rfl q106
     have p1_ : inCalls cs ([] : List Int) := fun i hi => by simp at hi
     have p2_ : QOk MN (Qst.mk 0 [] false) := qok_zero MN
     have p3_ : LN + List.length ([] : List Int) = LN := rfl
     have p4_ : trueP n.toNat l cs ([] : List Int) = true := true_nil _ _ _
     have p5_ : VisOk n.toNat l cs ([] : List Int) ([] : List Int) := vis_nil _ _ _
     have p6_ : roundsL n.toNat = tHd n.toNat l cs ([] : List Int) (List.length ([] : List Int)) := rfl
     have p7_ : (List.map (endsL l) cs) = cs.map (endsL l) := rfl
     have p8_ : List.map (endsL l) (List.take k cs) = List.map (endsL l) cs := by rw [hke, List.take_length]
     refine reg2 (a := a20) (σ := t3) rfl 2 (fun i_ => List.getD [(Ty.pr (Ty.val x11_0)), (Ty.pr (Ty.lst Ty.int (roundsL ((n).toNat))))] i_ Pr.any) ok19 rfl (by decide) rfl ⟨?_, ?_, trivial⟩ ?_
     · intro ax tx hs okx sm
       exact run_plain rfl (y_move (kp (sm 11 rfl) hs q107))
     · intro ax tx hs okx sm
       exact run_plain rfl (y_move (kp (sm 14 rfl) hs q108))
     intro a21 s21 D14
     have ok20 := D14.ok
     have F23 := F22.step0 D14.stp
     have q109 := D14.kt q107 rfl
     have o49 := OwnP.k0 o48 D14.stp
     have o50 := OwnM.k0 o47 D14.stp
     have q110 : At (Ty.val x11_0) s21 a21 (.tmp 67) := D14.done 0 (by decide)
     have q111 : At (Ty.lst Ty.int (roundsL ((n).toNat))) s21 a21 (.tmp 68) := D14.done 1 (by decide)
     clear D14
     have o51 : Own s21 42 3 1 (Value.slice none 0 0) 0 (List.map Ty.int ([] : List Int)) := Own.nil _ _ _ _
     have o52 : Own s21 43 23 1 ((Value.slice none 0 0)) 0 (List.map Ty.ints ([] : List (List Int))) := Own.nil _ _ _ _
     refine tailL (L := [40, 41, 42, 43]) (R := (fun v τ' => ∃ τ, (fun v τ => ∃ (pz : Value), ∃ (fz : Value), True ∧ (OwnP τ 40 x11_0 [(Ty.val (Value.string nm)), (Ty.int n), (Ty.lst Ty.ints l), (Ty.lst Ty.rows ((List.map (endsL l) (List.take k cs)))), (Ty.nat (LN)), (Ty.nat (MN)), (Ty.val mp), (Ty.val pz), (Ty.nat (goQ n.toNat l cs (LN) (MN) (LN) (([] : List Int)) (Qst.mk (0) (([] : List (List Int))) (false))).met), (Ty.val fz), (Ty.bool (goQ n.toNat l cs (LN) (MN) (LN) (([] : List Int)) (Qst.mk (0) (([] : List (List Int))) (false))).full)]) ∧ (OwnM Ty.int kI τ 41 mp (seenS (([] : List Int)))) ∧ (Own τ 42 3 1 pz (List.length (([] : List Int))) (List.map Ty.int (([] : List Int)))) ∧ (Own τ 43 23 1 fz (List.length (goQ n.toNat l cs (LN) (MN) (LN) (([] : List Int)) (Qst.mk (0) (([] : List (List Int))) (false))).found) (List.map Ty.ints (goQ n.toNat l cs (LN) (MN) (LN) (([] : List Int)) (Qst.mk (0) (([] : List (List Int))) (false))).found))) v τ ∧ Back [(40, 40), (41, 41), (42, 42), (43, 43)] τ τ')) rfl rfl (by decide) ok20 (y_callL (L := [40, 41, 42, 43]) [(40, 40), (41, 41), (42, 42), (43, 43)] [(40, 40), (41, 41), (42, 42), (43, 43)] #[a21.eval (.tmp 67), a21.eval (.tmp 68)] rfl (by decide) Try.func50 rfl rfl (by simp only [List.map_toArray, List.map_cons, List.map_nil]) (onward_fn (LN) (x11_0) (mp) ((Value.slice none 0 0)) (((Value.slice none 0 0))) (nm) (n) (l) ((List.map (endsL l) (List.take k cs))) (LN) (MN) (0) (([] : List (List Int))) (false) (cs) (([] : List Int)) (([] : List Int)) ((roundsL ((n).toNat))) _ (GW.low_lend _ (by decide)) _ _ (Ty.up _ (GW.le_lend _ _) q110) (Ty.up _ (GW.le_lend _ _) q111) (OwnP.ren (ownp_cell 10 (Ty.bool (false)) (ownp_cell 9 (Ty.val ((Value.slice none 0 0))) (ownp_cell 8 (Ty.nat (0)) (ownp_cell 5 (Ty.nat (MN)) (ownp_cell 4 (Ty.nat (LN)) (ownp_cell 3 (Ty.lst Ty.rows ((List.map (endsL l) (List.take k cs)))) o49 rfl (fun _ _ h => (cvt (by (first | rfl | omega | (simp_all; done) | (simp_all; omega))) h))) rfl (fun _ _ h => (cvi (by (first | rfl | omega | (simp_all; done) | (simp_all; omega))) h))) rfl (fun _ _ h => (cvi (by (first | rfl | omega | (simp_all; done) | (simp_all; omega))) h))) rfl (fun _ _ h => (cvi (by (first | rfl | omega | (simp_all; done) | (simp_all; omega))) h))) rfl (fun _ _ h => (cvt (by (first | rfl | omega | (simp_all; done) | (simp_all; omega))) h))) rfl (fun _ _ h => (cvb (by (first | rfl | omega | (simp_all; done) | (simp_all; omega))) h))) (GW.ren_lend _ _ (by decide) rfl)) (OwnM.ren (cvm (by (exact seenS_nil.symm)) o50) (GW.ren_lend _ _ (by decide) rfl)) (Own.ren (cvo (by (simp)) (by (simp)) o51) (GW.ren_lend _ _ (by decide) rfl)) (Own.ren (cvo (by (simp)) (by (simp)) o52) (GW.ren_lend _ _ (by decide) rfl)) (by first | omega | assumption) (by first | omega | assumption) (by first | omega | assumption) (by first | omega | assumption) (by first | omega | assumption) (by first | omega | assumption) (by first | omega | assumption) (by first | omega | assumption) (by first | omega | assumption) (by first | omega | assumption) (by first | omega | assumption) (by first | omega | assumption) (by first | omega | assumption))) (fun a22 s22 hs8 ok21 r8 sm6 => ?_)
     have F24 := F23.stepL hs8 (by decide)
     have q112 := kpL hs8 (by decide) (sm6 11 (by decide)) q109
     obtain ⟨t4, ⟨x5, x6, hT1, o53, o54, o55, o56⟩, B1⟩ := r8
     have o57 : OwnP s22 40 x11_0 [(Ty.val (Value.string nm)), (Ty.int n), (Ty.lst Ty.ints l), (Ty.lst Ty.rows ((List.map (endsL l) (List.take k cs)))), (Ty.nat (LN)), (Ty.nat (MN)), (Ty.val mp), (Ty.val x5), (Ty.nat (goQ n.toNat l cs (LN) (MN) (LN) (([] : List Int)) (Qst.mk (0) (([] : List (List Int))) (false))).met), (Ty.val x6), (Ty.bool (goQ n.toNat l cs (LN) (MN) (LN) (([] : List Int)) (Qst.mk (0) (([] : List (List Int))) (false))).full)] := OwnP.ren o53 (B1.ren (by decide) rfl)
     have o58 : OwnM Ty.int kI s22 41 mp (seenS (([] : List Int))) := OwnM.ren o54 (B1.ren (by decide) rfl)
     have o59 : Own s22 42 3 1 x5 (List.length (([] : List Int))) (List.map Ty.int (([] : List Int))) := Own.ren o55 (B1.ren (by decide) rfl)
     have o60 : Own s22 43 23 1 x6 (List.length (goQ n.toNat l cs (LN) (MN) (LN) (([] : List Int)) (Qst.mk (0) (([] : List (List Int))) (false))).found) (List.map Ty.ints (goQ n.toNat l cs (LN) (MN) (LN) (([] : List Int)) (Qst.mk (0) (([] : List (List Int))) (false))).found) := Own.ren o56 (B1.ren (by decide) rfl)
     refine wpList_nil ?_
     refine tn ?_
     refine wp_seq ?_
     refine wp_seq ?_
     refine reg (a := a22) (σ := s22) rfl (fun i_ => List.getD [(Ty.pr (Ty.val x11_0)), (Ty.pr (Ty.val x11_0)), (Ty.pr (Ty.val (ptrAt x11_0 10))), (Ty.pr (Ty.bool (goQ n.toNat l cs (LN) (MN) (LN) (([] : List Int)) (Qst.mk (0) (([] : List (List Int))) (false))).full))] i_ Pr.any) ok21 rfl ⟨?_, ?_, ?_, ?_, trivial⟩ ?_
     · intro ax tx hs okx sm
       exact run_plain rfl (y_move (kp (sm 11 rfl) hs q112))
     · intro ax tx hs okx sm d0
       have e0 := ed d0 rfl rfl rfl
       exact run_plain rfl (y_nilp (OwnP.k0 o57 hs) e0)
     · intro ax tx hs okx sm d0
       have e1 := ed d0 rfl rfl rfl
       exact run_plain rfl (ownp_field Try.fld89_8 Try.inf4 (by decide) (OwnP.k0 o57 hs) e1)
     · intro ax tx hs okx sm d0
       have e2 := ed d0 rfl rfl rfl
       exact run_plain rfl (ownp_load Try.underlying4 rfl (OwnP.k0 o57 hs) e2 rfl)
     intro a23 s23 D15
     have ok22 := D15.ok
     have F25 := F24.step0 D15.stp
     have q114 := D15.kt q112 rfl
     have o61 := OwnP.k0 o57 D15.stp
     have o62 := OwnM.k0 o58 D15.stp
     have o63 := Own.k0 o59 D15.stp
     have o64 := Own.k0 o60 D15.stp
     have q115 : At (Ty.bool (goQ n.toNat l cs (LN) (MN) (LN) (([] : List Int)) (Qst.mk (0) (([] : List (List Int))) (false))).full) s23 a23 (.tmp 73) := D15.done 3
     clear D15
     refine tn ?_
     refine cond_t q115 (fun c4 => ?_) (fun c4 => ?_)
     ·
      have hm := qMay_full c1 hxx (by rw [← hLN, ← hMN]; exact c4)
      refine wp_seq ?_
      refine reg (a := a23) (σ := s23) rfl (fun i_ => List.getD [(Ty.pr (Ty.val (Value.slice none 0 0))), (Ty.pr (Ty.int (3 : Int)))] i_ Pr.any) ok22 rfl ⟨?_, ?_, trivial⟩ ?_
      · intro ax tx hs okx sm
        exact run_plain rfl (y_assign rfl)
      · intro ax tx hs okx sm d0 d1
        exact run_plain rfl (y_assign rfl)
      intro a24 s24 D16
      have ok23 := D16.ok
      have F26 := F25.step0 D16.stp
      have o65 := OwnP.k0 o61 D16.stp
      have o66 := OwnM.k0 o62 D16.stp
      have o67 := Own.k0 o63 D16.stp
      have o68 := Own.k0 o64 D16.stp
      have q116 : At (Ty.val (Value.slice none 0 0)) s24 a24 (.tmp 8) := D16.done 0
      have q117 : At (Ty.int (3 : Int)) s24 a24 (.tmp 9) := D16.done 1
      clear D16
      refine tn ?_
      refine wp_ret ?_
      refine tr ?_
      exact retL2 rfl ok23 F26 (hasT2 (nil_lst (by (rw [hm, if_neg (by decide)])) q116) (cvi (by (exact hm.symm)) q117))
     ·
      have hm := qMay_ok c1 hxx (by rw [← hLN, ← hMN, Bool.not_eq_true]; exact c4)
      refine wp_skip ?_
      refine tn ?_
      refine wp_seq ?_
      refine reg (a := a23) (σ := s23) rfl (fun i_ => List.getD [(Ty.pr (Ty.val x11_0)), (Ty.pr (Ty.val x11_0)), (Ty.pr (Ty.val (ptrAt x11_0 9))), (Ty.pr (Ty.val x6)), (Ty.pr (Ty.val x6)), (Ty.pr (Ty.int (0 : Int)))] i_ Pr.any) ok22 rfl ⟨?_, ?_, ?_, ?_, ?_, ?_, trivial⟩ ?_
      · intro ax tx hs okx sm
        exact run_plain rfl (y_move (kp (sm 11 rfl) hs q114))
      · intro ax tx hs okx sm d0
        have e0 := ed d0 rfl rfl rfl
        exact run_plain rfl (y_nilp (OwnP.k0 o61 hs) e0)
      · intro ax tx hs okx sm d0
        have e1 := ed d0 rfl rfl rfl
        exact run_plain rfl (ownp_field Try.fld89_7 Try.inf29 (by decide) (OwnP.k0 o61 hs) e1)
      · intro ax tx hs okx sm d0
        have e2 := ed d0 rfl rfl rfl
        exact run_plain rfl (ownp_load Try.underlying29 rfl (OwnP.k0 o61 hs) e2 rfl)
      · intro ax tx hs okx sm d0 d1 d2 d3 d4
        have e3 := ed d0 rfl rfl rfl
        exact run_plain rfl (y_assign e3)
      · intro ax tx hs okx sm d0 d1 d2 d3 d4 d5
        exact run_plain rfl (y_assign rfl)
      intro a25 s25 D17
      have ok24 := D17.ok
      have F27 := F25.step0 D17.stp
      have o69 := OwnP.k0 o61 D17.stp
      have o70 := OwnM.k0 o62 D17.stp
      have o71 := Own.k0 o63 D17.stp
      have o72 := Own.k0 o64 D17.stp
      have q118 : At (Ty.val x6) s25 a25 (.tmp 8) := D17.done 4
      have q119 : At (Ty.int (0 : Int)) s25 a25 (.tmp 9) := D17.done 5
      clear D17
      refine tn ?_
      refine wp_ret ?_
      obtain ⟨t5, e2, h2, q120⟩ := Own.seal o72 (by decide)
      rw [← e2]
      have F28 := F27.step h2 (by decide)
      have q121 : At (Ty.lst Ty.ints (goQ n.toNat l cs (LN) (MN) (LN) (([] : List Int)) (Qst.mk (0) (([] : List (List Int))) (false))).found) t5 a25 (.tmp 8) := by have e : a25.eval (.tmp 8) = x6 := q118; show Ty.has _ _ _; rw [e]; exact q120
      have q122 := Ty.up (Ty.int (0 : Int)) (h2.le (by decide)) q119
      exact retL2 rfl ok24 F28 (hasT2 (cvt (by (rw [hm, if_pos rfl]; unfold qFnd; rw [← hLN, ← hMN])) q121) (cvi (by (exact hm.symm)) q122))


set_option maxRecDepth 100000 in
theorem methodOf_fn (raw : List Int) (n : Nat) (many : Nat) (σ : GW) (v0 v1 v2 : Value) (hv0 : Ty.has (Ty.lst Ty.int raw) σ v0) (hv1 : Ty.has (Ty.nat n) σ v1) (hv2 : Ty.has (Ty.nat many) σ v2) (hn : n ≤ 100) (hm : many ≤ 1000) (hr : ∀ k, -9223372036854775808 ≤ rawAt raw k ∧ rawAt raw k ≤ 9223372036854775807) :
    FnC Try.prog 19 #[v0, v1, v2] σ (Ty.agg [(Ty.val (Value.string (ByteArray.mk #[84, 114, 105, 101, 100]))), (Ty.nat n), (Ty.lst Ty.ints (changesOf raw 3 n many))]) := by
 refine fn_intro Try.func19 rfl Try.ntmps19 (Nat.le_of_ble_eq_true rfl) (fun s0 a0 hle F0 ok0 hargs => ?_)
 have p0 : At (Ty.lst Ty.int raw) s0 a0 (.tmp 0) := by have e := hargs 0 _ rfl; show Ty.has _ _ _; rw [e]; exact Ty.up _ hle hv0
 have b1 := sl_le p0
 have p1 : At (Ty.nat n) s0 a0 (.tmp 1) := by have e := hargs 1 _ rfl; show Ty.has _ _ _; rw [e]; exact Ty.up _ hle hv1
 have p2 : At (Ty.nat many) s0 a0 (.tmp 2) := by have e := hargs 2 _ rfl; show Ty.has _ _ _; rw [e]; exact Ty.up _ hle hv2
 clear hargs
 refine wp_seq ?_
 refine reg (a := a0) (σ := s0) rfl (fun i_ => List.getD [(Pr.ownp 12 [(Ty.val (.string ByteArray.empty)), (Ty.val (.int .i64 0)), (Ty.val (.slice none 0 0))])] i_ Pr.any) ok0 rfl ⟨?_, trivial⟩ ?_
 · intro ax tx hs okx sm
   exact run_plain rfl (y_alloc Try.inf31 rfl (alloc_vals (vs := [.string ByteArray.empty, .int .i64 0, .slice none 0 0]) rfl))
 intro a1 s1 D1
 have ok1 := D1.ok
 have F1 := F0.step0 D1.stp
 have q1 := D1.kt p0 rfl
 have q2 := D1.kt p1 rfl
 have q3 := D1.kt p2 rfl
 have q4 : (Pr.ownp 12 [(Ty.val (.string ByteArray.empty)), (Ty.val (.int .i64 0)), (Ty.val (.slice none 0 0))]).has s1 (a1.eval (.tmp 6)) := D1.done 0
 clear D1
 refine tn ?_
 refine wp_seq ?_
 refine reg2 (a := a1) (σ := s1) rfl 6 (fun i_ => List.getD [(Ty.pr (Ty.nat n)), (Ty.pr (Ty.lst Ty.int raw)), (Ty.pr (Ty.nat n)), (Ty.pr (Ty.nat many)), (Ty.pr (Ty.lst Ty.ints (changesOf raw (3) n many))), (Ty.pr (Ty.agg [(Ty.val (Value.string (ByteArray.mk #[84, 114, 105, 101, 100]))), (Ty.nat n), (Ty.lst Ty.ints (changesOf raw (3) n many))]))] i_ Pr.any) ok1 rfl (by decide) rfl ⟨?_, ?_, ?_, ?_, ?_, ?_, trivial⟩ ?_
 · intro ax tx hs okx sm
   exact run_plain rfl (y_move (kp (sm 1 rfl) hs q2))
 · intro ax tx hs okx sm
   exact run_plain rfl (y_move (kp (sm 0 rfl) hs q1))
 · intro ax tx hs okx sm
   exact run_plain rfl (y_move (kp (sm 1 rfl) hs q2))
 · intro ax tx hs okx sm
   exact run_plain rfl (y_move (kp (sm 2 rfl) hs q3))
 · intro ax tx hs okx sm d0 d1 d2
   have e1 := ed d0 rfl rfl rfl
   have e2 := ed d1 rfl rfl rfl
   have e3 := ed d2 rfl rfl rfl
   exact run_plain rfl (y_call #[ax.eval (.tmp 8), ax.eval ((Operand.const (Value.int IntKind.i64 3))), ax.eval (.tmp 9), ax.eval (.tmp 10)] Try.func53 rfl rfl (by simp only [List.map_toArray, List.map_cons, List.map_nil]) (changesOf_fn (raw) (3) (n) (many) _ _ _ _ _ e1 rfl e2 e3 (by first | omega | exact hr _ | assumption) (by first | omega | exact hr _ | assumption) (by first | omega | exact hr _ | assumption) (by first | omega | exact hr _ | assumption)))
 · intro ax tx hs okx sm d0 d1
   have e0 := ed d0 rfl rfl rfl
   have e4 := ed d1 rfl rfl rfl
   exact run_plain rfl (y_build3s rfl Try.inf31 rfl (one_val rfl) (one_val rfl) (one_sl) rfl e0 e4)
 intro a2 s2 D2
 have ok2 := D2.ok
 have F2 := F1.step0 D2.stp
 have q5 := (Pr.ownp 12 [(Ty.val (.string ByteArray.empty)), (Ty.val (.int .i64 0)), (Ty.val (.slice none 0 0))]).up D2.stp q4
 have q6 : a2.eval (.tmp 6) = a1.eval (.tmp 6) := D2.same 6 rfl
 have q7 : At (Ty.agg [(Ty.val (Value.string (ByteArray.mk #[84, 114, 105, 101, 100]))), (Ty.nat n), (Ty.lst Ty.ints (changesOf raw (3) n many))]) s2 a2 (.tmp 12) := D2.done 5 (by decide)
 clear D2
 refine tail_step0 (m := 12) (R := (fun _ τ => OwnP τ 12 (a1.eval (.tmp 6)) [(Ty.val (Value.string (ByteArray.mk #[84, 114, 105, 101, 100]))), (Ty.nat n), (Ty.lst Ty.ints (changesOf raw (3) n many))])) rfl rfl (m_storeagg Try.inf31 (by decide) q5 q6 rfl q7 (by intro U hU; simp only [List.mem_cons, List.not_mem_nil, or_false] at hU; rcases hU with rfl | rfl | rfl <;> first | exact one_val rfl | exact one_sl | exact one_ref)) (fun v1 s3 hs1 r1 => ?_)
 have F3 := F2.step hs1 (by decide)
 have q8 : At (Ty.agg [(Ty.val (Value.string (ByteArray.mk #[84, 114, 105, 101, 100]))), (Ty.nat n), (Ty.lst Ty.ints (changesOf raw (3) n many))]) s3 a2 (.tmp 12) := kpm hs1 (by decide) rfl q7
 have q9 : (Pr.ownp 12 [(Ty.val (Value.string (ByteArray.mk #[84, 114, 105, 101, 100]))), (Ty.nat n), (Ty.lst Ty.ints (changesOf raw (3) n many))]).has s3 (a1.eval (.tmp 6)) := r1
 refine wpList_nil ?_
 have q10 : (Pr.ownp 12 [(Ty.val (Value.string (ByteArray.mk #[84, 114, 105, 101, 100]))), (Ty.nat n), (Ty.lst Ty.ints (changesOf raw (3) n many))]).has s3 (a2.eval (.tmp 6)) := al q6 q9
 refine tn ?_
 refine wp_ret ?_
 exact ret1s (ts := [(Ty.val (Value.string (ByteArray.mk #[84, 114, 105, 101, 100]))), (Ty.nat n), (Ty.lst Ty.ints (changesOf raw 3 n many))]) rfl ok2 F3 Try.underlying31 Try.inf31 (cvop (by rfl) q10)


set_option maxHeartbeats 4000000 in
set_option maxRecDepth 100000 in
theorem rLeadsOf_fn (raw : List Int) (many : Nat) (calls : Nat) (σ : GW)  (v0 v1 v2 : Value) (hv0 : Ty.has (Ty.lst Ty.int raw) σ v0) (hv1 : Ty.has (Ty.nat many) σ v1) (hv2 : Ty.has (Ty.nat calls) σ v2)  (hm : many ≤ 1000) (hc : 0 < calls) (hr : ∀ k, -9223372036854775808 ≤ rawAt raw k ∧ rawAt raw k ≤ 9223372036854775807) :
    FnC Try.prog 30 #[v0, v1, v2] σ (Ty.lst Ty.int (leadsOf raw many calls)) := by
 refine fn_intro0 Try.func30 rfl Try.ntmps30 (Nat.le_of_ble_eq_true rfl) (fun s0 a0 hle F0 ok0 hargs => ?_)
 have p0 : At (Ty.lst Ty.int raw) s0 a0 (.tmp 0) := by have e := hargs 0 _ rfl; show Ty.has _ _ _; rw [e]; exact Ty.up _ hle hv0
 have b1 := sl_le p0
 have p1 : At (Ty.nat many) s0 a0 (.tmp 1) := by have e := hargs 1 _ rfl; show Ty.has _ _ _; rw [e]; exact Ty.up _ hle hv1
 have p2 : At (Ty.nat calls) s0 a0 (.tmp 2) := by have e := hargs 2 _ rfl; show Ty.has _ _ _; rw [e]; exact Ty.up _ hle hv2
 clear hargs
 refine wp_seq ?_
 refine reg (a := a0) (σ := s0) rfl (fun i_ => List.getD [(Ty.pr (Ty.val (Value.slice none 0 0)))] i_ Pr.any) ok0 rfl ⟨?_, trivial⟩ ?_
 · intro ax tx hs okx sm
   exact run_plain rfl (y_assign rfl)
 intro a1 s1 D1
 have ok1 := D1.ok
 have F1 := F0.step0 D1.stp
 have q1 := D1.kt p0 rfl
 have q2 := D1.kt p1 rfl
 have q3 := D1.kt p2 rfl
 clear D1
 refine tn ?_
 refine wp_seq ?_
 refine reg (a := a1) (σ := s1) rfl (fun i_ => List.getD [(Ty.pr (Ty.val (Value.slice none 0 0)))] i_ Pr.any) ok1 rfl ⟨?_, trivial⟩ ?_
 · intro ax tx hs okx sm
   exact run_plain rfl (y_assign rfl)
 intro a2 s2 D2
 have ok2 := D2.ok
 have F2 := F1.step0 D2.stp
 have q4 := D2.kt q1 rfl
 have q5 := D2.kt q2 rfl
 have q6 := D2.kt q3 rfl
 have q7 : At (Ty.val (Value.slice none 0 0)) s2 a2 (.tmp 7) := D2.done 0
 clear D2
 refine tn ?_
 refine wp_seq ?_
 refine wp_seq ?_
 refine reg (a := a2) (σ := s2) rfl (fun i_ => List.getD [(Ty.pr (Ty.int (0 : Int)))] i_ Pr.any) ok2 rfl ⟨?_, trivial⟩ ?_
 · intro ax tx hs okx sm
   exact run_plain rfl (y_assign rfl)
 intro a3 s3 D3
 have ok3 := D3.ok
 have F3 := F2.step0 D3.stp
 have q8 := D3.kt q4 rfl
 have q9 := D3.kt q5 rfl
 have q10 := D3.kt q6 rfl
 have q11 := D3.kt q7 rfl
 have q12 : At (Ty.int (0 : Int)) s3 a3 (.tmp 8) := D3.done 0
 clear D3
 refine tn ?_
 refine wp_block ?_
 have o1 : Own s3 2 3 1 (Value.slice none 0 0) 0 (List.map Ty.int ([] : List Int)) := Own.nil _ _ _ _
 refine loop (fun n1 a4 w1 => ∃ (t1 : GW) (k : Nat) (x7_0 : Value), t1.w = w1 ∧ FromL [] s0 t1 ∧ Ok 23 a4 ∧ At (Ty.nat k) t1 a4 (.tmp 8) ∧ At (Ty.val x7_0) t1 a4 (.tmp 7) ∧ At (Ty.lst Ty.int raw) t1 a4 (.tmp 0) ∧ At (Ty.nat many) t1 a4 (.tmp 1) ∧ At (Ty.nat calls) t1 a4 (.tmp 2) ∧ Own t1 2 3 1 x7_0 (List.length (leadsOf raw k calls)) (List.map Ty.int (leadsOf raw k calls)) ∧ (k ≤ many) ∧ n1 = many - k) (many - (0)) ?_ ?_
 ·
  exact ⟨s3, 0, (Value.slice none 0 0), rfl, F3, ok3, (cvi (by (first | rfl | omega | (simp_all; done) | (simp_all; omega))) q12), q11, q8, q9, q10, (cvo (by (rfl)) (by (rfl)) o1), by omega, rfl⟩
 ·
  rintro n2 a5 w2 ⟨t2, k, x7_0, rfl, F4, ok4, q13, q14, q15, q16, q17, o2, hk, rfl⟩
  have hll := leadsOf_len raw k calls
  have hrk := hr k
  refine wp_seq ?_
  refine wp_seq ?_
  refine reg (a := a5) (σ := t2) rfl (fun i_ => List.getD [(Ty.pr (Ty.nat k)), (Ty.pr (Ty.nat many)), (Ty.pr (Ty.bool (decide (((k : Nat) : Int) < ((many : Nat) : Int)))))] i_ Pr.any) ok4 rfl ⟨?_, ?_, ?_, trivial⟩ ?_
  · intro ax tx hs okx sm
    exact run_plain rfl (y_move (kp (sm 8 rfl) hs q13))
  · intro ax tx hs okx sm
    exact run_plain rfl (y_move (kp (sm 1 rfl) hs q16))
  · intro ax tx hs okx sm d0 d1
    have e0 := ed d0 rfl rfl rfl
    have e1 := ed d1 rfl rfl rfl
    exact run_plain rfl (y_lss e0 e1)
  intro a6 s4 D4
  have ok5 := D4.ok
  have F5 := F4.step0 D4.stp
  have q18 := D4.kt q13 rfl
  have q19 := D4.kt q14 rfl
  have q20 := D4.kt q15 rfl
  have q21 := D4.kt q16 rfl
  have q22 := D4.kt q17 rfl
  have o3 := Own.k0 o2 D4.stp
  have q23 : At (Ty.bool (decide (((k : Nat) : Int) < ((many : Nat) : Int)))) s4 a6 (.tmp 11) := D4.done 2
  clear D4
  refine tn ?_
  refine cond_p (p := (((k : Nat) : Int) < ((many : Nat) : Int))) q23 (fun c1 => ?_) (fun c1 => ?_)
  ·
   refine wp_skip ?_
   refine tn ?_
   refine wp_seq ?_
   refine wp_block ?_
   refine reg2 (a := a6) (σ := s4) rfl 7 (fun i_ => List.getD [(Ty.pr (Ty.val x7_0)), (Ty.pr (Ty.lst Ty.int raw)), (Ty.pr (Ty.nat k)), (Ty.pr (Ty.int (rawAt raw k))), (Ty.pr (Ty.nat calls)), (Ty.pr (Ty.nat (pick ((rawAt raw k)) (calls)))), (Ty.pr (Ty.sl 1 1 [(Ty.nat (pick ((rawAt raw k)) (calls)))]))] i_ Pr.any) ok5 rfl (by decide) rfl ⟨?_, ?_, ?_, ?_, ?_, ?_, ?_, trivial⟩ ?_
   · intro ax tx hs okx sm
     exact run_plain rfl (y_move (kp (sm 7 rfl) hs q19))
   · intro ax tx hs okx sm
     exact run_plain rfl (y_move (kp (sm 0 rfl) hs q20))
   · intro ax tx hs okx sm
     exact run_plain rfl (y_move (kp (sm 8 rfl) hs q18))
   · intro ax tx hs okx sm d0 d1
     have e1 := ed d0 rfl rfl rfl
     have e2 := ed d1 rfl rfl rfl
     exact run_plain rfl (y_call #[ax.eval (.tmp 15), ax.eval (.tmp 16)] Try.func32 rfl rfl (by simp only [List.map_toArray, List.map_cons, List.map_nil]) (raw_fn (raw) (k) _ _ _ e1 e2 ))
   · intro ax tx hs okx sm
     exact run_plain rfl (y_move (kp (sm 2 rfl) hs q22))
   · intro ax tx hs okx sm d0 d1 d2
     have e3 := ed d0 rfl rfl rfl
     have e4 := ed d1 rfl rfl rfl
     exact run_plain rfl (y_call #[ax.eval (.tmp 17), ax.eval (.tmp 18)] Try.func18 rfl rfl (by simp only [List.map_toArray, List.map_cons, List.map_nil]) (pick_fn ((rawAt raw k)) (calls) _ _ _ (cvi (σ := tx) (by omega) e3) (cvi (σ := tx) (by omega) e4) (by omega) (by omega)))
   · intro ax tx hs okx sm d0
     have e5 := ed d0 rfl rfl rfl
     exact run_plain rfl (y_build1o Try.underlying23 Try.inf3 rfl (one_val rfl) e5)
   intro a7 s5 D5
   have ok6 := D5.ok
   have F6 := F5.step0 D5.stp
   have q24 := D5.kt q18 rfl
   have q25 := D5.kt q19 rfl
   have q26 := D5.kt q20 rfl
   have q27 := D5.kt q21 rfl
   have q28 := D5.kt q22 rfl
   have o4 := Own.k0 o3 D5.stp
   have q29 : At (Ty.val x7_0) s5 a7 (.tmp 14) := D5.done 0 (by decide)
   have q30 : At (Ty.sl 1 1 [(Ty.nat (pick ((rawAt raw k)) (calls)))]) s5 a7 (.tmp 20) := D5.done 6 (by decide)
   have b2 := sl_le q30
   clear D5
   refine tailL (L := [2]) (R := (fun v τ => Own τ 2 3 1 v ((List.length (leadsOf raw k calls)) + 1) ((List.map Ty.int (leadsOf raw k calls)) ++ [(Ty.nat (pick ((rawAt raw k)) (calls)))]))) rfl rfl (by decide) ok6 (YldM.toL (m_append Try.underlying23 Try.inf3 (by decide) rfl (by decide) (al (R := (Pr.own 2 3 1 (List.length (leadsOf raw k calls)) (List.map Ty.int (leadsOf raw k calls)))) q29 o4) q30 (by intro U hU; simp at hU; subst hU; exact one_val rfl) (by omega) (by omega))) (fun a8 s6 hs1 ok7 r1 sm1 => ?_)
   have F7 := F6.stepL hs1 (by decide)
   have q31 := kpL hs1 (by decide) (sm1 8 (by decide)) q24
   have q32 := kpL hs1 (by decide) (sm1 7 (by decide)) q25
   have q33 := kpL hs1 (by decide) (sm1 0 (by decide)) q26
   have q34 := kpL hs1 (by decide) (sm1 1 (by decide)) q27
   have q35 := kpL hs1 (by decide) (sm1 2 (by decide)) q28
   obtain ⟨x1, hx1⟩ : ∃ x, a8.eval (.tmp 21) = x := ⟨_, rfl⟩
   have q36 : At (Ty.val x1) s6 a8 (.tmp 21) := hx1
   have o5 : Own s6 2 3 1 x1 (List.length ((leadsOf raw k calls) ++ [(((pick ((rawAt raw k)) (calls)) : Nat) : Int)])) (List.map Ty.int ((leadsOf raw k calls) ++ [(((pick ((rawAt raw k)) (calls)) : Nat) : Int)])) := al2 (R := (Pr.own 2 3 1 (List.length ((leadsOf raw k calls) ++ [(((pick ((rawAt raw k)) (calls)) : Nat) : Int)])) (List.map Ty.int ((leadsOf raw k calls) ++ [(((pick ((rawAt raw k)) (calls)) : Nat) : Int)])))) hx1 (cvo (by simp) (by first | (rw [List.map_append]; rfl) | simp) r1)
   clear r1
   refine tailL (L := []) (R := (fun v τ => Pr.has (Ty.pr (Ty.val x1)) τ v)) rfl rfl (by decide) ok7 (Yld.toL (y_assign q36)) (fun a9 s7 hs2 ok8 r2 sm2 => ?_)
   have F8 := F7.stepL hs2 (by decide)
   have q37 := kpL hs2 (by decide) (sm2 8 (by decide)) q31
   have q38 := kpL hs2 (by decide) (sm2 0 (by decide)) q33
   have q39 := kpL hs2 (by decide) (sm2 1 (by decide)) q34
   have q40 := kpL hs2 (by decide) (sm2 2 (by decide)) q35
   have o6 := Own.keepL o5 hs2 (by decide) (by decide)
   have q41 : At (Ty.val x1) s7 a9 (.tmp 7) := r2
   clear r2
   refine wpList_nil ?_
   refine bn ?_
   refine tn ?_
   refine reg (a := a9) (σ := s7) rfl (fun i_ => List.getD [(Ty.pr (Ty.nat k)), (Ty.pr (Ty.int (((k : Nat) : Int) + (1 : Int)))), (Ty.pr (Ty.int (((k : Nat) : Int) + (1 : Int))))] i_ Pr.any) ok8 rfl ⟨?_, ?_, ?_, trivial⟩ ?_
   · intro ax tx hs okx sm
     exact run_plain rfl (y_move (kp (sm 8 rfl) hs q37))
   · intro ax tx hs okx sm d0
     have e0 := ed d0 rfl rfl rfl
     exact run_plain rfl (y_add e0 rfl (w64 (by omega) (by omega)))
   · intro ax tx hs okx sm d0 d1 d2
     have e1 := ed d0 rfl rfl rfl
     exact run_plain rfl (y_assign e1)
   intro a10 s8 D6
   have ok9 := D6.ok
   have F9 := F8.step0 D6.stp
   have q42 := D6.kt q38 rfl
   have q43 := D6.kt q39 rfl
   have q44 := D6.kt q40 rfl
   have q45 := D6.kt q41 rfl
   have o7 := Own.k0 o6 D6.stp
   have q46 : At (Ty.int (((k : Nat) : Int) + (1 : Int))) s8 a10 (.tmp 8) := D6.done 2
   clear D6
   exact tn ⟨many - ((k+1)), by omega, s8, (k+1), x1, rfl, F9, ok9, (cvi (by (first | rfl | omega | (simp_all; done) | (simp_all; omega))) q46), q45, q42, q43, q44, (cvo (by (rw [leadsOf_succ])) (by (rw [leadsOf_succ])) o7), by omega, rfl⟩
  ·
   refine wp_exit ?_
   refine tx ?_
   refine tx ?_
   refine bx ?_
   refine tn ?_
   refine wp_seq ?_
   refine reg (a := a6) (σ := s4) rfl (fun i_ => List.getD [(Ty.pr (Ty.val x7_0)), (Ty.pr (Ty.val x7_0))] i_ Pr.any) ok5 rfl ⟨?_, ?_, trivial⟩ ?_
   · intro ax tx hs okx sm
     exact run_plain rfl (y_move (kp (sm 7 rfl) hs q19))
   · intro ax tx hs okx sm d0 d1
     have e0 := ed d0 rfl rfl rfl
     exact run_plain rfl (y_assign e0)
   intro a11 s9 D7
   have ok10 := D7.ok
   have F10 := F5.step0 D7.stp
   have o8 := Own.k0 o3 D7.stp
   have q47 : At (Ty.val x7_0) s9 a11 (.tmp 6) := D7.done 1
   clear D7
   refine tn ?_
   refine wp_ret ?_
   obtain ⟨t3, e1, h1, q48⟩ := Own.seal o8 (by decide)
   rw [← e1]
   have F11 := F10.step h1 (by decide)
   have q49 : At (Ty.lst Ty.int (leadsOf raw k calls)) t3 a11 (.tmp 6) := by have e : a11.eval (.tmp 6) = x7_0 := q47; show Ty.has _ _ _; rw [e]; exact q48
   exact retL1 rfl ok10 F11 (cvt (by (obtain rfl : many = k := (by omega); rfl)) q49)


set_option maxHeartbeats 4000000 in
set_option maxRecDepth 100000 in
theorem callMay_fn (nm : ByteArray) (n : Int) (l : List (List Int)) (cs : List BCall) (leads : List Int) (σ : GW)  (v0 v1 v2 : Value) (hv0 : Ty.has (Ty.agg [(Ty.val (Value.string nm)), (Ty.int n), (Ty.lst Ty.ints l)]) σ v0) (hv1 : Ty.has (Ty.lstc 2 callC cs) σ v1) (hv2 : Ty.has (Ty.lst Ty.int leads) σ v2)  (hnm : nm.size ≤ 1099511627776) (hn : -9223372036854775808 ≤ n ∧ n ≤ 9223372036854775807) :
    FnC Try.prog 88 #[v0, v1, v2] σ (Ty.int (touchMay nm n l cs leads)) := by
 refine fn_intro0 Try.func88 rfl Try.ntmps88 (Nat.le_of_ble_eq_true rfl) (fun s0 a0 hle F0 ok0 hargs => ?_)
 have p0 : At (Ty.agg [(Ty.val (Value.string nm)), (Ty.int n), (Ty.lst Ty.ints l)]) s0 a0 (.tmp 0) := by have e := hargs 0 _ rfl; show Ty.has _ _ _; rw [e]; exact Ty.up _ hle hv0
 have p1 : At (Ty.lstc 2 callC cs) s0 a0 (.tmp 1) := by have e := hargs 1 _ rfl; show Ty.has _ _ _; rw [e]; exact Ty.up _ hle hv1
 have b1 := sl_le p1
 have p2 : At (Ty.lst Ty.int leads) s0 a0 (.tmp 2) := by have e := hargs 2 _ rfl; show Ty.has _ _ _; rw [e]; exact Ty.up _ hle hv2
 have b2 := sl_le p2
 clear hargs
 refine wp_seq ?_
 refine reg (a := a0) (σ := s0) rfl (fun i_ => List.getD [(Ty.pr (Ty.ref [(Ty.val (Value.string nm)), (Ty.int n), (Ty.lst Ty.ints l)])), (Ty.pr (Ty.int (0 : Int)))] i_ Pr.any) ok0 rfl ⟨?_, ?_, trivial⟩ ?_
 · intro ax tx hs okx sm
   exact run_plain rfl (y_boxagg (kp (sm 0 rfl) hs p0))
 · intro ax tx hs okx sm
   exact run_plain rfl (y_assign rfl)
 intro a1 s1 D1
 have ok1 := D1.ok
 have F1 := F0.step0 D1.stp
 have q1 := D1.kt p1 rfl
 have q2 := D1.kt p2 rfl
 have q3 : At (Ty.ref [(Ty.val (Value.string nm)), (Ty.int n), (Ty.lst Ty.ints l)]) s1 a1 (.tmp 3) := D1.done 0
 clear D1
 refine tn ?_
 refine wp_seq ?_
 refine wp_seq ?_
 refine reg (a := a1) (σ := s1) rfl (fun i_ => List.getD [(Ty.pr (Ty.agg [(Ty.val (Value.string nm)), (Ty.int n), (Ty.lst Ty.ints l)])), (Ty.pr (Ty.lstc 2 callC cs)), (Ty.pr (Ty.int (callsMay nm n l cs))), (Ty.pr (Ty.int (callsMay nm n l cs)))] i_ Pr.any) ok1 rfl ⟨?_, ?_, ?_, ?_, trivial⟩ ?_
 · intro ax tx hs okx sm
   exact run_plain rfl (y_loadagg Try.underlying31 Try.inf31 (kp (sm 3 rfl) hs q3))
 · intro ax tx hs okx sm
   exact run_plain rfl (y_move (kp (sm 1 rfl) hs q1))
 · intro ax tx hs okx sm d0 d1
   have e0 := ed d0 rfl rfl rfl
   have e1 := ed d1 rfl rfl rfl
   exact run_plain rfl (y_call #[ax.eval (.tmp 10), ax.eval (.tmp 11)] Try.func47 rfl rfl (by simp only [List.map_toArray, List.map_cons, List.map_nil]) (callCheck_fn (nm) (n) (l) (cs) _ _ _ e0 e1 (by first | omega | assumption) (by first | omega | assumption)))
 · intro ax tx hs okx sm d0 d1 d2 d3 d4
   have e2 := ed d0 rfl rfl rfl
   exact run_plain rfl (y_assign e2)
 intro a2 s2 D2
 have ok2 := D2.ok
 have F2 := F1.step0 D2.stp
 have q4 := D2.kt q1 rfl
 have q5 := D2.kt q2 rfl
 have q6 := D2.kt q3 rfl
 have q7 : At (Ty.int (callsMay nm n l cs)) s2 a2 (.tmp 7) := D2.done 3
 clear D2
 refine tn ?_
 refine wp_seq ?_
 refine reg (a := a2) (σ := s2) rfl (fun i_ => List.getD [(Ty.pr (Ty.int (callsMay nm n l cs))), (Ty.pr (Ty.bool (decide ((callsMay nm n l cs) ≠ (0 : Int)))))] i_ Pr.any) ok2 rfl ⟨?_, ?_, trivial⟩ ?_
 · intro ax tx hs okx sm
   exact run_plain rfl (y_move (kp (sm 7 rfl) hs q7))
 · intro ax tx hs okx sm d0
   have e0 := ed d0 rfl rfl rfl
   exact run_plain rfl (y_neq e0 rfl)
 intro a3 s3 D3
 have ok3 := D3.ok
 have F3 := F2.step0 D3.stp
 have q8 := D3.kt q4 rfl
 have q9 := D3.kt q5 rfl
 have q10 := D3.kt q6 rfl
 have q11 := D3.kt q7 rfl
 have q12 : At (Ty.bool (decide ((callsMay nm n l cs) ≠ (0 : Int)))) s3 a3 (.tmp 14) := D3.done 1
 clear D3
 refine tn ?_
 refine cond_p (p := ((callsMay nm n l cs) ≠ (0 : Int))) q12 (fun c1 => ?_) (fun c1 => ?_)
 ·
  have hm := touchMay_calls (leads := leads) c1
  refine wp_seq ?_
  refine reg (a := a3) (σ := s3) rfl (fun i_ => List.getD [(Ty.pr (Ty.int (callsMay nm n l cs))), (Ty.pr (Ty.int (callsMay nm n l cs)))] i_ Pr.any) ok3 rfl ⟨?_, ?_, trivial⟩ ?_
  · intro ax tx hs okx sm
    exact run_plain rfl (y_move (kp (sm 7 rfl) hs q11))
  · intro ax tx hs okx sm d0 d1
    have e0 := ed d0 rfl rfl rfl
    exact run_plain rfl (y_assign e0)
  intro a4 s4 D4
  have ok4 := D4.ok
  have F4 := F3.step0 D4.stp
  have q13 : At (Ty.int (callsMay nm n l cs)) s4 a4 (.tmp 6) := D4.done 1
  clear D4
  refine tn ?_
  refine wp_ret ?_
  refine tr ?_
  exact retL1 rfl ok4 F4 (cvi (by (exact hm.symm)) q13)
 ·
  have h0 := Classical.not_not.1 c1; have hl2 := (callsMay_ok h0).1.meth.l2
  refine wp_skip ?_
  refine tn ?_
  refine wp_seq ?_
  refine wp_seq ?_
  refine reg (a := a3) (σ := s3) rfl (fun i_ => List.getD [(Ty.pr (Ty.lst Ty.int leads)), (Ty.pr (Ty.nat (List.length leads))), (Ty.pr (Ty.bool (decide ((((List.length leads) : Nat) : Int) < (1 : Int))))), (Ty.pr (Ty.bool (decide ((((List.length leads) : Nat) : Int) < (1 : Int))))), (Ty.pr (Ty.grd ((decide ((((List.length leads) : Nat) : Int) < (1 : Int))) = false) (Ty.lst Ty.int leads))), (Ty.pr (Ty.grd ((decide ((((List.length leads) : Nat) : Int) < (1 : Int))) = false) (Ty.nat (List.length leads)))), (Ty.pr (Ty.grd ((decide ((((List.length leads) : Nat) : Int) < (1 : Int))) = false) (Ty.bool (decide ((400 : Int) < (((List.length leads) : Nat) : Int)))))), (Ty.pr (Ty.bool ((decide ((((List.length leads) : Nat) : Int) < (1 : Int))) || (decide ((400 : Int) < (((List.length leads) : Nat) : Int))))))] i_ Pr.any) ok3 rfl ⟨?_, ?_, ?_, ?_, ?_, ?_, ?_, ?_, trivial⟩ ?_
  · intro ax tx hs okx sm
    exact run_plain rfl (y_move (kp (sm 2 rfl) hs q9))
  · intro ax tx hs okx sm d0
    have e0 := ed d0 rfl rfl rfl
    exact run_plain rfl (y_len Try.underlying23 e0)
  · intro ax tx hs okx sm d0
    have e1 := ed d0 rfl rfl rfl
    exact run_plain rfl (y_lss e1 rfl)
  · intro ax tx hs okx sm d0
    have e2 := ed d0 rfl rfl rfl
    exact run_plain rfl (y_move e2)
  · intro ax tx hs okx sm d0
    have e3 := ed d0 rfl rfl rfl
    refine run_guard (T := (Ty.lst Ty.int leads)) okx rfl rfl (by decide) e3 (fun hg => ?_)
    have hp := of_decide_eq_false hg
    exact y_move (kp (sm 2 rfl) hs q9)
  · intro ax tx hs okx sm d0 d1
    have e4 := ed d0 rfl rfl rfl
    have e3 := ed d1 rfl rfl rfl
    refine run_guard (T := (Ty.nat (List.length leads))) okx rfl rfl (by decide) e3 (fun hg => ?_)
    have hp := of_decide_eq_false hg
    exact y_len Try.underlying23 (e4.1 hg)
  · intro ax tx hs okx sm d0 d1
    have e5 := ed d0 rfl rfl rfl
    have e3 := ed d1 rfl rfl rfl
    refine run_guard (T := (Ty.bool (decide ((400 : Int) < (((List.length leads) : Nat) : Int))))) okx rfl rfl (by decide) e3 (fun hg => ?_)
    have hp := of_decide_eq_false hg
    exact y_gtr (e5.1 hg) rfl
  · intro ax tx hs okx sm d0 d1
    have e3 := ed d0 rfl rfl rfl
    have e6 := ed d1 rfl rfl rfl
    exact run_plain rfl (y_pick_or e3 rfl e6)
  intro a5 s5 D5
  have ok5 := D5.ok
  have F5 := F3.step0 D5.stp
  have q14 := D5.kt q8 rfl
  have q15 := D5.kt q9 rfl
  have q16 := D5.kt q10 rfl
  have q17 : At (Ty.bool ((decide ((((List.length leads) : Nat) : Int) < (1 : Int))) || (decide ((400 : Int) < (((List.length leads) : Nat) : Int))))) s5 a5 (.tmp 23) := D5.done 7
  clear D5
  refine tn ?_
  refine cond_t q17 (fun c2 => ?_) (fun c2 => ?_)
  ·
   simp only [Bool.or_eq_true, decide_eq_true_eq] at c2; have hm := touchMay_cnt h0 (leads := leads) (by omega)
   refine wp_seq ?_
   refine reg (a := a5) (σ := s5) rfl (fun i_ => List.getD [(Ty.pr (Ty.int (1 : Int)))] i_ Pr.any) ok5 rfl ⟨?_, trivial⟩ ?_
   · intro ax tx hs okx sm
     exact run_plain rfl (y_assign rfl)
   intro a6 s6 D6
   have ok6 := D6.ok
   have F6 := F5.step0 D6.stp
   have q18 : At (Ty.int (1 : Int)) s6 a6 (.tmp 6) := D6.done 0
   clear D6
   refine tn ?_
   refine wp_ret ?_
   refine tr ?_
   exact retL1 rfl ok6 F6 (cvi (by (exact hm.symm)) q18)
  ·
   obtain ⟨d1, d2⟩ := Bool.or_eq_false_iff.mp c2
   replace d1 := of_decide_eq_false d1
   replace d2 := of_decide_eq_false d2
   have hx2 : ¬ (leads.length < 1 ∨ 400 < leads.length) := (by simp only [Bool.or_eq_false_iff, decide_eq_false_iff_not] at c2; omega); have hmb : leads.length * l.length ≤ 400 * 200 := Nat.mul_le_mul (by omega) hl2; have hmc : ((leads.length : Nat) : Int) * ((l.length : Nat) : Int) = ((leads.length * l.length : Nat) : Int) := (Int.natCast_mul _ _).symm
   refine wp_skip ?_
   refine tn ?_
   refine wp_seq ?_
   refine wp_seq ?_
   refine reg (a := a5) (σ := s5) rfl (fun i_ => List.getD [(Ty.pr (Ty.lst Ty.int leads)), (Ty.pr (Ty.nat (List.length leads))), (Ty.pr (Ty.int (0 : Int)))] i_ Pr.any) ok5 rfl ⟨?_, ?_, ?_, trivial⟩ ?_
   · intro ax tx hs okx sm
     exact run_plain rfl (y_move (kp (sm 2 rfl) hs q15))
   · intro ax tx hs okx sm d0
     have e0 := ed d0 rfl rfl rfl
     exact run_plain rfl (y_len Try.underlying23 e0)
   · intro ax tx hs okx sm
     exact run_plain rfl (y_move rfl)
   intro a7 s7 D7
   have ok7 := D7.ok
   have F7 := F5.step0 D7.stp
   have q19 := D7.kt q14 rfl
   have q20 := D7.kt q15 rfl
   have q21 := D7.kt q16 rfl
   have q22 : At (Ty.lst Ty.int leads) s7 a7 (.tmp 24) := D7.done 0
   have q23 : At (Ty.nat (List.length leads)) s7 a7 (.tmp 25) := D7.done 1
   have q24 : At (Ty.int (0 : Int)) s7 a7 (.tmp 26) := D7.done 2
   clear D7
   refine tn ?_
   refine wp_block ?_
   refine loop (fun n1 a8 w1 => ∃ (t1 : GW) (k : Nat), t1.w = w1 ∧ FromL [] s0 t1 ∧ Ok 46 a8 ∧ At (Ty.nat k) t1 a8 (.tmp 26) ∧ At (Ty.lstc 2 callC cs) t1 a8 (.tmp 1) ∧ At (Ty.lst Ty.int leads) t1 a8 (.tmp 2) ∧ At (Ty.ref [(Ty.val (Value.string nm)), (Ty.int n), (Ty.lst Ty.ints l)]) t1 a8 (.tmp 3) ∧ At (Ty.lst Ty.int leads) t1 a8 (.tmp 24) ∧ At (Ty.nat (List.length leads)) t1 a8 (.tmp 25) ∧ (k ≤ leads.length) ∧ (∀ j, j < k → 0 ≤ leads.getD j 0 ∧ leads.getD j 0 < cs.length) ∧ n1 = leads.length - k) (leads.length - (0)) ?_ ?_
   ·
    exact ⟨s7, 0, rfl, F7, ok7, (cvi (by (first | rfl | omega | (simp_all; done) | (simp_all; omega))) q24), q19, q20, q21, q22, q23, by omega, fun j hj => absurd hj (Nat.not_lt_zero j), rfl⟩
   ·
    rintro n2 a9 w2 ⟨t2, k, rfl, F8, ok8, q25, q26, q27, q28, q29, q30, hk, hin, rfl⟩
    refine wp_seq ?_
    refine reg (a := a9) (σ := t2) rfl (fun i_ => List.getD [(Ty.pr (Ty.bool (decide (((k : Nat) : Int) < (((List.length leads) : Nat) : Int)))))] i_ Pr.any) ok8 rfl ⟨?_, trivial⟩ ?_
    · intro ax tx hs okx sm
      exact run_plain rfl (y_lss (kp (sm 26 rfl) hs q25) (kp (sm 25 rfl) hs q30))
    intro a10 s8 D8
    have ok9 := D8.ok
    have F9 := F8.step0 D8.stp
    have q31 := D8.kt q25 rfl
    have q32 := D8.kt q26 rfl
    have q33 := D8.kt q27 rfl
    have q34 := D8.kt q28 rfl
    have q35 := D8.kt q29 rfl
    have q36 := D8.kt q30 rfl
    have q37 : At (Ty.bool (decide (((k : Nat) : Int) < (((List.length leads) : Nat) : Int)))) s8 a10 (.tmp 27) := D8.done 0
    clear D8
    refine tn ?_
    refine wp_seq ?_
    refine cond_p (p := (((k : Nat) : Int) < (((List.length leads) : Nat) : Int))) q37 (fun c3 => ?_) (fun c3 => ?_)
    ·
     refine wp_skip ?_
     refine tn ?_
     refine wp_seq ?_
     refine wp_block ?_
     refine wp_seq ?_
     refine reg (a := a10) (σ := s8) rfl (fun i_ => List.getD [(Ty.pr (Ty.ref [(Ty.int (leads.getD k 0))])), (Ty.pr (Ty.int (leads.getD k 0))), (Ty.pr (Ty.int (leads.getD k 0)))] i_ Pr.any) ok9 rfl ⟨?_, ?_, ?_, trivial⟩ ?_
     · intro ax tx hs okx sm
       exact run_plain rfl (y_index1 Try.underlying23 Try.inf3 (kp (sm 24 rfl) hs q35) (kp (sm 26 rfl) hs q31) (by omega) (lst_get Ty.int leads 0 k (by omega)))
     · intro ax tx hs okx sm d0
       have e0 := ed d0 rfl rfl rfl
       exact run_plain rfl (y_load Try.underlying3 rfl e0 rfl)
     · intro ax tx hs okx sm d0 d1 d2
       have e1 := ed d0 rfl rfl rfl
       exact run_plain rfl (y_assign e1)
     intro a11 s9 D9
     have ok10 := D9.ok
     have F10 := F9.step0 D9.stp
     have q38 := D9.kt q31 rfl
     have q39 := D9.kt q32 rfl
     have q40 := D9.kt q33 rfl
     have q41 := D9.kt q34 rfl
     have q42 := D9.kt q35 rfl
     have q43 := D9.kt q36 rfl
     have q44 : At (Ty.int (leads.getD k 0)) s9 a11 (.tmp 9) := D9.done 2
     clear D9
     refine tn ?_
     refine wp_seq ?_
     refine reg (a := a11) (σ := s9) rfl (fun i_ => List.getD [(Ty.pr (Ty.int (leads.getD k 0))), (Ty.pr (Ty.bool (decide ((leads.getD k 0) < (0 : Int))))), (Ty.pr (Ty.bool (decide ((leads.getD k 0) < (0 : Int))))), (Ty.pr (Ty.grd ((decide ((leads.getD k 0) < (0 : Int))) = false) (Ty.int (leads.getD k 0)))), (Ty.pr (Ty.grd ((decide ((leads.getD k 0) < (0 : Int))) = false) (Ty.lstc 2 callC cs))), (Ty.pr (Ty.grd ((decide ((leads.getD k 0) < (0 : Int))) = false) (Ty.nat (List.length cs)))), (Ty.pr (Ty.grd ((decide ((leads.getD k 0) < (0 : Int))) = false) (Ty.bool (decide ((((List.length cs) : Nat) : Int) ≤ (leads.getD k 0)))))), (Ty.pr (Ty.bool ((decide ((leads.getD k 0) < (0 : Int))) || (decide ((((List.length cs) : Nat) : Int) ≤ (leads.getD k 0))))))] i_ Pr.any) ok10 rfl ⟨?_, ?_, ?_, ?_, ?_, ?_, ?_, ?_, trivial⟩ ?_
     · intro ax tx hs okx sm
       exact run_plain rfl (y_move (kp (sm 9 rfl) hs q44))
     · intro ax tx hs okx sm d0
       have e0 := ed d0 rfl rfl rfl
       exact run_plain rfl (y_lss e0 rfl)
     · intro ax tx hs okx sm d0
       have e1 := ed d0 rfl rfl rfl
       exact run_plain rfl (y_move e1)
     · intro ax tx hs okx sm d0
       have e2 := ed d0 rfl rfl rfl
       refine run_guard (T := (Ty.int (leads.getD k 0))) okx rfl rfl (by decide) e2 (fun hg => ?_)
       have hp := of_decide_eq_false hg
       exact y_move (kp (sm 9 rfl) hs q44)
     · intro ax tx hs okx sm d0
       have e2 := ed d0 rfl rfl rfl
       refine run_guard (T := (Ty.lstc 2 callC cs)) okx rfl rfl (by decide) e2 (fun hg => ?_)
       have hp := of_decide_eq_false hg
       exact y_move (kp (sm 1 rfl) hs q39)
     · intro ax tx hs okx sm d0 d1
       have e4 := ed d0 rfl rfl rfl
       have e2 := ed d1 rfl rfl rfl
       refine run_guard (T := (Ty.nat (List.length cs))) okx rfl rfl (by decide) e2 (fun hg => ?_)
       have hp := of_decide_eq_false hg
       exact y_len Try.underlying22 (e4.1 hg)
     · intro ax tx hs okx sm d0 d1 d2
       have e3 := ed d0 rfl rfl rfl
       have e5 := ed d1 rfl rfl rfl
       have e2 := ed d2 rfl rfl rfl
       refine run_guard (T := (Ty.bool (decide ((((List.length cs) : Nat) : Int) ≤ (leads.getD k 0))))) okx rfl rfl (by decide) e2 (fun hg => ?_)
       have hp := of_decide_eq_false hg
       exact y_geq (e3.1 hg) (e5.1 hg)
     · intro ax tx hs okx sm d0 d1
       have e2 := ed d0 rfl rfl rfl
       have e6 := ed d1 rfl rfl rfl
       exact run_plain rfl (y_pick_or e2 rfl e6)
     intro a12 s10 D10
     have ok11 := D10.ok
     have F11 := F10.step0 D10.stp
     have q45 := D10.kt q38 rfl
     have q46 := D10.kt q39 rfl
     have q47 := D10.kt q40 rfl
     have q48 := D10.kt q41 rfl
     have q49 := D10.kt q42 rfl
     have q50 := D10.kt q43 rfl
     have q51 : At (Ty.bool ((decide ((leads.getD k 0) < (0 : Int))) || (decide ((((List.length cs) : Nat) : Int) ≤ (leads.getD k 0))))) s10 a12 (.tmp 37) := D10.done 7
     clear D10
     refine tn ?_
     refine cond_t q51 (fun c4 => ?_) (fun c4 => ?_)
     ·
      simp only [Bool.or_eq_true, decide_eq_true_eq] at c4; have hm := touchMay_val h0 hx2 (k := k) (by omega) (by omega)
      refine wp_seq ?_
      refine reg (a := a12) (σ := s10) rfl (fun i_ => List.getD [(Ty.pr (Ty.int (12 : Int)))] i_ Pr.any) ok11 rfl ⟨?_, trivial⟩ ?_
      · intro ax tx hs okx sm
        exact run_plain rfl (y_assign rfl)
      intro a13 s11 D11
      have ok12 := D11.ok
      have F12 := F11.step0 D11.stp
      have q52 : At (Ty.int (12 : Int)) s11 a13 (.tmp 6) := D11.done 0
      clear D11
      refine tn ?_
      refine wp_ret ?_
      refine br ?_
      refine tr ?_
      refine tr ?_
      refine br ?_
      refine tr ?_
      exact retL1 rfl ok12 F12 (cvi (by (exact hm.symm)) q52)
     ·
      obtain ⟨d3, d4⟩ := Bool.or_eq_false_iff.mp c4
      replace d3 := of_decide_eq_false d3
      replace d4 := of_decide_eq_false d4
      refine wp_skip ?_
      refine bn ?_
      refine tn ?_
      refine reg (a := a12) (σ := s10) rfl (fun i_ => List.getD [(Ty.pr (Ty.nat (k + 1))), (Ty.pr (Ty.nat (k + 1)))] i_ Pr.any) ok11 rfl ⟨?_, ?_, trivial⟩ ?_
      · intro ax tx hs okx sm
        exact run_plain rfl ((y_add (kp (sm 26 rfl) hs q45) rfl (w64 (by omega) (by omega))).mono (fun τ _ h => cvi (σ := τ) (by first | omega | exact (Int.natCast_mul _ _).symm) h))
      · intro ax tx hs okx sm d0
        have e0 := ed d0 rfl rfl rfl
        exact run_plain rfl (y_move e0)
      intro a14 s12 D12
      have ok13 := D12.ok
      have F13 := F11.step0 D12.stp
      have q53 := D12.kt q46 rfl
      have q54 := D12.kt q47 rfl
      have q55 := D12.kt q48 rfl
      have q56 := D12.kt q49 rfl
      have q57 := D12.kt q50 rfl
      have q58 : At (Ty.nat (k + 1)) s12 a14 (.tmp 26) := D12.done 1
      clear D12
      exact tn ⟨leads.length - ((k+1)), by omega, s12, (k+1), rfl, F13, ok13, (cvi (by (first | rfl | omega | (simp_all; done) | (simp_all; omega))) q58), q53, q54, q55, q56, q57, by omega, fun j hj => by (by_cases e : j = k; subst e; simp only [Bool.or_eq_false_iff, decide_eq_false_iff_not] at c4; omega; exact hin j (by omega)), rfl⟩
    ·
     have hin2 : ∀ j, j < leads.length → 0 ≤ leads.getD j 0 ∧ leads.getD j 0 < cs.length := fun j hj => hin j (by omega)
     refine wp_exit ?_
     refine tx ?_
     refine tx ?_
     refine bx ?_
     refine tn ?_
     refine wp_seq ?_
     refine wp_seq ?_
     refine reg (a := a10) (σ := s8) rfl (fun i_ => List.getD [(Ty.pr (Ty.lst Ty.int leads)), (Ty.pr (Ty.nat (List.length leads))), (Ty.pr (Ty.ref [(Ty.lst Ty.ints l)])), (Ty.pr (Ty.lst Ty.ints l)), (Ty.pr (Ty.nat (List.length l))), (Ty.pr (Ty.nat ((List.length leads) * (List.length l)))), (Ty.pr (Ty.bool (decide ((20000 : Int) < ((((List.length leads) * (List.length l)) : Nat) : Int)))))] i_ Pr.any) ok9 rfl ⟨?_, ?_, ?_, ?_, ?_, ?_, ?_, trivial⟩ ?_
     · intro ax tx hs okx sm
       exact run_plain rfl (y_move (kp (sm 2 rfl) hs q33))
     · intro ax tx hs okx sm d0
       have e0 := ed d0 rfl rfl rfl
       exact run_plain rfl (y_len Try.underlying23 e0)
     · intro ax tx hs okx sm
       exact run_plain rfl (y_field Try.fld31_2 Try.inf29 (by decide) (kp (sm 3 rfl) hs q34) rfl)
     · intro ax tx hs okx sm d0
       have e2 := ed d0 rfl rfl rfl
       exact run_plain rfl (y_load Try.underlying29 rfl e2 rfl)
     · intro ax tx hs okx sm d0
       have e3 := ed d0 rfl rfl rfl
       exact run_plain rfl (y_len Try.underlying29 e3)
     · intro ax tx hs okx sm d0 d1
       have e1 := ed d0 rfl rfl rfl
       have e4 := ed d1 rfl rfl rfl
       exact run_plain rfl ((y_mul e1 e4 (w64 (by omega) (by omega))).mono (fun τ _ h => cvi (σ := τ) (by first | omega | exact (Int.natCast_mul _ _).symm) h))
     · intro ax tx hs okx sm d0
       have e5 := ed d0 rfl rfl rfl
       exact run_plain rfl (y_gtr e5 rfl)
     intro a15 s13 D13
     have ok14 := D13.ok
     have F14 := F9.step0 D13.stp
     have q59 : At (Ty.bool (decide ((20000 : Int) < ((((List.length leads) * (List.length l)) : Nat) : Int)))) s13 a15 (.tmp 45) := D13.done 6
     clear D13
     refine tn ?_
     refine cond_p (p := ((20000 : Int) < ((((List.length leads) * (List.length l)) : Nat) : Int))) q59 (fun c5 => ?_) (fun c5 => ?_)
     ·
      have hm := touchMay_lim h0 hx2 hin2 (by omega)
      refine wp_seq ?_
      refine reg (a := a15) (σ := s13) rfl (fun i_ => List.getD [(Ty.pr (Ty.int (3 : Int)))] i_ Pr.any) ok14 rfl ⟨?_, trivial⟩ ?_
      · intro ax tx hs okx sm
        exact run_plain rfl (y_assign rfl)
      intro a16 s14 D14
      have ok15 := D14.ok
      have F15 := F14.step0 D14.stp
      have q60 : At (Ty.int (3 : Int)) s14 a16 (.tmp 6) := D14.done 0
      clear D14
      refine tn ?_
      refine wp_ret ?_
      refine tr ?_
      exact retL1 rfl ok15 F15 (cvi (by (exact hm.symm)) q60)
     ·
      have hm := touchMay_yes h0 hx2 hin2 (by omega)
      refine wp_skip ?_
      refine tn ?_
      refine wp_seq ?_
      refine reg (a := a15) (σ := s13) rfl (fun i_ => List.getD [(Ty.pr (Ty.int (0 : Int)))] i_ Pr.any) ok14 rfl ⟨?_, trivial⟩ ?_
      · intro ax tx hs okx sm
        exact run_plain rfl (y_assign rfl)
      intro a17 s15 D15
      have ok16 := D15.ok
      have F16 := F14.step0 D15.stp
      have q61 : At (Ty.int (0 : Int)) s15 a17 (.tmp 6) := D15.done 0
      clear D15
      refine tn ?_
      refine wp_ret ?_
      exact retL1 rfl ok16 F16 (cvi (by (exact hm.symm)) q61)


set_option maxHeartbeats 4000000 in
set_option maxRecDepth 100000 in
theorem callRows_fn (nm : ByteArray) (n : Int) (l : List (List Int)) (cs : List BCall) (leads : List Int) (σ : GW)  (v0 v1 v2 : Value) (hv0 : Ty.has (Ty.agg [(Ty.val (Value.string nm)), (Ty.int n), (Ty.lst Ty.ints l)]) σ v0) (hv1 : Ty.has (Ty.lstc 2 callC cs) σ v1) (hv2 : Ty.has (Ty.lst Ty.int leads) σ v2)  (hnm : nm.size ≤ 1099511627776) (hn : -9223372036854775808 ≤ n ∧ n ≤ 9223372036854775807) :
    FnC Try.prog 54 #[v0, v1, v2] σ (Ty.tup2 (Ty.lst Ty.ints (if touchMay nm n l cs leads = 0 then (tRows n.toNat l cs leads leads.length) else [])) (Ty.int (touchMay nm n l cs leads))) := by
 refine fn_intro0 Try.func54 rfl Try.ntmps54 (Nat.le_of_ble_eq_true rfl) (fun s0 a0 hle F0 ok0 hargs => ?_)
 have p0 : At (Ty.agg [(Ty.val (Value.string nm)), (Ty.int n), (Ty.lst Ty.ints l)]) s0 a0 (.tmp 0) := by have e := hargs 0 _ rfl; show Ty.has _ _ _; rw [e]; exact Ty.up _ hle hv0
 have p1 : At (Ty.lstc 2 callC cs) s0 a0 (.tmp 1) := by have e := hargs 1 _ rfl; show Ty.has _ _ _; rw [e]; exact Ty.up _ hle hv1
 have b1 := sl_le p1
 have p2 : At (Ty.lst Ty.int leads) s0 a0 (.tmp 2) := by have e := hargs 2 _ rfl; show Ty.has _ _ _; rw [e]; exact Ty.up _ hle hv2
 have b2 := sl_le p2
 clear hargs
 refine wp_seq ?_
 refine reg (a := a0) (σ := s0) rfl (fun i_ => List.getD [(Ty.pr (Ty.ref [(Ty.val (Value.string nm)), (Ty.int n), (Ty.lst Ty.ints l)])), (Ty.pr (Ty.val (Value.slice none 0 0))), (Ty.pr (Ty.int (0 : Int)))] i_ Pr.any) ok0 rfl ⟨?_, ?_, ?_, trivial⟩ ?_
 · intro ax tx hs okx sm
   exact run_plain rfl (y_boxagg (kp (sm 0 rfl) hs p0))
 · intro ax tx hs okx sm
   exact run_plain rfl (y_assign rfl)
 · intro ax tx hs okx sm d0
   exact run_plain rfl (y_assign rfl)
 intro a1 s1 D1
 have ok1 := D1.ok
 have F1 := F0.step0 D1.stp
 have q1 := D1.kt p1 rfl
 have q2 := D1.kt p2 rfl
 have q3 : At (Ty.ref [(Ty.val (Value.string nm)), (Ty.int n), (Ty.lst Ty.ints l)]) s1 a1 (.tmp 3) := D1.done 0
 clear D1
 refine tn ?_
 refine wp_seq ?_
 refine wp_seq ?_
 refine reg (a := a1) (σ := s1) rfl (fun i_ => List.getD [(Ty.pr (Ty.agg [(Ty.val (Value.string nm)), (Ty.int n), (Ty.lst Ty.ints l)])), (Ty.pr (Ty.lstc 2 callC cs)), (Ty.pr (Ty.lst Ty.int leads)), (Ty.pr (Ty.int (touchMay nm n l cs leads))), (Ty.pr (Ty.int (touchMay nm n l cs leads)))] i_ Pr.any) ok1 rfl ⟨?_, ?_, ?_, ?_, ?_, trivial⟩ ?_
 · intro ax tx hs okx sm
   exact run_plain rfl (y_loadagg Try.underlying31 Try.inf31 (kp (sm 3 rfl) hs q3))
 · intro ax tx hs okx sm
   exact run_plain rfl (y_move (kp (sm 1 rfl) hs q1))
 · intro ax tx hs okx sm
   exact run_plain rfl (y_move (kp (sm 2 rfl) hs q2))
 · intro ax tx hs okx sm d0 d1 d2
   have e0 := ed d0 rfl rfl rfl
   have e1 := ed d1 rfl rfl rfl
   have e2 := ed d2 rfl rfl rfl
   exact run_plain rfl (y_call #[ax.eval (.tmp 14), ax.eval (.tmp 15), ax.eval (.tmp 16)] Try.func88 rfl rfl (by simp only [List.map_toArray, List.map_cons, List.map_nil]) (callMay_fn (nm) (n) (l) (cs) (leads) _ _ _ _ e0 e1 e2 (by first | omega | assumption) (by first | omega | assumption)))
 · intro ax tx hs okx sm d0 d1 d2 d3 d4 d5
   have e3 := ed d0 rfl rfl rfl
   exact run_plain rfl (y_assign e3)
 intro a2 s2 D2
 have ok2 := D2.ok
 have F2 := F1.step0 D2.stp
 have q4 := D2.kt q1 rfl
 have q5 := D2.kt q2 rfl
 have q6 := D2.kt q3 rfl
 have q7 : At (Ty.int (touchMay nm n l cs leads)) s2 a2 (.tmp 8) := D2.done 4
 clear D2
 refine tn ?_
 refine wp_seq ?_
 refine reg (a := a2) (σ := s2) rfl (fun i_ => List.getD [(Ty.pr (Ty.int (touchMay nm n l cs leads))), (Ty.pr (Ty.bool (decide ((touchMay nm n l cs leads) ≠ (0 : Int)))))] i_ Pr.any) ok2 rfl ⟨?_, ?_, trivial⟩ ?_
 · intro ax tx hs okx sm
   exact run_plain rfl (y_move (kp (sm 8 rfl) hs q7))
 · intro ax tx hs okx sm d0
   have e0 := ed d0 rfl rfl rfl
   exact run_plain rfl (y_neq e0 rfl)
 intro a3 s3 D3
 have ok3 := D3.ok
 have F3 := F2.step0 D3.stp
 have q8 := D3.kt q4 rfl
 have q9 := D3.kt q5 rfl
 have q10 := D3.kt q6 rfl
 have q11 := D3.kt q7 rfl
 have q12 : At (Ty.bool (decide ((touchMay nm n l cs leads) ≠ (0 : Int)))) s3 a3 (.tmp 19) := D3.done 1
 clear D3
 refine tn ?_
 refine cond_p (p := ((touchMay nm n l cs leads) ≠ (0 : Int))) q12 (fun c1 => ?_) (fun c1 => ?_)
 ·
  refine wp_seq ?_
  refine reg (a := a3) (σ := s3) rfl (fun i_ => List.getD [(Ty.pr (Ty.int (touchMay nm n l cs leads))), (Ty.pr (Ty.val (Value.slice none 0 0))), (Ty.pr (Ty.int (touchMay nm n l cs leads)))] i_ Pr.any) ok3 rfl ⟨?_, ?_, ?_, trivial⟩ ?_
  · intro ax tx hs okx sm d0
    exact run_plain rfl (y_move (kp (sm 8 rfl) hs q11))
  · intro ax tx hs okx sm d0
    exact run_plain rfl (y_assign rfl)
  · intro ax tx hs okx sm d0 d1 d2 d3
    have e0 := ed d0 rfl rfl rfl
    exact run_plain rfl (y_assign e0)
  intro a4 s4 D4
  have ok4 := D4.ok
  have F4 := F3.step0 D4.stp
  have q13 : At (Ty.val (Value.slice none 0 0)) s4 a4 (.tmp 6) := D4.done 1
  have q14 : At (Ty.int (touchMay nm n l cs leads)) s4 a4 (.tmp 7) := D4.done 2
  clear D4
  refine tn ?_
  refine wp_ret ?_
  refine tr ?_
  exact retL2 rfl ok4 F4 (hasT2 (nil_lst (by (rw [if_neg c1])) q13) q14)
 ·
  have h0 := Classical.not_not.1 c1; obtain ⟨hok, hnn, hlo, hlh, hin, hlim⟩ := touchMay_ok h0; have hl1 := hok.meth.l1; have hl2 := hok.meth.l2; have hn1 := hok.meth.n1; have hn2 := hok.meth.n2
  refine wp_skip ?_
  refine tn ?_
  refine wp_seq ?_
  refine reg (a := a3) (σ := s3) rfl (fun i_ => List.getD [(Ty.pr (Ty.ref [(Ty.int n), (Ty.lst Ty.ints l)])), (Ty.pr (Ty.int n)), (Ty.pr (Ty.tup2 (Ty.lst Ty.int (roundsL ((n).toNat))) (Ty.int (0 : Int)))), (Ty.pr (Ty.tup2 (Ty.lst Ty.int (roundsL ((n).toNat))) (Ty.int (0 : Int)))), (Ty.pr (Ty.lst Ty.int (roundsL ((n).toNat)))), (Ty.pr (Ty.int (0 : Int))), (Ty.pr (Ty.lst Ty.int (roundsL ((n).toNat)))), (Ty.pr (Ty.int (0 : Int)))] i_ Pr.any) ok3 rfl ⟨?_, ?_, ?_, ?_, ?_, ?_, ?_, ?_, trivial⟩ ?_
  · intro ax tx hs okx sm
    exact run_plain rfl (y_field Try.fld31_1 Try.inf3 (by decide) (kp (sm 3 rfl) hs q10) rfl)
  · intro ax tx hs okx sm d0
    have e0 := ed d0 rfl rfl rfl
    exact run_plain rfl (y_load Try.underlying3 rfl e0 rfl)
  · intro ax tx hs okx sm d0
    have e1 := ed d0 rfl rfl rfl
    exact run_plain rfl (y_call #[ax.eval (.tmp 23)] Try.func49 rfl rfl (by simp only [List.map_toArray, List.map_cons, List.map_nil]) (rounds_fn ((n).toNat) _ _ (cvi (σ := tx) (by omega) e1) (by omega)))
  · intro ax tx hs okx sm d0
    have e2 := ed d0 rfl rfl rfl
    exact run_plain rfl (y_move e2)
  · intro ax tx hs okx sm d0
    have e3 := ed d0 rfl rfl rfl
    exact run_plain rfl (y_ext2_0 e3)
  · intro ax tx hs okx sm d0 d1
    have e3 := ed d0 rfl rfl rfl
    exact run_plain rfl (y_ext2_1 e3)
  · intro ax tx hs okx sm d0 d1 d2 d3 d4 d5 d6 d7
    have e4 := ed d0 rfl rfl rfl
    exact run_plain rfl (y_assign e4)
  · intro ax tx hs okx sm d0 d1 d2 d3 d4 d5 d6 d7 d8
    have e5 := ed d0 rfl rfl rfl
    exact run_plain rfl (y_assign e5)
  intro a5 s5 D5
  have ok5 := D5.ok
  have F5 := F3.step0 D5.stp
  have q15 := D5.kt q8 rfl
  have q16 := D5.kt q9 rfl
  have q17 := D5.kt q10 rfl
  have q18 : At (Ty.lst Ty.int (roundsL ((n).toNat))) s5 a5 (.tmp 9) := D5.done 6
  clear D5
  refine tn ?_
  refine wp_seq ?_
  refine reg2 (a := a5) (σ := s5) rfl 2 (fun i_ => List.getD [(Ty.pr (Ty.lst Ty.int (roundsL ((n).toNat)))), (Pr.own 5 23 1 1 (List.map Ty.ints [(roundsL ((n).toNat))]))] i_ Pr.any) ok5 rfl (by decide) rfl ⟨?_, ?_, trivial⟩ ?_
  · intro ax tx hs okx sm
    exact run_plain rfl (y_move (kp (sm 9 rfl) hs q18))
  · intro ax tx hs okx sm d0
    have e0 := ed d0 rfl rfl rfl
    exact run_plain rfl ((y_lit1 (k := 5) Try.underlying29 Try.inf23 rfl (one_sl) e0).mono (fun _ _ h => cvo (by simp) (by simp) h))
  intro a6 s6 D6
  have ok6 := D6.ok
  have F6 := F5.step0 D6.stp
  have q19 := D6.kt q15 rfl
  have q20 := D6.kt q16 rfl
  have q21 := D6.kt q17 rfl
  obtain ⟨x1, hx1⟩ : ∃ x, a6.eval (.tmp 28) = x := ⟨_, rfl⟩
  have q22 : At (Ty.val x1) s6 a6 (.tmp 28) := hx1
  have o1 : Own s6 5 23 1 x1 1 (List.map Ty.ints [(roundsL ((n).toNat))]) := al2 (R := (Pr.own 5 23 1 1 (List.map Ty.ints [(roundsL ((n).toNat))]))) hx1 (D6.done 1 (by decide))
  clear D6
  refine tailL (L := []) (R := (fun v τ => Pr.has (Ty.pr (Ty.val x1)) τ v)) rfl rfl (by decide) ok6 (Yld.toL (y_assign q22)) (fun a7 s7 hs1 ok7 r1 sm1 => ?_)
  have F7 := F6.stepL hs1 (by decide)
  have q23 := kpL hs1 (by decide) (sm1 1 (by decide)) q19
  have q24 := kpL hs1 (by decide) (sm1 2 (by decide)) q20
  have q25 := kpL hs1 (by decide) (sm1 3 (by decide)) q21
  have o2 := Own.keepL o1 hs1 (by decide) (by decide)
  have q26 : At (Ty.val x1) s7 a7 (.tmp 11) := r1
  clear r1
  refine wpList_nil ?_
  refine tn ?_
  refine wp_seq ?_
  refine wp_seq ?_
  refine reg (a := a7) (σ := s7) rfl (fun i_ => List.getD [(Ty.pr (Ty.lst Ty.int leads)), (Ty.pr (Ty.nat (List.length leads))), (Ty.pr (Ty.int (0 : Int)))] i_ Pr.any) ok7 rfl ⟨?_, ?_, ?_, trivial⟩ ?_
  · intro ax tx hs okx sm
    exact run_plain rfl (y_move (kp (sm 2 rfl) hs q24))
  · intro ax tx hs okx sm d0
    have e0 := ed d0 rfl rfl rfl
    exact run_plain rfl (y_len Try.underlying23 e0)
  · intro ax tx hs okx sm
    exact run_plain rfl (y_move rfl)
  intro a8 s8 D7
  have ok8 := D7.ok
  have F8 := F7.step0 D7.stp
  have q27 := D7.kt q23 rfl
  have q28 := D7.kt q25 rfl
  have q29 := D7.kt q26 rfl
  have o3 := Own.k0 o2 D7.stp
  have q30 : At (Ty.lst Ty.int leads) s8 a8 (.tmp 29) := D7.done 0
  have q31 : At (Ty.nat (List.length leads)) s8 a8 (.tmp 30) := D7.done 1
  have q32 : At (Ty.int (0 : Int)) s8 a8 (.tmp 31) := D7.done 2
  clear D7
  refine tn ?_
  refine wp_block ?_
  refine loop (fun n1 a9 w1 => ∃ (t1 : GW) (k : Nat) (x11_0 : Value), t1.w = w1 ∧ FromL [] s0 t1 ∧ Ok 53 a9 ∧ At (Ty.nat k) t1 a9 (.tmp 31) ∧ At (Ty.val x11_0) t1 a9 (.tmp 11) ∧ At (Ty.lstc 2 callC cs) t1 a9 (.tmp 1) ∧ At (Ty.ref [(Ty.val (Value.string nm)), (Ty.int n), (Ty.lst Ty.ints l)]) t1 a9 (.tmp 3) ∧ At (Ty.lst Ty.int leads) t1 a9 (.tmp 29) ∧ At (Ty.nat (List.length leads)) t1 a9 (.tmp 30) ∧ Own t1 5 23 1 x11_0 (List.length (tRows n.toNat l cs leads k)) (List.map Ty.ints (tRows n.toNat l cs leads k)) ∧ (k ≤ leads.length) ∧ n1 = leads.length - k) (leads.length - (0)) ?_ ?_
  ·
   exact ⟨s8, 0, x1, rfl, F8, ok8, (cvi (by (first | rfl | omega | (simp_all; done) | (simp_all; omega))) q32), q29, q27, q28, q30, q31, (cvo (by (rfl)) (by (rfl)) o3), by omega, rfl⟩
  ·
   rintro n2 a10 w2 ⟨t2, k, x11_0, rfl, F9, ok9, q33, q34, q35, q36, q37, q38, o4, hk, rfl⟩
   have htl := tRows_len hok hin k hk
   refine wp_seq ?_
   refine reg (a := a10) (σ := t2) rfl (fun i_ => List.getD [(Ty.pr (Ty.bool (decide (((k : Nat) : Int) < (((List.length leads) : Nat) : Int)))))] i_ Pr.any) ok9 rfl ⟨?_, trivial⟩ ?_
   · intro ax tx hs okx sm
     exact run_plain rfl (y_lss (kp (sm 31 rfl) hs q33) (kp (sm 30 rfl) hs q38))
   intro a11 s9 D8
   have ok10 := D8.ok
   have F10 := F9.step0 D8.stp
   have q39 := D8.kt q33 rfl
   have q40 := D8.kt q34 rfl
   have q41 := D8.kt q35 rfl
   have q42 := D8.kt q36 rfl
   have q43 := D8.kt q37 rfl
   have q44 := D8.kt q38 rfl
   have o5 := Own.k0 o4 D8.stp
   have q45 : At (Ty.bool (decide (((k : Nat) : Int) < (((List.length leads) : Nat) : Int)))) s9 a11 (.tmp 32) := D8.done 0
   clear D8
   refine tn ?_
   refine wp_seq ?_
   refine cond_p (p := (((k : Nat) : Int) < (((List.length leads) : Nat) : Int))) q45 (fun c2 => ?_) (fun c2 => ?_)
   ·
    have hkl : k < leads.length := (by omega); obtain ⟨hk0, hkc⟩ := hin k hkl; obtain ⟨E, hE⟩ : ∃ E, E = leadE l cs leads k := ⟨_, rfl⟩; have hsh := hok.short (leads.getD k 0).toNat (by omega); obtain ⟨hHr, hHl⟩ := tHd_row hok hin k (by omega); have hR : ((tRows n.toNat l cs leads k).getD ((((((tRows n.toNat l cs leads k).length : Nat) : Int) - (1 : Int))).toNat) []) = tHd n.toNat l cs leads k := (by rw [htl, show ((((k * l.length + 1 : Nat) : Int) - (1 : Int))).toNat = k * l.length by omega]; exact tRows_last hok hin k (by omega)); have hRl : ((tRows n.toNat l cs leads k).getD ((((((tRows n.toNat l cs leads k).length : Nat) : Int) - (1 : Int))).toNat) []).length = n.toNat := (by rw [hR, hHl]); have hokE : ∀ j, j < E.length → okL 0 (E.getD j []) ((tRows n.toNat l cs leads k).getD ((((((tRows n.toNat l cs leads k).length : Nat) : Int) - (1 : Int))).toNat) []).length := (by rw [hRl, hE]; exact leadE_ok hok hin hkl); have hEl : E.length = l.length := (by rw [hE]; exact leadE_len hok hin hkl); have hfl := fromL_len (tHd n.toNat l cs leads k) E; have hfd : ((fromL (tHd n.toNat l cs leads k) E).drop 1).length = E.length := (by rw [List.length_drop, hfl]; omega); have hkm : k * l.length ≤ 400 * 200 := Nat.mul_le_mul (by omega) hl2
    refine wp_skip ?_
    refine tn ?_
    refine wp_seq ?_
    refine wp_block ?_
    refine wp_seq ?_
    refine reg (a := a11) (σ := s9) rfl (fun i_ => List.getD [(Ty.pr (Ty.ref [(Ty.int (leads.getD k 0))])), (Ty.pr (Ty.int (leads.getD k 0))), (Ty.pr (Ty.int (leads.getD k 0)))] i_ Pr.any) ok10 rfl ⟨?_, ?_, ?_, trivial⟩ ?_
    · intro ax tx hs okx sm
      exact run_plain rfl (y_index1 Try.underlying23 Try.inf3 (kp (sm 29 rfl) hs q43) (kp (sm 31 rfl) hs q39) (by omega) (lst_get Ty.int leads 0 k (by omega)))
    · intro ax tx hs okx sm d0
      have e0 := ed d0 rfl rfl rfl
      exact run_plain rfl (y_load Try.underlying3 rfl e0 rfl)
    · intro ax tx hs okx sm d0 d1 d2
      have e1 := ed d0 rfl rfl rfl
      exact run_plain rfl (y_assign e1)
    intro a12 s10 D9
    have ok11 := D9.ok
    have F11 := F10.step0 D9.stp
    have q46 := D9.kt q39 rfl
    have q47 := D9.kt q40 rfl
    have q48 := D9.kt q41 rfl
    have q49 := D9.kt q42 rfl
    have q50 := D9.kt q43 rfl
    have q51 := D9.kt q44 rfl
    have o6 := Own.k0 o5 D9.stp
    have q52 : At (Ty.int (leads.getD k 0)) s10 a12 (.tmp 13) := D9.done 2
    clear D9
    refine tn ?_
    refine reg2 (a := a12) (σ := s10) rfl 15 (fun i_ => List.getD [(Ty.pr (Ty.val x11_0)), (Ty.pr (Ty.val x11_0)), (Ty.pr (Ty.val x11_0)), (Ty.pr (Ty.nat (List.length (tRows n.toNat l cs leads k)))), (Ty.pr (Ty.int ((((List.length (tRows n.toNat l cs leads k)) : Nat) : Int) - (1 : Int)))), (Ty.pr (Ty.val (cellPtr x11_0 (((((List.length (tRows n.toNat l cs leads k)) : Nat) : Int) - (1 : Int))).toNat))), (Ty.pr (Ty.lst Ty.int ((tRows n.toNat l cs leads k).getD (((((List.length (tRows n.toNat l cs leads k)) : Nat) : Int) - (1 : Int))).toNat []))), (Ty.pr (Ty.agg [(Ty.val (Value.string nm)), (Ty.int n), (Ty.lst Ty.ints l)])), (Ty.pr (Ty.lstc 2 callC cs)), (Ty.pr (Ty.int (leads.getD k 0))), (Ty.pr (Ty.ref [(Ty.val (Value.int .i32 ((cs.getD ((leads.getD k 0)).toNat D0)).1)), (Ty.lst Ty.ints ((cs.getD ((leads.getD k 0)).toNat D0)).2)])), (Ty.pr (Ty.agg [(Ty.val (Value.int .i32 ((cs.getD ((leads.getD k 0)).toNat D0)).1)), (Ty.lst Ty.ints ((cs.getD ((leads.getD k 0)).toNat D0)).2)])), (Ty.pr (Ty.lst Ty.ints E)), (Ty.pr (Ty.lst Ty.ints (fromL (tHd n.toNat l cs leads k) E))), (Ty.pr (Ty.lst Ty.ints ((fromL (tHd n.toNat l cs leads k) E).drop 1)))] i_ Pr.any) ok11 rfl (by decide) rfl ⟨?_, ?_, ?_, ?_, ?_, ?_, ?_, ?_, ?_, ?_, ?_, ?_, ?_, ?_, ?_, trivial⟩ ?_
    · intro ax tx hs okx sm
      exact run_plain rfl (y_move (kp (sm 11 rfl) hs q47))
    · intro ax tx hs okx sm
      exact run_plain rfl (y_move (kp (sm 11 rfl) hs q47))
    · intro ax tx hs okx sm
      exact run_plain rfl (y_move (kp (sm 11 rfl) hs q47))
    · intro ax tx hs okx sm d0
      have e2 := ed d0 rfl rfl rfl
      exact run_plain rfl (own_len Try.underlying29 (al (R := (Pr.own 5 23 1 (List.length (tRows n.toNat l cs leads k)) (List.map Ty.ints (tRows n.toNat l cs leads k)))) e2 (Own.k0 o6 hs)))
    · intro ax tx hs okx sm d0
      have e3 := ed d0 rfl rfl rfl
      exact run_plain rfl (y_sub e3 rfl (w64 (by omega) (by omega)))
    · intro ax tx hs okx sm d0 d1
      have e1 := ed d0 rfl rfl rfl
      have e4 := ed d1 rfl rfl rfl
      exact run_plain rfl (own_index1 (i := ((((List.length (tRows n.toNat l cs leads k)) : Nat) : Int) - (1 : Int))) Try.underlying29 Try.inf23 (Own.k0 o6 hs) e1 e4 (by omega) (by omega))
    · intro ax tx hs okx sm d0
      have e5 := ed d0 rfl rfl rfl
      exact run_plain rfl (own_load Try.underlying23 rfl (Own.k0 o6 hs) e5 (lst_get Ty.ints (tRows n.toNat l cs leads k) [] (((((List.length (tRows n.toNat l cs leads k)) : Nat) : Int) - (1 : Int))).toNat (by omega)))
    · intro ax tx hs okx sm
      exact run_plain rfl (y_loadagg Try.underlying31 Try.inf31 (kp (sm 3 rfl) hs q49))
    · intro ax tx hs okx sm
      exact run_plain rfl (y_move (kp (sm 1 rfl) hs q48))
    · intro ax tx hs okx sm
      exact run_plain rfl (y_move (kp (sm 13 rfl) hs q52))
    · intro ax tx hs okx sm d0 d1
      have e8 := ed d0 rfl rfl rfl
      have e9 := ed d1 rfl rfl rfl
      exact run_plain rfl (y_indexc (i := (leads.getD k 0)) D0 Try.underlying22 Try.inf56 e8 e9 (by omega) (by omega) (by decide) (fun _ => rfl))
    · intro ax tx hs okx sm d0
      have e10 := ed d0 rfl rfl rfl
      exact run_plain rfl (y_loadagg Try.underlying56 Try.inf56 e10)
    · intro ax tx hs okx sm d0 d1
      have e7 := ed d0 rfl rfl rfl
      have e11 := ed d1 rfl rfl rfl
      exact run_plain rfl ((y_call #[ax.eval (.tmp 42), ax.eval (.tmp 46)] Try.func48 rfl rfl (by simp only [List.map_toArray, List.map_cons, List.map_nil]) (changes_fn (nm) (n) (l) (((cs.getD ((leads.getD k 0)).toNat D0)).1) (((cs.getD ((leads.getD k 0)).toNat D0)).2) _ _ _ e7 e11 (by first | omega | assumption) (by first | omega | assumption) (by first | omega | assumption))).mono (fun τ _ h => cvt (σ := τ) (T := (Ty.lst Ty.ints (endsL l ((((cs.getD ((leads.getD k 0)).toNat D0)).1), (((cs.getD ((leads.getD k 0)).toNat D0)).2))))) (U := (Ty.lst Ty.ints E)) (by rw [hE]; rfl) h))
    · intro ax tx hs okx sm d0 d1 d2
      have e6 := ed d0 rfl rfl rfl
      have e12 := ed d1 rfl rfl rfl
      exact run_plain rfl ((y_call #[ax.eval (.tmp 41), ax.eval (.tmp 47)] Try.func83 rfl rfl (by simp only [List.map_toArray, List.map_cons, List.map_nil]) (from_fn (((tRows n.toNat l cs leads k).getD (((((List.length (tRows n.toNat l cs leads k)) : Nat) : Int) - (1 : Int))).toNat [])) (E) _ _ _ e6 e12 (by first | omega | assumption) (by first | omega | assumption) (by first | omega | assumption))).mono (fun τ _ h => cvt (σ := τ) (T := (Ty.lst Ty.ints (fromL (((tRows n.toNat l cs leads k).getD (((((List.length (tRows n.toNat l cs leads k)) : Nat) : Int) - (1 : Int))).toNat [])) (E)))) (U := (Ty.lst Ty.ints (fromL (tHd n.toNat l cs leads k) E))) (by rw [hR]) h))
    · intro ax tx hs okx sm d0
      have e13 := ed d0 rfl rfl rfl
      exact run_plain rfl (y_drop Try.underlying29 Try.inf23 e13 (toN (σ := tx) rfl (by omega)) (by omega))
    intro a13 s11 D10
    have ok12 := D10.ok
    have F12 := F11.step0 D10.stp
    have q53 := D10.kt q46 rfl
    have q54 := D10.kt q47 rfl
    have q55 := D10.kt q48 rfl
    have q56 := D10.kt q49 rfl
    have q57 := D10.kt q50 rfl
    have q58 := D10.kt q51 rfl
    have o7 := Own.k0 o6 D10.stp
    have q59 : At (Ty.val x11_0) s11 a13 (.tmp 35) := D10.done 0 (by decide)
    have q60 : At (Ty.lst Ty.ints ((fromL (tHd n.toNat l cs leads k) E).drop 1)) s11 a13 (.tmp 49) := D10.done 14 (by decide)
    have b3 := sl_le q60
    clear D10
    refine tailL (L := [5]) (R := (fun v τ => Own τ 5 23 1 v ((List.length (tRows n.toNat l cs leads k)) + (List.length ((fromL (tHd n.toNat l cs leads k) E).drop 1))) ((List.map Ty.ints (tRows n.toNat l cs leads k)) ++ (List.map Ty.ints ((fromL (tHd n.toNat l cs leads k) E).drop 1))))) rfl rfl (by decide) ok12 (YldM.toL (m_append Try.underlying29 Try.inf23 (by decide) rfl (by decide) (al (R := (Pr.own 5 23 1 (List.length (tRows n.toNat l cs leads k)) (List.map Ty.ints (tRows n.toNat l cs leads k)))) q59 o7) q60 (one_map (fun _ => one_sl)) (by omega) (by omega))) (fun a14 s12 hs2 ok13 r2 sm2 => ?_)
    have F13 := F12.stepL hs2 (by decide)
    have q61 := kpL hs2 (by decide) (sm2 31 (by decide)) q53
    have q62 := kpL hs2 (by decide) (sm2 11 (by decide)) q54
    have q63 := kpL hs2 (by decide) (sm2 1 (by decide)) q55
    have q64 := kpL hs2 (by decide) (sm2 3 (by decide)) q56
    have q65 := kpL hs2 (by decide) (sm2 29 (by decide)) q57
    have q66 := kpL hs2 (by decide) (sm2 30 (by decide)) q58
    obtain ⟨x2, hx2⟩ : ∃ x, a14.eval (.tmp 50) = x := ⟨_, rfl⟩
    have q67 : At (Ty.val x2) s12 a14 (.tmp 50) := hx2
    have o8 : Own s12 5 23 1 x2 (List.length ((tRows n.toNat l cs leads k) ++ ((fromL (tHd n.toNat l cs leads k) E).drop 1))) (List.map Ty.ints ((tRows n.toNat l cs leads k) ++ ((fromL (tHd n.toNat l cs leads k) E).drop 1))) := al2 (R := (Pr.own 5 23 1 (List.length ((tRows n.toNat l cs leads k) ++ ((fromL (tHd n.toNat l cs leads k) E).drop 1))) (List.map Ty.ints ((tRows n.toNat l cs leads k) ++ ((fromL (tHd n.toNat l cs leads k) E).drop 1))))) hx2 (cvo (by simp) (by first | (rw [List.map_append]; rfl) | simp) r2)
    clear r2
    refine tailL (L := []) (R := (fun v τ => Pr.has (Ty.pr (Ty.val x2)) τ v)) rfl rfl (by decide) ok13 (Yld.toL (y_assign q67)) (fun a15 s13 hs3 ok14 r3 sm3 => ?_)
    have F14 := F13.stepL hs3 (by decide)
    have q68 := kpL hs3 (by decide) (sm3 31 (by decide)) q61
    have q69 := kpL hs3 (by decide) (sm3 1 (by decide)) q63
    have q70 := kpL hs3 (by decide) (sm3 3 (by decide)) q64
    have q71 := kpL hs3 (by decide) (sm3 29 (by decide)) q65
    have q72 := kpL hs3 (by decide) (sm3 30 (by decide)) q66
    have o9 := Own.keepL o8 hs3 (by decide) (by decide)
    have q73 : At (Ty.val x2) s13 a15 (.tmp 11) := r3
    clear r3
    refine wpList_nil ?_
    refine bn ?_
    refine tn ?_
    refine reg (a := a15) (σ := s13) rfl (fun i_ => List.getD [(Ty.pr (Ty.nat (k + 1))), (Ty.pr (Ty.nat (k + 1)))] i_ Pr.any) ok14 rfl ⟨?_, ?_, trivial⟩ ?_
    · intro ax tx hs okx sm
      exact run_plain rfl ((y_add (kp (sm 31 rfl) hs q68) rfl (w64 (by omega) (by omega))).mono (fun τ _ h => cvi (σ := τ) (by first | omega | exact (Int.natCast_mul _ _).symm) h))
    · intro ax tx hs okx sm d0
      have e0 := ed d0 rfl rfl rfl
      exact run_plain rfl (y_move e0)
    intro a16 s14 D11
    have ok15 := D11.ok
    have F15 := F14.step0 D11.stp
    have q74 := D11.kt q69 rfl
    have q75 := D11.kt q70 rfl
    have q76 := D11.kt q71 rfl
    have q77 := D11.kt q72 rfl
    have q78 := D11.kt q73 rfl
    have o10 := Own.k0 o9 D11.stp
    have q79 : At (Ty.nat (k + 1)) s14 a16 (.tmp 31) := D11.done 1
    clear D11
    exact tn ⟨leads.length - ((k+1)), by omega, s14, (k+1), x2, rfl, F15, ok15, (cvi (by (first | rfl | omega | (simp_all; done) | (simp_all; omega))) q79), q78, q74, q75, q76, q77, (cvo (by (rw [tRows, ← hE])) (by (rw [tRows, ← hE])) o10), by omega, rfl⟩
   ·
    refine wp_exit ?_
    refine tx ?_
    refine tx ?_
    refine bx ?_
    refine tn ?_
    refine wp_seq ?_
    refine reg (a := a11) (σ := s9) rfl (fun i_ => List.getD [(Ty.pr (Ty.val x11_0)), (Ty.pr (Ty.val x11_0)), (Ty.pr (Ty.int (0 : Int)))] i_ Pr.any) ok10 rfl ⟨?_, ?_, ?_, trivial⟩ ?_
    · intro ax tx hs okx sm
      exact run_plain rfl (y_move (kp (sm 11 rfl) hs q40))
    · intro ax tx hs okx sm d0 d1
      have e0 := ed d0 rfl rfl rfl
      exact run_plain rfl (y_assign e0)
    · intro ax tx hs okx sm d0 d1 d2
      exact run_plain rfl (y_assign rfl)
    intro a17 s15 D12
    have ok16 := D12.ok
    have F16 := F10.step0 D12.stp
    have o11 := Own.k0 o5 D12.stp
    have q80 : At (Ty.val x11_0) s15 a17 (.tmp 6) := D12.done 1
    have q81 : At (Ty.int (0 : Int)) s15 a17 (.tmp 7) := D12.done 2
    clear D12
    refine tn ?_
    refine wp_ret ?_
    obtain ⟨t3, e1, h1, q82⟩ := Own.seal o11 (by decide)
    rw [← e1]
    have F17 := F16.step h1 (by decide)
    have q83 : At (Ty.lst Ty.ints (tRows n.toNat l cs leads k)) t3 a17 (.tmp 6) := by have e : a17.eval (.tmp 6) = x11_0 := q80; show Ty.has _ _ _; rw [e]; exact q82
    have q84 := Ty.up (Ty.int (0 : Int)) (h1.le (by decide)) q81
    exact retL2 rfl ok16 F17 (hasT2 (cvt (by (rw [if_pos h0, show k = leads.length by omega])) q83) (cvi (by (exact h0.symm)) q84))

theorem Try.inf42 : Info Try.prog 42 (.agg #[.int .i64 0, .bool false, .bool false, .int .i64 0, .int .i64 0]) 5 32 := by unfold Info; kernel_rfl
theorem Try.fld42_2 : fieldOf Try.prog 42 2 = some (4, 2) := by kernel_rfl
theorem Try.fld42_3 : fieldOf Try.prog 42 3 = some (3, 3) := by kernel_rfl
theorem Try.fld42_4 : fieldOf Try.prog 42 4 = some (3, 4) := by kernel_rfl
set_option maxHeartbeats 4000000 in
set_option maxRecDepth 100000 in
theorem prove_fn (nm : ByteArray) (n : Int) (l : List (List Int)) (cs : List BCall) (leads : List Int) (σ : GW)  (v0 v1 v2 : Value) (hv0 : Ty.has (Ty.agg [(Ty.val (Value.string nm)), (Ty.int n), (Ty.lst Ty.ints l)]) σ v0) (hv1 : Ty.has (Ty.lstc 2 callC cs) σ v1) (hv2 : Ty.has (Ty.lst Ty.int leads) σ v2)  (hnm : nm.size ≤ 1099511627776) (hn : -9223372036854775808 ≤ n ∧ n ≤ 9223372036854775807) :
    FnC Try.prog 22 #[v0, v1, v2] σ (Ty.tup2 (Ty.agg [(Ty.nat (if touchMay nm n l cs leads = 0 then leads.length * l.length else 0)), (Ty.bool (if touchMay nm n l cs leads = 0 then rndB (tRows n.toNat l cs leads leads.length) else false)), (Ty.bool (if touchMay nm n l cs leads = 0 then (prO (tRows n.toNat l cs leads leads.length)).isNone else false)), (Ty.nat (if touchMay nm n l cs leads = 0 then agnL (tRows n.toNat l cs leads leads.length) else 0)), (Ty.int (if touchMay nm n l cs leads = 0 then befL (tRows n.toNat l cs leads leads.length) else 0))]) (Ty.int (touchMay nm n l cs leads))) := by
 refine fn_intro0 Try.func22 rfl Try.ntmps22 (Nat.le_of_ble_eq_true rfl) (fun s0 a0 hle F0 ok0 hargs => ?_)
 have p0 : At (Ty.agg [(Ty.val (Value.string nm)), (Ty.int n), (Ty.lst Ty.ints l)]) s0 a0 (.tmp 0) := by have e := hargs 0 _ rfl; show Ty.has _ _ _; rw [e]; exact Ty.up _ hle hv0
 have p1 : At (Ty.lstc 2 callC cs) s0 a0 (.tmp 1) := by have e := hargs 1 _ rfl; show Ty.has _ _ _; rw [e]; exact Ty.up _ hle hv1
 have b1 := sl_le p1
 have p2 : At (Ty.lst Ty.int leads) s0 a0 (.tmp 2) := by have e := hargs 2 _ rfl; show Ty.has _ _ _; rw [e]; exact Ty.up _ hle hv2
 have b2 := sl_le p2
 clear hargs
 refine wp_seq ?_
 refine reg (a := a0) (σ := s0) rfl (fun i_ => List.getD [(Ty.pr (Ty.ref [(Ty.val (Value.string nm)), (Ty.int n), (Ty.lst Ty.ints l)])), (Pr.ownp 4 [(Ty.int (0 : Int)), (Ty.bool false), (Ty.bool false), (Ty.int (0 : Int)), (Ty.int (0 : Int))]), (Ty.pr (Ty.int (0 : Int)))] i_ Pr.any) ok0 rfl ⟨?_, ?_, ?_, trivial⟩ ?_
 · intro ax tx hs okx sm
   exact run_plain rfl (y_boxagg (kp (sm 0 rfl) hs p0))
 · intro ax tx hs okx sm
   exact run_plain rfl (y_alloc Try.inf42 rfl (alloc_vals (vs := [.int .i64 0, .bool false, .bool false, .int .i64 0, .int .i64 0]) rfl))
 · intro ax tx hs okx sm
   exact run_plain rfl (y_assign rfl)
 intro a1 s1 D1
 have ok1 := D1.ok
 have F1 := F0.step0 D1.stp
 have q1 := D1.kt p1 rfl
 have q2 := D1.kt p2 rfl
 have q3 : At (Ty.ref [(Ty.val (Value.string nm)), (Ty.int n), (Ty.lst Ty.ints l)]) s1 a1 (.tmp 3) := D1.done 0
 obtain ⟨x1, hx1⟩ : ∃ x, a1.eval (.tmp 6) = x := ⟨_, rfl⟩
 have q4 : At (Ty.val x1) s1 a1 (.tmp 6) := hx1
 have o1 : OwnP s1 4 x1 [(Ty.int (0 : Int)), (Ty.bool false), (Ty.bool false), (Ty.int (0 : Int)), (Ty.int (0 : Int))] := al2 (R := (Pr.ownp 4 [(Ty.int (0 : Int)), (Ty.bool false), (Ty.bool false), (Ty.int (0 : Int)), (Ty.int (0 : Int))])) hx1 (D1.done 1)
 clear D1
 refine tn ?_
 refine wp_seq ?_
 refine reg (a := a1) (σ := s1) rfl (fun i_ => List.getD [(Ty.pr (Ty.agg [(Ty.val (Value.string nm)), (Ty.int n), (Ty.lst Ty.ints l)])), (Ty.pr (Ty.lstc 2 callC cs)), (Ty.pr (Ty.lst Ty.int leads)), (Ty.pr (Ty.tup2 (Ty.lst Ty.ints (if touchMay nm n l cs leads = 0 then (tRows n.toNat l cs leads leads.length) else [])) (Ty.int (touchMay nm n l cs leads)))), (Ty.pr (Ty.tup2 (Ty.lst Ty.ints (if touchMay nm n l cs leads = 0 then (tRows n.toNat l cs leads leads.length) else [])) (Ty.int (touchMay nm n l cs leads)))), (Ty.pr (Ty.lst Ty.ints (if touchMay nm n l cs leads = 0 then (tRows n.toNat l cs leads leads.length) else []))), (Ty.pr (Ty.int (touchMay nm n l cs leads))), (Ty.pr (Ty.lst Ty.ints (if touchMay nm n l cs leads = 0 then (tRows n.toNat l cs leads leads.length) else []))), (Ty.pr (Ty.int (touchMay nm n l cs leads)))] i_ Pr.any) ok1 rfl ⟨?_, ?_, ?_, ?_, ?_, ?_, ?_, ?_, ?_, trivial⟩ ?_
 · intro ax tx hs okx sm
   exact run_plain rfl (y_loadagg Try.underlying31 Try.inf31 (kp (sm 3 rfl) hs q3))
 · intro ax tx hs okx sm
   exact run_plain rfl (y_move (kp (sm 1 rfl) hs q1))
 · intro ax tx hs okx sm
   exact run_plain rfl (y_move (kp (sm 2 rfl) hs q2))
 · intro ax tx hs okx sm d0 d1 d2
   have e0 := ed d0 rfl rfl rfl
   have e1 := ed d1 rfl rfl rfl
   have e2 := ed d2 rfl rfl rfl
   exact run_plain rfl (y_call #[ax.eval (.tmp 19), ax.eval (.tmp 20), ax.eval (.tmp 21)] Try.func54 rfl rfl (by simp only [List.map_toArray, List.map_cons, List.map_nil]) (callRows_fn (nm) (n) (l) (cs) (leads) _ _ _ _ e0 e1 e2 (by first | omega | assumption) (by first | omega | assumption)))
 · intro ax tx hs okx sm d0
   have e3 := ed d0 rfl rfl rfl
   exact run_plain rfl (y_move e3)
 · intro ax tx hs okx sm d0
   have e4 := ed d0 rfl rfl rfl
   exact run_plain rfl (y_ext2_0 e4)
 · intro ax tx hs okx sm d0 d1
   have e4 := ed d0 rfl rfl rfl
   exact run_plain rfl (y_ext2_1 e4)
 · intro ax tx hs okx sm d0 d1 d2 d3 d4 d5 d6 d7 d8
   have e5 := ed d0 rfl rfl rfl
   exact run_plain rfl (y_assign e5)
 · intro ax tx hs okx sm d0 d1 d2 d3 d4 d5 d6 d7 d8 d9
   have e6 := ed d0 rfl rfl rfl
   exact run_plain rfl (y_assign e6)
 intro a2 s2 D2
 have ok2 := D2.ok
 have F2 := F1.step0 D2.stp
 have q5 := D2.kt q4 rfl
 have o2 := OwnP.k0 o1 D2.stp
 have q6 : At (Ty.lst Ty.ints (if touchMay nm n l cs leads = 0 then (tRows n.toNat l cs leads leads.length) else [])) s2 a2 (.tmp 8) := D2.done 7
 have q7 : At (Ty.int (touchMay nm n l cs leads)) s2 a2 (.tmp 9) := D2.done 8
 clear D2
 refine tn ?_
 refine wp_seq ?_
 refine wp_seq ?_
 refine reg (a := a2) (σ := s2) rfl (fun i_ => List.getD [(Ty.pr (Ty.int (touchMay nm n l cs leads))), (Ty.pr (Ty.bool (decide ((touchMay nm n l cs leads) ≠ (0 : Int)))))] i_ Pr.any) ok2 rfl ⟨?_, ?_, trivial⟩ ?_
 · intro ax tx hs okx sm
   exact run_plain rfl (y_move (kp (sm 9 rfl) hs q7))
 · intro ax tx hs okx sm d0
   have e0 := ed d0 rfl rfl rfl
   exact run_plain rfl (y_neq e0 rfl)
 intro a3 s3 D3
 have ok3 := D3.ok
 have F3 := F2.step0 D3.stp
 have q8 := D3.kt q5 rfl
 have q9 := D3.kt q6 rfl
 have q10 := D3.kt q7 rfl
 have o3 := OwnP.k0 o2 D3.stp
 have q11 : At (Ty.bool (decide ((touchMay nm n l cs leads) ≠ (0 : Int)))) s3 a3 (.tmp 26) := D3.done 1
 clear D3
 refine tn ?_
 refine cond_p (p := ((touchMay nm n l cs leads) ≠ (0 : Int))) q11 (fun c1 => ?_) (fun c1 => ?_)
 ·
  refine wp_seq ?_
  refine reg2 (a := a3) (σ := s3) rfl 2 (fun i_ => List.getD [(Ty.pr (Ty.agg [(Ty.int (0 : Int)), (Ty.bool false), (Ty.bool false), (Ty.int (0 : Int)), (Ty.int (0 : Int))])), (Ty.pr (Ty.int (touchMay nm n l cs leads)))] i_ Pr.any) ok3 rfl (by decide) rfl ⟨?_, ?_, trivial⟩ ?_
  · intro ax tx hs okx sm
    exact run_plain rfl (y_bld [] [(Ty.int (0 : Int)), (Ty.bool false), (Ty.bool false), (Ty.int (0 : Int)), (Ty.int (0 : Int))] (l := [(0, 1), (1, 1), (2, 1), (3, 1), (4, 1)]) rfl Try.inf42 rfl (alloc_vals (vs := [.int .i64 0, .bool false, .bool false, .int .i64 0, .int .i64 0]) rfl) rfl (by intro p hp; cases hp))
  · intro ax tx hs okx sm d0
    exact run_plain rfl (y_move (kp (sm 9 rfl) hs q10))
  intro a4 s4 D4
  have ok4 := D4.ok
  have F4 := F3.step0 D4.stp
  have q12 := D4.kt q8 rfl
  have o4 := OwnP.k0 o3 D4.stp
  have q13 : At (Ty.agg [(Ty.int (0 : Int)), (Ty.bool false), (Ty.bool false), (Ty.int (0 : Int)), (Ty.int (0 : Int))]) s4 a4 (.tmp 27) := D4.done 0 (by decide)
  have q14 : At (Ty.int (touchMay nm n l cs leads)) s4 a4 (.tmp 28) := D4.done 1 (by decide)
  clear D4
  refine tailL0 (L := [4]) (R := (fun _ τ => OwnP τ 4 x1 [(Ty.int (0 : Int)), (Ty.bool false), (Ty.bool false), (Ty.int (0 : Int)), (Ty.int (0 : Int))])) rfl rfl (YldM.toL (m_storeagg Try.inf42 (by decide) o4 q12 rfl q13 (by intro U hU; simp only [List.mem_cons, List.not_mem_nil, or_false] at hU; rcases hU with rfl | rfl | rfl | rfl | rfl <;> first | exact one_val rfl | exact one_sl | exact one_ref))) (fun v1 s5 hs1 r1 => ?_)
  have F5 := F4.stepL hs1 (by decide)
  have q15 := kpL hs1 (by decide) rfl q12
  have q16 := kpL hs1 (by decide) rfl q14
  have o5 : OwnP s5 4 x1 [(Ty.int (0 : Int)), (Ty.bool false), (Ty.bool false), (Ty.int (0 : Int)), (Ty.int (0 : Int))] := r1
  clear r1
  refine tailL (L := []) (R := (fun v τ => Pr.has (Ty.pr (Ty.int (touchMay nm n l cs leads))) τ v)) rfl rfl (by decide) ok4 (Yld.toL (y_assign q16)) (fun a5 s6 hs2 ok5 r2 sm1 => ?_)
  have F6 := F5.stepL hs2 (by decide)
  have q18 := kpL hs2 (by decide) (sm1 6 (by decide)) q15
  have o6 := OwnP.keepL o5 hs2 (by decide) (by decide)
  have q19 : At (Ty.int (touchMay nm n l cs leads)) s6 a5 (.tmp 7) := r2
  clear r2
  refine wpList_nil ?_
  refine tn ?_
  refine wp_ret ?_
  refine tr ?_
  have o7 : OwnP s6 4 x1 [(Ty.int (0 : Int)), (Ty.bool false), (Ty.bool false), (Ty.int (0 : Int)), (Ty.int (0 : Int))] := o6
  have o8 : OwnP s6 4 x1 [(Ty.nat (if touchMay nm n l cs leads = 0 then leads.length * l.length else 0)), (Ty.bool false), (Ty.bool false), (Ty.int (0 : Int)), (Ty.int (0 : Int))] := cvop (by rw [show (Ty.int (0 : Int)) = (Ty.nat (if touchMay nm n l cs leads = 0 then leads.length * l.length else 0)) from by (rw [if_neg c1]; first | done | rfl)]) o7
  have o9 : OwnP s6 4 x1 [(Ty.nat (if touchMay nm n l cs leads = 0 then leads.length * l.length else 0)), (Ty.bool (if touchMay nm n l cs leads = 0 then rndB (tRows n.toNat l cs leads leads.length) else false)), (Ty.bool false), (Ty.int (0 : Int)), (Ty.int (0 : Int))] := cvop (by rw [show (Ty.bool false) = (Ty.bool (if touchMay nm n l cs leads = 0 then rndB (tRows n.toNat l cs leads leads.length) else false)) from by (rw [if_neg c1]; first | done | rfl)]) o8
  have o10 : OwnP s6 4 x1 [(Ty.nat (if touchMay nm n l cs leads = 0 then leads.length * l.length else 0)), (Ty.bool (if touchMay nm n l cs leads = 0 then rndB (tRows n.toNat l cs leads leads.length) else false)), (Ty.bool (if touchMay nm n l cs leads = 0 then (prO (tRows n.toNat l cs leads leads.length)).isNone else false)), (Ty.int (0 : Int)), (Ty.int (0 : Int))] := cvop (by rw [show (Ty.bool false) = (Ty.bool (if touchMay nm n l cs leads = 0 then (prO (tRows n.toNat l cs leads leads.length)).isNone else false)) from by (rw [if_neg c1]; first | done | rfl)]) o9
  have o11 : OwnP s6 4 x1 [(Ty.nat (if touchMay nm n l cs leads = 0 then leads.length * l.length else 0)), (Ty.bool (if touchMay nm n l cs leads = 0 then rndB (tRows n.toNat l cs leads leads.length) else false)), (Ty.bool (if touchMay nm n l cs leads = 0 then (prO (tRows n.toNat l cs leads leads.length)).isNone else false)), (Ty.nat (if touchMay nm n l cs leads = 0 then agnL (tRows n.toNat l cs leads leads.length) else 0)), (Ty.int (0 : Int))] := cvop (by rw [show (Ty.int (0 : Int)) = (Ty.nat (if touchMay nm n l cs leads = 0 then agnL (tRows n.toNat l cs leads leads.length) else 0)) from by (rw [if_neg c1]; first | done | rfl)]) o10
  have o12 : OwnP s6 4 x1 [(Ty.nat (if touchMay nm n l cs leads = 0 then leads.length * l.length else 0)), (Ty.bool (if touchMay nm n l cs leads = 0 then rndB (tRows n.toNat l cs leads leads.length) else false)), (Ty.bool (if touchMay nm n l cs leads = 0 then (prO (tRows n.toNat l cs leads leads.length)).isNone else false)), (Ty.nat (if touchMay nm n l cs leads = 0 then agnL (tRows n.toNat l cs leads leads.length) else 0)), (Ty.int (if touchMay nm n l cs leads = 0 then befL (tRows n.toNat l cs leads leads.length) else 0))] := cvop (by rw [show (Ty.int (0 : Int)) = (Ty.int (if touchMay nm n l cs leads = 0 then befL (tRows n.toNat l cs leads leads.length) else 0)) from by (rw [if_neg c1]; first | done | rfl)]) o11
  exact retL2c (k := 4) (ts := [(Ty.nat (if touchMay nm n l cs leads = 0 then leads.length * l.length else 0)), (Ty.bool (if touchMay nm n l cs leads = 0 then rndB (tRows n.toNat l cs leads leads.length) else false)), (Ty.bool (if touchMay nm n l cs leads = 0 then (prO (tRows n.toNat l cs leads leads.length)).isNone else false)), (Ty.nat (if touchMay nm n l cs leads = 0 then agnL (tRows n.toNat l cs leads leads.length) else 0)), (Ty.int (if touchMay nm n l cs leads = 0 then befL (tRows n.toNat l cs leads leads.length) else 0))]) rfl ok5 F6 Try.underlying42 Try.inf42 (al (R := (Pr.ownp 4 [(Ty.nat (if touchMay nm n l cs leads = 0 then leads.length * l.length else 0)), (Ty.bool (if touchMay nm n l cs leads = 0 then rndB (tRows n.toNat l cs leads leads.length) else false)), (Ty.bool (if touchMay nm n l cs leads = 0 then (prO (tRows n.toNat l cs leads leads.length)).isNone else false)), (Ty.nat (if touchMay nm n l cs leads = 0 then agnL (tRows n.toNat l cs leads leads.length) else 0)), (Ty.int (if touchMay nm n l cs leads = 0 then befL (tRows n.toNat l cs leads leads.length) else 0))])) q18 o12) (fun v_ hv_ => (hasT2 hv_ q19))
 ·
  have h0 := Classical.not_not.1 c1; obtain ⟨hok, hnn, hlo, hlh, hin, hlim⟩ := touchMay_ok h0; have hl1 := hok.meth.l1; have hl2 := hok.meth.l2; have hn1 := hok.meth.n1; have hn2 := hok.meth.n2; obtain ⟨R, hR⟩ : ∃ R, R = (tRows n.toNat l cs leads leads.length) := ⟨_, rfl⟩; have hRl : R.length = leads.length * l.length + 1 := (by rw [hR]; exact tRows_len hok hin _ (Nat.le_refl _)); have hrw : ∀ i, i < R.length → IsRow (R.getD i []) ∧ (R.getD i []).length = n.toNat := (fun i hi => by rw [hR]; exact tRows_row hok hin (by omega)); have hlst := (hrw (R.length - 1) (by omega)).1.le
  have q20 : At (Ty.lst Ty.ints R) s3 a3 (.tmp 8) := cvt (T := (Ty.lst Ty.ints (if touchMay nm n l cs leads = 0 then (tRows n.toNat l cs leads leads.length) else []))) (U := (Ty.lst Ty.ints R)) (by rw [if_pos h0, hR]) q9
  refine wp_skip ?_
  refine tn ?_
  refine wp_seq ?_
  refine reg (a := a3) (σ := s3) rfl (fun i_ => List.getD [(Ty.pr (Ty.lst Ty.ints R)), (Ty.pr (Ty.nat (List.length R))), (Ty.pr (Ty.nat ((List.length R) - 1))), (Ty.pr (Ty.nat ((List.length R) - 1)))] i_ Pr.any) ok3 rfl ⟨?_, ?_, ?_, ?_, trivial⟩ ?_
  · intro ax tx hs okx sm
    exact run_plain rfl (y_move (kp (sm 8 rfl) hs q20))
  · intro ax tx hs okx sm d0
    have e0 := ed d0 rfl rfl rfl
    exact run_plain rfl (y_len Try.underlying29 e0)
  · intro ax tx hs okx sm d0
    have e1 := ed d0 rfl rfl rfl
    exact run_plain rfl ((y_sub e1 rfl (w64 (by omega) (by omega))).mono (fun τ _ h => cvi (σ := τ) (by omega) h))
  · intro ax tx hs okx sm d0 d1 d2 d3
    have e2 := ed d0 rfl rfl rfl
    exact run_plain rfl (y_assign e2)
  intro a6 s7 D5
  have ok6 := D5.ok
  have F7 := F3.step0 D5.stp
  have q21 := D5.kt q8 rfl
  have q22 := D5.kt q20 rfl
  have o13 := OwnP.k0 o3 D5.stp
  have q23 : At (Ty.nat ((List.length R) - 1)) s7 a6 (.tmp 10) := D5.done 3
  clear D5
  refine tn ?_
  refine wp_seq ?_
  refine reg2 (a := a6) (σ := s7) rfl 9 (fun i_ => List.getD [(Ty.pr (Ty.nat ((List.length R) - 1))), (Ty.pr (Ty.lst Ty.ints R)), (Ty.pr (Ty.nat ((List.length R) - 1))), (Ty.pr (Ty.ref [(Ty.lst Ty.int (R.getD ((List.length R) - 1) []))])), (Ty.pr (Ty.lst Ty.int (R.getD ((List.length R) - 1) []))), (Ty.pr (Ty.nat (rankL ((R.getD ((List.length R) - 1) []))))), (Ty.pr (Ty.bool (decide ((((rankL ((R.getD ((List.length R) - 1) []))) : Nat) : Int) = (0 : Int))))), (Ty.pr (Ty.agg [(Ty.nat ((List.length R) - 1)), (Ty.bool (decide ((((rankL ((R.getD ((List.length R) - 1) []))) : Nat) : Int) = (0 : Int)))), (Ty.bool true), (Ty.int (0 : Int)), (Ty.int (0 : Int))])), (Pr.ownp 5 [(Ty.int (0 : Int)), (Ty.bool false), (Ty.bool false), (Ty.int (0 : Int)), (Ty.int (0 : Int))])] i_ Pr.any) ok6 rfl (by decide) rfl ⟨?_, ?_, ?_, ?_, ?_, ?_, ?_, ?_, ?_, trivial⟩ ?_
  · intro ax tx hs okx sm
    exact run_plain rfl (y_move (kp (sm 10 rfl) hs q23))
  · intro ax tx hs okx sm
    exact run_plain rfl (y_move (kp (sm 8 rfl) hs q22))
  · intro ax tx hs okx sm
    exact run_plain rfl (y_move (kp (sm 10 rfl) hs q23))
  · intro ax tx hs okx sm d0 d1
    have e1 := ed d0 rfl rfl rfl
    have e2 := ed d1 rfl rfl rfl
    exact run_plain rfl (y_index1 Try.underlying29 Try.inf23 e1 e2 (by omega) (lst_get Ty.ints R [] ((List.length R) - 1) (by omega)))
  · intro ax tx hs okx sm d0
    have e3 := ed d0 rfl rfl rfl
    exact run_plain rfl (y_load Try.underlying23 rfl e3 rfl)
  · intro ax tx hs okx sm d0
    have e4 := ed d0 rfl rfl rfl
    exact run_plain rfl (y_call #[ax.eval (.tmp 36)] Try.func55 rfl rfl (by simp only [List.map_toArray, List.map_cons, List.map_nil]) (rowPlace_fn ((R.getD ((List.length R) - 1) [])) _ _ e4 (by omega)))
  · intro ax tx hs okx sm d0
    have e5 := ed d0 rfl rfl rfl
    exact run_plain rfl (y_eql e5 rfl)
  · intro ax tx hs okx sm d0 d1
    have e0 := ed d0 rfl rfl rfl
    have e6 := ed d1 rfl rfl rfl
    exact run_plain rfl (y_bld [(0, (.tmp 32), (Ty.nat ((List.length R) - 1))), (1, (.tmp 38), (Ty.bool (decide ((((rankL ((R.getD ((List.length R) - 1) []))) : Nat) : Int) = (0 : Int))))), (2, ((Operand.const (Value.bool true))), (Ty.bool true))] [(Ty.int (0 : Int)), (Ty.bool false), (Ty.bool false), (Ty.int (0 : Int)), (Ty.int (0 : Int))] (l := [(0, 1), (1, 1), (2, 1), (3, 1), (4, 1)]) rfl Try.inf42 rfl (alloc_vals (vs := [.int .i64 0, .bool false, .bool false, .int .i64 0, .int .i64 0]) rfl) rfl (by intro p hp; simp only [List.mem_cons, List.not_mem_nil, or_false] at hp; rcases hp with rfl | rfl | rfl; exact ⟨one_val rfl, e0⟩; exact ⟨one_val rfl, e6⟩; exact ⟨one_val rfl, rfl⟩))
  · intro ax tx hs okx sm
    exact run_plain rfl (y_alloc Try.inf42 rfl (alloc_vals (vs := [.int .i64 0, .bool false, .bool false, .int .i64 0, .int .i64 0]) rfl))
  intro a7 s8 D6
  have ok7 := D6.ok
  have F8 := F7.step0 D6.stp
  have q24 := D6.kt q21 rfl
  have q25 := D6.kt q22 rfl
  have q26 := D6.kt q23 rfl
  have o14 := OwnP.k0 o13 D6.stp
  have q27 : At (Ty.agg [(Ty.nat ((List.length R) - 1)), (Ty.bool (decide ((((rankL ((R.getD ((List.length R) - 1) []))) : Nat) : Int) = (0 : Int)))), (Ty.bool true), (Ty.int (0 : Int)), (Ty.int (0 : Int))]) s8 a7 (.tmp 39) := D6.done 7 (by decide)
  obtain ⟨x2, hx2⟩ : ∃ x, a7.eval (.tmp 11) = x := ⟨_, rfl⟩
  have q28 : At (Ty.val x2) s8 a7 (.tmp 11) := hx2
  have o15 : OwnP s8 5 x2 [(Ty.int (0 : Int)), (Ty.bool false), (Ty.bool false), (Ty.int (0 : Int)), (Ty.int (0 : Int))] := al2 (R := (Pr.ownp 5 [(Ty.int (0 : Int)), (Ty.bool false), (Ty.bool false), (Ty.int (0 : Int)), (Ty.int (0 : Int))])) hx2 (D6.done 8 (by decide))
  clear D6
  refine tailL0 (L := [5]) (R := (fun _ τ => OwnP τ 5 x2 [(Ty.nat ((List.length R) - 1)), (Ty.bool (decide ((((rankL ((R.getD ((List.length R) - 1) []))) : Nat) : Int) = (0 : Int)))), (Ty.bool true), (Ty.int (0 : Int)), (Ty.int (0 : Int))])) rfl rfl (YldM.toL (m_storeagg Try.inf42 (by decide) o15 q28 rfl q27 (by intro U hU; simp only [List.mem_cons, List.not_mem_nil, or_false] at hU; rcases hU with rfl | rfl | rfl | rfl | rfl <;> first | exact one_val rfl | exact one_sl | exact one_ref))) (fun v2 s9 hs3 r3 => ?_)
  have F9 := F8.stepL hs3 (by decide)
  have q29 := kpL hs3 (by decide) rfl q24
  have q30 := kpL hs3 (by decide) rfl q25
  have q31 := kpL hs3 (by decide) rfl q26
  have q32 := kpL hs3 (by decide) rfl q28
  have o17 := OwnP.keepL o14 hs3 (by decide) (by decide)
  have o16 : OwnP s9 5 x2 [(Ty.nat ((List.length R) - 1)), (Ty.bool (decide ((((rankL ((R.getD ((List.length R) - 1) []))) : Nat) : Int) = (0 : Int)))), (Ty.bool true), (Ty.int (0 : Int)), (Ty.int (0 : Int))] := r3
  clear r3
  refine wpList_nil ?_
  refine tn ?_
  refine wp_seq ?_
  refine reg2 (a := a7) (σ := s9) rfl 1 (fun i_ => List.getD [(Pr.ownm Ty.int kI 6 (fun _ => none : Int → Option Int))] i_ Pr.any) ok7 rfl (by decide) rfl ⟨?_, trivial⟩ ?_
  · intro ax tx hs okx sm
    exact run_plain rfl (y_makemap 6)
  intro a8 s10 D7
  have ok8 := D7.ok
  have F10 := F9.step0 D7.stp
  have q34 := D7.kt q29 rfl
  have q35 := D7.kt q30 rfl
  have q36 := D7.kt q31 rfl
  have q37 := D7.kt q32 rfl
  have o18 := OwnP.k0 o17 D7.stp
  have o19 := OwnP.k0 o16 D7.stp
  obtain ⟨x3, hx3⟩ : ∃ x, a8.eval (.tmp 40) = x := ⟨_, rfl⟩
  have q38 : At (Ty.val x3) s10 a8 (.tmp 40) := hx3
  have o20 : OwnM Ty.int kI s10 6 x3 (fun _ => none : Int → Option Int) := al2 (R := (Pr.ownm Ty.int kI 6 (fun _ => none : Int → Option Int))) hx3 (D7.done 0 (by decide))
  clear D7
  refine tailL (L := []) (R := (fun v τ => Pr.has (Ty.pr (Ty.val x3)) τ v)) rfl rfl (by decide) ok8 (Yld.toL (y_assign q38)) (fun a9 s11 hs4 ok9 r4 sm2 => ?_)
  have F11 := F10.stepL hs4 (by decide)
  have q39 := kpL hs4 (by decide) (sm2 6 (by decide)) q34
  have q40 := kpL hs4 (by decide) (sm2 8 (by decide)) q35
  have q41 := kpL hs4 (by decide) (sm2 10 (by decide)) q36
  have q42 := kpL hs4 (by decide) (sm2 11 (by decide)) q37
  have o21 := OwnP.keepL o18 hs4 (by decide) (by decide)
  have o22 := OwnP.keepL o19 hs4 (by decide) (by decide)
  have o23 := OwnM.keepL o20 hs4 (by decide) (by decide)
  have q43 : At (Ty.val x3) s11 a9 (.tmp 12) := r4
  clear r4
  refine wpList_nil ?_
  refine tn ?_
  refine wp_seq ?_
  refine wp_seq ?_
  refine reg (a := a9) (σ := s11) rfl (fun i_ => List.getD [(Ty.pr (Ty.lst Ty.ints R)), (Ty.pr (Ty.nat ((List.length R) - 1))), (Ty.pr (Ty.lst Ty.ints (R.take ((List.length R) - 1)))), (Ty.pr (Ty.nat (List.length (R.take ((List.length R) - 1))))), (Ty.pr (Ty.int (0 : Int)))] i_ Pr.any) ok9 rfl ⟨?_, ?_, ?_, ?_, ?_, trivial⟩ ?_
  · intro ax tx hs okx sm
    exact run_plain rfl (y_move (kp (sm 8 rfl) hs q40))
  · intro ax tx hs okx sm
    exact run_plain rfl (y_move (kp (sm 10 rfl) hs q41))
  · intro ax tx hs okx sm d0 d1
    have e0 := ed d0 rfl rfl rfl
    have e1 := ed d1 rfl rfl rfl
    exact run_plain rfl (y_take Try.underlying29 Try.inf23 e0 e1 (by omega))
  · intro ax tx hs okx sm d0
    have e2 := ed d0 rfl rfl rfl
    exact run_plain rfl (y_len Try.underlying29 e2)
  · intro ax tx hs okx sm
    exact run_plain rfl (y_move rfl)
  intro a10 s12 D8
  have ok10 := D8.ok
  have F12 := F11.step0 D8.stp
  have q44 := D8.kt q39 rfl
  have q45 := D8.kt q42 rfl
  have q46 := D8.kt q43 rfl
  have o24 := OwnP.k0 o21 D8.stp
  have o25 := OwnP.k0 o22 D8.stp
  have o26 := OwnM.k0 o23 D8.stp
  have q47 : At (Ty.lst Ty.ints (R.take ((List.length R) - 1))) s12 a10 (.tmp 43) := D8.done 2
  have b3 := sl_le q47
  have q48 : At (Ty.nat (List.length (R.take ((List.length R) - 1)))) s12 a10 (.tmp 44) := D8.done 3
  have q49 : At (Ty.int (0 : Int)) s12 a10 (.tmp 45) := D8.done 4
  clear D8
  have hTl : (List.take ((List.length R) - 1) R).length = R.length - 1 := (by rw [List.length_take]; omega)
  refine tn ?_
  refine wp_block ?_
  refine loop (fun n1 a11 w1 => ∃ (t1 : GW) (k : Nat), t1.w = w1 ∧ FromL [] s0 t1 ∧ Ok 69 a11 ∧ At (Ty.nat k) t1 a11 (.tmp 45) ∧ At (Ty.val x1) t1 a11 (.tmp 6) ∧ At (Ty.val x2) t1 a11 (.tmp 11) ∧ At (Ty.val x3) t1 a11 (.tmp 12) ∧ At (Ty.lst Ty.ints (R.take ((List.length R) - 1))) t1 a11 (.tmp 43) ∧ At (Ty.nat (List.length (R.take ((List.length R) - 1)))) t1 a11 (.tmp 44) ∧ OwnM Ty.int kI t1 6 x3 (mapOf R k) ∧ OwnP t1 4 x1 [(Ty.int (0 : Int)), (Ty.bool false), (Ty.bool false), (Ty.int (0 : Int)), (Ty.int (0 : Int))] ∧ OwnP t1 5 x2 [(Ty.nat ((List.length R) - 1)), (Ty.bool (decide ((((rankL ((R.getD ((List.length R) - 1) []))) : Nat) : Int) = (0 : Int)))), (Ty.bool true), (Ty.int (0 : Int)), (Ty.int (0 : Int))] ∧ (k ≤ (List.take ((List.length R) - 1) R).length) ∧ (prF R (R.length - 1 - k) k = prO R) ∧ n1 = (List.take ((List.length R) - 1) R).length - k) ((List.take ((List.length R) - 1) R).length - (0)) ?_ ?_
  ·
   exact ⟨s12, 0, rfl, F12, ok10, (cvi (by (first | rfl | omega | (simp_all; done) | (simp_all; omega))) q49), q44, q45, q46, q47, q48, (cvm (by (rfl)) o26), o24, o25, by omega, rfl, rfl⟩
  ·
   rintro n2 a12 w2 ⟨t2, k, rfl, F13, ok11, q50, q51, q52, q53, q54, q55, o27, o28, o29, hk, hp, rfl⟩
   refine wp_seq ?_
   refine reg (a := a12) (σ := t2) rfl (fun i_ => List.getD [(Ty.pr (Ty.bool (decide (((k : Nat) : Int) < (((List.length (R.take ((List.length R) - 1))) : Nat) : Int)))))] i_ Pr.any) ok11 rfl ⟨?_, trivial⟩ ?_
   · intro ax tx hs okx sm
     exact run_plain rfl (y_lss (kp (sm 45 rfl) hs q50) (kp (sm 44 rfl) hs q55))
   intro a13 s13 D9
   have ok12 := D9.ok
   have F14 := F13.step0 D9.stp
   have q56 := D9.kt q50 rfl
   have q57 := D9.kt q51 rfl
   have q58 := D9.kt q52 rfl
   have q59 := D9.kt q53 rfl
   have q60 := D9.kt q54 rfl
   have q61 := D9.kt q55 rfl
   have o30 := OwnM.k0 o27 D9.stp
   have o31 := OwnP.k0 o28 D9.stp
   have o32 := OwnP.k0 o29 D9.stp
   have q62 : At (Ty.bool (decide (((k : Nat) : Int) < (((List.length (R.take ((List.length R) - 1))) : Nat) : Int)))) s13 a13 (.tmp 46) := D9.done 0
   clear D9
   refine tn ?_
   refine wp_seq ?_
   refine cond_p (p := (((k : Nat) : Int) < (((List.length (R.take ((List.length R) - 1))) : Nat) : Int))) q62 (fun c2 => ?_) (fun c2 => ?_)
   ·
    have hkk : k < R.length - 1 := (by omega); have hfr := hrw k (by omega); have hln := hfr.1.le
    refine wp_skip ?_
    refine tn ?_
    refine wp_seq ?_
    refine wp_block ?_
    refine wp_seq ?_
    refine reg (a := a13) (σ := s13) rfl (fun i_ => List.getD [(Ty.pr (Ty.nat k)), (Ty.pr (Ty.ref [(Ty.lst Ty.int ((R.take ((List.length R) - 1)).getD k []))])), (Ty.pr (Ty.lst Ty.int ((R.take ((List.length R) - 1)).getD k []))), (Ty.pr (Ty.nat k)), (Ty.pr (Ty.lst Ty.int ((R.take ((List.length R) - 1)).getD k [])))] i_ Pr.any) ok12 rfl ⟨?_, ?_, ?_, ?_, ?_, trivial⟩ ?_
    · intro ax tx hs okx sm
      exact run_plain rfl (y_move (kp (sm 45 rfl) hs q56))
    · intro ax tx hs okx sm
      exact run_plain rfl (y_index1 Try.underlying29 Try.inf23 (kp (sm 43 rfl) hs q60) (kp (sm 45 rfl) hs q56) (by omega) (lst_get Ty.ints (R.take ((List.length R) - 1)) [] k (by omega)))
    · intro ax tx hs okx sm d0
      have e1 := ed d0 rfl rfl rfl
      exact run_plain rfl (y_load Try.underlying23 rfl e1 rfl)
    · intro ax tx hs okx sm d0 d1 d2 d3
      have e0 := ed d0 rfl rfl rfl
      exact run_plain rfl (y_assign e0)
    · intro ax tx hs okx sm d0 d1 d2 d3 d4 d5
      have e2 := ed d0 rfl rfl rfl
      exact run_plain rfl (y_assign e2)
    intro a14 s14 D10
    have ok13 := D10.ok
    have F15 := F14.step0 D10.stp
    have q63 := D10.kt q56 rfl
    have q64 := D10.kt q57 rfl
    have q65 := D10.kt q58 rfl
    have q66 := D10.kt q59 rfl
    have q67 := D10.kt q60 rfl
    have q68 := D10.kt q61 rfl
    have o33 := OwnM.k0 o30 D10.stp
    have o34 := OwnP.k0 o31 D10.stp
    have o35 := OwnP.k0 o32 D10.stp
    have q69 : At (Ty.nat k) s14 a14 (.tmp 13) := D10.done 3
    have q70 : At (Ty.lst Ty.int ((R.take ((List.length R) - 1)).getD k [])) s14 a14 (.tmp 14) := D10.done 4
    clear D10
    have q71 : At (Ty.lst Ty.int (R.getD k [])) s14 a14 (.tmp 14) := (cvt (by (rw [getD_takeD [] (by omega)])) q70)
    refine tn ?_
    refine wp_seq ?_
    refine reg (a := a14) (σ := s14) rfl (fun i_ => List.getD [(Ty.pr (Ty.lst Ty.int (R.getD k []))), (Ty.pr (Ty.nat (rankL ((R.getD k []))))), (Ty.pr (Ty.nat (rankL ((R.getD k [])))))] i_ Pr.any) ok13 rfl ⟨?_, ?_, ?_, trivial⟩ ?_
    · intro ax tx hs okx sm
      exact run_plain rfl (y_move (kp (sm 14 rfl) hs q71))
    · intro ax tx hs okx sm d0
      have e0 := ed d0 rfl rfl rfl
      exact run_plain rfl (y_call #[ax.eval (.tmp 50)] Try.func55 rfl rfl (by simp only [List.map_toArray, List.map_cons, List.map_nil]) (rowPlace_fn ((R.getD k [])) _ _ e0 (by omega)))
    · intro ax tx hs okx sm d0 d1 d2 d3
      have e1 := ed d0 rfl rfl rfl
      exact run_plain rfl (y_assign e1)
    intro a15 s15 D11
    have ok14 := D11.ok
    have F16 := F15.step0 D11.stp
    have q72 := D11.kt q63 rfl
    have q73 := D11.kt q64 rfl
    have q74 := D11.kt q65 rfl
    have q75 := D11.kt q66 rfl
    have q76 := D11.kt q67 rfl
    have q77 := D11.kt q68 rfl
    have q78 := D11.kt q69 rfl
    have o36 := OwnM.k0 o33 D11.stp
    have o37 := OwnP.k0 o34 D11.stp
    have o38 := OwnP.k0 o35 D11.stp
    have q79 : At (Ty.nat (rankL ((R.getD k [])))) s15 a15 (.tmp 15) := D11.done 2
    clear D11
    refine tn ?_
    refine wp_seq ?_
    refine wp_seq ?_
    refine reg (a := a15) (σ := s15) rfl (fun i_ => List.getD [(Ty.pr (Ty.val x3)), (Ty.pr (Ty.nat (rankL ((R.getD k []))))), (Ty.pr (Ty.tup2 (Ty.int (((mapOf R k) (((rankL ((R.getD k []))) : Nat) : Int)).getD 0)) (Ty.bool (Option.isSome ((mapOf R k) (((rankL ((R.getD k []))) : Nat) : Int)))))), (Ty.pr (Ty.tup2 (Ty.int (((mapOf R k) (((rankL ((R.getD k []))) : Nat) : Int)).getD 0)) (Ty.bool (Option.isSome ((mapOf R k) (((rankL ((R.getD k []))) : Nat) : Int)))))), (Ty.pr (Ty.int (((mapOf R k) (((rankL ((R.getD k []))) : Nat) : Int)).getD 0))), (Ty.pr (Ty.bool (Option.isSome ((mapOf R k) (((rankL ((R.getD k []))) : Nat) : Int))))), (Ty.pr (Ty.int (((mapOf R k) (((rankL ((R.getD k []))) : Nat) : Int)).getD 0))), (Ty.pr (Ty.bool (Option.isSome ((mapOf R k) (((rankL ((R.getD k []))) : Nat) : Int)))))] i_ Pr.any) ok14 rfl ⟨?_, ?_, ?_, ?_, ?_, ?_, ?_, ?_, trivial⟩ ?_
    · intro ax tx hs okx sm
      exact run_plain rfl (y_move (kp (sm 12 rfl) hs q75))
    · intro ax tx hs okx sm
      exact run_plain rfl (y_move (kp (sm 15 rfl) hs q79))
    · intro ax tx hs okx sm d0 d1
      have e0 := ed d0 rfl rfl rfl
      have e1 := ed d1 rfl rfl rfl
      exact run_plain rfl (y_lookup2 (i := (((rankL ((R.getD k []))) : Nat) : Int)) (z := 0) Try.underlying86 (keyInt Try.underlying3) Try.inf3 (fun _ => rfl) (OwnM.k0 o36 hs) e0 e1)
    · intro ax tx hs okx sm d0
      have e2 := ed d0 rfl rfl rfl
      exact run_plain rfl (y_move e2)
    · intro ax tx hs okx sm d0
      have e3 := ed d0 rfl rfl rfl
      exact run_plain rfl (y_ext2_0 e3)
    · intro ax tx hs okx sm d0 d1
      have e3 := ed d0 rfl rfl rfl
      exact run_plain rfl (y_ext2_1 e3)
    · intro ax tx hs okx sm d0 d1 d2 d3 d4 d5 d6
      have e4 := ed d0 rfl rfl rfl
      exact run_plain rfl (y_assign e4)
    · intro ax tx hs okx sm d0 d1 d2 d3 d4 d5 d6 d7 d8
      have e5 := ed d0 rfl rfl rfl
      exact run_plain rfl (y_assign e5)
    intro a16 s16 D12
    have ok15 := D12.ok
    have F17 := F16.step0 D12.stp
    have q80 := D12.kt q72 rfl
    have q81 := D12.kt q73 rfl
    have q82 := D12.kt q74 rfl
    have q83 := D12.kt q75 rfl
    have q84 := D12.kt q76 rfl
    have q85 := D12.kt q77 rfl
    have q86 := D12.kt q78 rfl
    have q87 := D12.kt q79 rfl
    have o39 := OwnM.k0 o36 D12.stp
    have o40 := OwnP.k0 o37 D12.stp
    have o41 := OwnP.k0 o38 D12.stp
    have q88 : At (Ty.int (((mapOf R k) (((rankL ((R.getD k []))) : Nat) : Int)).getD 0)) s16 a16 (.tmp 16) := D12.done 6
    have q89 : At (Ty.bool (Option.isSome ((mapOf R k) (((rankL ((R.getD k []))) : Nat) : Int)))) s16 a16 (.tmp 17) := D12.done 7
    clear D12
    refine tn ?_
    refine wp_seq ?_
    refine reg (a := a16) (σ := s16) rfl (fun i_ => List.getD [(Ty.pr (Ty.bool (Option.isSome ((mapOf R k) (((rankL ((R.getD k []))) : Nat) : Int)))))] i_ Pr.any) ok15 rfl ⟨?_, trivial⟩ ?_
    · intro ax tx hs okx sm
      exact run_plain rfl (y_move (kp (sm 17 rfl) hs q89))
    intro a17 s17 D13
    have ok16 := D13.ok
    have F18 := F17.step0 D13.stp
    have q90 := D13.kt q80 rfl
    have q91 := D13.kt q81 rfl
    have q92 := D13.kt q82 rfl
    have q93 := D13.kt q83 rfl
    have q94 := D13.kt q84 rfl
    have q95 := D13.kt q85 rfl
    have q96 := D13.kt q86 rfl
    have q97 := D13.kt q87 rfl
    have q98 := D13.kt q88 rfl
    have o42 := OwnM.k0 o39 D13.stp
    have o43 := OwnP.k0 o40 D13.stp
    have o44 := OwnP.k0 o41 D13.stp
    have q99 : At (Ty.bool (Option.isSome ((mapOf R k) (((rankL ((R.getD k []))) : Nat) : Int)))) s17 a17 (.tmp 58) := D13.done 0
    clear D13
    refine tn ?_
    refine cond_t q99 (fun c3 => ?_) (fun c3 => ?_)
    ·
     obtain ⟨j, hj⟩ := Option.isSome_iff_exists.1 c3; have hpo := pr_hit hp (by omega) hj
     refine wp_seq ?_
     refine reg2 (a := a17) (σ := s17) rfl 3 (fun i_ => List.getD [(Ty.pr (Ty.nat k)), (Ty.pr (Ty.int (((mapOf R k) (((rankL ((R.getD k []))) : Nat) : Int)).getD 0))), (Ty.pr (Ty.val (ptrAt x2 2)))] i_ Pr.any) ok16 rfl (by decide) rfl ⟨?_, ?_, ?_, trivial⟩ ?_
     · intro ax tx hs okx sm d0
       exact run_plain rfl (y_move (kp (sm 13 rfl) hs q96))
     · intro ax tx hs okx sm d0
       exact run_plain rfl (y_move (kp (sm 16 rfl) hs q98))
     · intro ax tx hs okx sm d0 d1
       exact run_plain rfl (ownp_field Try.fld42_2 Try.inf4 (by decide) (OwnP.k0 o44 hs) (kp (sm 11 rfl) hs q92))
     intro a18 s18 D14
     have ok17 := D14.ok
     have F19 := F18.step0 D14.stp
     have q100 := D14.kt q91 rfl
     have q101 := D14.kt q92 rfl
     have o45 := OwnM.k0 o42 D14.stp
     have o46 := OwnP.k0 o43 D14.stp
     have o47 := OwnP.k0 o44 D14.stp
     have q102 : At (Ty.nat k) s18 a18 (.tmp 59) := D14.done 0 (by decide)
     have q103 : At (Ty.int (((mapOf R k) (((rankL ((R.getD k []))) : Nat) : Int)).getD 0)) s18 a18 (.tmp 60) := D14.done 1 (by decide)
     have q104 : At (Ty.val (ptrAt x2 2)) s18 a18 (.tmp 61) := D14.done 2 (by decide)
     clear D14
     refine tailL0 (L := [5]) (R := (fun _ τ => OwnP τ 5 x2 ([(Ty.nat ((List.length R) - 1)), (Ty.bool (decide ((((rankL ((R.getD ((List.length R) - 1) []))) : Nat) : Int) = (0 : Int)))), (Ty.bool true), (Ty.int (0 : Int)), (Ty.int (0 : Int))].set 2 (Ty.bool false)))) rfl rfl (YldM.toL (m_storep Try.inf4 (by decide) o47 q104 (Nat.le_of_ble_eq_true rfl) rfl (one_val rfl))) (fun v3 s19 hs5 r5 => ?_)
     have F20 := F19.stepL hs5 (by decide)
     have q105 := kpL hs5 (by decide) rfl q100
     have q106 := kpL hs5 (by decide) rfl q101
     have q107 := kpL hs5 (by decide) rfl q102
     have q108 := kpL hs5 (by decide) rfl q103
     have o49 := OwnM.keepL o45 hs5 (by decide) (by decide)
     have o50 := OwnP.keepL o46 hs5 (by decide) (by decide)
     have o48 : OwnP s19 5 x2 [(Ty.nat ((List.length R) - 1)), (Ty.bool (decide ((((rankL ((R.getD ((List.length R) - 1) []))) : Nat) : Int) = (0 : Int)))), (Ty.bool false), (Ty.int (0 : Int)), (Ty.int (0 : Int))] := r5
     clear r5
     refine tailL (L := []) (R := (fun v τ => Pr.has (Ty.pr (Ty.val (ptrAt x2 3))) τ v)) rfl rfl (by decide) ok17 (Yld.toL (ownp_field Try.fld42_3 Try.inf3 (by decide) o48 q106)) (fun a19 s20 hs6 ok18 r6 sm3 => ?_)
     have F21 := F20.stepL hs6 (by decide)
     have q110 := kpL hs6 (by decide) (sm3 6 (by decide)) q105
     have q111 := kpL hs6 (by decide) (sm3 11 (by decide)) q106
     have q112 := kpL hs6 (by decide) (sm3 59 (by decide)) q107
     have q113 := kpL hs6 (by decide) (sm3 60 (by decide)) q108
     have o51 := OwnM.keepL o49 hs6 (by decide) (by decide)
     have o52 := OwnP.keepL o50 hs6 (by decide) (by decide)
     have o53 := OwnP.keepL o48 hs6 (by decide) (by decide)
     have q114 : At (Ty.val (ptrAt x2 3)) s20 a19 (.tmp 62) := r6
     clear r6
     refine tailL0 (L := [5]) (R := (fun _ τ => OwnP τ 5 x2 ([(Ty.nat ((List.length R) - 1)), (Ty.bool (decide ((((rankL ((R.getD ((List.length R) - 1) []))) : Nat) : Int) = (0 : Int)))), (Ty.bool false), (Ty.int (0 : Int)), (Ty.int (0 : Int))].set 3 (Ty.nat k)))) rfl rfl (YldM.toL (m_storep Try.inf3 (by decide) o53 q114 (Nat.le_of_ble_eq_true rfl) q112 (one_val rfl))) (fun v4 s21 hs7 r7 => ?_)
     have F22 := F21.stepL hs7 (by decide)
     have q115 := kpL hs7 (by decide) rfl q110
     have q116 := kpL hs7 (by decide) rfl q111
     have q117 := kpL hs7 (by decide) rfl q113
     have o55 := OwnM.keepL o51 hs7 (by decide) (by decide)
     have o56 := OwnP.keepL o52 hs7 (by decide) (by decide)
     have o54 : OwnP s21 5 x2 [(Ty.nat ((List.length R) - 1)), (Ty.bool (decide ((((rankL ((R.getD ((List.length R) - 1) []))) : Nat) : Int) = (0 : Int)))), (Ty.bool false), (Ty.nat k), (Ty.int (0 : Int))] := r7
     clear r7
     refine tailL (L := []) (R := (fun v τ => Pr.has (Ty.pr (Ty.val (ptrAt x2 4))) τ v)) rfl rfl (by decide) ok18 (Yld.toL (ownp_field Try.fld42_4 Try.inf3 (by decide) o54 q116)) (fun a20 s22 hs8 ok19 r8 sm4 => ?_)
     have F23 := F22.stepL hs8 (by decide)
     have q119 := kpL hs8 (by decide) (sm4 6 (by decide)) q115
     have q120 := kpL hs8 (by decide) (sm4 11 (by decide)) q116
     have q121 := kpL hs8 (by decide) (sm4 60 (by decide)) q117
     have o57 := OwnM.keepL o55 hs8 (by decide) (by decide)
     have o58 := OwnP.keepL o56 hs8 (by decide) (by decide)
     have o59 := OwnP.keepL o54 hs8 (by decide) (by decide)
     have q122 : At (Ty.val (ptrAt x2 4)) s22 a20 (.tmp 63) := r8
     clear r8
     refine tailL0 (L := [5]) (R := (fun _ τ => OwnP τ 5 x2 ([(Ty.nat ((List.length R) - 1)), (Ty.bool (decide ((((rankL ((R.getD ((List.length R) - 1) []))) : Nat) : Int) = (0 : Int)))), (Ty.bool false), (Ty.nat k), (Ty.int (0 : Int))].set 4 (Ty.int (((mapOf R k) (((rankL ((R.getD k []))) : Nat) : Int)).getD 0))))) rfl rfl (YldM.toL (m_storep Try.inf3 (by decide) o59 q122 (Nat.le_of_ble_eq_true rfl) q121 (one_val rfl))) (fun v5 s23 hs9 r9 => ?_)
     have F24 := F23.stepL hs9 (by decide)
     have q123 := kpL hs9 (by decide) rfl q119
     have q124 := kpL hs9 (by decide) rfl q120
     have o61 := OwnM.keepL o57 hs9 (by decide) (by decide)
     have o62 := OwnP.keepL o58 hs9 (by decide) (by decide)
     have o60 : OwnP s23 5 x2 [(Ty.nat ((List.length R) - 1)), (Ty.bool (decide ((((rankL ((R.getD ((List.length R) - 1) []))) : Nat) : Int) = (0 : Int)))), (Ty.bool false), (Ty.nat k), (Ty.int (((mapOf R k) (((rankL ((R.getD k []))) : Nat) : Int)).getD 0))] := r9
     clear r9
     refine wpList_nil ?_
     refine tn ?_
     refine wp_exit ?_
     refine tx ?_
     refine bo (by decide) ?_
     refine tx ?_
     refine tx ?_
     refine bx ?_
     refine tn ?_
     refine wp_seq ?_
     refine reg2 (a := a20) (σ := s23) rfl 1 (fun i_ => List.getD [(Ty.pr (Ty.agg [(Ty.nat ((List.length R) - 1)), (Ty.bool (decide ((((rankL ((R.getD ((List.length R) - 1) []))) : Nat) : Int) = (0 : Int)))), (Ty.bool false), (Ty.nat k), (Ty.int (((mapOf R k) (((rankL ((R.getD k []))) : Nat) : Int)).getD 0))]))] i_ Pr.any) ok19 rfl (by decide) rfl ⟨?_, trivial⟩ ?_
     · intro ax tx hs okx sm
       exact run_plain rfl (ownp_loadagg Try.underlying42 Try.inf42 (OwnP.k0 o60 hs) (kp (sm 11 rfl) hs q124))
     intro a21 s24 D15
     have ok20 := D15.ok
     have F25 := F24.step0 D15.stp
     have q126 := D15.kt q123 rfl
     have o63 := OwnP.k0 o62 D15.stp
     have o64 := OwnP.k0 o60 D15.stp
     have q127 : At (Ty.agg [(Ty.nat ((List.length R) - 1)), (Ty.bool (decide ((((rankL ((R.getD ((List.length R) - 1) []))) : Nat) : Int) = (0 : Int)))), (Ty.bool false), (Ty.nat k), (Ty.int (((mapOf R k) (((rankL ((R.getD k []))) : Nat) : Int)).getD 0))]) s24 a21 (.tmp 68) := D15.done 0 (by decide)
     clear D15
     refine tailL0 (L := [4]) (R := (fun _ τ => OwnP τ 4 x1 [(Ty.nat ((List.length R) - 1)), (Ty.bool (decide ((((rankL ((R.getD ((List.length R) - 1) []))) : Nat) : Int) = (0 : Int)))), (Ty.bool false), (Ty.nat k), (Ty.int (((mapOf R k) (((rankL ((R.getD k []))) : Nat) : Int)).getD 0))])) rfl rfl (YldM.toL (m_storeagg Try.inf42 (by decide) o63 q126 rfl q127 (by intro U hU; simp only [List.mem_cons, List.not_mem_nil, or_false] at hU; rcases hU with rfl | rfl | rfl | rfl | rfl <;> first | exact one_val rfl | exact one_sl | exact one_ref))) (fun v6 s25 hs10 r10 => ?_)
     have F26 := F25.stepL hs10 (by decide)
     have q128 := kpL hs10 (by decide) rfl q126
     have o66 := OwnP.keepL o64 hs10 (by decide) (by decide)
     have o65 : OwnP s25 4 x1 [(Ty.nat ((List.length R) - 1)), (Ty.bool (decide ((((rankL ((R.getD ((List.length R) - 1) []))) : Nat) : Int) = (0 : Int)))), (Ty.bool false), (Ty.nat k), (Ty.int (((mapOf R k) (((rankL ((R.getD k []))) : Nat) : Int)).getD 0))] := r10
     clear r10
     refine tailL (L := []) (R := (fun v τ => Pr.has (Ty.pr (Ty.int (0 : Int))) τ v)) rfl rfl (by decide) ok20 (Yld.toL (y_assign rfl)) (fun a22 s26 hs11 ok21 r11 sm5 => ?_)
     have F27 := F26.stepL hs11 (by decide)
     have q130 := kpL hs11 (by decide) (sm5 6 (by decide)) q128
     have o67 := OwnP.keepL o66 hs11 (by decide) (by decide)
     have o68 := OwnP.keepL o65 hs11 (by decide) (by decide)
     have q131 : At (Ty.int (0 : Int)) s26 a22 (.tmp 7) := r11
     clear r11
     refine wpList_nil ?_
     refine tn ?_
     refine wp_ret ?_
     have o69 : OwnP s26 4 x1 [(Ty.nat ((List.length R) - 1)), (Ty.bool (decide ((((rankL ((R.getD ((List.length R) - 1) []))) : Nat) : Int) = (0 : Int)))), (Ty.bool false), (Ty.nat k), (Ty.int (((mapOf R k) (((rankL ((R.getD k []))) : Nat) : Int)).getD 0))] := o68
     have o70 : OwnP s26 4 x1 [(Ty.nat (if touchMay nm n l cs leads = 0 then leads.length * l.length else 0)), (Ty.bool (decide ((((rankL ((R.getD ((List.length R) - 1) []))) : Nat) : Int) = (0 : Int)))), (Ty.bool false), (Ty.nat k), (Ty.int (((mapOf R k) (((rankL ((R.getD k []))) : Nat) : Int)).getD 0))] := cvop (by rw [show (Ty.nat ((List.length R) - 1)) = (Ty.nat (if touchMay nm n l cs leads = 0 then leads.length * l.length else 0)) from by (rw [if_pos h0, show R.length - 1 = leads.length * l.length by omega])]) o69
     have o71 : OwnP s26 4 x1 [(Ty.nat (if touchMay nm n l cs leads = 0 then leads.length * l.length else 0)), (Ty.bool (if touchMay nm n l cs leads = 0 then rndB (tRows n.toNat l cs leads leads.length) else false)), (Ty.bool false), (Ty.nat k), (Ty.int (((mapOf R k) (((rankL ((R.getD k []))) : Nat) : Int)).getD 0))] := cvop (by rw [show (Ty.bool (decide ((((rankL ((R.getD ((List.length R) - 1) []))) : Nat) : Int) = (0 : Int)))) = (Ty.bool (if touchMay nm n l cs leads = 0 then rndB (tRows n.toNat l cs leads leads.length) else false)) from by (rw [if_pos h0, ← hR]; rfl)]) o70
     have o72 : OwnP s26 4 x1 [(Ty.nat (if touchMay nm n l cs leads = 0 then leads.length * l.length else 0)), (Ty.bool (if touchMay nm n l cs leads = 0 then rndB (tRows n.toNat l cs leads leads.length) else false)), (Ty.bool (if touchMay nm n l cs leads = 0 then (prO (tRows n.toNat l cs leads leads.length)).isNone else false)), (Ty.nat k), (Ty.int (((mapOf R k) (((rankL ((R.getD k []))) : Nat) : Int)).getD 0))] := cvop (by rw [show (Ty.bool false) = (Ty.bool (if touchMay nm n l cs leads = 0 then (prO (tRows n.toNat l cs leads leads.length)).isNone else false)) from by (rw [if_pos h0, ← hR]; rw [hpo]; rfl)]) o71
     have o73 : OwnP s26 4 x1 [(Ty.nat (if touchMay nm n l cs leads = 0 then leads.length * l.length else 0)), (Ty.bool (if touchMay nm n l cs leads = 0 then rndB (tRows n.toNat l cs leads leads.length) else false)), (Ty.bool (if touchMay nm n l cs leads = 0 then (prO (tRows n.toNat l cs leads leads.length)).isNone else false)), (Ty.nat (if touchMay nm n l cs leads = 0 then agnL (tRows n.toNat l cs leads leads.length) else 0)), (Ty.int (((mapOf R k) (((rankL ((R.getD k []))) : Nat) : Int)).getD 0))] := cvop (by rw [show (Ty.nat k) = (Ty.nat (if touchMay nm n l cs leads = 0 then agnL (tRows n.toNat l cs leads leads.length) else 0)) from by (rw [if_pos h0, ← hR]; unfold agnL; rw [hpo]; rfl)]) o72
     have o74 : OwnP s26 4 x1 [(Ty.nat (if touchMay nm n l cs leads = 0 then leads.length * l.length else 0)), (Ty.bool (if touchMay nm n l cs leads = 0 then rndB (tRows n.toNat l cs leads leads.length) else false)), (Ty.bool (if touchMay nm n l cs leads = 0 then (prO (tRows n.toNat l cs leads leads.length)).isNone else false)), (Ty.nat (if touchMay nm n l cs leads = 0 then agnL (tRows n.toNat l cs leads leads.length) else 0)), (Ty.int (if touchMay nm n l cs leads = 0 then befL (tRows n.toNat l cs leads leads.length) else 0))] := cvop (by rw [show (Ty.int (((mapOf R k) (((rankL ((R.getD k []))) : Nat) : Int)).getD 0)) = (Ty.int (if touchMay nm n l cs leads = 0 then befL (tRows n.toNat l cs leads leads.length) else 0)) from by (rw [if_pos h0, ← hR]; unfold befL; rw [hpo, hj]; rfl)]) o73
     exact retL2c (k := 4) (ts := [(Ty.nat (if touchMay nm n l cs leads = 0 then leads.length * l.length else 0)), (Ty.bool (if touchMay nm n l cs leads = 0 then rndB (tRows n.toNat l cs leads leads.length) else false)), (Ty.bool (if touchMay nm n l cs leads = 0 then (prO (tRows n.toNat l cs leads leads.length)).isNone else false)), (Ty.nat (if touchMay nm n l cs leads = 0 then agnL (tRows n.toNat l cs leads leads.length) else 0)), (Ty.int (if touchMay nm n l cs leads = 0 then befL (tRows n.toNat l cs leads leads.length) else 0))]) rfl ok21 F27 Try.underlying42 Try.inf42 (al (R := (Pr.ownp 4 [(Ty.nat (if touchMay nm n l cs leads = 0 then leads.length * l.length else 0)), (Ty.bool (if touchMay nm n l cs leads = 0 then rndB (tRows n.toNat l cs leads leads.length) else false)), (Ty.bool (if touchMay nm n l cs leads = 0 then (prO (tRows n.toNat l cs leads leads.length)).isNone else false)), (Ty.nat (if touchMay nm n l cs leads = 0 then agnL (tRows n.toNat l cs leads leads.length) else 0)), (Ty.int (if touchMay nm n l cs leads = 0 then befL (tRows n.toNat l cs leads leads.length) else 0))])) q130 o74) (fun v_ hv_ => (hasT2 hv_ (cvi (by (exact h0.symm)) q131)))
    ·
     have hnn := opt_nof c3; have hpx := pr_next hp (by omega) hnn
     refine wp_skip ?_
     refine tn ?_
     refine reg2 (a := a17) (σ := s17) rfl 3 (fun i_ => List.getD [(Ty.pr (Ty.val x3)), (Ty.pr (Ty.nat (rankL ((R.getD k []))))), (Ty.pr (Ty.nat k))] i_ Pr.any) ok16 rfl (by decide) rfl ⟨?_, ?_, ?_, trivial⟩ ?_
     · intro ax tx hs okx sm
       exact run_plain rfl (y_move (kp (sm 12 rfl) hs q93))
     · intro ax tx hs okx sm
       exact run_plain rfl (y_move (kp (sm 15 rfl) hs q97))
     · intro ax tx hs okx sm
       exact run_plain rfl (y_move (kp (sm 13 rfl) hs q96))
     intro a23 s27 D16
     have ok22 := D16.ok
     have F28 := F18.step0 D16.stp
     have q132 := D16.kt q90 rfl
     have q133 := D16.kt q91 rfl
     have q134 := D16.kt q92 rfl
     have q135 := D16.kt q93 rfl
     have q136 := D16.kt q94 rfl
     have q137 := D16.kt q95 rfl
     have o75 := OwnM.k0 o42 D16.stp
     have o76 := OwnP.k0 o43 D16.stp
     have o77 := OwnP.k0 o44 D16.stp
     have q138 : At (Ty.val x3) s27 a23 (.tmp 64) := D16.done 0 (by decide)
     have q139 : At (Ty.nat (rankL ((R.getD k [])))) s27 a23 (.tmp 65) := D16.done 1 (by decide)
     have q140 : At (Ty.nat k) s27 a23 (.tmp 66) := D16.done 2 (by decide)
     clear D16
     refine tailL0 (L := [6]) (R := (fun _ τ => OwnM Ty.int kI τ 6 x3 (fun x_ => if x_ = (((rankL ((R.getD k []))) : Nat) : Int) then some ((k : Nat) : Int) else (mapOf R k) x_))) rfl rfl (YldM.toL (m_mapset (i := (((rankL ((R.getD k []))) : Nat) : Int)) Try.underlying86 (keyInt Try.underlying3) (by decide) o75 q138 q139 q140)) (fun v7 s28 hs12 r12 => ?_)
     have F29 := F28.stepL hs12 (by decide)
     have q141 := kpL hs12 (by decide) rfl q132
     have q142 := kpL hs12 (by decide) rfl q133
     have q143 := kpL hs12 (by decide) rfl q134
     have q144 := kpL hs12 (by decide) rfl q135
     have q145 := kpL hs12 (by decide) rfl q136
     have q146 := kpL hs12 (by decide) rfl q137
     have o79 := OwnP.keepL o76 hs12 (by decide) (by decide)
     have o80 := OwnP.keepL o77 hs12 (by decide) (by decide)
     have o78 : OwnM Ty.int kI s28 6 x3 (fun x_ => if x_ = (((rankL ((R.getD k []))) : Nat) : Int) then some ((k : Nat) : Int) else (mapOf R k) x_) := r12
     clear r12
     refine wpList_nil ?_
     refine bn ?_
     refine tn ?_
     refine reg (a := a23) (σ := s28) rfl (fun i_ => List.getD [(Ty.pr (Ty.nat (k + 1))), (Ty.pr (Ty.nat (k + 1)))] i_ Pr.any) ok22 rfl ⟨?_, ?_, trivial⟩ ?_
     · intro ax tx hs okx sm
       exact run_plain rfl ((y_add (kp (sm 45 rfl) hs q141) rfl (w64 (by omega) (by omega))).mono (fun τ _ h => cvi (σ := τ) (by first | omega | exact (Int.natCast_mul _ _).symm) h))
     · intro ax tx hs okx sm d0
       have e0 := ed d0 rfl rfl rfl
       exact run_plain rfl (y_move e0)
     intro a24 s29 D17
     have ok23 := D17.ok
     have F30 := F29.step0 D17.stp
     have q148 := D17.kt q142 rfl
     have q149 := D17.kt q143 rfl
     have q150 := D17.kt q144 rfl
     have q151 := D17.kt q145 rfl
     have q152 := D17.kt q146 rfl
     have o81 := OwnP.k0 o79 D17.stp
     have o82 := OwnP.k0 o80 D17.stp
     have o83 := OwnM.k0 o78 D17.stp
     have q153 : At (Ty.nat (k + 1)) s29 a24 (.tmp 45) := D17.done 1
     clear D17
     exact tn ⟨(List.take ((List.length R) - 1) R).length - ((k+1)), by omega, s29, (k+1), rfl, F30, ok23, (cvi (by (first | rfl | omega | (simp_all; done) | (simp_all; omega))) q153), q148, q149, q150, q151, q152, (cvm (by (rfl)) o83), o81, o82, by omega, by rw [show R.length - 1 - (k + 1) = R.length - 1 - k - 1 by omega]; exact hpx, rfl⟩
   ·
    have hpo := pr_end hp (by omega)
    refine wp_exit ?_
    refine tx ?_
    refine tx ?_
    refine bx ?_
    refine tn ?_
    refine wp_seq ?_
    refine reg2 (a := a13) (σ := s13) rfl 1 (fun i_ => List.getD [(Ty.pr (Ty.agg [(Ty.nat ((List.length R) - 1)), (Ty.bool (decide ((((rankL ((R.getD ((List.length R) - 1) []))) : Nat) : Int) = (0 : Int)))), (Ty.bool true), (Ty.int (0 : Int)), (Ty.int (0 : Int))]))] i_ Pr.any) ok12 rfl (by decide) rfl ⟨?_, trivial⟩ ?_
    · intro ax tx hs okx sm
      exact run_plain rfl (ownp_loadagg Try.underlying42 Try.inf42 (OwnP.k0 o32 hs) (kp (sm 11 rfl) hs q58))
    intro a25 s30 D18
    have ok24 := D18.ok
    have F31 := F14.step0 D18.stp
    have q154 := D18.kt q57 rfl
    have o84 := OwnM.k0 o30 D18.stp
    have o85 := OwnP.k0 o31 D18.stp
    have o86 := OwnP.k0 o32 D18.stp
    have q155 : At (Ty.agg [(Ty.nat ((List.length R) - 1)), (Ty.bool (decide ((((rankL ((R.getD ((List.length R) - 1) []))) : Nat) : Int) = (0 : Int)))), (Ty.bool true), (Ty.int (0 : Int)), (Ty.int (0 : Int))]) s30 a25 (.tmp 68) := D18.done 0 (by decide)
    clear D18
    refine tailL0 (L := [4]) (R := (fun _ τ => OwnP τ 4 x1 [(Ty.nat ((List.length R) - 1)), (Ty.bool (decide ((((rankL ((R.getD ((List.length R) - 1) []))) : Nat) : Int) = (0 : Int)))), (Ty.bool true), (Ty.int (0 : Int)), (Ty.int (0 : Int))])) rfl rfl (YldM.toL (m_storeagg Try.inf42 (by decide) o85 q154 rfl q155 (by intro U hU; simp only [List.mem_cons, List.not_mem_nil, or_false] at hU; rcases hU with rfl | rfl | rfl | rfl | rfl <;> first | exact one_val rfl | exact one_sl | exact one_ref))) (fun v8 s31 hs13 r13 => ?_)
    have F32 := F31.stepL hs13 (by decide)
    have q156 := kpL hs13 (by decide) rfl q154
    have o88 := OwnM.keepL o84 hs13 (by decide) (by decide)
    have o89 := OwnP.keepL o86 hs13 (by decide) (by decide)
    have o87 : OwnP s31 4 x1 [(Ty.nat ((List.length R) - 1)), (Ty.bool (decide ((((rankL ((R.getD ((List.length R) - 1) []))) : Nat) : Int) = (0 : Int)))), (Ty.bool true), (Ty.int (0 : Int)), (Ty.int (0 : Int))] := r13
    clear r13
    refine tailL (L := []) (R := (fun v τ => Pr.has (Ty.pr (Ty.int (0 : Int))) τ v)) rfl rfl (by decide) ok24 (Yld.toL (y_assign rfl)) (fun a26 s32 hs14 ok25 r14 sm6 => ?_)
    have F33 := F32.stepL hs14 (by decide)
    have q158 := kpL hs14 (by decide) (sm6 6 (by decide)) q156
    have o90 := OwnM.keepL o88 hs14 (by decide) (by decide)
    have o91 := OwnP.keepL o89 hs14 (by decide) (by decide)
    have o92 := OwnP.keepL o87 hs14 (by decide) (by decide)
    have q159 : At (Ty.int (0 : Int)) s32 a26 (.tmp 7) := r14
    clear r14
    refine wpList_nil ?_
    refine tn ?_
    refine wp_ret ?_
    have o93 : OwnP s32 4 x1 [(Ty.nat ((List.length R) - 1)), (Ty.bool (decide ((((rankL ((R.getD ((List.length R) - 1) []))) : Nat) : Int) = (0 : Int)))), (Ty.bool true), (Ty.int (0 : Int)), (Ty.int (0 : Int))] := o92
    have o94 : OwnP s32 4 x1 [(Ty.nat (if touchMay nm n l cs leads = 0 then leads.length * l.length else 0)), (Ty.bool (decide ((((rankL ((R.getD ((List.length R) - 1) []))) : Nat) : Int) = (0 : Int)))), (Ty.bool true), (Ty.int (0 : Int)), (Ty.int (0 : Int))] := cvop (by rw [show (Ty.nat ((List.length R) - 1)) = (Ty.nat (if touchMay nm n l cs leads = 0 then leads.length * l.length else 0)) from by (rw [if_pos h0, show R.length - 1 = leads.length * l.length by omega])]) o93
    have o95 : OwnP s32 4 x1 [(Ty.nat (if touchMay nm n l cs leads = 0 then leads.length * l.length else 0)), (Ty.bool (if touchMay nm n l cs leads = 0 then rndB (tRows n.toNat l cs leads leads.length) else false)), (Ty.bool true), (Ty.int (0 : Int)), (Ty.int (0 : Int))] := cvop (by rw [show (Ty.bool (decide ((((rankL ((R.getD ((List.length R) - 1) []))) : Nat) : Int) = (0 : Int)))) = (Ty.bool (if touchMay nm n l cs leads = 0 then rndB (tRows n.toNat l cs leads leads.length) else false)) from by (rw [if_pos h0, ← hR]; rfl)]) o94
    have o96 : OwnP s32 4 x1 [(Ty.nat (if touchMay nm n l cs leads = 0 then leads.length * l.length else 0)), (Ty.bool (if touchMay nm n l cs leads = 0 then rndB (tRows n.toNat l cs leads leads.length) else false)), (Ty.bool (if touchMay nm n l cs leads = 0 then (prO (tRows n.toNat l cs leads leads.length)).isNone else false)), (Ty.int (0 : Int)), (Ty.int (0 : Int))] := cvop (by rw [show (Ty.bool true) = (Ty.bool (if touchMay nm n l cs leads = 0 then (prO (tRows n.toNat l cs leads leads.length)).isNone else false)) from by (rw [if_pos h0, ← hR]; rw [hpo]; rfl)]) o95
    have o97 : OwnP s32 4 x1 [(Ty.nat (if touchMay nm n l cs leads = 0 then leads.length * l.length else 0)), (Ty.bool (if touchMay nm n l cs leads = 0 then rndB (tRows n.toNat l cs leads leads.length) else false)), (Ty.bool (if touchMay nm n l cs leads = 0 then (prO (tRows n.toNat l cs leads leads.length)).isNone else false)), (Ty.nat (if touchMay nm n l cs leads = 0 then agnL (tRows n.toNat l cs leads leads.length) else 0)), (Ty.int (0 : Int))] := cvop (by rw [show (Ty.int (0 : Int)) = (Ty.nat (if touchMay nm n l cs leads = 0 then agnL (tRows n.toNat l cs leads leads.length) else 0)) from by (rw [if_pos h0, ← hR]; unfold agnL; rw [hpo]; rfl)]) o96
    have o98 : OwnP s32 4 x1 [(Ty.nat (if touchMay nm n l cs leads = 0 then leads.length * l.length else 0)), (Ty.bool (if touchMay nm n l cs leads = 0 then rndB (tRows n.toNat l cs leads leads.length) else false)), (Ty.bool (if touchMay nm n l cs leads = 0 then (prO (tRows n.toNat l cs leads leads.length)).isNone else false)), (Ty.nat (if touchMay nm n l cs leads = 0 then agnL (tRows n.toNat l cs leads leads.length) else 0)), (Ty.int (if touchMay nm n l cs leads = 0 then befL (tRows n.toNat l cs leads leads.length) else 0))] := cvop (by rw [show (Ty.int (0 : Int)) = (Ty.int (if touchMay nm n l cs leads = 0 then befL (tRows n.toNat l cs leads leads.length) else 0)) from by (rw [if_pos h0, ← hR]; unfold befL; rw [hpo]; rfl)]) o97
    exact retL2c (k := 4) (ts := [(Ty.nat (if touchMay nm n l cs leads = 0 then leads.length * l.length else 0)), (Ty.bool (if touchMay nm n l cs leads = 0 then rndB (tRows n.toNat l cs leads leads.length) else false)), (Ty.bool (if touchMay nm n l cs leads = 0 then (prO (tRows n.toNat l cs leads leads.length)).isNone else false)), (Ty.nat (if touchMay nm n l cs leads = 0 then agnL (tRows n.toNat l cs leads leads.length) else 0)), (Ty.int (if touchMay nm n l cs leads = 0 then befL (tRows n.toNat l cs leads leads.length) else 0))]) rfl ok25 F33 Try.underlying42 Try.inf42 (al (R := (Pr.ownp 4 [(Ty.nat (if touchMay nm n l cs leads = 0 then leads.length * l.length else 0)), (Ty.bool (if touchMay nm n l cs leads = 0 then rndB (tRows n.toNat l cs leads leads.length) else false)), (Ty.bool (if touchMay nm n l cs leads = 0 then (prO (tRows n.toNat l cs leads leads.length)).isNone else false)), (Ty.nat (if touchMay nm n l cs leads = 0 then agnL (tRows n.toNat l cs leads leads.length) else 0)), (Ty.int (if touchMay nm n l cs leads = 0 then befL (tRows n.toNat l cs leads leads.length) else 0))])) q158 o98) (fun v_ hv_ => (hasT2 hv_ (cvi (by (exact h0.symm)) q159)))


end Go.Proofs.Ytbilebfnanlgfaa
