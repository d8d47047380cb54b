/- The functions that the law SearchSays reaches, each by its contract. Part 7. -/
import Derived.Test.YtbilebfnanlgfaaSearchSaysW6
namespace Go.Proofs.Ytbilebfnanlgfaa
open Go.KL
theorem Try.inf42 : Info Try.prog 42 (.agg #[.int .i64 0, .bool false, .bool false, .int .i64 0, .int .i64 0]) 5 32 := by unfold Info; kernel_rfl
theorem Try.fld42_2 : fieldOf Try.prog 42 2 = some (4, 2) := by kernel_rfl
theorem Try.fld42_3 : fieldOf Try.prog 42 3 = some (3, 3) := by kernel_rfl
theorem Try.fld42_4 : fieldOf Try.prog 42 4 = some (3, 4) := by kernel_rfl
set_option maxHeartbeats 4000000 in
set_option maxRecDepth 100000 in
theorem rProve_fn (nm : ByteArray) (n : Int) (l : List (List Int)) (cs : List BCall) (leads : List Int) (σ : GW)  (v0 v1 v2 : Value) (hv0 : Ty.has (Ty.agg [(Ty.val (Value.string nm)), (Ty.int n), (Ty.lst Ty.ints l)]) σ v0) (hv1 : Ty.has (Ty.lstc 2 callC cs) σ v1) (hv2 : Ty.has (Ty.lst Ty.int leads) σ v2)  (h0 : touchMay nm n l cs leads = 0) :
    FnC Try.prog 28 #[v0, v1, v2] σ (Ty.agg [(Ty.nat (leads.length * l.length)), (Ty.bool (rndB (tRows n.toNat l cs leads leads.length))), (Ty.bool (prO (tRows n.toNat l cs leads leads.length)).isNone), (Ty.nat (agnL (tRows n.toNat l cs leads leads.length))), (Ty.int (befL (tRows n.toNat l cs leads leads.length)))]) := by
 obtain ⟨hok, hnn, hlo, hlh, hin, hlim⟩ := touchMay_ok h0; have hl1 := hok.meth.l1; have hl2 := hok.meth.l2; have hn1 := hok.meth.n1; have hn2 := hok.meth.n2
 obtain ⟨R, hR⟩ : ∃ R, R = (tRows n.toNat l cs leads leads.length) := ⟨_, rfl⟩
 have hRl : R.length = leads.length * l.length + 1 := (by rw [hR]; exact tRows_len hok hin _ (Nat.le_refl _))
 have hrw : ∀ i, i < R.length → IsRow (R.getD i []) ∧ (R.getD i []).length = n.toNat := (fun i hi => by rw [hR]; exact tRows_row hok hin (by omega))
 have hlst := (hrw (R.length - 1) (by omega)).1.le
 have hlrow := (hrw (R.length - 1) (by omega)).1
 refine fn_intro0 Try.func28 rfl Try.ntmps28 (Nat.le_of_ble_eq_true rfl) (fun s0 a0 hle F0 ok0 hargs => ?_)
 have p0 : At (Ty.agg [(Ty.val (Value.string nm)), (Ty.int n), (Ty.lst Ty.ints l)]) s0 a0 (.tmp 0) := by have e := hargs 0 _ rfl; show Ty.has _ _ _; rw [e]; exact Ty.up _ hle hv0
 have p1 : At (Ty.lstc 2 callC cs) s0 a0 (.tmp 1) := by have e := hargs 1 _ rfl; show Ty.has _ _ _; rw [e]; exact Ty.up _ hle hv1
 have b1 := sl_le p1
 have p2 : At (Ty.lst Ty.int leads) s0 a0 (.tmp 2) := by have e := hargs 2 _ rfl; show Ty.has _ _ _; rw [e]; exact Ty.up _ hle hv2
 have b2 := sl_le p2
 clear hargs
 refine wp_seq ?_
 refine reg (a := a0) (σ := s0) rfl (fun i_ => List.getD [(Ty.pr (Ty.ref [(Ty.val (Value.string nm)), (Ty.int n), (Ty.lst Ty.ints l)])), (Pr.ownp 4 [(Ty.int (0 : Int)), (Ty.bool false), (Ty.bool false), (Ty.int (0 : Int)), (Ty.int (0 : Int))])] i_ Pr.any) ok0 rfl ⟨?_, ?_, trivial⟩ ?_
 · intro ax tx hs okx sm
   exact run_plain rfl (y_boxagg (kp (sm 0 rfl) hs p0))
 · intro ax tx hs okx sm
   exact run_plain rfl (y_alloc Try.inf42 rfl (alloc_vals (vs := [.int .i64 0, .bool false, .bool false, .int .i64 0, .int .i64 0]) rfl))
 intro a1 s1 D1
 have ok1 := D1.ok
 have F1 := F0.step0 D1.stp
 have q1 := D1.kt p1 rfl
 have q2 := D1.kt p2 rfl
 have q3 : At (Ty.ref [(Ty.val (Value.string nm)), (Ty.int n), (Ty.lst Ty.ints l)]) s1 a1 (.tmp 3) := D1.done 0
 obtain ⟨x1, hx1⟩ : ∃ x, a1.eval (.tmp 6) = x := ⟨_, rfl⟩
 have q4 : At (Ty.val x1) s1 a1 (.tmp 6) := hx1
 have o1 : OwnP s1 4 x1 [(Ty.int (0 : Int)), (Ty.bool false), (Ty.bool false), (Ty.int (0 : Int)), (Ty.int (0 : Int))] := al2 (R := (Pr.ownp 4 [(Ty.int (0 : Int)), (Ty.bool false), (Ty.bool false), (Ty.int (0 : Int)), (Ty.int (0 : Int))])) hx1 (D1.done 1)
 clear D1
 refine tn ?_
 refine wp_seq ?_
 refine reg (a := a1) (σ := s1) rfl (fun i_ => List.getD [(Ty.pr (Ty.agg [(Ty.val (Value.string nm)), (Ty.int n), (Ty.lst Ty.ints l)])), (Ty.pr (Ty.lstc 2 callC cs)), (Ty.pr (Ty.lst Ty.int leads)), (Ty.pr (Ty.lst Ty.ints R)), (Ty.pr (Ty.lst Ty.ints R))] i_ Pr.any) ok1 rfl ⟨?_, ?_, ?_, ?_, ?_, trivial⟩ ?_
 · intro ax tx hs okx sm
   exact run_plain rfl (y_loadagg Try.underlying31 Try.inf31 (kp (sm 3 rfl) hs q3))
 · intro ax tx hs okx sm
   exact run_plain rfl (y_move (kp (sm 1 rfl) hs q1))
 · intro ax tx hs okx sm
   exact run_plain rfl (y_move (kp (sm 2 rfl) hs q2))
 · intro ax tx hs okx sm d0 d1 d2
   have e0 := ed d0 rfl rfl rfl
   have e1 := ed d1 rfl rfl rfl
   have e2 := ed d2 rfl rfl rfl
   exact run_plain rfl ((y_call #[ax.eval (.tmp 15), ax.eval (.tmp 16), ax.eval (.tmp 17)] Try.func29 rfl rfl (by simp only [List.map_toArray, List.map_cons, List.map_nil]) (rTouchRows_fn (nm) (n) (l) (cs) (leads) _ _ _ _ e0 e1 e2 (by first | omega | assumption))).mono (fun τ _ h => cvt (σ := τ) (T := (Ty.lst Ty.ints (tRows n.toNat l cs leads leads.length))) (U := (Ty.lst Ty.ints R)) (by rw [hR]) h))
 · intro ax tx hs okx sm d0 d1 d2 d3 d4 d5
   have e3 := ed d0 rfl rfl rfl
   exact run_plain rfl (y_assign e3)
 intro a2 s2 D2
 have ok2 := D2.ok
 have F2 := F1.step0 D2.stp
 have q5 := D2.kt q4 rfl
 have o2 := OwnP.k0 o1 D2.stp
 have q6 : At (Ty.lst Ty.ints R) s2 a2 (.tmp 7) := D2.done 4
 clear D2
 refine tn ?_
 refine wp_seq ?_
 refine reg (a := a2) (σ := s2) rfl (fun i_ => List.getD [(Ty.pr (Ty.lst Ty.ints R)), (Ty.pr (Ty.nat (List.length R))), (Ty.pr (Ty.nat ((List.length R) - 1))), (Ty.pr (Ty.nat ((List.length R) - 1)))] i_ Pr.any) ok2 rfl ⟨?_, ?_, ?_, ?_, trivial⟩ ?_
 · intro ax tx hs okx sm
   exact run_plain rfl (y_move (kp (sm 7 rfl) hs q6))
 · intro ax tx hs okx sm d0
   have e0 := ed d0 rfl rfl rfl
   exact run_plain rfl (y_len Try.underlying29 e0)
 · intro ax tx hs okx sm d0
   have e1 := ed d0 rfl rfl rfl
   exact run_plain rfl ((y_sub e1 rfl (w64 (by omega) (by omega))).mono (fun τ _ h => cvi (σ := τ) (by omega) h))
 · intro ax tx hs okx sm d0 d1 d2 d3
   have e2 := ed d0 rfl rfl rfl
   exact run_plain rfl (y_assign e2)
 intro a3 s3 D3
 have ok3 := D3.ok
 have F3 := F2.step0 D3.stp
 have q7 := D3.kt q5 rfl
 have q8 := D3.kt q6 rfl
 have o3 := OwnP.k0 o2 D3.stp
 have q9 : At (Ty.nat ((List.length R) - 1)) s3 a3 (.tmp 8) := D3.done 3
 clear D3
 refine tn ?_
 refine wp_seq ?_
 refine reg2 (a := a3) (σ := s3) rfl 9 (fun i_ => List.getD [(Ty.pr (Ty.nat ((List.length R) - 1))), (Ty.pr (Ty.lst Ty.ints R)), (Ty.pr (Ty.nat ((List.length R) - 1))), (Ty.pr (Ty.ref [(Ty.lst Ty.int (R.getD ((List.length R) - 1) []))])), (Ty.pr (Ty.lst Ty.int (R.getD ((List.length R) - 1) []))), (Ty.pr (Ty.nat (rankL ((R.getD ((List.length R) - 1) []))))), (Ty.pr (Ty.bool (decide ((((rankL ((R.getD ((List.length R) - 1) []))) : Nat) : Int) = (0 : Int))))), (Ty.pr (Ty.agg [(Ty.nat ((List.length R) - 1)), (Ty.bool (decide ((((rankL ((R.getD ((List.length R) - 1) []))) : Nat) : Int) = (0 : Int)))), (Ty.bool true), (Ty.int (0 : Int)), (Ty.int (0 : Int))])), (Pr.ownp 5 [(Ty.int (0 : Int)), (Ty.bool false), (Ty.bool false), (Ty.int (0 : Int)), (Ty.int (0 : Int))])] i_ Pr.any) ok3 rfl (by decide) rfl ⟨?_, ?_, ?_, ?_, ?_, ?_, ?_, ?_, ?_, trivial⟩ ?_
 · intro ax tx hs okx sm
   exact run_plain rfl (y_move (kp (sm 8 rfl) hs q9))
 · intro ax tx hs okx sm
   exact run_plain rfl (y_move (kp (sm 7 rfl) hs q8))
 · intro ax tx hs okx sm
   exact run_plain rfl (y_move (kp (sm 8 rfl) hs q9))
 · intro ax tx hs okx sm d0 d1
   have e1 := ed d0 rfl rfl rfl
   have e2 := ed d1 rfl rfl rfl
   exact run_plain rfl (y_index1 Try.underlying29 Try.inf23 e1 e2 (by omega) (lst_get Ty.ints R [] ((List.length R) - 1) (by omega)))
 · intro ax tx hs okx sm d0
   have e3 := ed d0 rfl rfl rfl
   exact run_plain rfl (y_load Try.underlying23 rfl e3 rfl)
 · intro ax tx hs okx sm d0
   have e4 := ed d0 rfl rfl rfl
   exact run_plain rfl (y_call #[ax.eval (.tmp 26)] Try.func41 rfl rfl (by simp only [List.map_toArray, List.map_cons, List.map_nil]) (rRank_fn ((R.getD ((List.length R) - 1) [])) _ _ e4 (by first | omega | assumption)))
 · intro ax tx hs okx sm d0
   have e5 := ed d0 rfl rfl rfl
   exact run_plain rfl (y_eql e5 rfl)
 · intro ax tx hs okx sm d0 d1
   have e0 := ed d0 rfl rfl rfl
   have e6 := ed d1 rfl rfl rfl
   exact run_plain rfl (y_bld [(0, (.tmp 22), (Ty.nat ((List.length R) - 1))), (1, (.tmp 28), (Ty.bool (decide ((((rankL ((R.getD ((List.length R) - 1) []))) : Nat) : Int) = (0 : Int))))), (2, ((Operand.const (Value.bool true))), (Ty.bool true))] [(Ty.int (0 : Int)), (Ty.bool false), (Ty.bool false), (Ty.int (0 : Int)), (Ty.int (0 : Int))] (l := [(0, 1), (1, 1), (2, 1), (3, 1), (4, 1)]) rfl Try.inf42 rfl (alloc_vals (vs := [.int .i64 0, .bool false, .bool false, .int .i64 0, .int .i64 0]) rfl) rfl (by intro p hp; simp only [List.mem_cons, List.not_mem_nil, or_false] at hp; rcases hp with rfl | rfl | rfl; exact ⟨one_val rfl, e0⟩; exact ⟨one_val rfl, e6⟩; exact ⟨one_val rfl, rfl⟩))
 · intro ax tx hs okx sm
   exact run_plain rfl (y_alloc Try.inf42 rfl (alloc_vals (vs := [.int .i64 0, .bool false, .bool false, .int .i64 0, .int .i64 0]) rfl))
 intro a4 s4 D4
 have ok4 := D4.ok
 have F4 := F3.step0 D4.stp
 have q10 := D4.kt q7 rfl
 have q11 := D4.kt q8 rfl
 have q12 := D4.kt q9 rfl
 have o4 := OwnP.k0 o3 D4.stp
 have q13 : At (Ty.agg [(Ty.nat ((List.length R) - 1)), (Ty.bool (decide ((((rankL ((R.getD ((List.length R) - 1) []))) : Nat) : Int) = (0 : Int)))), (Ty.bool true), (Ty.int (0 : Int)), (Ty.int (0 : Int))]) s4 a4 (.tmp 29) := D4.done 7 (by decide)
 obtain ⟨x2, hx2⟩ : ∃ x, a4.eval (.tmp 9) = x := ⟨_, rfl⟩
 have q14 : At (Ty.val x2) s4 a4 (.tmp 9) := hx2
 have o5 : OwnP s4 5 x2 [(Ty.int (0 : Int)), (Ty.bool false), (Ty.bool false), (Ty.int (0 : Int)), (Ty.int (0 : Int))] := al2 (R := (Pr.ownp 5 [(Ty.int (0 : Int)), (Ty.bool false), (Ty.bool false), (Ty.int (0 : Int)), (Ty.int (0 : Int))])) hx2 (D4.done 8 (by decide))
 clear D4
 refine tailL0 (L := [5]) (R := (fun _ τ => OwnP τ 5 x2 [(Ty.nat ((List.length R) - 1)), (Ty.bool (decide ((((rankL ((R.getD ((List.length R) - 1) []))) : Nat) : Int) = (0 : Int)))), (Ty.bool true), (Ty.int (0 : Int)), (Ty.int (0 : Int))])) rfl rfl (YldM.toL (m_storeagg Try.inf42 (by decide) o5 q14 rfl q13 (by intro U hU; simp only [List.mem_cons, List.not_mem_nil, or_false] at hU; rcases hU with rfl | rfl | rfl | rfl | rfl <;> first | exact one_val rfl | exact one_sl | exact one_ref))) (fun v1 s5 hs1 r1 => ?_)
 have F5 := F4.stepL hs1 (by decide)
 have q15 := kpL hs1 (by decide) rfl q10
 have q16 := kpL hs1 (by decide) rfl q11
 have q17 := kpL hs1 (by decide) rfl q12
 have q18 := kpL hs1 (by decide) rfl q14
 have o7 := OwnP.keepL o4 hs1 (by decide) (by decide)
 have o6 : OwnP s5 5 x2 [(Ty.nat ((List.length R) - 1)), (Ty.bool (decide ((((rankL ((R.getD ((List.length R) - 1) []))) : Nat) : Int) = (0 : Int)))), (Ty.bool true), (Ty.int (0 : Int)), (Ty.int (0 : Int))] := r1
 clear r1
 refine wpList_nil ?_
 refine tn ?_
 refine wp_seq ?_
 refine reg2 (a := a4) (σ := s5) rfl 1 (fun i_ => List.getD [(Pr.ownm Ty.int kI 6 (fun _ => none : Int → Option Int))] i_ Pr.any) ok4 rfl (by decide) rfl ⟨?_, trivial⟩ ?_
 · intro ax tx hs okx sm
   exact run_plain rfl (y_makemap 6)
 intro a5 s6 D5
 have ok5 := D5.ok
 have F6 := F5.step0 D5.stp
 have q20 := D5.kt q15 rfl
 have q21 := D5.kt q16 rfl
 have q22 := D5.kt q17 rfl
 have q23 := D5.kt q18 rfl
 have o8 := OwnP.k0 o7 D5.stp
 have o9 := OwnP.k0 o6 D5.stp
 obtain ⟨x3, hx3⟩ : ∃ x, a5.eval (.tmp 30) = x := ⟨_, rfl⟩
 have q24 : At (Ty.val x3) s6 a5 (.tmp 30) := hx3
 have o10 : OwnM Ty.int kI s6 6 x3 (fun _ => none : Int → Option Int) := al2 (R := (Pr.ownm Ty.int kI 6 (fun _ => none : Int → Option Int))) hx3 (D5.done 0 (by decide))
 clear D5
 refine tailL (L := []) (R := (fun v τ => Pr.has (Ty.pr (Ty.val x3)) τ v)) rfl rfl (by decide) ok5 (Yld.toL (y_assign q24)) (fun a6 s7 hs2 ok6 r2 sm1 => ?_)
 have F7 := F6.stepL hs2 (by decide)
 have q25 := kpL hs2 (by decide) (sm1 6 (by decide)) q20
 have q26 := kpL hs2 (by decide) (sm1 7 (by decide)) q21
 have q27 := kpL hs2 (by decide) (sm1 8 (by decide)) q22
 have q28 := kpL hs2 (by decide) (sm1 9 (by decide)) q23
 have o11 := OwnP.keepL o8 hs2 (by decide) (by decide)
 have o12 := OwnP.keepL o9 hs2 (by decide) (by decide)
 have o13 := OwnM.keepL o10 hs2 (by decide) (by decide)
 have q29 : At (Ty.val x3) s7 a6 (.tmp 10) := r2
 clear r2
 refine wpList_nil ?_
 refine tn ?_
 refine wp_seq ?_
 refine wp_seq ?_
 refine reg (a := a6) (σ := s7) rfl (fun i_ => List.getD [(Ty.pr (Ty.int (0 : Int)))] i_ Pr.any) ok6 rfl ⟨?_, trivial⟩ ?_
 · intro ax tx hs okx sm
   exact run_plain rfl (y_assign rfl)
 intro a7 s8 D6
 have ok7 := D6.ok
 have F8 := F7.step0 D6.stp
 have q30 := D6.kt q25 rfl
 have q31 := D6.kt q26 rfl
 have q32 := D6.kt q27 rfl
 have q33 := D6.kt q28 rfl
 have q34 := D6.kt q29 rfl
 have o14 := OwnP.k0 o11 D6.stp
 have o15 := OwnP.k0 o12 D6.stp
 have o16 := OwnM.k0 o13 D6.stp
 have q35 : At (Ty.int (0 : Int)) s8 a7 (.tmp 11) := D6.done 0
 clear D6
 refine tn ?_
 refine wp_block ?_
 refine loop (fun n1 a8 w1 => ∃ (t1 : GW) (k : Nat), t1.w = w1 ∧ FromL [] s0 t1 ∧ Ok 58 a8 ∧ At (Ty.nat k) t1 a8 (.tmp 11) ∧ At (Ty.val x1) t1 a8 (.tmp 6) ∧ At (Ty.lst Ty.ints R) t1 a8 (.tmp 7) ∧ At (Ty.nat ((List.length R) - 1)) t1 a8 (.tmp 8) ∧ At (Ty.val x2) t1 a8 (.tmp 9) ∧ At (Ty.val x3) t1 a8 (.tmp 10) ∧ OwnM Ty.int kI t1 6 x3 (mapOf R k) ∧ OwnP t1 4 x1 [(Ty.int (0 : Int)), (Ty.bool false), (Ty.bool false), (Ty.int (0 : Int)), (Ty.int (0 : Int))] ∧ OwnP t1 5 x2 [(Ty.nat ((List.length R) - 1)), (Ty.bool (decide ((((rankL ((R.getD ((List.length R) - 1) []))) : Nat) : Int) = (0 : Int)))), (Ty.bool true), (Ty.int (0 : Int)), (Ty.int (0 : Int))] ∧ (k ≤ (R.length - 1)) ∧ (prF R (R.length - 1 - k) k = prO R) ∧ n1 = (R.length - 1) - k) ((R.length - 1) - (0)) ?_ ?_
 ·
  exact ⟨s8, 0, rfl, F8, ok7, (cvi (by (first | rfl | omega | (simp_all; done) | (simp_all; omega))) q35), q30, q31, q32, q33, q34, (cvm (by (rfl)) o16), o14, o15, by omega, rfl, rfl⟩
 ·
  rintro n2 a9 w2 ⟨t2, k, rfl, F9, ok8, q36, q37, q38, q39, q40, q41, o17, o18, o19, hk, hp, rfl⟩
  refine wp_seq ?_
  refine wp_seq ?_
  refine reg (a := a9) (σ := t2) rfl (fun i_ => List.getD [(Ty.pr (Ty.nat k)), (Ty.pr (Ty.nat ((List.length R) - 1))), (Ty.pr (Ty.bool (decide (((k : Nat) : Int) < ((((List.length R) - 1) : Nat) : Int)))))] i_ Pr.any) ok8 rfl ⟨?_, ?_, ?_, trivial⟩ ?_
  · intro ax tx hs okx sm
    exact run_plain rfl (y_move (kp (sm 11 rfl) hs q36))
  · intro ax tx hs okx sm
    exact run_plain rfl (y_move (kp (sm 8 rfl) hs q39))
  · intro ax tx hs okx sm d0 d1
    have e0 := ed d0 rfl rfl rfl
    have e1 := ed d1 rfl rfl rfl
    exact run_plain rfl (y_lss e0 e1)
  intro a10 s9 D7
  have ok9 := D7.ok
  have F10 := F9.step0 D7.stp
  have q42 := D7.kt q36 rfl
  have q43 := D7.kt q37 rfl
  have q44 := D7.kt q38 rfl
  have q45 := D7.kt q39 rfl
  have q46 := D7.kt q40 rfl
  have q47 := D7.kt q41 rfl
  have o20 := OwnM.k0 o17 D7.stp
  have o21 := OwnP.k0 o18 D7.stp
  have o22 := OwnP.k0 o19 D7.stp
  have q48 : At (Ty.bool (decide (((k : Nat) : Int) < ((((List.length R) - 1) : Nat) : Int)))) s9 a10 (.tmp 33) := D7.done 2
  clear D7
  refine tn ?_
  refine cond_p (p := (((k : Nat) : Int) < ((((List.length R) - 1) : Nat) : Int))) q48 (fun c1 => ?_) (fun c1 => ?_)
  ·
   have hfr := hrw k (by omega); have hln := hfr.1.le; have hrwk := hfr.1
   refine wp_skip ?_
   refine tn ?_
   refine wp_seq ?_
   refine wp_block ?_
   refine wp_seq ?_
   refine reg (a := a10) (σ := s9) rfl (fun i_ => List.getD [(Ty.pr (Ty.lst Ty.ints R)), (Ty.pr (Ty.nat k)), (Ty.pr (Ty.ref [(Ty.lst Ty.int (R.getD k []))])), (Ty.pr (Ty.lst Ty.int (R.getD k []))), (Ty.pr (Ty.nat (rankL ((R.getD k []))))), (Ty.pr (Ty.nat (rankL ((R.getD k [])))))] i_ Pr.any) ok9 rfl ⟨?_, ?_, ?_, ?_, ?_, ?_, trivial⟩ ?_
   · intro ax tx hs okx sm
     exact run_plain rfl (y_move (kp (sm 7 rfl) hs q44))
   · intro ax tx hs okx sm
     exact run_plain rfl (y_move (kp (sm 11 rfl) hs q42))
   · intro ax tx hs okx sm d0 d1
     have e0 := ed d0 rfl rfl rfl
     have e1 := ed d1 rfl rfl rfl
     exact run_plain rfl (y_index1 Try.underlying29 Try.inf23 e0 e1 (by omega) (lst_get Ty.ints R [] k (by omega)))
   · intro ax tx hs okx sm d0
     have e2 := ed d0 rfl rfl rfl
     exact run_plain rfl (y_load Try.underlying23 rfl e2 rfl)
   · intro ax tx hs okx sm d0
     have e3 := ed d0 rfl rfl rfl
     exact run_plain rfl (y_call #[ax.eval (.tmp 39)] Try.func41 rfl rfl (by simp only [List.map_toArray, List.map_cons, List.map_nil]) (rRank_fn ((R.getD k [])) _ _ e3 (by first | omega | assumption)))
   · intro ax tx hs okx sm d0 d1 d2 d3 d4 d5 d6
     have e4 := ed d0 rfl rfl rfl
     exact run_plain rfl (y_assign e4)
   intro a11 s10 D8
   have ok10 := D8.ok
   have F11 := F10.step0 D8.stp
   have q49 := D8.kt q42 rfl
   have q50 := D8.kt q43 rfl
   have q51 := D8.kt q44 rfl
   have q52 := D8.kt q45 rfl
   have q53 := D8.kt q46 rfl
   have q54 := D8.kt q47 rfl
   have o23 := OwnM.k0 o20 D8.stp
   have o24 := OwnP.k0 o21 D8.stp
   have o25 := OwnP.k0 o22 D8.stp
   have q55 : At (Ty.nat (rankL ((R.getD k [])))) s10 a11 (.tmp 12) := D8.done 5
   clear D8
   refine tn ?_
   refine wp_seq ?_
   refine reg (a := a11) (σ := s10) rfl (fun i_ => List.getD [(Ty.pr (Ty.val x3)), (Ty.pr (Ty.nat (rankL ((R.getD k []))))), (Ty.pr (Ty.tup2 (Ty.int (((mapOf R k) (((rankL ((R.getD k []))) : Nat) : Int)).getD 0)) (Ty.bool (Option.isSome ((mapOf R k) (((rankL ((R.getD k []))) : Nat) : Int)))))), (Ty.pr (Ty.tup2 (Ty.int (((mapOf R k) (((rankL ((R.getD k []))) : Nat) : Int)).getD 0)) (Ty.bool (Option.isSome ((mapOf R k) (((rankL ((R.getD k []))) : Nat) : Int)))))), (Ty.pr (Ty.int (((mapOf R k) (((rankL ((R.getD k []))) : Nat) : Int)).getD 0))), (Ty.pr (Ty.bool (Option.isSome ((mapOf R k) (((rankL ((R.getD k []))) : Nat) : Int))))), (Ty.pr (Ty.int (((mapOf R k) (((rankL ((R.getD k []))) : Nat) : Int)).getD 0))), (Ty.pr (Ty.bool (Option.isSome ((mapOf R k) (((rankL ((R.getD k []))) : Nat) : Int)))))] i_ Pr.any) ok10 rfl ⟨?_, ?_, ?_, ?_, ?_, ?_, ?_, ?_, trivial⟩ ?_
   · intro ax tx hs okx sm
     exact run_plain rfl (y_move (kp (sm 10 rfl) hs q54))
   · intro ax tx hs okx sm
     exact run_plain rfl (y_move (kp (sm 12 rfl) hs q55))
   · intro ax tx hs okx sm d0 d1
     have e0 := ed d0 rfl rfl rfl
     have e1 := ed d1 rfl rfl rfl
     exact run_plain rfl (y_lookup2 (i := (((rankL ((R.getD k []))) : Nat) : Int)) (z := 0) Try.underlying86 (keyInt Try.underlying3) Try.inf3 (fun _ => rfl) (OwnM.k0 o23 hs) e0 e1)
   · intro ax tx hs okx sm d0
     have e2 := ed d0 rfl rfl rfl
     exact run_plain rfl (y_move e2)
   · intro ax tx hs okx sm d0
     have e3 := ed d0 rfl rfl rfl
     exact run_plain rfl (y_ext2_0 e3)
   · intro ax tx hs okx sm d0 d1
     have e3 := ed d0 rfl rfl rfl
     exact run_plain rfl (y_ext2_1 e3)
   · intro ax tx hs okx sm d0 d1 d2 d3 d4 d5 d6
     have e4 := ed d0 rfl rfl rfl
     exact run_plain rfl (y_assign e4)
   · intro ax tx hs okx sm d0 d1 d2 d3 d4 d5 d6 d7 d8
     have e5 := ed d0 rfl rfl rfl
     exact run_plain rfl (y_assign e5)
   intro a12 s11 D9
   have ok11 := D9.ok
   have F12 := F11.step0 D9.stp
   have q56 := D9.kt q49 rfl
   have q57 := D9.kt q50 rfl
   have q58 := D9.kt q51 rfl
   have q59 := D9.kt q52 rfl
   have q60 := D9.kt q53 rfl
   have q61 := D9.kt q54 rfl
   have q62 := D9.kt q55 rfl
   have o26 := OwnM.k0 o23 D9.stp
   have o27 := OwnP.k0 o24 D9.stp
   have o28 := OwnP.k0 o25 D9.stp
   have q63 : At (Ty.int (((mapOf R k) (((rankL ((R.getD k []))) : Nat) : Int)).getD 0)) s11 a12 (.tmp 13) := D9.done 6
   have q64 : At (Ty.bool (Option.isSome ((mapOf R k) (((rankL ((R.getD k []))) : Nat) : Int)))) s11 a12 (.tmp 14) := D9.done 7
   clear D9
   refine tn ?_
   refine wp_seq ?_
   refine wp_seq ?_
   refine reg (a := a12) (σ := s11) rfl (fun i_ => List.getD [(Ty.pr (Ty.bool (Option.isSome ((mapOf R k) (((rankL ((R.getD k []))) : Nat) : Int)))))] i_ Pr.any) ok11 rfl ⟨?_, trivial⟩ ?_
   · intro ax tx hs okx sm
     exact run_plain rfl (y_move (kp (sm 14 rfl) hs q64))
   intro a13 s12 D10
   have ok12 := D10.ok
   have F13 := F12.step0 D10.stp
   have q65 := D10.kt q56 rfl
   have q66 := D10.kt q57 rfl
   have q67 := D10.kt q58 rfl
   have q68 := D10.kt q59 rfl
   have q69 := D10.kt q60 rfl
   have q70 := D10.kt q61 rfl
   have q71 := D10.kt q62 rfl
   have q72 := D10.kt q63 rfl
   have o29 := OwnM.k0 o26 D10.stp
   have o30 := OwnP.k0 o27 D10.stp
   have o31 := OwnP.k0 o28 D10.stp
   have q73 : At (Ty.bool (Option.isSome ((mapOf R k) (((rankL ((R.getD k []))) : Nat) : Int)))) s12 a13 (.tmp 47) := D10.done 0
   clear D10
   refine tn ?_
   refine cond_t q73 (fun c2 => ?_) (fun c2 => ?_)
   ·
    obtain ⟨j, hj⟩ := Option.isSome_iff_exists.1 c2; have hpo := pr_hit hp (by omega) hj
    refine wp_seq ?_
    refine reg2 (a := a13) (σ := s12) rfl 1 (fun i_ => List.getD [(Ty.pr (Ty.val (ptrAt x2 2)))] i_ Pr.any) ok12 rfl (by decide) rfl ⟨?_, trivial⟩ ?_
    · intro ax tx hs okx sm
      exact run_plain rfl (ownp_field Try.fld42_2 Try.inf4 (by decide) (OwnP.k0 o31 hs) (kp (sm 9 rfl) hs q69))
    intro a14 s13 D11
    have ok13 := D11.ok
    have F14 := F13.step0 D11.stp
    have q74 := D11.kt q65 rfl
    have q75 := D11.kt q66 rfl
    have q76 := D11.kt q69 rfl
    have q77 := D11.kt q72 rfl
    have o32 := OwnM.k0 o29 D11.stp
    have o33 := OwnP.k0 o30 D11.stp
    have o34 := OwnP.k0 o31 D11.stp
    have q78 : At (Ty.val (ptrAt x2 2)) s13 a14 (.tmp 48) := D11.done 0 (by decide)
    clear D11
    refine tailL0 (L := [5]) (R := (fun _ τ => OwnP τ 5 x2 ([(Ty.nat ((List.length R) - 1)), (Ty.bool (decide ((((rankL ((R.getD ((List.length R) - 1) []))) : Nat) : Int) = (0 : Int)))), (Ty.bool true), (Ty.int (0 : Int)), (Ty.int (0 : Int))].set 2 (Ty.bool false)))) rfl rfl (YldM.toL (m_storep Try.inf4 (by decide) o34 q78 (Nat.le_of_ble_eq_true rfl) rfl (one_val rfl))) (fun v2 s14 hs3 r3 => ?_)
    have F15 := F14.stepL hs3 (by decide)
    have q79 := kpL hs3 (by decide) rfl q74
    have q80 := kpL hs3 (by decide) rfl q75
    have q81 := kpL hs3 (by decide) rfl q76
    have q82 := kpL hs3 (by decide) rfl q77
    have o36 := OwnM.keepL o32 hs3 (by decide) (by decide)
    have o37 := OwnP.keepL o33 hs3 (by decide) (by decide)
    have o35 : OwnP s14 5 x2 [(Ty.nat ((List.length R) - 1)), (Ty.bool (decide ((((rankL ((R.getD ((List.length R) - 1) []))) : Nat) : Int) = (0 : Int)))), (Ty.bool false), (Ty.int (0 : Int)), (Ty.int (0 : Int))] := r3
    clear r3
    refine wpList_nil ?_
    refine tn ?_
    refine wp_seq ?_
    refine reg2 (a := a14) (σ := s14) rfl 2 (fun i_ => List.getD [(Ty.pr (Ty.nat k)), (Ty.pr (Ty.val (ptrAt x2 3)))] i_ Pr.any) ok13 rfl (by decide) rfl ⟨?_, ?_, trivial⟩ ?_
    · intro ax tx hs okx sm
      exact run_plain rfl (y_move (kp (sm 11 rfl) hs q79))
    · intro ax tx hs okx sm d0
      exact run_plain rfl (ownp_field Try.fld42_3 Try.inf3 (by decide) (OwnP.k0 o35 hs) (kp (sm 9 rfl) hs q81))
    intro a15 s15 D12
    have ok14 := D12.ok
    have F16 := F15.step0 D12.stp
    have q84 := D12.kt q80 rfl
    have q85 := D12.kt q81 rfl
    have q86 := D12.kt q82 rfl
    have o38 := OwnP.k0 o37 D12.stp
    have o39 := OwnP.k0 o35 D12.stp
    have q87 : At (Ty.nat k) s15 a15 (.tmp 49) := D12.done 0 (by decide)
    have q88 : At (Ty.val (ptrAt x2 3)) s15 a15 (.tmp 50) := D12.done 1 (by decide)
    clear D12
    refine tailL0 (L := [5]) (R := (fun _ τ => OwnP τ 5 x2 ([(Ty.nat ((List.length R) - 1)), (Ty.bool (decide ((((rankL ((R.getD ((List.length R) - 1) []))) : Nat) : Int) = (0 : Int)))), (Ty.bool false), (Ty.int (0 : Int)), (Ty.int (0 : Int))].set 3 (Ty.nat k)))) rfl rfl (YldM.toL (m_storep Try.inf3 (by decide) o39 q88 (Nat.le_of_ble_eq_true rfl) q87 (one_val rfl))) (fun v3 s16 hs4 r4 => ?_)
    have F17 := F16.stepL hs4 (by decide)
    have q89 := kpL hs4 (by decide) rfl q84
    have q90 := kpL hs4 (by decide) rfl q85
    have q91 := kpL hs4 (by decide) rfl q86
    have o41 := OwnP.keepL o38 hs4 (by decide) (by decide)
    have o40 : OwnP s16 5 x2 [(Ty.nat ((List.length R) - 1)), (Ty.bool (decide ((((rankL ((R.getD ((List.length R) - 1) []))) : Nat) : Int) = (0 : Int)))), (Ty.bool false), (Ty.nat k), (Ty.int (0 : Int))] := r4
    clear r4
    refine wpList_nil ?_
    refine tn ?_
    refine wp_seq ?_
    refine reg2 (a := a15) (σ := s16) rfl 2 (fun i_ => List.getD [(Ty.pr (Ty.int (((mapOf R k) (((rankL ((R.getD k []))) : Nat) : Int)).getD 0))), (Ty.pr (Ty.val (ptrAt x2 4)))] i_ Pr.any) ok14 rfl (by decide) rfl ⟨?_, ?_, trivial⟩ ?_
    · intro ax tx hs okx sm
      exact run_plain rfl (y_move (kp (sm 13 rfl) hs q91))
    · intro ax tx hs okx sm d0
      exact run_plain rfl (ownp_field Try.fld42_4 Try.inf3 (by decide) (OwnP.k0 o40 hs) (kp (sm 9 rfl) hs q90))
    intro a16 s17 D13
    have ok15 := D13.ok
    have F18 := F17.step0 D13.stp
    have q93 := D13.kt q89 rfl
    have q94 := D13.kt q90 rfl
    have o42 := OwnP.k0 o41 D13.stp
    have o43 := OwnP.k0 o40 D13.stp
    have q95 : At (Ty.int (((mapOf R k) (((rankL ((R.getD k []))) : Nat) : Int)).getD 0)) s17 a16 (.tmp 51) := D13.done 0 (by decide)
    have q96 : At (Ty.val (ptrAt x2 4)) s17 a16 (.tmp 52) := D13.done 1 (by decide)
    clear D13
    refine tailL0 (L := [5]) (R := (fun _ τ => OwnP τ 5 x2 ([(Ty.nat ((List.length R) - 1)), (Ty.bool (decide ((((rankL ((R.getD ((List.length R) - 1) []))) : Nat) : Int) = (0 : Int)))), (Ty.bool false), (Ty.nat k), (Ty.int (0 : Int))].set 4 (Ty.int (((mapOf R k) (((rankL ((R.getD k []))) : Nat) : Int)).getD 0))))) rfl rfl (YldM.toL (m_storep Try.inf3 (by decide) o43 q96 (Nat.le_of_ble_eq_true rfl) q95 (one_val rfl))) (fun v4 s18 hs5 r5 => ?_)
    have F19 := F18.stepL hs5 (by decide)
    have q97 := kpL hs5 (by decide) rfl q93
    have q98 := kpL hs5 (by decide) rfl q94
    have o45 := OwnP.keepL o42 hs5 (by decide) (by decide)
    have o44 : OwnP s18 5 x2 [(Ty.nat ((List.length R) - 1)), (Ty.bool (decide ((((rankL ((R.getD ((List.length R) - 1) []))) : Nat) : Int) = (0 : Int)))), (Ty.bool false), (Ty.nat k), (Ty.int (((mapOf R k) (((rankL ((R.getD k []))) : Nat) : Int)).getD 0))] := r5
    clear r5
    refine wpList_nil ?_
    refine tn ?_
    refine wp_seq ?_
    refine reg2 (a := a16) (σ := s18) rfl 1 (fun i_ => List.getD [(Ty.pr (Ty.agg [(Ty.nat ((List.length R) - 1)), (Ty.bool (decide ((((rankL ((R.getD ((List.length R) - 1) []))) : Nat) : Int) = (0 : Int)))), (Ty.bool false), (Ty.nat k), (Ty.int (((mapOf R k) (((rankL ((R.getD k []))) : Nat) : Int)).getD 0))]))] i_ Pr.any) ok15 rfl (by decide) rfl ⟨?_, trivial⟩ ?_
    · intro ax tx hs okx sm
      exact run_plain rfl (ownp_loadagg Try.underlying42 Try.inf42 (OwnP.k0 o44 hs) (kp (sm 9 rfl) hs q98))
    intro a17 s19 D14
    have ok16 := D14.ok
    have F20 := F19.step0 D14.stp
    have q100 := D14.kt q97 rfl
    have o46 := OwnP.k0 o45 D14.stp
    have o47 := OwnP.k0 o44 D14.stp
    have q101 : At (Ty.agg [(Ty.nat ((List.length R) - 1)), (Ty.bool (decide ((((rankL ((R.getD ((List.length R) - 1) []))) : Nat) : Int) = (0 : Int)))), (Ty.bool false), (Ty.nat k), (Ty.int (((mapOf R k) (((rankL ((R.getD k []))) : Nat) : Int)).getD 0))]) s19 a17 (.tmp 53) := D14.done 0 (by decide)
    clear D14
    refine tailL0 (L := [4]) (R := (fun _ τ => OwnP τ 4 x1 [(Ty.nat ((List.length R) - 1)), (Ty.bool (decide ((((rankL ((R.getD ((List.length R) - 1) []))) : Nat) : Int) = (0 : Int)))), (Ty.bool false), (Ty.nat k), (Ty.int (((mapOf R k) (((rankL ((R.getD k []))) : Nat) : Int)).getD 0))])) rfl rfl (YldM.toL (m_storeagg Try.inf42 (by decide) o46 q100 rfl q101 (by intro U hU; simp only [List.mem_cons, List.not_mem_nil, or_false] at hU; rcases hU with rfl | rfl | rfl | rfl | rfl <;> first | exact one_val rfl | exact one_sl | exact one_ref))) (fun v5 s20 hs6 r6 => ?_)
    have F21 := F20.stepL hs6 (by decide)
    have q102 := kpL hs6 (by decide) rfl q100
    have o49 := OwnP.keepL o47 hs6 (by decide) (by decide)
    have o48 : OwnP s20 4 x1 [(Ty.nat ((List.length R) - 1)), (Ty.bool (decide ((((rankL ((R.getD ((List.length R) - 1) []))) : Nat) : Int) = (0 : Int)))), (Ty.bool false), (Ty.nat k), (Ty.int (((mapOf R k) (((rankL ((R.getD k []))) : Nat) : Int)).getD 0))] := r6
    clear r6
    refine wpList_nil ?_
    refine tn ?_
    refine wp_ret ?_
    refine tr ?_
    refine br ?_
    refine tr ?_
    refine tr ?_
    refine br ?_
    refine tr ?_
    have o50 : OwnP s20 4 x1 [(Ty.nat ((List.length R) - 1)), (Ty.bool (decide ((((rankL ((R.getD ((List.length R) - 1) []))) : Nat) : Int) = (0 : Int)))), (Ty.bool false), (Ty.nat k), (Ty.int (((mapOf R k) (((rankL ((R.getD k []))) : Nat) : Int)).getD 0))] := o48
    have o51 : OwnP s20 4 x1 [(Ty.nat (leads.length * l.length)), (Ty.bool (decide ((((rankL ((R.getD ((List.length R) - 1) []))) : Nat) : Int) = (0 : Int)))), (Ty.bool false), (Ty.nat k), (Ty.int (((mapOf R k) (((rankL ((R.getD k []))) : Nat) : Int)).getD 0))] := cvop (by rw [show (Ty.nat ((List.length R) - 1)) = (Ty.nat (leads.length * l.length)) from by (rw [show R.length - 1 = leads.length * l.length by omega])]) o50
    have o52 : OwnP s20 4 x1 [(Ty.nat (leads.length * l.length)), (Ty.bool (rndB (tRows n.toNat l cs leads leads.length))), (Ty.bool false), (Ty.nat k), (Ty.int (((mapOf R k) (((rankL ((R.getD k []))) : Nat) : Int)).getD 0))] := cvop (by rw [show (Ty.bool (decide ((((rankL ((R.getD ((List.length R) - 1) []))) : Nat) : Int) = (0 : Int)))) = (Ty.bool (rndB (tRows n.toNat l cs leads leads.length))) from by (rw [← hR]; rfl)]) o51
    have o53 : OwnP s20 4 x1 [(Ty.nat (leads.length * l.length)), (Ty.bool (rndB (tRows n.toNat l cs leads leads.length))), (Ty.bool (prO (tRows n.toNat l cs leads leads.length)).isNone), (Ty.nat k), (Ty.int (((mapOf R k) (((rankL ((R.getD k []))) : Nat) : Int)).getD 0))] := cvop (by rw [show (Ty.bool false) = (Ty.bool (prO (tRows n.toNat l cs leads leads.length)).isNone) from by (rw [← hR]; rw [hpo]; rfl)]) o52
    have o54 : OwnP s20 4 x1 [(Ty.nat (leads.length * l.length)), (Ty.bool (rndB (tRows n.toNat l cs leads leads.length))), (Ty.bool (prO (tRows n.toNat l cs leads leads.length)).isNone), (Ty.nat (agnL (tRows n.toNat l cs leads leads.length))), (Ty.int (((mapOf R k) (((rankL ((R.getD k []))) : Nat) : Int)).getD 0))] := cvop (by rw [show (Ty.nat k) = (Ty.nat (agnL (tRows n.toNat l cs leads leads.length))) from by (rw [← hR]; unfold agnL; rw [hpo]; rfl)]) o53
    have o55 : OwnP s20 4 x1 [(Ty.nat (leads.length * l.length)), (Ty.bool (rndB (tRows n.toNat l cs leads leads.length))), (Ty.bool (prO (tRows n.toNat l cs leads leads.length)).isNone), (Ty.nat (agnL (tRows n.toNat l cs leads leads.length))), (Ty.int (befL (tRows n.toNat l cs leads leads.length)))] := cvop (by rw [show (Ty.int (((mapOf R k) (((rankL ((R.getD k []))) : Nat) : Int)).getD 0)) = (Ty.int (befL (tRows n.toNat l cs leads leads.length))) from by (rw [← hR]; unfold befL; rw [hpo, hj]; rfl)]) o54
    exact retL1c (k := 4) (ts := [(Ty.nat (leads.length * l.length)), (Ty.bool (rndB (tRows n.toNat l cs leads leads.length))), (Ty.bool (prO (tRows n.toNat l cs leads leads.length)).isNone), (Ty.nat (agnL (tRows n.toNat l cs leads leads.length))), (Ty.int (befL (tRows n.toNat l cs leads leads.length)))]) rfl ok16 F21 Try.underlying42 Try.inf42 (al (R := (Pr.ownp 4 [(Ty.nat (leads.length * l.length)), (Ty.bool (rndB (tRows n.toNat l cs leads leads.length))), (Ty.bool (prO (tRows n.toNat l cs leads leads.length)).isNone), (Ty.nat (agnL (tRows n.toNat l cs leads leads.length))), (Ty.int (befL (tRows n.toNat l cs leads leads.length)))])) q102 o55) (fun v_ hv_ => hv_)
   ·
    have hnn := opt_nof c2; have hpx := pr_next hp (by omega) hnn
    refine wp_skip ?_
    refine tn ?_
    refine reg2 (a := a13) (σ := s12) rfl 3 (fun i_ => List.getD [(Ty.pr (Ty.val x3)), (Ty.pr (Ty.nat (rankL ((R.getD k []))))), (Ty.pr (Ty.nat k))] i_ Pr.any) ok12 rfl (by decide) rfl ⟨?_, ?_, ?_, trivial⟩ ?_
    · intro ax tx hs okx sm
      exact run_plain rfl (y_move (kp (sm 10 rfl) hs q70))
    · intro ax tx hs okx sm
      exact run_plain rfl (y_move (kp (sm 12 rfl) hs q71))
    · intro ax tx hs okx sm
      exact run_plain rfl (y_move (kp (sm 11 rfl) hs q65))
    intro a18 s21 D15
    have ok17 := D15.ok
    have F22 := F13.step0 D15.stp
    have q104 := D15.kt q65 rfl
    have q105 := D15.kt q66 rfl
    have q106 := D15.kt q67 rfl
    have q107 := D15.kt q68 rfl
    have q108 := D15.kt q69 rfl
    have q109 := D15.kt q70 rfl
    have o56 := OwnM.k0 o29 D15.stp
    have o57 := OwnP.k0 o30 D15.stp
    have o58 := OwnP.k0 o31 D15.stp
    have q110 : At (Ty.val x3) s21 a18 (.tmp 54) := D15.done 0 (by decide)
    have q111 : At (Ty.nat (rankL ((R.getD k [])))) s21 a18 (.tmp 55) := D15.done 1 (by decide)
    have q112 : At (Ty.nat k) s21 a18 (.tmp 56) := D15.done 2 (by decide)
    clear D15
    refine tailL0 (L := [6]) (R := (fun _ τ => OwnM Ty.int kI τ 6 x3 (fun x_ => if x_ = (((rankL ((R.getD k []))) : Nat) : Int) then some ((k : Nat) : Int) else (mapOf R k) x_))) rfl rfl (YldM.toL (m_mapset (i := (((rankL ((R.getD k []))) : Nat) : Int)) Try.underlying86 (keyInt Try.underlying3) (by decide) o56 q110 q111 q112)) (fun v6 s22 hs7 r7 => ?_)
    have F23 := F22.stepL hs7 (by decide)
    have q113 := kpL hs7 (by decide) rfl q104
    have q114 := kpL hs7 (by decide) rfl q105
    have q115 := kpL hs7 (by decide) rfl q106
    have q116 := kpL hs7 (by decide) rfl q107
    have q117 := kpL hs7 (by decide) rfl q108
    have q118 := kpL hs7 (by decide) rfl q109
    have o60 := OwnP.keepL o57 hs7 (by decide) (by decide)
    have o61 := OwnP.keepL o58 hs7 (by decide) (by decide)
    have o59 : OwnM Ty.int kI s22 6 x3 (fun x_ => if x_ = (((rankL ((R.getD k []))) : Nat) : Int) then some ((k : Nat) : Int) else (mapOf R k) x_) := r7
    clear r7
    refine wpList_nil ?_
    refine bn ?_
    refine tn ?_
    refine reg (a := a18) (σ := s22) rfl (fun i_ => List.getD [(Ty.pr (Ty.nat k)), (Ty.pr (Ty.nat (k + 1))), (Ty.pr (Ty.nat (k + 1)))] i_ Pr.any) ok17 rfl ⟨?_, ?_, ?_, trivial⟩ ?_
    · intro ax tx hs okx sm
      exact run_plain rfl (y_move (kp (sm 11 rfl) hs q113))
    · intro ax tx hs okx sm d0
      have e0 := ed d0 rfl rfl rfl
      exact run_plain rfl ((y_add e0 rfl (w64 (by omega) (by omega))).mono (fun τ _ h => cvi (σ := τ) (by first | omega | exact (Int.natCast_mul _ _).symm) h))
    · intro ax tx hs okx sm d0 d1 d2
      have e1 := ed d0 rfl rfl rfl
      exact run_plain rfl (y_assign e1)
    intro a19 s23 D16
    have ok18 := D16.ok
    have F24 := F23.step0 D16.stp
    have q120 := D16.kt q114 rfl
    have q121 := D16.kt q115 rfl
    have q122 := D16.kt q116 rfl
    have q123 := D16.kt q117 rfl
    have q124 := D16.kt q118 rfl
    have o62 := OwnP.k0 o60 D16.stp
    have o63 := OwnP.k0 o61 D16.stp
    have o64 := OwnM.k0 o59 D16.stp
    have q125 : At (Ty.nat (k + 1)) s23 a19 (.tmp 11) := D16.done 2
    clear D16
    exact tn ⟨(R.length - 1) - ((k+1)), by omega, s23, (k+1), rfl, F24, ok18, (cvi (by (first | rfl | omega | (simp_all; done) | (simp_all; omega))) q125), q120, q121, q122, q123, q124, (cvm (by (rfl)) o64), o62, o63, by omega, by rw [show R.length - 1 - (k + 1) = R.length - 1 - k - 1 by omega]; exact hpx, rfl⟩
  ·
   have hpo := pr_end hp (by omega)
   refine wp_exit ?_
   refine tx ?_
   refine tx ?_
   refine bx ?_
   refine tn ?_
   refine wp_seq ?_
   refine reg2 (a := a10) (σ := s9) rfl 1 (fun i_ => List.getD [(Ty.pr (Ty.agg [(Ty.nat ((List.length R) - 1)), (Ty.bool (decide ((((rankL ((R.getD ((List.length R) - 1) []))) : Nat) : Int) = (0 : Int)))), (Ty.bool true), (Ty.int (0 : Int)), (Ty.int (0 : Int))]))] i_ Pr.any) ok9 rfl (by decide) rfl ⟨?_, trivial⟩ ?_
   · intro ax tx hs okx sm
     exact run_plain rfl (ownp_loadagg Try.underlying42 Try.inf42 (OwnP.k0 o22 hs) (kp (sm 9 rfl) hs q46))
   intro a20 s24 D17
   have ok19 := D17.ok
   have F25 := F10.step0 D17.stp
   have q126 := D17.kt q43 rfl
   have o65 := OwnM.k0 o20 D17.stp
   have o66 := OwnP.k0 o21 D17.stp
   have o67 := OwnP.k0 o22 D17.stp
   have q127 : At (Ty.agg [(Ty.nat ((List.length R) - 1)), (Ty.bool (decide ((((rankL ((R.getD ((List.length R) - 1) []))) : Nat) : Int) = (0 : Int)))), (Ty.bool true), (Ty.int (0 : Int)), (Ty.int (0 : Int))]) s24 a20 (.tmp 57) := D17.done 0 (by decide)
   clear D17
   refine tailL0 (L := [4]) (R := (fun _ τ => OwnP τ 4 x1 [(Ty.nat ((List.length R) - 1)), (Ty.bool (decide ((((rankL ((R.getD ((List.length R) - 1) []))) : Nat) : Int) = (0 : Int)))), (Ty.bool true), (Ty.int (0 : Int)), (Ty.int (0 : Int))])) rfl rfl (YldM.toL (m_storeagg Try.inf42 (by decide) o66 q126 rfl q127 (by intro U hU; simp only [List.mem_cons, List.not_mem_nil, or_false] at hU; rcases hU with rfl | rfl | rfl | rfl | rfl <;> first | exact one_val rfl | exact one_sl | exact one_ref))) (fun v7 s25 hs8 r8 => ?_)
   have F26 := F25.stepL hs8 (by decide)
   have q128 := kpL hs8 (by decide) rfl q126
   have o69 := OwnM.keepL o65 hs8 (by decide) (by decide)
   have o70 := OwnP.keepL o67 hs8 (by decide) (by decide)
   have o68 : OwnP s25 4 x1 [(Ty.nat ((List.length R) - 1)), (Ty.bool (decide ((((rankL ((R.getD ((List.length R) - 1) []))) : Nat) : Int) = (0 : Int)))), (Ty.bool true), (Ty.int (0 : Int)), (Ty.int (0 : Int))] := r8
   clear r8
   refine wpList_nil ?_
   refine tn ?_
   refine wp_ret ?_
   have o71 : OwnP s25 4 x1 [(Ty.nat ((List.length R) - 1)), (Ty.bool (decide ((((rankL ((R.getD ((List.length R) - 1) []))) : Nat) : Int) = (0 : Int)))), (Ty.bool true), (Ty.int (0 : Int)), (Ty.int (0 : Int))] := o68
   have o72 : OwnP s25 4 x1 [(Ty.nat (leads.length * l.length)), (Ty.bool (decide ((((rankL ((R.getD ((List.length R) - 1) []))) : Nat) : Int) = (0 : Int)))), (Ty.bool true), (Ty.int (0 : Int)), (Ty.int (0 : Int))] := cvop (by rw [show (Ty.nat ((List.length R) - 1)) = (Ty.nat (leads.length * l.length)) from by (rw [show R.length - 1 = leads.length * l.length by omega])]) o71
   have o73 : OwnP s25 4 x1 [(Ty.nat (leads.length * l.length)), (Ty.bool (rndB (tRows n.toNat l cs leads leads.length))), (Ty.bool true), (Ty.int (0 : Int)), (Ty.int (0 : Int))] := cvop (by rw [show (Ty.bool (decide ((((rankL ((R.getD ((List.length R) - 1) []))) : Nat) : Int) = (0 : Int)))) = (Ty.bool (rndB (tRows n.toNat l cs leads leads.length))) from by (rw [← hR]; rfl)]) o72
   have o74 : OwnP s25 4 x1 [(Ty.nat (leads.length * l.length)), (Ty.bool (rndB (tRows n.toNat l cs leads leads.length))), (Ty.bool (prO (tRows n.toNat l cs leads leads.length)).isNone), (Ty.int (0 : Int)), (Ty.int (0 : Int))] := cvop (by rw [show (Ty.bool true) = (Ty.bool (prO (tRows n.toNat l cs leads leads.length)).isNone) from by (rw [← hR]; rw [hpo]; rfl)]) o73
   have o75 : OwnP s25 4 x1 [(Ty.nat (leads.length * l.length)), (Ty.bool (rndB (tRows n.toNat l cs leads leads.length))), (Ty.bool (prO (tRows n.toNat l cs leads leads.length)).isNone), (Ty.nat (agnL (tRows n.toNat l cs leads leads.length))), (Ty.int (0 : Int))] := cvop (by rw [show (Ty.int (0 : Int)) = (Ty.nat (agnL (tRows n.toNat l cs leads leads.length))) from by (rw [← hR]; unfold agnL; rw [hpo]; rfl)]) o74
   have o76 : OwnP s25 4 x1 [(Ty.nat (leads.length * l.length)), (Ty.bool (rndB (tRows n.toNat l cs leads leads.length))), (Ty.bool (prO (tRows n.toNat l cs leads leads.length)).isNone), (Ty.nat (agnL (tRows n.toNat l cs leads leads.length))), (Ty.int (befL (tRows n.toNat l cs leads leads.length)))] := cvop (by rw [show (Ty.int (0 : Int)) = (Ty.int (befL (tRows n.toNat l cs leads leads.length))) from by (rw [← hR]; unfold befL; rw [hpo]; rfl)]) o75
   exact retL1c (k := 4) (ts := [(Ty.nat (leads.length * l.length)), (Ty.bool (rndB (tRows n.toNat l cs leads leads.length))), (Ty.bool (prO (tRows n.toNat l cs leads leads.length)).isNone), (Ty.nat (agnL (tRows n.toNat l cs leads leads.length))), (Ty.int (befL (tRows n.toNat l cs leads leads.length)))]) rfl ok19 F26 Try.underlying42 Try.inf42 (al (R := (Pr.ownp 4 [(Ty.nat (leads.length * l.length)), (Ty.bool (rndB (tRows n.toNat l cs leads leads.length))), (Ty.bool (prO (tRows n.toNat l cs leads leads.length)).isNone), (Ty.nat (agnL (tRows n.toNat l cs leads leads.length))), (Ty.int (befL (tRows n.toNat l cs leads leads.length)))])) q128 o76) (fun v_ hv_ => hv_)

theorem Try.inf22 : Info Try.prog 22 (.slice none 0 0) 1 24 := by unfold Info; kernel_rfl
theorem Try.fld42_1 : fieldOf Try.prog 42 1 = some (4, 1) := by kernel_rfl
theorem Try.fld93_0 : fieldOf Try.prog 93 0 = some (31, 0) := by kernel_rfl
theorem Try.fld93_1 : fieldOf Try.prog 93 1 = some (22, 3) := by kernel_rfl
theorem Try.fld93_2 : fieldOf Try.prog 93 2 = some (3, 4) := by kernel_rfl
theorem Try.fld93_3 : fieldOf Try.prog 93 3 = some (3, 5) := by kernel_rfl
theorem Try.fld93_4 : fieldOf Try.prog 93 4 = some (3, 6) := by kernel_rfl
theorem Try.fld93_5 : fieldOf Try.prog 93 5 = some (29, 7) := by kernel_rfl
theorem Try.fld93_6 : fieldOf Try.prog 93 6 = some (4, 8) := by kernel_rfl
set_option maxHeartbeats 4000000 in
set_option maxRecDepth 100000 in
theorem rGo_fn : ∀ (d : Nat) (q : Value) (fd : Value) (nm : ByteArray) (n : Int) (l : List (List Int)) (cs : List BCall) (leads : Nat) (many : Nat) (met : Nat) (found : List (List Int)) (full : Bool) (path : List Int) (σ : GW) (hlow : Low [40, 41] σ) (v0 v1 : Value) (hv0 : Ty.has (Ty.val q) σ v0) (hv1 : Ty.has (Ty.lst Ty.int path) σ v1) (ho_q : OwnP σ 40 q [(Ty.val (Value.string nm)), (Ty.int n), (Ty.lst Ty.ints l), (Ty.lstc 2 callC cs), (Ty.nat leads), (Ty.nat many), (Ty.nat met), (Ty.val fd), (Ty.bool full)]) (ho_fd : Own σ 41 23 1 fd (List.length found) (List.map Ty.ints found)) (hd : d + path.length = leads) (hd1 : 1 ≤ d) (h0 : callsMay nm n l cs = 0) (hic : inCalls cs path) (hq : QOk many (Qst.mk met found full)) (hm50 : many ≤ 50) (hl24 : leads ≤ 24) (hnm : nm.size ≤ 1099511627776) (hn : -9223372036854775808 ≤ n ∧ n ≤ 9223372036854775807), FnL Try.prog 52 #[v0, v1] σ [40, 41] (fun v τ => ∃ (fz : Value), True ∧ (OwnP τ 40 q [(Ty.val (Value.string nm)), (Ty.int n), (Ty.lst Ty.ints l), (Ty.lstc 2 callC cs), (Ty.nat leads), (Ty.nat many), (Ty.nat (goQ n.toNat l cs leads many d path (Qst.mk met found full)).met), (Ty.val fz), (Ty.bool (goQ n.toNat l cs leads many d path (Qst.mk met found full)).full)]) ∧ (Own τ 41 23 1 fz (List.length (goQ n.toNat l cs leads many d path (Qst.mk met found full)).found) (List.map Ty.ints (goQ n.toNat l cs leads many d path (Qst.mk met found full)).found))) := by
 intro d
 induction d using Nat.strongRecOn with
 | _ d ih =>
 intro q fd nm n l cs leads many met found full path σ hlow v0 v1 hv0 hv1 ho_q ho_fd hd hd1 h0 hic hq hm50 hl24 hnm hn
 obtain ⟨f, hf⟩ : ∃ f, d = f + 1 := ⟨d - 1, by omega⟩
 obtain ⟨s0, hs0⟩ : ∃ s0 : Qst, s0 = (Qst.mk met found full) := ⟨_, rfl⟩
 have e1_ : met = s0.met := by rw [hs0]
 have e2_ : found = s0.found := by rw [hs0]
 have e3_ : full = s0.full := by rw [hs0]
 rw [← hs0] at hq
 obtain ⟨hok, hnn⟩ := callsMay_ok h0
 have hc8 := hok.c8
 refine fn_introL hlow Try.func52 rfl Try.ntmps52 (Nat.le_of_ble_eq_true rfl) (fun a0 F0 ok0 hargs => ?_)
 have p0 : At (Ty.val q) σ a0 (.tmp 0) := by have e := hargs 0 _ rfl; show Ty.has _ _ _; rw [e]; exact hv0
 have p1 : At (Ty.lst Ty.int path) σ a0 (.tmp 1) := by have e := hargs 1 _ rfl; show Ty.has _ _ _; rw [e]; exact hv1
 have b1 := sl_le p1
 clear hargs
 refine wp_seq ?_
 refine reg (a := a0) (σ := σ) rfl (fun i_ => List.getD [(Ty.pr (Ty.int (0 : Int)))] i_ Pr.any) ok0 rfl ⟨?_, trivial⟩ ?_
 · intro ax tx hs okx sm
   exact run_plain rfl (y_assign rfl)
 intro a1 s1 D1
 have ok1 := D1.ok
 have F1 := F0.step0 D1.stp
 have q1 := D1.kt p0 rfl
 have q2 := D1.kt p1 rfl
 have o1 := OwnP.k0 ho_q D1.stp
 have o2 := Own.k0 ho_fd D1.stp
 have q3 : At (Ty.int (0 : Int)) s1 a1 (.tmp 4) := D1.done 0
 clear D1
 refine tn ?_
 refine wp_block ?_
 refine loop (fun n1 a2 w1 => ∃ (t1 : GW) (k : Nat) (s : Qst) (fk : Value), t1.w = w1 ∧ FromL [40, 41] σ t1 ∧ Ok 91 a2 ∧ At (Ty.nat k) t1 a2 (.tmp 4) ∧ At (Ty.val q) t1 a2 (.tmp 0) ∧ At (Ty.lst Ty.int path) t1 a2 (.tmp 1) ∧ OwnP t1 40 q [(Ty.val (Value.string nm)), (Ty.int n), (Ty.lst Ty.ints l), (Ty.lstc 2 callC cs), (Ty.nat leads), (Ty.nat many), (Ty.nat s.met), (Ty.val fk), (Ty.bool s.full)] ∧ Own t1 41 23 1 fk (List.length s.found) (List.map Ty.ints s.found) ∧ (k ≤ cs.length) ∧ (s = lpQ n.toNat l cs leads many f path s0 k) ∧ n1 = cs.length - k) (cs.length - (0)) ?_ ?_
 ·
  exact ⟨s1, 0, s0, fd, rfl, F1, ok1, (cvi (by (first | rfl | omega | (simp_all; done) | (simp_all; omega))) q3), q1, q2, (ownp_cell 8 (Ty.bool (s0).full) (ownp_cell 6 (Ty.nat (s0).met) o1 rfl (fun _ _ h => (cvi (by (rw [e1_])) h))) rfl (fun _ _ h => (cvb (by (rw [e3_])) h))), (cvo (by (rw [e2_])) (by (rw [e2_])) o2), by omega, rfl, rfl⟩
 ·
  rintro n2 a3 w2 ⟨t2, k, s, fk, rfl, F2, ok2, q4, q5, q6, o3, o4, hk, hs, rfl⟩
  have hqs : QOk many s := (by rw [hs]; exact lpQ_ok hq k)
  have hq1 := hqs.1
  have hq2 := hqs.2.1
  refine wp_seq ?_
  refine wp_seq ?_
  refine reg (a := a3) (σ := t2) rfl (fun i_ => List.getD [(Ty.pr (Ty.nat k)), (Ty.pr (Ty.val q)), (Ty.pr (Ty.val q)), (Ty.pr (Ty.val (ptrAt q 3))), (Ty.pr (Ty.lstc 2 callC cs)), (Ty.pr (Ty.nat (List.length cs))), (Ty.pr (Ty.bool (decide (((k : Nat) : Int) < (((List.length cs) : Nat) : Int))))), (Ty.pr (Ty.bool (decide (((k : Nat) : Int) < (((List.length cs) : Nat) : Int))))), (Ty.pr (Ty.grd ((decide (((k : Nat) : Int) < (((List.length cs) : Nat) : Int))) = true) (Ty.val q))), (Ty.pr (Ty.grd ((decide (((k : Nat) : Int) < (((List.length cs) : Nat) : Int))) = true) (Ty.val q))), (Ty.pr (Ty.grd ((decide (((k : Nat) : Int) < (((List.length cs) : Nat) : Int))) = true) (Ty.val (ptrAt q 8)))), (Ty.pr (Ty.grd ((decide (((k : Nat) : Int) < (((List.length cs) : Nat) : Int))) = true) (Ty.bool s.full))), (Ty.pr (Ty.grd ((decide (((k : Nat) : Int) < (((List.length cs) : Nat) : Int))) = true) (Ty.bool (!s.full)))), (Ty.pr (Ty.bool ((decide (((k : Nat) : Int) < (((List.length cs) : Nat) : Int))) && (!s.full)))), (Ty.pr (Ty.bool ((decide (((k : Nat) : Int) < (((List.length cs) : Nat) : Int))) && (!s.full)))), (Ty.pr (Ty.grd (((decide (((k : Nat) : Int) < (((List.length cs) : Nat) : Int))) && (!s.full)) = true) (Ty.val q))), (Ty.pr (Ty.grd (((decide (((k : Nat) : Int) < (((List.length cs) : Nat) : Int))) && (!s.full)) = true) (Ty.val q))), (Ty.pr (Ty.grd (((decide (((k : Nat) : Int) < (((List.length cs) : Nat) : Int))) && (!s.full)) = true) (Ty.val (ptrAt q 7)))), (Ty.pr (Ty.grd (((decide (((k : Nat) : Int) < (((List.length cs) : Nat) : Int))) && (!s.full)) = true) (Ty.val fk))), (Ty.pr (Ty.grd (((decide (((k : Nat) : Int) < (((List.length cs) : Nat) : Int))) && (!s.full)) = true) (Ty.nat (List.length s.found)))), (Ty.pr (Ty.grd (((decide (((k : Nat) : Int) < (((List.length cs) : Nat) : Int))) && (!s.full)) = true) (Ty.val q))), (Ty.pr (Ty.grd (((decide (((k : Nat) : Int) < (((List.length cs) : Nat) : Int))) && (!s.full)) = true) (Ty.val q))), (Ty.pr (Ty.grd (((decide (((k : Nat) : Int) < (((List.length cs) : Nat) : Int))) && (!s.full)) = true) (Ty.val (ptrAt q 5)))), (Ty.pr (Ty.grd (((decide (((k : Nat) : Int) < (((List.length cs) : Nat) : Int))) && (!s.full)) = true) (Ty.nat many))), (Ty.pr (Ty.grd (((decide (((k : Nat) : Int) < (((List.length cs) : Nat) : Int))) && (!s.full)) = true) (Ty.bool (decide ((((List.length s.found) : Nat) : Int) < ((many : Nat) : Int)))))), (Ty.pr (Ty.bool (((decide (((k : Nat) : Int) < (((List.length cs) : Nat) : Int))) && (!s.full)) && (decide ((((List.length s.found) : Nat) : Int) < ((many : Nat) : Int))))))] i_ Pr.any) ok2 rfl ⟨?_, ?_, ?_, ?_, ?_, ?_, ?_, ?_, ?_, ?_, ?_, ?_, ?_, ?_, ?_, ?_, ?_, ?_, ?_, ?_, ?_, ?_, ?_, ?_, ?_, ?_, trivial⟩ ?_
  · intro ax tx hs okx sm
    exact run_plain rfl (y_move (kp (sm 4 rfl) hs q4))
  · intro ax tx hs okx sm
    exact run_plain rfl (y_move (kp (sm 0 rfl) hs q5))
  · intro ax tx hs okx sm d0
    have e1 := ed d0 rfl rfl rfl
    exact run_plain rfl (y_nilp (OwnP.k0 o3 hs) e1)
  · intro ax tx hs okx sm d0
    have e2 := ed d0 rfl rfl rfl
    exact run_plain rfl (ownp_field Try.fld93_1 Try.inf22 (by decide) (OwnP.k0 o3 hs) e2)
  · intro ax tx hs okx sm d0
    have e3 := ed d0 rfl rfl rfl
    exact run_plain rfl (ownp_load Try.underlying22 rfl (OwnP.k0 o3 hs) e3 rfl)
  · intro ax tx hs okx sm d0
    have e4 := ed d0 rfl rfl rfl
    exact run_plain rfl (y_len Try.underlying22 e4)
  · intro ax tx hs okx sm d0 d1
    have e0 := ed d0 rfl rfl rfl
    have e5 := ed d1 rfl rfl rfl
    exact run_plain rfl (y_lss e0 e5)
  · intro ax tx hs okx sm d0
    have e6 := ed d0 rfl rfl rfl
    exact run_plain rfl (y_move e6)
  · intro ax tx hs okx sm d0
    have e7 := ed d0 rfl rfl rfl
    refine run_guard (T := (Ty.val q)) okx rfl rfl (by decide) e7 (fun hg => ?_)
    have hp := of_decide_eq_true hg
    exact y_move (kp (sm 0 rfl) hs q5)
  · intro ax tx hs okx sm d0 d1
    have e8 := ed d0 rfl rfl rfl
    have e7 := ed d1 rfl rfl rfl
    refine run_guard (T := (Ty.val q)) okx rfl rfl (by decide) e7 (fun hg => ?_)
    have hp := of_decide_eq_true hg
    exact y_nilp (OwnP.k0 o3 hs) (e8.1 hg)
  · intro ax tx hs okx sm d0 d1
    have e9 := ed d0 rfl rfl rfl
    have e7 := ed d1 rfl rfl rfl
    refine run_guard (T := (Ty.val (ptrAt q 8))) okx rfl rfl (by decide) e7 (fun hg => ?_)
    have hp := of_decide_eq_true hg
    exact ownp_field Try.fld93_6 Try.inf4 (by decide) (OwnP.k0 o3 hs) (e9.1 hg)
  · intro ax tx hs okx sm d0 d1
    have e10 := ed d0 rfl rfl rfl
    have e7 := ed d1 rfl rfl rfl
    refine run_guard (T := (Ty.bool s.full)) okx rfl rfl (by decide) e7 (fun hg => ?_)
    have hp := of_decide_eq_true hg
    exact ownp_load Try.underlying4 rfl (OwnP.k0 o3 hs) (e10.1 hg) rfl
  · intro ax tx hs okx sm d0 d1
    have e11 := ed d0 rfl rfl rfl
    have e7 := ed d1 rfl rfl rfl
    refine run_guard (T := (Ty.bool (!s.full))) okx rfl rfl (by decide) e7 (fun hg => ?_)
    have hp := of_decide_eq_true hg
    exact y_not (e11.1 hg)
  · intro ax tx hs okx sm d0 d1
    have e7 := ed d0 rfl rfl rfl
    have e12 := ed d1 rfl rfl rfl
    exact run_plain rfl (y_pick_and e7 e12 rfl)
  · intro ax tx hs okx sm d0 d1
    have e13 := ed d0 rfl rfl rfl
    exact run_plain rfl (y_move e13)
  · intro ax tx hs okx sm d0
    have e14 := ed d0 rfl rfl rfl
    refine run_guard (T := (Ty.val q)) okx rfl rfl (by decide) e14 (fun hg => ?_)
    obtain ⟨d1, d2⟩ := Bool.and_eq_true_iff.mp hg
    have d1 := of_decide_eq_true d1
    exact y_move (kp (sm 0 rfl) hs q5)
  · intro ax tx hs okx sm d0 d1
    have e15 := ed d0 rfl rfl rfl
    have e14 := ed d1 rfl rfl rfl
    refine run_guard (T := (Ty.val q)) okx rfl rfl (by decide) e14 (fun hg => ?_)
    obtain ⟨d3, d4⟩ := Bool.and_eq_true_iff.mp hg
    have d3 := of_decide_eq_true d3
    exact y_nilp (OwnP.k0 o3 hs) (e15.1 hg)
  · intro ax tx hs okx sm d0 d1
    have e16 := ed d0 rfl rfl rfl
    have e14 := ed d1 rfl rfl rfl
    refine run_guard (T := (Ty.val (ptrAt q 7))) okx rfl rfl (by decide) e14 (fun hg => ?_)
    obtain ⟨d5, d6⟩ := Bool.and_eq_true_iff.mp hg
    have d5 := of_decide_eq_true d5
    exact ownp_field Try.fld93_5 Try.inf29 (by decide) (OwnP.k0 o3 hs) (e16.1 hg)
  · intro ax tx hs okx sm d0 d1
    have e17 := ed d0 rfl rfl rfl
    have e14 := ed d1 rfl rfl rfl
    refine run_guard (T := (Ty.val fk)) okx rfl rfl (by decide) e14 (fun hg => ?_)
    obtain ⟨d7, d8⟩ := Bool.and_eq_true_iff.mp hg
    have d7 := of_decide_eq_true d7
    exact ownp_load Try.underlying29 rfl (OwnP.k0 o3 hs) (e17.1 hg) rfl
  · intro ax tx hs okx sm d0 d1
    have e18 := ed d0 rfl rfl rfl
    have e14 := ed d1 rfl rfl rfl
    refine run_guard (T := (Ty.nat (List.length s.found))) okx rfl rfl (by decide) e14 (fun hg => ?_)
    obtain ⟨d9, d10⟩ := Bool.and_eq_true_iff.mp hg
    have d9 := of_decide_eq_true d9
    exact own_len Try.underlying29 (al (R := (Pr.own 41 23 1 (List.length s.found) (List.map Ty.ints s.found))) (e18.1 hg) (Own.k0 o4 hs))
  · intro ax tx hs okx sm d0
    have e14 := ed d0 rfl rfl rfl
    refine run_guard (T := (Ty.val q)) okx rfl rfl (by decide) e14 (fun hg => ?_)
    obtain ⟨d11, d12⟩ := Bool.and_eq_true_iff.mp hg
    have d11 := of_decide_eq_true d11
    exact y_move (kp (sm 0 rfl) hs q5)
  · intro ax tx hs okx sm d0 d1
    have e20 := ed d0 rfl rfl rfl
    have e14 := ed d1 rfl rfl rfl
    refine run_guard (T := (Ty.val q)) okx rfl rfl (by decide) e14 (fun hg => ?_)
    obtain ⟨d13, d14⟩ := Bool.and_eq_true_iff.mp hg
    have d13 := of_decide_eq_true d13
    exact y_nilp (OwnP.k0 o3 hs) (e20.1 hg)
  · intro ax tx hs okx sm d0 d1
    have e21 := ed d0 rfl rfl rfl
    have e14 := ed d1 rfl rfl rfl
    refine run_guard (T := (Ty.val (ptrAt q 5))) okx rfl rfl (by decide) e14 (fun hg => ?_)
    obtain ⟨d15, d16⟩ := Bool.and_eq_true_iff.mp hg
    have d15 := of_decide_eq_true d15
    exact ownp_field Try.fld93_3 Try.inf3 (by decide) (OwnP.k0 o3 hs) (e21.1 hg)
  · intro ax tx hs okx sm d0 d1
    have e22 := ed d0 rfl rfl rfl
    have e14 := ed d1 rfl rfl rfl
    refine run_guard (T := (Ty.nat many)) okx rfl rfl (by decide) e14 (fun hg => ?_)
    obtain ⟨d17, d18⟩ := Bool.and_eq_true_iff.mp hg
    have d17 := of_decide_eq_true d17
    exact ownp_load Try.underlying3 rfl (OwnP.k0 o3 hs) (e22.1 hg) rfl
  · intro ax tx hs okx sm d0 d1 d2
    have e19 := ed d0 rfl rfl rfl
    have e23 := ed d1 rfl rfl rfl
    have e14 := ed d2 rfl rfl rfl
    refine run_guard (T := (Ty.bool (decide ((((List.length s.found) : Nat) : Int) < ((many : Nat) : Int))))) okx rfl rfl (by decide) e14 (fun hg => ?_)
    obtain ⟨d19, d20⟩ := Bool.and_eq_true_iff.mp hg
    have d19 := of_decide_eq_true d19
    exact y_lss (e19.1 hg) (e23.1 hg)
  · intro ax tx hs okx sm d0 d1
    have e14 := ed d0 rfl rfl rfl
    have e24 := ed d1 rfl rfl rfl
    exact run_plain rfl (y_pick_and e14 e24 rfl)
  intro a4 s2 D2
  have ok3 := D2.ok
  have F3 := F2.step0 D2.stp
  have q7 := D2.kt q4 rfl
  have q8 := D2.kt q5 rfl
  have q9 := D2.kt q6 rfl
  have o5 := OwnP.k0 o3 D2.stp
  have o6 := Own.k0 o4 D2.stp
  have q10 : At (Ty.bool (((decide (((k : Nat) : Int) < (((List.length cs) : Nat) : Int))) && (!s.full)) && (decide ((((List.length s.found) : Nat) : Int) < ((many : Nat) : Int))))) s2 a4 (.tmp 32) := D2.done 25
  clear D2
  refine tn ?_
  refine cond_t q10 (fun c1 => ?_) (fun c1 => ?_)
  ·
   obtain ⟨d21, d22⟩ := Bool.and_eq_true_iff.mp c1
   obtain ⟨d23, d24⟩ := Bool.and_eq_true_iff.mp d21
   replace d23 := of_decide_eq_true d23
   replace d22 := of_decide_eq_true d22
   have hgo := go_on c1; have hkc := hgo.1; have hicn := inCalls_next hic hkc; have hpl : (path ++ [((k : Nat) : Int)]).length = path.length + 1 := (by rw [List.length_append, List.length_singleton]); have htp := touch_path h0 hicn (by omega) (by omega)
   refine wp_skip ?_
   refine tn ?_
   refine wp_seq ?_
   refine wp_block ?_
   refine wp_seq ?_
   refine reg2 (a := a4) (σ := s2) rfl 2 (fun i_ => List.getD [(Pr.own 5 3 1 0 (List.map Ty.int ([] : List Int))), (Ty.pr (Ty.lst Ty.int path))] i_ Pr.any) ok3 rfl (by decide) rfl ⟨?_, ?_, trivial⟩ ?_
   · intro ax tx hs okx sm
     exact run_plain rfl ((y_lit0 (k := 5) Try.underlying23 Try.inf3).mono (fun _ _ h => cvo (by simp) (by simp) h))
   · intro ax tx hs okx sm
     exact run_plain rfl (y_move (kp (sm 1 rfl) hs q9))
   intro a5 s3 D3
   have ok4 := D3.ok
   have F4 := F3.step0 D3.stp
   have q11 := D3.kt q7 rfl
   have q12 := D3.kt q8 rfl
   have q13 := D3.kt q9 rfl
   have o7 := OwnP.k0 o5 D3.stp
   have o8 := Own.k0 o6 D3.stp
   obtain ⟨x1, hx1⟩ : ∃ x, a5.eval (.tmp 35) = x := ⟨_, rfl⟩
   have q14 : At (Ty.val x1) s3 a5 (.tmp 35) := hx1
   have o9 : Own s3 5 3 1 x1 0 (List.map Ty.int ([] : List Int)) := al2 (R := (Pr.own 5 3 1 0 (List.map Ty.int ([] : List Int)))) hx1 (D3.done 0 (by decide))
   have q15 : At (Ty.lst Ty.int path) s3 a5 (.tmp 36) := D3.done 1 (by decide)
   clear D3
   refine tailL (L := [5]) (R := (fun v τ => Own τ 5 3 1 v (0 + (List.length path)) ((List.map Ty.int ([] : List Int)) ++ (List.map Ty.int path)))) rfl rfl (by decide) ok4 (YldM.toL (m_append Try.underlying23 Try.inf3 (by decide) rfl (by decide) (al (R := (Pr.own 5 3 1 0 (List.map Ty.int ([] : List Int)))) q14 o9) q15 (one_map (fun _ => one_val rfl)) (by omega) (by omega))) (fun a6 s4 hs1 ok5 r1 sm1 => ?_)
   have F5 := F4.stepL hs1 (by decide)
   have q16 := kpL hs1 (by decide) (sm1 4 (by decide)) q11
   have q17 := kpL hs1 (by decide) (sm1 0 (by decide)) q12
   have q18 := kpL hs1 (by decide) (sm1 1 (by decide)) q13
   have o11 := OwnP.keepL o7 hs1 (by decide) (by decide)
   have o12 := Own.keepL o8 hs1 (by decide) (by decide)
   obtain ⟨x2, hx2⟩ : ∃ x, a6.eval (.tmp 37) = x := ⟨_, rfl⟩
   have q19 : At (Ty.val x2) s4 a6 (.tmp 37) := hx2
   have o10 : Own s4 5 3 1 x2 (List.length path) (List.map Ty.int path) := al2 (R := (Pr.own 5 3 1 (List.length path) (List.map Ty.int path))) hx2 (cvo (by simp) (by first | (rw [List.map_append]; rfl) | simp) r1)
   clear r1
   refine tailL (L := []) (R := (fun v τ => Pr.has (Ty.pr (Ty.nat k)) τ v)) rfl rfl (by decide) ok5 (Yld.toL (y_move q16)) (fun a7 s5 hs2 ok6 r2 sm2 => ?_)
   have F6 := F5.stepL hs2 (by decide)
   have q20 := kpL hs2 (by decide) (sm2 4 (by decide)) q16
   have q21 := kpL hs2 (by decide) (sm2 0 (by decide)) q17
   have q22 := kpL hs2 (by decide) (sm2 1 (by decide)) q18
   have q23 := kpL hs2 (by decide) (sm2 37 (by decide)) q19
   have o13 := OwnP.keepL o11 hs2 (by decide) (by decide)
   have o14 := Own.keepL o12 hs2 (by decide) (by decide)
   have o15 := Own.keepL o10 hs2 (by decide) (by decide)
   have q24 : At (Ty.nat k) s5 a7 (.tmp 38) := r2
   clear r2
   refine tailL (L := []) (R := (fun v τ => Pr.has (Ty.pr (Ty.sl 1 1 [(Ty.nat k)])) τ v)) rfl rfl (by decide) ok6 (Yld.toL (y_build1o Try.underlying23 Try.inf3 rfl (one_val rfl) q24)) (fun a8 s6 hs3 ok7 r3 sm3 => ?_)
   have F7 := F6.stepL hs3 (by decide)
   have q25 := kpL hs3 (by decide) (sm3 4 (by decide)) q20
   have q26 := kpL hs3 (by decide) (sm3 0 (by decide)) q21
   have q27 := kpL hs3 (by decide) (sm3 1 (by decide)) q22
   have q28 := kpL hs3 (by decide) (sm3 37 (by decide)) q23
   have o16 := OwnP.keepL o13 hs3 (by decide) (by decide)
   have o17 := Own.keepL o14 hs3 (by decide) (by decide)
   have o18 := Own.keepL o15 hs3 (by decide) (by decide)
   have q29 : At (Ty.sl 1 1 [(Ty.nat k)]) s6 a8 (.tmp 39) := r3
   clear r3
   refine tailL (L := [5]) (R := (fun v τ => Own τ 5 3 1 v ((List.length path) + 1) ((List.map Ty.int path) ++ [(Ty.nat k)]))) rfl rfl (by decide) ok7 (YldM.toL (m_append Try.underlying23 Try.inf3 (by decide) rfl (by decide) (al (R := (Pr.own 5 3 1 (List.length path) (List.map Ty.int path))) q28 o18) q29 (by intro U hU; simp at hU; subst hU; exact one_val rfl) (by omega) (by omega))) (fun a9 s7 hs4 ok8 r4 sm4 => ?_)
   have F8 := F7.stepL hs4 (by decide)
   have q30 := kpL hs4 (by decide) (sm4 4 (by decide)) q25
   have q31 := kpL hs4 (by decide) (sm4 0 (by decide)) q26
   have q32 := kpL hs4 (by decide) (sm4 1 (by decide)) q27
   have o20 := OwnP.keepL o16 hs4 (by decide) (by decide)
   have o21 := Own.keepL o17 hs4 (by decide) (by decide)
   obtain ⟨x3, hx3⟩ : ∃ x, a9.eval (.tmp 40) = x := ⟨_, rfl⟩
   have q33 : At (Ty.val x3) s7 a9 (.tmp 40) := hx3
   have o19 : Own s7 5 3 1 x3 (List.length (path ++ [((k : Nat) : Int)])) (List.map Ty.int (path ++ [((k : Nat) : Int)])) := al2 (R := (Pr.own 5 3 1 (List.length (path ++ [((k : Nat) : Int)])) (List.map Ty.int (path ++ [((k : Nat) : Int)])))) hx3 (cvo (by simp) (by first | (rw [List.map_append]; rfl) | simp) r4)
   clear r4
   refine tailL (L := []) (R := (fun v τ => Pr.has (Ty.pr (Ty.val x3)) τ v)) rfl rfl (by decide) ok8 (Yld.toL (y_assign q33)) (fun a10 s8 hs5 ok9 r5 sm5 => ?_)
   have F9 := F8.stepL hs5 (by decide)
   have q34 := kpL hs5 (by decide) (sm5 4 (by decide)) q30
   have q35 := kpL hs5 (by decide) (sm5 0 (by decide)) q31
   have q36 := kpL hs5 (by decide) (sm5 1 (by decide)) q32
   have o22 := OwnP.keepL o20 hs5 (by decide) (by decide)
   have o23 := Own.keepL o21 hs5 (by decide) (by decide)
   have o24 := Own.keepL o19 hs5 (by decide) (by decide)
   have q37 : At (Ty.val x3) s8 a10 (.tmp 5) := r5
   clear r5
   refine wpList_nil ?_
   refine tn ?_
   refine wp_seq ?_
   obtain ⟨t3, e1, h1, q38⟩ := Own.seal o24 (by decide)
   rw [← e1]
   have F10 := F9.step h1 (by decide)
   have o25 := OwnP.keepL o22 (h1.toL (L := [5]) (by simp)) (by decide) (by decide)
   have o26 := Own.keepL o23 (h1.toL (L := [5]) (by simp)) (by decide) (by decide)
   have q39 := Ty.up (Ty.nat k) (h1.le (by decide)) q34
   have q40 := Ty.up (Ty.val q) (h1.le (by decide)) q35
   have q41 := Ty.up (Ty.lst Ty.int path) (h1.le (by decide)) q36
   have q42 : At (Ty.lst Ty.int (path ++ [((k : Nat) : Int)])) t3 a10 (.tmp 5) := by have e : a10.eval (.tmp 5) = x3 := q37; show Ty.has _ _ _; rw [e]; exact q38
   refine reg2 (a := a10) (σ := t3) rfl 11 (fun i_ => List.getD [(Ty.pr (Ty.val q)), (Ty.pr (Ty.val q)), (Ty.pr (Ty.val (ptrAt q 0))), (Ty.pr (Ty.agg [(Ty.val (Value.string nm)), (Ty.int n), (Ty.lst Ty.ints l)])), (Ty.pr (Ty.val q)), (Ty.pr (Ty.val q)), (Ty.pr (Ty.val (ptrAt q 3))), (Ty.pr (Ty.lstc 2 callC cs)), (Ty.pr (Ty.lst Ty.int (path ++ [((k : Nat) : Int)]))), (Ty.pr (Ty.agg [(Ty.nat ((path ++ [((k : Nat) : Int)]).length * l.length)), (Ty.bool (roundP n.toNat l cs (path ++ [((k : Nat) : Int)]))), (Ty.bool (trueP n.toNat l cs (path ++ [((k : Nat) : Int)]))), (Ty.nat (agnL (tRows n.toNat l cs (path ++ [((k : Nat) : Int)]) (path ++ [((k : Nat) : Int)]).length))), (Ty.int (befL (tRows n.toNat l cs (path ++ [((k : Nat) : Int)]) (path ++ [((k : Nat) : Int)]).length)))])), (Pr.ownp 6 [(Ty.int (0 : Int)), (Ty.bool false), (Ty.bool false), (Ty.int (0 : Int)), (Ty.int (0 : Int))])] i_ Pr.any) ok9 rfl (by decide) rfl ⟨?_, ?_, ?_, ?_, ?_, ?_, ?_, ?_, ?_, ?_, ?_, trivial⟩ ?_
   · intro ax tx hs okx sm
     exact run_plain rfl (y_move (kp (sm 0 rfl) hs q40))
   · intro ax tx hs okx sm d0
     have e0 := ed d0 rfl rfl rfl
     exact run_plain rfl (y_nilp (OwnP.k0 o25 hs) e0)
   · intro ax tx hs okx sm d0
     have e1 := ed d0 rfl rfl rfl
     exact run_plain rfl (ownp_field Try.fld93_0 Try.inf31 (by decide) (OwnP.k0 o25 hs) e1)
   · intro ax tx hs okx sm d0
     have e2 := ed d0 rfl rfl rfl
     exact run_plain rfl (ownp_loadsub (o := 0) (n := 3) Try.underlying31 Try.inf31 (Nat.le_of_ble_eq_true rfl) (OwnP.k0 o25 hs) e2)
   · intro ax tx hs okx sm
     exact run_plain rfl (y_move (kp (sm 0 rfl) hs q40))
   · intro ax tx hs okx sm d0
     have e4 := ed d0 rfl rfl rfl
     exact run_plain rfl (y_nilp (OwnP.k0 o25 hs) e4)
   · intro ax tx hs okx sm d0
     have e5 := ed d0 rfl rfl rfl
     exact run_plain rfl (ownp_field Try.fld93_1 Try.inf22 (by decide) (OwnP.k0 o25 hs) e5)
   · intro ax tx hs okx sm d0
     have e6 := ed d0 rfl rfl rfl
     exact run_plain rfl (ownp_load Try.underlying22 rfl (OwnP.k0 o25 hs) e6 rfl)
   · intro ax tx hs okx sm
     exact run_plain rfl (y_move (kp (sm 5 rfl) hs q42))
   · intro ax tx hs okx sm d0 d1 d2
     have e3 := ed d0 rfl rfl rfl
     have e7 := ed d1 rfl rfl rfl
     have e8 := ed d2 rfl rfl rfl
     exact run_plain rfl ((y_call #[ax.eval (.tmp 44), ax.eval (.tmp 48), ax.eval (.tmp 49)] Try.func28 rfl rfl (by simp only [List.map_toArray, List.map_cons, List.map_nil]) (rProve_fn (nm) (n) (l) (cs) ((path ++ [((k : Nat) : Int)])) _ _ _ _ e3 e7 e8 (by first | omega | assumption))).mono (fun τ _ h => cvt (σ := τ) (T := (Ty.agg [(Ty.nat (((path ++ [((k : Nat) : Int)])).length * l.length)), (Ty.bool (rndB (tRows n.toNat l cs ((path ++ [((k : Nat) : Int)])) ((path ++ [((k : Nat) : Int)])).length))), (Ty.bool (prO (tRows n.toNat l cs ((path ++ [((k : Nat) : Int)])) ((path ++ [((k : Nat) : Int)])).length)).isNone), (Ty.nat (agnL (tRows n.toNat l cs ((path ++ [((k : Nat) : Int)])) ((path ++ [((k : Nat) : Int)])).length))), (Ty.int (befL (tRows n.toNat l cs ((path ++ [((k : Nat) : Int)])) ((path ++ [((k : Nat) : Int)])).length)))])) (U := (Ty.agg [(Ty.nat ((path ++ [((k : Nat) : Int)]).length * l.length)), (Ty.bool (roundP n.toNat l cs (path ++ [((k : Nat) : Int)]))), (Ty.bool (trueP n.toNat l cs (path ++ [((k : Nat) : Int)]))), (Ty.nat (agnL (tRows n.toNat l cs (path ++ [((k : Nat) : Int)]) (path ++ [((k : Nat) : Int)]).length))), (Ty.int (befL (tRows n.toNat l cs (path ++ [((k : Nat) : Int)]) (path ++ [((k : Nat) : Int)]).length)))])) (by rfl) h))
   · intro ax tx hs okx sm
     exact run_plain rfl (y_alloc Try.inf42 rfl (alloc_vals (vs := [.int .i64 0, .bool false, .bool false, .int .i64 0, .int .i64 0]) rfl))
   intro a11 s9 D4
   have ok10 := D4.ok
   have F11 := F10.step0 D4.stp
   have q43 := D4.kt q39 rfl
   have q44 := D4.kt q40 rfl
   have q45 := D4.kt q41 rfl
   have q46 := D4.kt q42 rfl
   have o27 := OwnP.k0 o25 D4.stp
   have o28 := Own.k0 o26 D4.stp
   have q47 : At (Ty.agg [(Ty.nat ((path ++ [((k : Nat) : Int)]).length * l.length)), (Ty.bool (roundP n.toNat l cs (path ++ [((k : Nat) : Int)]))), (Ty.bool (trueP n.toNat l cs (path ++ [((k : Nat) : Int)]))), (Ty.nat (agnL (tRows n.toNat l cs (path ++ [((k : Nat) : Int)]) (path ++ [((k : Nat) : Int)]).length))), (Ty.int (befL (tRows n.toNat l cs (path ++ [((k : Nat) : Int)]) (path ++ [((k : Nat) : Int)]).length)))]) s9 a11 (.tmp 50) := D4.done 9 (by decide)
   obtain ⟨x4, hx4⟩ : ∃ x, a11.eval (.tmp 6) = x := ⟨_, rfl⟩
   have q48 : At (Ty.val x4) s9 a11 (.tmp 6) := hx4
   have o29 : OwnP s9 6 x4 [(Ty.int (0 : Int)), (Ty.bool false), (Ty.bool false), (Ty.int (0 : Int)), (Ty.int (0 : Int))] := al2 (R := (Pr.ownp 6 [(Ty.int (0 : Int)), (Ty.bool false), (Ty.bool false), (Ty.int (0 : Int)), (Ty.int (0 : Int))])) hx4 (D4.done 10 (by decide))
   clear D4
   refine tailL0 (L := [6]) (R := (fun _ τ => OwnP τ 6 x4 [(Ty.nat ((path ++ [((k : Nat) : Int)]).length * l.length)), (Ty.bool (roundP n.toNat l cs (path ++ [((k : Nat) : Int)]))), (Ty.bool (trueP n.toNat l cs (path ++ [((k : Nat) : Int)]))), (Ty.nat (agnL (tRows n.toNat l cs (path ++ [((k : Nat) : Int)]) (path ++ [((k : Nat) : Int)]).length))), (Ty.int (befL (tRows n.toNat l cs (path ++ [((k : Nat) : Int)]) (path ++ [((k : Nat) : Int)]).length)))])) rfl rfl (YldM.toL (m_storeagg Try.inf42 (by decide) o29 q48 rfl q47 (by intro U hU; simp only [List.mem_cons, List.not_mem_nil, or_false] at hU; rcases hU with rfl | rfl | rfl | rfl | rfl <;> first | exact one_val rfl | exact one_sl | exact one_ref))) (fun v1 s10 hs6 r6 => ?_)
   have F12 := F11.stepL hs6 (by decide)
   have q49 := kpL hs6 (by decide) rfl q43
   have q50 := kpL hs6 (by decide) rfl q44
   have q51 := kpL hs6 (by decide) rfl q45
   have q52 := kpL hs6 (by decide) rfl q46
   have q53 := kpL hs6 (by decide) rfl q48
   have o31 := OwnP.keepL o27 hs6 (by decide) (by decide)
   have o32 := Own.keepL o28 hs6 (by decide) (by decide)
   have o30 : OwnP s10 6 x4 [(Ty.nat ((path ++ [((k : Nat) : Int)]).length * l.length)), (Ty.bool (roundP n.toNat l cs (path ++ [((k : Nat) : Int)]))), (Ty.bool (trueP n.toNat l cs (path ++ [((k : Nat) : Int)]))), (Ty.nat (agnL (tRows n.toNat l cs (path ++ [((k : Nat) : Int)]) (path ++ [((k : Nat) : Int)]).length))), (Ty.int (befL (tRows n.toNat l cs (path ++ [((k : Nat) : Int)]) (path ++ [((k : Nat) : Int)]).length)))] := r6
   clear r6
   refine wpList_nil ?_
   refine tn ?_
   refine wp_seq ?_
   refine wp_seq ?_
   refine reg (a := a11) (σ := s10) rfl (fun i_ => List.getD [(Ty.pr (Ty.val (ptrAt x4 2))), (Ty.pr (Ty.bool (trueP n.toNat l cs (path ++ [((k : Nat) : Int)])))), (Ty.pr (Ty.bool (!(trueP n.toNat l cs (path ++ [((k : Nat) : Int)])))))] i_ Pr.any) ok10 rfl ⟨?_, ?_, ?_, trivial⟩ ?_
   · intro ax tx hs okx sm
     exact run_plain rfl (ownp_field Try.fld42_2 Try.inf4 (by decide) (OwnP.k0 o30 hs) (kp (sm 6 rfl) hs q53))
   · intro ax tx hs okx sm d0
     have e0 := ed d0 rfl rfl rfl
     exact run_plain rfl (ownp_load Try.underlying4 rfl (OwnP.k0 o30 hs) e0 rfl)
   · intro ax tx hs okx sm d0
     have e1 := ed d0 rfl rfl rfl
     exact run_plain rfl (y_not e1)
   intro a12 s11 D5
   have ok11 := D5.ok
   have F13 := F12.step0 D5.stp
   have q55 := D5.kt q49 rfl
   have q56 := D5.kt q50 rfl
   have q57 := D5.kt q51 rfl
   have q58 := D5.kt q52 rfl
   have q59 := D5.kt q53 rfl
   have o33 := OwnP.k0 o31 D5.stp
   have o34 := Own.k0 o32 D5.stp
   have o35 := OwnP.k0 o30 D5.stp
   have q60 : At (Ty.bool (!(trueP n.toNat l cs (path ++ [((k : Nat) : Int)])))) s11 a12 (.tmp 53) := D5.done 2
   clear D5
   refine tn ?_
   refine cond_t q60 (fun c2 => ?_) (fun c2 => ?_)
   ·
    have ht : trueP n.toNat l cs (path ++ [((k : Nat) : Int)]) = false := (by simpa using c2)
    refine wp_exit ?_
    refine tx ?_
    refine bx ?_
    refine tn ?_
    refine reg (a := a12) (σ := s11) rfl (fun i_ => List.getD [(Ty.pr (Ty.nat k)), (Ty.pr (Ty.nat (k + 1))), (Ty.pr (Ty.nat (k + 1)))] i_ Pr.any) ok11 rfl ⟨?_, ?_, ?_, trivial⟩ ?_
    · intro ax tx hs okx sm
      exact run_plain rfl (y_move (kp (sm 4 rfl) hs q55))
    · intro ax tx hs okx sm d0
      have e0 := ed d0 rfl rfl rfl
      exact run_plain rfl ((y_add e0 rfl (w64 (by omega) (by omega))).mono (fun τ _ h => cvi (σ := τ) (by first | omega | exact (Int.natCast_mul _ _).symm) h))
    · intro ax tx hs okx sm d0 d1 d2
      have e1 := ed d0 rfl rfl rfl
      exact run_plain rfl (y_assign e1)
    intro a13 s12 D6
    have ok12 := D6.ok
    have F14 := F13.step0 D6.stp
    have q61 := D6.kt q56 rfl
    have q62 := D6.kt q57 rfl
    have o36 := OwnP.k0 o33 D6.stp
    have o37 := Own.k0 o34 D6.stp
    have o38 := OwnP.k0 o35 D6.stp
    have q63 : At (Ty.nat (k + 1)) s12 a13 (.tmp 4) := D6.done 2
    clear D6
    exact tn ⟨cs.length - ((k+1)), by omega, s12, (k+1), s, fk, rfl, F14, ok12, (cvi (by (first | rfl | omega | (simp_all; done) | (simp_all; omega))) q63), q61, q62, o36, o37, by omega, lp_A hs hgo.2.1 ht, rfl⟩
   ·
    have ht : trueP n.toNat l cs (path ++ [((k : Nat) : Int)]) = true := (by simpa using c2)
    refine wp_skip ?_
    refine tn ?_
    refine wp_seq ?_
    refine reg2 (a := a12) (σ := s11) rfl 7 (fun i_ => List.getD [(Ty.pr (Ty.val q)), (Ty.pr (Ty.val q)), (Ty.pr (Ty.val (ptrAt q 6))), (Ty.pr (Ty.nat s.met)), (Ty.pr (Ty.nat (s.met + 1))), (Ty.pr (Ty.val q)), (Ty.pr (Ty.val (ptrAt q 6)))] i_ Pr.any) ok11 rfl (by decide) rfl ⟨?_, ?_, ?_, ?_, ?_, ?_, ?_, trivial⟩ ?_
    · intro ax tx hs okx sm
      exact run_plain rfl (y_move (kp (sm 0 rfl) hs q56))
    · intro ax tx hs okx sm d0
      have e0 := ed d0 rfl rfl rfl
      exact run_plain rfl (y_nilp (OwnP.k0 o33 hs) e0)
    · intro ax tx hs okx sm d0
      have e1 := ed d0 rfl rfl rfl
      exact run_plain rfl (ownp_field Try.fld93_4 Try.inf3 (by decide) (OwnP.k0 o33 hs) e1)
    · intro ax tx hs okx sm d0
      have e2 := ed d0 rfl rfl rfl
      exact run_plain rfl (ownp_load Try.underlying3 rfl (OwnP.k0 o33 hs) e2 rfl)
    · intro ax tx hs okx sm d0
      have e3 := ed d0 rfl rfl rfl
      exact run_plain rfl ((y_add e3 rfl (w64 (by omega) (by omega))).mono (fun τ _ h => cvi (σ := τ) (by first | omega | exact (Int.natCast_mul _ _).symm) h))
    · intro ax tx hs okx sm d0 d1 d2 d3 d4 d5
      have e0 := ed d0 rfl rfl rfl
      exact run_plain rfl (y_nilp (OwnP.k0 o33 hs) e0)
    · intro ax tx hs okx sm d0 d1 d2 d3 d4 d5
      have e5 := ed d0 rfl rfl rfl
      exact run_plain rfl (ownp_field Try.fld93_4 Try.inf3 (by decide) (OwnP.k0 o33 hs) e5)
    intro a14 s13 D7
    have ok13 := D7.ok
    have F15 := F13.step0 D7.stp
    have q64 := D7.kt q55 rfl
    have q65 := D7.kt q56 rfl
    have q66 := D7.kt q57 rfl
    have q67 := D7.kt q58 rfl
    have q68 := D7.kt q59 rfl
    have o39 := OwnP.k0 o33 D7.stp
    have o40 := Own.k0 o34 D7.stp
    have o41 := OwnP.k0 o35 D7.stp
    have q69 : At (Ty.nat (s.met + 1)) s13 a14 (.tmp 58) := D7.done 4 (by decide)
    have q70 : At (Ty.val (ptrAt q 6)) s13 a14 (.tmp 60) := D7.done 6 (by decide)
    clear D7
    refine tailL0 (L := [40]) (R := (fun _ τ => OwnP τ 40 q ([(Ty.val (Value.string nm)), (Ty.int n), (Ty.lst Ty.ints l), (Ty.lstc 2 callC cs), (Ty.nat leads), (Ty.nat many), (Ty.nat s.met), (Ty.val fk), (Ty.bool s.full)].set 6 (Ty.nat (s.met + 1))))) rfl rfl (YldM.toL (m_storep Try.inf3 (by decide) o39 q70 (Nat.le_of_ble_eq_true rfl) q69 (one_val rfl))) (fun v2 s14 hs7 r7 => ?_)
    have F16 := F15.stepL hs7 (by decide)
    have q71 := kpL hs7 (by decide) rfl q64
    have q72 := kpL hs7 (by decide) rfl q65
    have q73 := kpL hs7 (by decide) rfl q66
    have q74 := kpL hs7 (by decide) rfl q67
    have q75 := kpL hs7 (by decide) rfl q68
    have o43 := Own.keepL o40 hs7 (by decide) (by decide)
    have o44 := OwnP.keepL o41 hs7 (by decide) (by decide)
    have o42 : OwnP s14 40 q [(Ty.val (Value.string nm)), (Ty.int n), (Ty.lst Ty.ints l), (Ty.lstc 2 callC cs), (Ty.nat leads), (Ty.nat many), (Ty.nat (s.met + 1)), (Ty.val fk), (Ty.bool s.full)] := r7
    clear r7
    refine wpList_nil ?_
    refine tn ?_
    refine wp_seq ?_
    refine wp_seq ?_
    refine reg (a := a14) (σ := s14) rfl (fun i_ => List.getD [(Ty.pr (Ty.val q)), (Ty.pr (Ty.val q)), (Ty.pr (Ty.val (ptrAt q 6))), (Ty.pr (Ty.nat (s.met + 1))), (Ty.pr (Ty.bool (decide ((20000 : Int) < (((s.met + 1) : Nat) : Int)))))] i_ Pr.any) ok13 rfl ⟨?_, ?_, ?_, ?_, ?_, trivial⟩ ?_
    · intro ax tx hs okx sm
      exact run_plain rfl (y_move (kp (sm 0 rfl) hs q72))
    · intro ax tx hs okx sm d0
      have e0 := ed d0 rfl rfl rfl
      exact run_plain rfl (y_nilp (OwnP.k0 o42 hs) e0)
    · intro ax tx hs okx sm d0
      have e1 := ed d0 rfl rfl rfl
      exact run_plain rfl (ownp_field Try.fld93_4 Try.inf3 (by decide) (OwnP.k0 o42 hs) e1)
    · intro ax tx hs okx sm d0
      have e2 := ed d0 rfl rfl rfl
      exact run_plain rfl (ownp_load Try.underlying3 rfl (OwnP.k0 o42 hs) e2 rfl)
    · intro ax tx hs okx sm d0
      have e3 := ed d0 rfl rfl rfl
      exact run_plain rfl (y_gtr e3 rfl)
    intro a15 s15 D8
    have ok14 := D8.ok
    have F17 := F16.step0 D8.stp
    have q77 := D8.kt q71 rfl
    have q78 := D8.kt q72 rfl
    have q79 := D8.kt q73 rfl
    have q80 := D8.kt q74 rfl
    have q81 := D8.kt q75 rfl
    have o45 := Own.k0 o43 D8.stp
    have o46 := OwnP.k0 o44 D8.stp
    have o47 := OwnP.k0 o42 D8.stp
    have q82 : At (Ty.bool (decide ((20000 : Int) < (((s.met + 1) : Nat) : Int)))) s15 a15 (.tmp 65) := D8.done 4
    clear D8
    refine tn ?_
    refine cond_p (p := ((20000 : Int) < (((s.met + 1) : Nat) : Int))) q82 (fun c3 => ?_) (fun c3 => ?_)
    ·
     have hme : 20000 < s.met + 1 := (by omega); have hfin := go_full ((take_full hme).symm.trans (lp_T hs hgo.2.1 ht)) hkc rfl
     refine wp_seq ?_
     refine reg2 (a := a15) (σ := s15) rfl 3 (fun i_ => List.getD [(Ty.pr (Ty.val q)), (Ty.pr (Ty.val q)), (Ty.pr (Ty.val (ptrAt q 8)))] i_ Pr.any) ok14 rfl (by decide) rfl ⟨?_, ?_, ?_, trivial⟩ ?_
     · intro ax tx hs okx sm
       exact run_plain rfl (y_move (kp (sm 0 rfl) hs q78))
     · intro ax tx hs okx sm d0 d1
       have e0 := ed d0 rfl rfl rfl
       exact run_plain rfl (y_nilp (OwnP.k0 o47 hs) e0)
     · intro ax tx hs okx sm d0 d1
       have e1 := ed d0 rfl rfl rfl
       exact run_plain rfl (ownp_field Try.fld93_6 Try.inf4 (by decide) (OwnP.k0 o47 hs) e1)
     intro a16 s16 D9
     have ok15 := D9.ok
     have F18 := F17.step0 D9.stp
     have o48 := Own.k0 o45 D9.stp
     have o49 := OwnP.k0 o46 D9.stp
     have o50 := OwnP.k0 o47 D9.stp
     have q83 : At (Ty.val (ptrAt q 8)) s16 a16 (.tmp 68) := D9.done 2 (by decide)
     clear D9
     refine tailL0 (L := [40]) (R := (fun _ τ => OwnP τ 40 q ([(Ty.val (Value.string nm)), (Ty.int n), (Ty.lst Ty.ints l), (Ty.lstc 2 callC cs), (Ty.nat leads), (Ty.nat many), (Ty.nat (s.met + 1)), (Ty.val fk), (Ty.bool s.full)].set 8 (Ty.bool true)))) rfl rfl (YldM.toL (m_storep Try.inf4 (by decide) o50 q83 (Nat.le_of_ble_eq_true rfl) rfl (one_val rfl))) (fun v3 s17 hs8 r8 => ?_)
     have F19 := F18.stepL hs8 (by decide)
     have o52 := Own.keepL o48 hs8 (by decide) (by decide)
     have o53 := OwnP.keepL o49 hs8 (by decide) (by decide)
     have o51 : OwnP s17 40 q [(Ty.val (Value.string nm)), (Ty.int n), (Ty.lst Ty.ints l), (Ty.lstc 2 callC cs), (Ty.nat leads), (Ty.nat many), (Ty.nat (s.met + 1)), (Ty.val fk), (Ty.bool true)] := r8
     clear r8
     refine wpList_nil ?_
     refine tn ?_
     refine wp_ret ?_
     refine tr ?_
     refine br ?_
     refine tr ?_
     refine tr ?_
     refine br ?_
     exact retL0 rfl ok15 F19 ⟨fk, trivial, (ownp_cell 8 (Ty.bool (goQ n.toNat l cs leads many d path (Qst.mk met found full)).full) (ownp_cell 6 (Ty.nat (goQ n.toNat l cs leads many d path (Qst.mk met found full)).met) o51 rfl (fun _ _ h => (cvi (by (rw [hf, ← hs0, hfin])) h))) rfl (fun _ _ h => (cvb (by (rw [hf, ← hs0, hfin])) h))), (cvo (by (rw [hf, ← hs0, hfin])) (by (rw [hf, ← hs0, hfin])) o52)⟩
    ·
     have hme : ¬ 20000 < s.met + 1 := (by omega); have hqn := qok_next hqs hgo.2.2.1 hme
     refine wp_skip ?_
     refine tn ?_
     refine wp_seq ?_
     refine reg (a := a15) (σ := s15) rfl (fun i_ => List.getD [(Ty.pr (Ty.lst Ty.int (path ++ [((k : Nat) : Int)]))), (Ty.pr (Ty.nat (List.length (path ++ [((k : Nat) : Int)])))), (Ty.pr (Ty.val q)), (Ty.pr (Ty.val q)), (Ty.pr (Ty.val (ptrAt q 4))), (Ty.pr (Ty.nat leads)), (Ty.pr (Ty.bool (decide ((((List.length (path ++ [((k : Nat) : Int)])) : Nat) : Int) < ((leads : Nat) : Int)))))] i_ Pr.any) ok14 rfl ⟨?_, ?_, ?_, ?_, ?_, ?_, ?_, trivial⟩ ?_
     · intro ax tx hs okx sm
       exact run_plain rfl (y_move (kp (sm 5 rfl) hs q80))
     · intro ax tx hs okx sm d0
       have e0 := ed d0 rfl rfl rfl
       exact run_plain rfl (y_len Try.underlying23 e0)
     · intro ax tx hs okx sm
       exact run_plain rfl (y_move (kp (sm 0 rfl) hs q78))
     · intro ax tx hs okx sm d0
       have e2 := ed d0 rfl rfl rfl
       exact run_plain rfl (y_nilp (OwnP.k0 o47 hs) e2)
     · intro ax tx hs okx sm d0
       have e3 := ed d0 rfl rfl rfl
       exact run_plain rfl (ownp_field Try.fld93_2 Try.inf3 (by decide) (OwnP.k0 o47 hs) e3)
     · intro ax tx hs okx sm d0
       have e4 := ed d0 rfl rfl rfl
       exact run_plain rfl (ownp_load Try.underlying3 rfl (OwnP.k0 o47 hs) e4 rfl)
     · intro ax tx hs okx sm d0 d1
       have e1 := ed d0 rfl rfl rfl
       have e5 := ed d1 rfl rfl rfl
       exact run_plain rfl (y_lss e1 e5)
     intro a17 s18 D10
     have ok16 := D10.ok
     have F20 := F17.step0 D10.stp
     have q85 := D10.kt q77 rfl
     have q86 := D10.kt q78 rfl
     have q87 := D10.kt q79 rfl
     have q88 := D10.kt q80 rfl
     have q89 := D10.kt q81 rfl
     have o54 := Own.k0 o45 D10.stp
     have o55 := OwnP.k0 o46 D10.stp
     have o56 := OwnP.k0 o47 D10.stp
     have q90 : At (Ty.bool (decide ((((List.length (path ++ [((k : Nat) : Int)])) : Nat) : Int) < ((leads : Nat) : Int)))) s18 a17 (.tmp 75) := D10.done 6
     clear D10
     refine tn ?_
     refine cond_p (p := ((((List.length (path ++ [((k : Nat) : Int)])) : Nat) : Int) < ((leads : Nat) : Int))) q90 (fun c4 => ?_) (fun c4 => ?_)
     ·
      have hle : (path ++ [((k : Nat) : Int)]).length < leads := (by omega)
      refine reg2 (a := a17) (σ := s18) rfl 2 (fun i_ => List.getD [(Ty.pr (Ty.val q)), (Ty.pr (Ty.lst Ty.int (path ++ [((k : Nat) : Int)])))] i_ Pr.any) ok16 rfl (by decide) rfl ⟨?_, ?_, trivial⟩ ?_
      · intro ax tx hs okx sm
        exact run_plain rfl (y_move (kp (sm 0 rfl) hs q86))
      · intro ax tx hs okx sm
        exact run_plain rfl (y_move (kp (sm 5 rfl) hs q88))
      intro a18 s19 D11
      have ok17 := D11.ok
      have F21 := F20.step0 D11.stp
      have q91 := D11.kt q85 rfl
      have q92 := D11.kt q86 rfl
      have q93 := D11.kt q87 rfl
      have o57 := Own.k0 o54 D11.stp
      have o58 := OwnP.k0 o55 D11.stp
      have o59 := OwnP.k0 o56 D11.stp
      have q94 : At (Ty.val q) s19 a18 (.tmp 76) := D11.done 0 (by decide)
      have q95 : At (Ty.lst Ty.int (path ++ [((k : Nat) : Int)])) s19 a18 (.tmp 77) := D11.done 1 (by decide)
      clear D11
      refine tailL (L := [40, 41]) (R := (fun v τ' => ∃ τ, (fun v τ => ∃ (fz : Value), True ∧ (OwnP τ 40 q [(Ty.val (Value.string nm)), (Ty.int n), (Ty.lst Ty.ints l), (Ty.lstc 2 callC cs), (Ty.nat leads), (Ty.nat many), (Ty.nat (goQ n.toNat l cs leads many (f) ((path ++ [((k : Nat) : Int)])) (Qst.mk ((s.met + 1)) (s.found) (s.full))).met), (Ty.val fz), (Ty.bool (goQ n.toNat l cs leads many (f) ((path ++ [((k : Nat) : Int)])) (Qst.mk ((s.met + 1)) (s.found) (s.full))).full)]) ∧ (Own τ 41 23 1 fz (List.length (goQ n.toNat l cs leads many (f) ((path ++ [((k : Nat) : Int)])) (Qst.mk ((s.met + 1)) (s.found) (s.full))).found) (List.map Ty.ints (goQ n.toNat l cs leads many (f) ((path ++ [((k : Nat) : Int)])) (Qst.mk ((s.met + 1)) (s.found) (s.full))).found))) v τ ∧ Back [(40, 40), (41, 41)] τ τ')) rfl rfl (by decide) ok17 (y_callL (L := [40, 41]) [(40, 40), (41, 41)] [(40, 40), (41, 41)] #[a18.eval (.tmp 76), a18.eval (.tmp 77)] rfl (by decide) Try.func52 rfl rfl (by simp only [List.map_toArray, List.map_cons, List.map_nil]) (ih (f) (by omega) (q) (fk) (nm) (n) (l) (cs) (leads) (many) ((s.met + 1)) (s.found) (s.full) ((path ++ [((k : Nat) : Int)])) _ (GW.low_lend _ (by decide)) _ _ (Ty.up _ (GW.le_lend _ _) q94) (Ty.up _ (GW.le_lend _ _) q95) (OwnP.ren (ownp_cell 8 (Ty.bool (s.full)) (ownp_cell 6 (Ty.nat ((s.met + 1))) o59 rfl (fun _ _ h => (cvi (by (first | rfl | omega | (simp_all; done) | (simp_all; omega))) h))) rfl (fun _ _ h => (cvb (by (first | rfl | omega | (simp_all; done) | (simp_all; omega))) h))) (GW.ren_lend _ _ (by decide) rfl)) (Own.ren (cvo (by (simp)) (by (simp)) o57) (GW.ren_lend _ _ (by decide) rfl)) (by first | omega | assumption) (by first | omega | assumption) (by first | omega | assumption) (by first | omega | assumption) (by first | omega | assumption) (by first | omega | assumption) (by first | omega | assumption) (by first | omega | assumption) (by first | omega | assumption))) (fun a19 s20 hs9 ok18 r9 sm6 => ?_)
      have F22 := F21.stepL hs9 (by decide)
      have q96 := kpL hs9 (by decide) (sm6 4 (by decide)) q91
      have q97 := kpL hs9 (by decide) (sm6 0 (by decide)) q92
      have q98 := kpL hs9 (by decide) (sm6 1 (by decide)) q93
      have o64 := OwnP.keepL o58 hs9 (by decide) (by decide)
      obtain ⟨t4, ⟨x5, hT1, o60, o61⟩, B1⟩ := r9
      have o62 : OwnP s20 40 q [(Ty.val (Value.string nm)), (Ty.int n), (Ty.lst Ty.ints l), (Ty.lstc 2 callC cs), (Ty.nat leads), (Ty.nat many), (Ty.nat (goQ n.toNat l cs leads many (f) ((path ++ [((k : Nat) : Int)])) (Qst.mk ((s.met + 1)) (s.found) (s.full))).met), (Ty.val x5), (Ty.bool (goQ n.toNat l cs leads many (f) ((path ++ [((k : Nat) : Int)])) (Qst.mk ((s.met + 1)) (s.found) (s.full))).full)] := OwnP.ren o60 (B1.ren (by decide) rfl)
      have o63 : Own s20 41 23 1 x5 (List.length (goQ n.toNat l cs leads many (f) ((path ++ [((k : Nat) : Int)])) (Qst.mk ((s.met + 1)) (s.found) (s.full))).found) (List.map Ty.ints (goQ n.toNat l cs leads many (f) ((path ++ [((k : Nat) : Int)])) (Qst.mk ((s.met + 1)) (s.found) (s.full))).found) := Own.ren o61 (B1.ren (by decide) rfl)
      refine wpList_nil ?_
      refine bn ?_
      refine tn ?_
      refine reg (a := a19) (σ := s20) rfl (fun i_ => List.getD [(Ty.pr (Ty.nat k)), (Ty.pr (Ty.nat (k + 1))), (Ty.pr (Ty.nat (k + 1)))] i_ Pr.any) ok18 rfl ⟨?_, ?_, ?_, trivial⟩ ?_
      · intro ax tx hs okx sm
        exact run_plain rfl (y_move (kp (sm 4 rfl) hs q96))
      · intro ax tx hs okx sm d0
        have e0 := ed d0 rfl rfl rfl
        exact run_plain rfl ((y_add e0 rfl (w64 (by omega) (by omega))).mono (fun τ _ h => cvi (σ := τ) (by first | omega | exact (Int.natCast_mul _ _).symm) h))
      · intro ax tx hs okx sm d0 d1 d2
        have e1 := ed d0 rfl rfl rfl
        exact run_plain rfl (y_assign e1)
      intro a20 s21 D12
      have ok19 := D12.ok
      have F23 := F22.step0 D12.stp
      have q100 := D12.kt q97 rfl
      have q101 := D12.kt q98 rfl
      have o65 := OwnP.k0 o62 D12.stp
      have o66 := Own.k0 o63 D12.stp
      have q102 : At (Ty.nat (k + 1)) s21 a20 (.tmp 4) := D12.done 2
      clear D12
      exact tn ⟨cs.length - ((k+1)), by omega, s21, (k+1), (goQ n.toNat l cs leads many f (path ++ [((k : Nat) : Int)]) (Qst.mk (s.met + 1) s.found s.full)), x5, rfl, F23, ok19, (cvi (by (first | rfl | omega | (simp_all; done) | (simp_all; omega))) q102), q100, q101, (ownp_cell 8 (Ty.bool ((goQ n.toNat l cs leads many f (path ++ [((k : Nat) : Int)]) (Qst.mk (s.met + 1) s.found s.full))).full) (ownp_cell 6 (Ty.nat ((goQ n.toNat l cs leads many f (path ++ [((k : Nat) : Int)]) (Qst.mk (s.met + 1) s.found s.full))).met) o65 rfl (fun _ _ h => (cvi (by (first | rfl | omega | (simp_all; done) | (simp_all; omega))) h))) rfl (fun _ _ h => (cvb (by (first | rfl | omega | (simp_all; done) | (simp_all; omega))) h))), (cvo (by (simp)) (by (simp)) o66), by omega, (take_on hme hle).symm.trans (lp_T hs hgo.2.1 ht), rfl⟩
     ·
      have hle : ¬ (path ++ [((k : Nat) : Int)]).length < leads := (by omega)
      refine wp_seq ?_
      refine reg (a := a17) (σ := s18) rfl (fun i_ => List.getD [(Ty.pr (Ty.val (ptrAt x4 1))), (Ty.pr (Ty.bool (roundP n.toNat l cs (path ++ [((k : Nat) : Int)]))))] i_ Pr.any) ok16 rfl ⟨?_, ?_, trivial⟩ ?_
      · intro ax tx hs okx sm
        exact run_plain rfl (ownp_field Try.fld42_1 Try.inf4 (by decide) (OwnP.k0 o55 hs) (kp (sm 6 rfl) hs q89))
      · intro ax tx hs okx sm d0
        have e0 := ed d0 rfl rfl rfl
        exact run_plain rfl (ownp_load Try.underlying4 rfl (OwnP.k0 o55 hs) e0 rfl)
      intro a21 s22 D13
      have ok20 := D13.ok
      have F24 := F20.step0 D13.stp
      have q103 := D13.kt q85 rfl
      have q104 := D13.kt q86 rfl
      have q105 := D13.kt q87 rfl
      have q106 := D13.kt q88 rfl
      have o67 := Own.k0 o54 D13.stp
      have o68 := OwnP.k0 o55 D13.stp
      have o69 := OwnP.k0 o56 D13.stp
      have q107 : At (Ty.bool (roundP n.toNat l cs (path ++ [((k : Nat) : Int)]))) s22 a21 (.tmp 80) := D13.done 1
      clear D13
      refine tn ?_
      refine cond_t q107 (fun c5 => ?_) (fun c5 => ?_)
      ·
       refine reg2 (a := a21) (σ := s22) rfl 7 (fun i_ => List.getD [(Ty.pr (Ty.val q)), (Ty.pr (Ty.val q)), (Ty.pr (Ty.val q)), (Ty.pr (Ty.val (ptrAt q 7))), (Ty.pr (Ty.val fk)), (Ty.pr (Ty.lst Ty.int (path ++ [((k : Nat) : Int)]))), (Ty.pr (Ty.sl 1 1 [(Ty.lst Ty.int (path ++ [((k : Nat) : Int)]))]))] i_ Pr.any) ok20 rfl (by decide) rfl ⟨?_, ?_, ?_, ?_, ?_, ?_, ?_, trivial⟩ ?_
       · intro ax tx hs okx sm
         exact run_plain rfl (y_move (kp (sm 0 rfl) hs q104))
       · intro ax tx hs okx sm
         exact run_plain rfl (y_move (kp (sm 0 rfl) hs q104))
       · intro ax tx hs okx sm d0
         have e1 := ed d0 rfl rfl rfl
         exact run_plain rfl (y_nilp (OwnP.k0 o69 hs) e1)
       · intro ax tx hs okx sm d0
         have e2 := ed d0 rfl rfl rfl
         exact run_plain rfl (ownp_field Try.fld93_5 Try.inf29 (by decide) (OwnP.k0 o69 hs) e2)
       · intro ax tx hs okx sm d0
         have e3 := ed d0 rfl rfl rfl
         exact run_plain rfl (ownp_load Try.underlying29 rfl (OwnP.k0 o69 hs) e3 rfl)
       · intro ax tx hs okx sm
         exact run_plain rfl (y_move (kp (sm 5 rfl) hs q106))
       · intro ax tx hs okx sm d0
         have e5 := ed d0 rfl rfl rfl
         exact run_plain rfl (y_build1o Try.underlying29 Try.inf23 rfl (one_sl) e5)
       intro a22 s23 D14
       have ok21 := D14.ok
       have F25 := F24.step0 D14.stp
       have q108 := D14.kt q103 rfl
       have q109 := D14.kt q104 rfl
       have q110 := D14.kt q105 rfl
       have o70 := Own.k0 o67 D14.stp
       have o71 := OwnP.k0 o69 D14.stp
       have q111 : At (Ty.val q) s23 a22 (.tmp 81) := D14.done 0 (by decide)
       have q112 : At (Ty.val fk) s23 a22 (.tmp 85) := D14.done 4 (by decide)
       have q113 : At (Ty.sl 1 1 [(Ty.lst Ty.int (path ++ [((k : Nat) : Int)]))]) s23 a22 (.tmp 87) := D14.done 6 (by decide)
       have b2 := sl_le q113
       clear D14
       refine tailL (L := [41]) (R := (fun v τ => Own τ 41 23 1 v ((List.length s.found) + 1) ((List.map Ty.ints s.found) ++ [(Ty.lst Ty.int (path ++ [((k : Nat) : Int)]))]))) rfl rfl (by decide) ok21 (YldM.toL (m_append Try.underlying29 Try.inf23 (by decide) rfl (by decide) (al (R := (Pr.own 41 23 1 (List.length s.found) (List.map Ty.ints s.found))) q112 o70) q113 (by intro U hU; simp at hU; subst hU; exact one_sl) (by omega) (by omega))) (fun a23 s24 hs10 ok22 r10 sm7 => ?_)
       have F26 := F25.stepL hs10 (by decide)
       have q114 := kpL hs10 (by decide) (sm7 4 (by decide)) q108
       have q115 := kpL hs10 (by decide) (sm7 0 (by decide)) q109
       have q116 := kpL hs10 (by decide) (sm7 1 (by decide)) q110
       have q117 := kpL hs10 (by decide) (sm7 81 (by decide)) q111
       have o73 := OwnP.keepL o71 hs10 (by decide) (by decide)
       obtain ⟨x6, hx5⟩ : ∃ x, a23.eval (.tmp 88) = x := ⟨_, rfl⟩
       have q118 : At (Ty.val x6) s24 a23 (.tmp 88) := hx5
       have o72 : Own s24 41 23 1 x6 (List.length (s.found ++ [(path ++ [((k : Nat) : Int)])])) (List.map Ty.ints (s.found ++ [(path ++ [((k : Nat) : Int)])])) := al2 (R := (Pr.own 41 23 1 (List.length (s.found ++ [(path ++ [((k : Nat) : Int)])])) (List.map Ty.ints (s.found ++ [(path ++ [((k : Nat) : Int)])])))) hx5 (cvo (by simp) (by first | (rw [List.map_append]; rfl) | simp) r10)
       clear r10
       refine tailL (L := []) (R := (fun v τ => Pr.has (Ty.pr (Ty.val q)) τ v)) rfl rfl (by decide) ok22 (Yld.toL (y_nilp o73 q117)) (fun a24 s25 hs11 ok23 r11 sm8 => ?_)
       have F27 := F26.stepL hs11 (by decide)
       have q119 := kpL hs11 (by decide) (sm8 4 (by decide)) q114
       have q120 := kpL hs11 (by decide) (sm8 0 (by decide)) q115
       have q121 := kpL hs11 (by decide) (sm8 1 (by decide)) q116
       have q122 := kpL hs11 (by decide) (sm8 88 (by decide)) q118
       have o74 := OwnP.keepL o73 hs11 (by decide) (by decide)
       have o75 := Own.keepL o72 hs11 (by decide) (by decide)
       have q123 : At (Ty.val q) s25 a24 (.tmp 89) := r11
       clear r11
       refine tailL (L := []) (R := (fun v τ => Pr.has (Ty.pr (Ty.val (ptrAt q 7))) τ v)) rfl rfl (by decide) ok23 (Yld.toL (ownp_field Try.fld93_5 Try.inf29 (by decide) o74 q123)) (fun a25 s26 hs12 ok24 r12 sm9 => ?_)
       have F28 := F27.stepL hs12 (by decide)
       have q124 := kpL hs12 (by decide) (sm9 4 (by decide)) q119
       have q125 := kpL hs12 (by decide) (sm9 0 (by decide)) q120
       have q126 := kpL hs12 (by decide) (sm9 1 (by decide)) q121
       have q127 := kpL hs12 (by decide) (sm9 88 (by decide)) q122
       have o76 := OwnP.keepL o74 hs12 (by decide) (by decide)
       have o77 := Own.keepL o75 hs12 (by decide) (by decide)
       have q128 : At (Ty.val (ptrAt q 7)) s26 a25 (.tmp 90) := r12
       clear r12
       refine tailL0 (L := [40]) (R := (fun _ τ => OwnP τ 40 q ([(Ty.val (Value.string nm)), (Ty.int n), (Ty.lst Ty.ints l), (Ty.lstc 2 callC cs), (Ty.nat leads), (Ty.nat many), (Ty.nat (s.met + 1)), (Ty.val fk), (Ty.bool s.full)].set 7 (Ty.val x6)))) rfl rfl (YldM.toL (m_storep Try.inf29 (by decide) o76 q128 (Nat.le_of_ble_eq_true rfl) q127 (one_val (Own.one o77)))) (fun v4 s27 hs13 r13 => ?_)
       have F29 := F28.stepL hs13 (by decide)
       have q129 := kpL hs13 (by decide) rfl q124
       have q130 := kpL hs13 (by decide) rfl q125
       have q131 := kpL hs13 (by decide) rfl q126
       have o79 := Own.keepL o77 hs13 (by decide) (by decide)
       have o78 : OwnP s27 40 q [(Ty.val (Value.string nm)), (Ty.int n), (Ty.lst Ty.ints l), (Ty.lstc 2 callC cs), (Ty.nat leads), (Ty.nat many), (Ty.nat (s.met + 1)), (Ty.val x6), (Ty.bool s.full)] := r13
       clear r13
       refine wpList_nil ?_
       refine bn ?_
       refine tn ?_
       refine reg (a := a25) (σ := s27) rfl (fun i_ => List.getD [(Ty.pr (Ty.nat k)), (Ty.pr (Ty.nat (k + 1))), (Ty.pr (Ty.nat (k + 1)))] i_ Pr.any) ok24 rfl ⟨?_, ?_, ?_, trivial⟩ ?_
       · intro ax tx hs okx sm
         exact run_plain rfl (y_move (kp (sm 4 rfl) hs q129))
       · intro ax tx hs okx sm d0
         have e0 := ed d0 rfl rfl rfl
         exact run_plain rfl ((y_add e0 rfl (w64 (by omega) (by omega))).mono (fun τ _ h => cvi (σ := τ) (by first | omega | exact (Int.natCast_mul _ _).symm) h))
       · intro ax tx hs okx sm d0 d1 d2
         have e1 := ed d0 rfl rfl rfl
         exact run_plain rfl (y_assign e1)
       intro a26 s28 D15
       have ok25 := D15.ok
       have F30 := F29.step0 D15.stp
       have q133 := D15.kt q130 rfl
       have q134 := D15.kt q131 rfl
       have o80 := Own.k0 o79 D15.stp
       have o81 := OwnP.k0 o78 D15.stp
       have q135 : At (Ty.nat (k + 1)) s28 a26 (.tmp 4) := D15.done 2
       clear D15
       exact tn ⟨cs.length - ((k+1)), by omega, s28, (k+1), (Qst.mk (s.met + 1) (s.found ++ [(path ++ [((k : Nat) : Int)])]) s.full), x6, rfl, F30, ok25, (cvi (by (first | rfl | omega | (simp_all; done) | (simp_all; omega))) q135), q133, q134, (ownp_cell 8 (Ty.bool ((Qst.mk (s.met + 1) (s.found ++ [(path ++ [((k : Nat) : Int)])]) s.full)).full) (ownp_cell 6 (Ty.nat ((Qst.mk (s.met + 1) (s.found ++ [(path ++ [((k : Nat) : Int)])]) s.full)).met) o81 rfl (fun _ _ h => (cvi (by (first | rfl | omega | (simp_all; done) | (simp_all; omega))) h))) rfl (fun _ _ h => (cvb (by (first | rfl | omega | (simp_all; done) | (simp_all; omega))) h))), (cvo (by (simp)) (by (simp)) o80), by omega, (take_yes hme hle c5).symm.trans (lp_T hs hgo.2.1 ht), rfl⟩
      ·
       have c5 : roundP n.toNat l cs (path ++ [((k : Nat) : Int)]) = false := (by simpa using c5)
       refine wp_skip ?_
       refine bn ?_
       refine tn ?_
       refine reg (a := a21) (σ := s22) rfl (fun i_ => List.getD [(Ty.pr (Ty.nat k)), (Ty.pr (Ty.nat (k + 1))), (Ty.pr (Ty.nat (k + 1)))] i_ Pr.any) ok20 rfl ⟨?_, ?_, ?_, trivial⟩ ?_
       · intro ax tx hs okx sm
         exact run_plain rfl (y_move (kp (sm 4 rfl) hs q103))
       · intro ax tx hs okx sm d0
         have e0 := ed d0 rfl rfl rfl
         exact run_plain rfl ((y_add e0 rfl (w64 (by omega) (by omega))).mono (fun τ _ h => cvi (σ := τ) (by first | omega | exact (Int.natCast_mul _ _).symm) h))
       · intro ax tx hs okx sm d0 d1 d2
         have e1 := ed d0 rfl rfl rfl
         exact run_plain rfl (y_assign e1)
       intro a27 s29 D16
       have ok26 := D16.ok
       have F31 := F24.step0 D16.stp
       have q136 := D16.kt q104 rfl
       have q137 := D16.kt q105 rfl
       have o82 := Own.k0 o67 D16.stp
       have o83 := OwnP.k0 o69 D16.stp
       have q138 : At (Ty.nat (k + 1)) s29 a27 (.tmp 4) := D16.done 2
       clear D16
       exact tn ⟨cs.length - ((k+1)), by omega, s29, (k+1), (Qst.mk (s.met + 1) s.found s.full), fk, rfl, F31, ok26, (cvi (by (first | rfl | omega | (simp_all; done) | (simp_all; omega))) q138), q136, q137, (ownp_cell 8 (Ty.bool ((Qst.mk (s.met + 1) s.found s.full)).full) (ownp_cell 6 (Ty.nat ((Qst.mk (s.met + 1) s.found s.full)).met) o83 rfl (fun _ _ h => (cvi (by (first | rfl | omega | (simp_all; done) | (simp_all; omega))) h))) rfl (fun _ _ h => (cvb (by (first | rfl | omega | (simp_all; done) | (simp_all; omega))) h))), (cvo (by (simp)) (by (simp)) o82), by omega, (take_no hme hle c5).symm.trans (lp_T hs hgo.2.1 ht), rfl⟩
  ·
   have hfin := go_stop hs hk c1
   refine wp_exit ?_
   refine tx ?_
   refine tx ?_
   refine bx ?_
   exact nL0 rfl ok3 F3 ⟨fk, trivial, (ownp_cell 8 (Ty.bool (goQ n.toNat l cs leads many d path (Qst.mk met found full)).full) (ownp_cell 6 (Ty.nat (goQ n.toNat l cs leads many d path (Qst.mk met found full)).met) o5 rfl (fun _ _ h => (cvi (by (rw [hf, ← hs0, hfin])) h))) rfl (fun _ _ h => (cvb (by (rw [hf, ← hs0, hfin])) h))), (cvo (by (rw [hf, ← hs0, hfin])) (by (rw [hf, ← hs0, hfin])) o6)⟩

theorem Try.inf93 : Info Try.prog 93 (.agg #[.string ByteArray.empty, .int .i64 0, .slice none 0 0, .slice none 0 0, .int .i64 0, .int .i64 0, .int .i64 0, .slice none 0 0, .bool false]) 9 128 := by unfold Info; kernel_rfl
set_option maxHeartbeats 4000000 in
set_option maxRecDepth 100000 in
theorem rTouches_fn (nm : ByteArray) (n : Int) (l : List (List Int)) (cs : List BCall) (leads : Int) (many : Int) (σ : GW)  (v0 v1 v2 v3 : Value) (hv0 : Ty.has (Ty.agg [(Ty.val (Value.string nm)), (Ty.int n), (Ty.lst Ty.ints l)]) σ v0) (hv1 : Ty.has (Ty.lstc 2 callC cs) σ v1) (hv2 : Ty.has (Ty.int leads) σ v2) (hv3 : Ty.has (Ty.int many) σ v3)  (hnm : nm.size ≤ 1099511627776) (hn : -9223372036854775808 ≤ n ∧ n ≤ 9223372036854775807) :
    FnC Try.prog 16 #[v0, v1, v2, v3] σ (Ty.tup2 (Ty.lst Ty.ints (if qMay nm n l cs leads many = 0 then qFnd n l cs leads many else [])) (Ty.int (qMay nm n l cs leads many))) := by
 refine fn_intro0 Try.func16 rfl Try.ntmps16 (Nat.le_of_ble_eq_true rfl) (fun s0 a0 hle F0 ok0 hargs => ?_)
 have p0 : At (Ty.agg [(Ty.val (Value.string nm)), (Ty.int n), (Ty.lst Ty.ints l)]) s0 a0 (.tmp 0) := by have e := hargs 0 _ rfl; show Ty.has _ _ _; rw [e]; exact Ty.up _ hle hv0
 have p1 : At (Ty.lstc 2 callC cs) s0 a0 (.tmp 1) := by have e := hargs 1 _ rfl; show Ty.has _ _ _; rw [e]; exact Ty.up _ hle hv1
 have b1 := sl_le p1
 have p2 : At (Ty.int leads) s0 a0 (.tmp 2) := by have e := hargs 2 _ rfl; show Ty.has _ _ _; rw [e]; exact Ty.up _ hle hv2
 have p3 : At (Ty.int many) s0 a0 (.tmp 3) := by have e := hargs 3 _ rfl; show Ty.has _ _ _; rw [e]; exact Ty.up _ hle hv3
 clear hargs
 refine wp_seq ?_
 refine reg (a := a0) (σ := s0) rfl (fun i_ => List.getD [(Ty.pr (Ty.ref [(Ty.val (Value.string nm)), (Ty.int n), (Ty.lst Ty.ints l)])), (Ty.pr (Ty.val (Value.slice none 0 0))), (Ty.pr (Ty.int (0 : Int)))] i_ Pr.any) ok0 rfl ⟨?_, ?_, ?_, trivial⟩ ?_
 · intro ax tx hs okx sm
   exact run_plain rfl (y_boxagg (kp (sm 0 rfl) hs p0))
 · intro ax tx hs okx sm
   exact run_plain rfl (y_assign rfl)
 · intro ax tx hs okx sm d0
   exact run_plain rfl (y_assign rfl)
 intro a1 s1 D1
 have ok1 := D1.ok
 have F1 := F0.step0 D1.stp
 have q1 := D1.kt p1 rfl
 have q2 := D1.kt p2 rfl
 have q3 := D1.kt p3 rfl
 have q4 : At (Ty.ref [(Ty.val (Value.string nm)), (Ty.int n), (Ty.lst Ty.ints l)]) s1 a1 (.tmp 4) := D1.done 0
 clear D1
 refine tn ?_
 refine wp_seq ?_
 refine reg (a := a1) (σ := s1) rfl (fun i_ => List.getD [(Ty.pr (Ty.agg [(Ty.val (Value.string nm)), (Ty.int n), (Ty.lst Ty.ints l)])), (Ty.pr (Ty.lstc 2 callC cs)), (Ty.pr (Ty.int (callsMay nm n l cs))), (Ty.pr (Ty.int (callsMay nm n l cs)))] i_ Pr.any) ok1 rfl ⟨?_, ?_, ?_, ?_, trivial⟩ ?_
 · intro ax tx hs okx sm
   exact run_plain rfl (y_loadagg Try.underlying31 Try.inf31 (kp (sm 4 rfl) hs q4))
 · intro ax tx hs okx sm
   exact run_plain rfl (y_move (kp (sm 1 rfl) hs q1))
 · intro ax tx hs okx sm d0 d1
   have e0 := ed d0 rfl rfl rfl
   have e1 := ed d1 rfl rfl rfl
   exact run_plain rfl (y_call #[ax.eval (.tmp 12), ax.eval (.tmp 13)] Try.func51 rfl rfl (by simp only [List.map_toArray, List.map_cons, List.map_nil]) (rCallsMay_fn (nm) (n) (l) (cs) _ _ _ e0 e1 (by first | omega | assumption) (by first | omega | assumption)))
 · intro ax tx hs okx sm d0 d1 d2 d3 d4
   have e2 := ed d0 rfl rfl rfl
   exact run_plain rfl (y_assign e2)
 intro a2 s2 D2
 have ok2 := D2.ok
 have F2 := F1.step0 D2.stp
 have q5 := D2.kt q1 rfl
 have q6 := D2.kt q2 rfl
 have q7 := D2.kt q3 rfl
 have q8 := D2.kt q4 rfl
 have q9 : At (Ty.int (callsMay nm n l cs)) s2 a2 (.tmp 10) := D2.done 3
 clear D2
 refine tn ?_
 refine wp_seq ?_
 refine wp_seq ?_
 refine reg (a := a2) (σ := s2) rfl (fun i_ => List.getD [(Ty.pr (Ty.int (callsMay nm n l cs))), (Ty.pr (Ty.bool (decide ((callsMay nm n l cs) ≠ (0 : Int)))))] i_ Pr.any) ok2 rfl ⟨?_, ?_, trivial⟩ ?_
 · intro ax tx hs okx sm
   exact run_plain rfl (y_move (kp (sm 10 rfl) hs q9))
 · intro ax tx hs okx sm d0
   have e0 := ed d0 rfl rfl rfl
   exact run_plain rfl (y_neq e0 rfl)
 intro a3 s3 D3
 have ok3 := D3.ok
 have F3 := F2.step0 D3.stp
 have q10 := D3.kt q5 rfl
 have q11 := D3.kt q6 rfl
 have q12 := D3.kt q7 rfl
 have q13 := D3.kt q8 rfl
 have q14 := D3.kt q9 rfl
 have q15 : At (Ty.bool (decide ((callsMay nm n l cs) ≠ (0 : Int)))) s3 a3 (.tmp 16) := D3.done 1
 clear D3
 refine tn ?_
 refine cond_p (p := ((callsMay nm n l cs) ≠ (0 : Int))) q15 (fun c1 => ?_) (fun c1 => ?_)
 ·
  have hm := qMay_calls (leads := leads) (many := many) c1
  refine wp_seq ?_
  refine reg (a := a3) (σ := s3) rfl (fun i_ => List.getD [(Ty.pr (Ty.int (callsMay nm n l cs))), (Ty.pr (Ty.val (Value.slice none 0 0))), (Ty.pr (Ty.int (callsMay nm n l cs)))] i_ Pr.any) ok3 rfl ⟨?_, ?_, ?_, trivial⟩ ?_
  · intro ax tx hs okx sm d0
    exact run_plain rfl (y_move (kp (sm 10 rfl) hs q14))
  · intro ax tx hs okx sm d0
    exact run_plain rfl (y_assign rfl)
  · intro ax tx hs okx sm d0 d1 d2 d3
    have e0 := ed d0 rfl rfl rfl
    exact run_plain rfl (y_assign e0)
  intro a4 s4 D4
  have ok4 := D4.ok
  have F4 := F3.step0 D4.stp
  have q16 : At (Ty.val (Value.slice none 0 0)) s4 a4 (.tmp 8) := D4.done 1
  have q17 : At (Ty.int (callsMay nm n l cs)) s4 a4 (.tmp 9) := D4.done 2
  clear D4
  refine tn ?_
  refine wp_ret ?_
  refine tr ?_
  exact retL2 rfl ok4 F4 (hasT2 (nil_lst (by (rw [hm, if_neg c1])) q16) (cvi (by (exact hm.symm)) q17))
 ·
  have h0 := Classical.not_not.1 c1; obtain ⟨hok, hnn⟩ := callsMay_ok h0; have hc8 := hok.c8; have hc1 := hok.c1; have hl1 := hok.meth.l1; have hl2 := hok.meth.l2; have hn1 := hok.meth.n1; have hn2 := hok.meth.n2
  refine wp_skip ?_
  refine tn ?_
  refine wp_seq ?_
  refine wp_seq ?_
  refine reg (a := a3) (σ := s3) rfl (fun i_ => List.getD [(Ty.pr (Ty.int leads)), (Ty.pr (Ty.bool (decide (leads < (1 : Int))))), (Ty.pr (Ty.bool (decide (leads < (1 : Int))))), (Ty.pr (Ty.grd ((decide (leads < (1 : Int))) = false) (Ty.int leads))), (Ty.pr (Ty.grd ((decide (leads < (1 : Int))) = false) (Ty.bool (decide ((24 : Int) < leads))))), (Ty.pr (Ty.bool ((decide (leads < (1 : Int))) || (decide ((24 : Int) < leads))))), (Ty.pr (Ty.bool ((decide (leads < (1 : Int))) || (decide ((24 : Int) < leads))))), (Ty.pr (Ty.grd (((decide (leads < (1 : Int))) || (decide ((24 : Int) < leads))) = false) (Ty.int many))), (Ty.pr (Ty.grd (((decide (leads < (1 : Int))) || (decide ((24 : Int) < leads))) = false) (Ty.bool (decide (many < (1 : Int)))))), (Ty.pr (Ty.bool (((decide (leads < (1 : Int))) || (decide ((24 : Int) < leads))) || (decide (many < (1 : Int)))))), (Ty.pr (Ty.bool (((decide (leads < (1 : Int))) || (decide ((24 : Int) < leads))) || (decide (many < (1 : Int)))))), (Ty.pr (Ty.grd ((((decide (leads < (1 : Int))) || (decide ((24 : Int) < leads))) || (decide (many < (1 : Int)))) = false) (Ty.int many))), (Ty.pr (Ty.grd ((((decide (leads < (1 : Int))) || (decide ((24 : Int) < leads))) || (decide (many < (1 : Int)))) = false) (Ty.bool (decide ((50 : Int) < many))))), (Ty.pr (Ty.bool ((((decide (leads < (1 : Int))) || (decide ((24 : Int) < leads))) || (decide (many < (1 : Int)))) || (decide ((50 : Int) < many)))))] i_ Pr.any) ok3 rfl ⟨?_, ?_, ?_, ?_, ?_, ?_, ?_, ?_, ?_, ?_, ?_, ?_, ?_, ?_, trivial⟩ ?_
  · intro ax tx hs okx sm
    exact run_plain rfl (y_move (kp (sm 2 rfl) hs q11))
  · intro ax tx hs okx sm d0
    have e0 := ed d0 rfl rfl rfl
    exact run_plain rfl (y_lss e0 rfl)
  · intro ax tx hs okx sm d0
    have e1 := ed d0 rfl rfl rfl
    exact run_plain rfl (y_move e1)
  · intro ax tx hs okx sm d0
    have e2 := ed d0 rfl rfl rfl
    refine run_guard (T := (Ty.int leads)) okx rfl rfl (by decide) e2 (fun hg => ?_)
    have hp := of_decide_eq_false hg
    exact y_move (kp (sm 2 rfl) hs q11)
  · intro ax tx hs okx sm d0 d1
    have e3 := ed d0 rfl rfl rfl
    have e2 := ed d1 rfl rfl rfl
    refine run_guard (T := (Ty.bool (decide ((24 : Int) < leads)))) okx rfl rfl (by decide) e2 (fun hg => ?_)
    have hp := of_decide_eq_false hg
    exact y_gtr (e3.1 hg) rfl
  · intro ax tx hs okx sm d0 d1
    have e2 := ed d0 rfl rfl rfl
    have e4 := ed d1 rfl rfl rfl
    exact run_plain rfl (y_pick_or e2 rfl e4)
  · intro ax tx hs okx sm d0 d1
    have e5 := ed d0 rfl rfl rfl
    exact run_plain rfl (y_move e5)
  · intro ax tx hs okx sm d0
    have e6 := ed d0 rfl rfl rfl
    refine run_guard (T := (Ty.int many)) okx rfl rfl (by decide) e6 (fun hg => ?_)
    obtain ⟨d1, d2⟩ := Bool.or_eq_false_iff.mp hg
    have d1 := of_decide_eq_false d1
    have d2 := of_decide_eq_false d2
    exact y_move (kp (sm 3 rfl) hs q12)
  · intro ax tx hs okx sm d0 d1
    have e7 := ed d0 rfl rfl rfl
    have e6 := ed d1 rfl rfl rfl
    refine run_guard (T := (Ty.bool (decide (many < (1 : Int))))) okx rfl rfl (by decide) e6 (fun hg => ?_)
    obtain ⟨d3, d4⟩ := Bool.or_eq_false_iff.mp hg
    have d3 := of_decide_eq_false d3
    have d4 := of_decide_eq_false d4
    exact y_lss (e7.1 hg) rfl
  · intro ax tx hs okx sm d0 d1
    have e6 := ed d0 rfl rfl rfl
    have e8 := ed d1 rfl rfl rfl
    exact run_plain rfl (y_pick_or e6 rfl e8)
  · intro ax tx hs okx sm d0 d1
    have e9 := ed d0 rfl rfl rfl
    exact run_plain rfl (y_move e9)
  · intro ax tx hs okx sm d0
    have e10 := ed d0 rfl rfl rfl
    refine run_guard (T := (Ty.int many)) okx rfl rfl (by decide) e10 (fun hg => ?_)
    obtain ⟨d5, d6⟩ := Bool.or_eq_false_iff.mp hg
    obtain ⟨d7, d8⟩ := Bool.or_eq_false_iff.mp d5
    have d7 := of_decide_eq_false d7
    have d8 := of_decide_eq_false d8
    have d6 := of_decide_eq_false d6
    exact y_move (kp (sm 3 rfl) hs q12)
  · intro ax tx hs okx sm d0 d1
    have e11 := ed d0 rfl rfl rfl
    have e10 := ed d1 rfl rfl rfl
    refine run_guard (T := (Ty.bool (decide ((50 : Int) < many)))) okx rfl rfl (by decide) e10 (fun hg => ?_)
    obtain ⟨d9, d10⟩ := Bool.or_eq_false_iff.mp hg
    obtain ⟨d11, d12⟩ := Bool.or_eq_false_iff.mp d9
    have d11 := of_decide_eq_false d11
    have d12 := of_decide_eq_false d12
    have d10 := of_decide_eq_false d10
    exact y_gtr (e11.1 hg) rfl
  · intro ax tx hs okx sm d0 d1
    have e10 := ed d0 rfl rfl rfl
    have e12 := ed d1 rfl rfl rfl
    exact run_plain rfl (y_pick_or e10 rfl e12)
  intro a5 s5 D5
  have ok5 := D5.ok
  have F5 := F3.step0 D5.stp
  have q18 := D5.kt q10 rfl
  have q19 := D5.kt q11 rfl
  have q20 := D5.kt q12 rfl
  have q21 := D5.kt q13 rfl
  have q22 : At (Ty.bool ((((decide (leads < (1 : Int))) || (decide ((24 : Int) < leads))) || (decide (many < (1 : Int)))) || (decide ((50 : Int) < many)))) s5 a5 (.tmp 31) := D5.done 13
  clear D5
  refine tn ?_
  refine cond_t q22 (fun c2 => ?_) (fun c2 => ?_)
  ·
   simp only [Bool.or_eq_true, decide_eq_true_eq] at c2; have hm := qMay_cnt c1 (many := many) (leads := leads) (by omega)
   refine wp_seq ?_
   refine reg (a := a5) (σ := s5) rfl (fun i_ => List.getD [(Ty.pr (Ty.val (Value.slice none 0 0))), (Ty.pr (Ty.int (1 : Int)))] i_ Pr.any) ok5 rfl ⟨?_, ?_, trivial⟩ ?_
   · intro ax tx hs okx sm
     exact run_plain rfl (y_assign rfl)
   · intro ax tx hs okx sm d0 d1
     exact run_plain rfl (y_assign rfl)
   intro a6 s6 D6
   have ok6 := D6.ok
   have F6 := F5.step0 D6.stp
   have q23 : At (Ty.val (Value.slice none 0 0)) s6 a6 (.tmp 8) := D6.done 0
   have q24 : At (Ty.int (1 : Int)) s6 a6 (.tmp 9) := D6.done 1
   clear D6
   refine tn ?_
   refine wp_ret ?_
   refine tr ?_
   exact retL2 rfl ok6 F6 (hasT2 (nil_lst (by (rw [hm, if_neg (by decide)])) q23) (cvi (by (exact hm.symm)) q24))
  ·
   obtain ⟨d13, d14⟩ := Bool.or_eq_false_iff.mp c2
   obtain ⟨d15, d16⟩ := Bool.or_eq_false_iff.mp d13
   obtain ⟨d17, d18⟩ := Bool.or_eq_false_iff.mp d15
   replace d17 := of_decide_eq_false d17
   replace d18 := of_decide_eq_false d18
   replace d16 := of_decide_eq_false d16
   replace d14 := of_decide_eq_false d14
   have hxx : ¬ (leads < 1 ∨ 24 < leads ∨ many < 1 ∨ 50 < many) := (by simp only [Bool.or_eq_false_iff, decide_eq_false_iff_not] at c2; omega); obtain ⟨LN, hLN⟩ : ∃ LN, LN = leads.toNat := ⟨_, rfl⟩; obtain ⟨MN, hMN⟩ : ∃ MN, MN = many.toNat := ⟨_, rfl⟩; have hb1 : 1 ≤ LN := (by omega); have hb2 : LN ≤ 24 := (by omega); have hb3 : 1 ≤ MN := (by omega); have hb4 : MN ≤ 50 := (by omega)
   have q25 : At (Ty.nat LN) s5 a5 (.tmp 2) := cvt (T := (Ty.int leads)) (U := (Ty.nat LN)) (by exact congrArg Ty.int (show leads = ((LN : Nat) : Int) by omega)) q19
   have q26 : At (Ty.nat MN) s5 a5 (.tmp 3) := cvt (T := (Ty.int many)) (U := (Ty.nat MN)) (by exact congrArg Ty.int (show many = ((MN : Nat) : Int) by omega)) q20
   refine wp_skip ?_
   refine tn ?_
   refine wp_seq ?_
   refine reg2 (a := a5) (σ := s5) rfl 6 (fun i_ => List.getD [(Ty.pr (Ty.agg [(Ty.val (Value.string nm)), (Ty.int n), (Ty.lst Ty.ints l)])), (Ty.pr (Ty.lstc 2 callC cs)), (Ty.pr (Ty.nat LN)), (Ty.pr (Ty.nat MN)), (Ty.pr (Ty.agg [(Ty.val (Value.string nm)), (Ty.int n), (Ty.lst Ty.ints l), (Ty.lstc 2 callC cs), (Ty.nat LN), (Ty.nat MN), (Ty.int (0 : Int)), (Ty.val (Value.slice none 0 0)), (Ty.bool false)])), (Pr.ownp 40 [(Ty.val (Value.string ByteArray.empty)), (Ty.int (0 : Int)), (Ty.val (Value.slice none 0 0)), (Ty.val (Value.slice none 0 0)), (Ty.int (0 : Int)), (Ty.int (0 : Int)), (Ty.int (0 : Int)), (Ty.val (Value.slice none 0 0)), (Ty.bool false)])] i_ Pr.any) ok5 rfl (by decide) rfl ⟨?_, ?_, ?_, ?_, ?_, ?_, trivial⟩ ?_
   · intro ax tx hs okx sm
     exact run_plain rfl (y_loadagg Try.underlying31 Try.inf31 (kp (sm 4 rfl) hs q21))
   · intro ax tx hs okx sm
     exact run_plain rfl (y_move (kp (sm 1 rfl) hs q18))
   · intro ax tx hs okx sm
     exact run_plain rfl (y_move (kp (sm 2 rfl) hs q25))
   · intro ax tx hs okx sm
     exact run_plain rfl (y_move (kp (sm 3 rfl) hs q26))
   · intro ax tx hs okx sm d0 d1 d2 d3
     have e0 := ed d0 rfl rfl rfl
     have e1 := ed d1 rfl rfl rfl
     have e2 := ed d2 rfl rfl rfl
     have e3 := ed d3 rfl rfl rfl
     exact run_plain rfl (y_bld2 [(0, (.tmp 32), [(Ty.val (Value.string nm)), (Ty.int n), (Ty.lst Ty.ints l)]), (1, (.tmp 33), [(Ty.lstc 2 callC cs)]), (2, (.tmp 34), [(Ty.nat LN)]), (3, (.tmp 35), [(Ty.nat MN)])] [(Ty.val (Value.string ByteArray.empty)), (Ty.int (0 : Int)), (Ty.val (Value.slice none 0 0)), (Ty.val (Value.slice none 0 0)), (Ty.int (0 : Int)), (Ty.int (0 : Int)), (Ty.int (0 : Int)), (Ty.val (Value.slice none 0 0)), (Ty.bool false)] (l := [(0, 3), (3, 1), (4, 1), (5, 1), (6, 1), (7, 1), (8, 1)]) rfl Try.inf93 rfl (alloc_vals (vs := [.string ByteArray.empty, .int .i64 0, .slice none 0 0, .slice none 0 0, .int .i64 0, .int .i64 0, .int .i64 0, .slice none 0 0, .bool false]) rfl) rfl (by intro p hp; simp only [List.mem_cons, List.not_mem_nil, or_false] at hp; rcases hp with rfl | rfl | rfl | rfl; exact fits_agg e0; exact fits_one (one_sl) e1; exact fits_one (one_val rfl) e2; exact fits_one (one_val rfl) e3))
   · intro ax tx hs okx sm
     exact run_plain rfl (y_alloc Try.inf93 rfl (alloc_vals (vs := [.string ByteArray.empty, .int .i64 0, .slice none 0 0, .slice none 0 0, .int .i64 0, .int .i64 0, .int .i64 0, .slice none 0 0, .bool false]) rfl))
   intro a7 s7 D7
   have ok7 := D7.ok
   have F7 := F5.step0 D7.stp
   have q27 : At (Ty.agg [(Ty.val (Value.string nm)), (Ty.int n), (Ty.lst Ty.ints l), (Ty.lstc 2 callC cs), (Ty.nat LN), (Ty.nat MN), (Ty.int (0 : Int)), (Ty.val (Value.slice none 0 0)), (Ty.bool false)]) s7 a7 (.tmp 36) := D7.done 4 (by decide)
   obtain ⟨x1, hx1⟩ : ∃ x, a7.eval (.tmp 11) = x := ⟨_, rfl⟩
   have q28 : At (Ty.val x1) s7 a7 (.tmp 11) := hx1
   have o1 : OwnP s7 40 x1 [(Ty.val (Value.string ByteArray.empty)), (Ty.int (0 : Int)), (Ty.val (Value.slice none 0 0)), (Ty.val (Value.slice none 0 0)), (Ty.int (0 : Int)), (Ty.int (0 : Int)), (Ty.int (0 : Int)), (Ty.val (Value.slice none 0 0)), (Ty.bool false)] := al2 (R := (Pr.ownp 40 [(Ty.val (Value.string ByteArray.empty)), (Ty.int (0 : Int)), (Ty.val (Value.slice none 0 0)), (Ty.val (Value.slice none 0 0)), (Ty.int (0 : Int)), (Ty.int (0 : Int)), (Ty.int (0 : Int)), (Ty.val (Value.slice none 0 0)), (Ty.bool false)])) hx1 (D7.done 5 (by decide))
   clear D7
   refine tailL0 (L := [40]) (R := (fun _ τ => OwnP τ 40 x1 [(Ty.val (Value.string nm)), (Ty.int n), (Ty.lst Ty.ints l), (Ty.lstc 2 callC cs), (Ty.nat LN), (Ty.nat MN), (Ty.int (0 : Int)), (Ty.val (Value.slice none 0 0)), (Ty.bool false)])) rfl rfl (YldM.toL (m_storeagg Try.inf93 (by decide) o1 q28 rfl q27 (by intro U hU; simp only [List.mem_cons, List.not_mem_nil, or_false] at hU; rcases hU with rfl | rfl | rfl | rfl | rfl | rfl | rfl | rfl | rfl <;> first | exact one_val rfl | exact one_sl | exact one_ref))) (fun v1 s8 hs1 r1 => ?_)
   have F8 := F7.stepL hs1 (by decide)
   have q29 := kpL hs1 (by decide) rfl q28
   have o2 : OwnP s8 40 x1 [(Ty.val (Value.string nm)), (Ty.int n), (Ty.lst Ty.ints l), (Ty.lstc 2 callC cs), (Ty.nat LN), (Ty.nat MN), (Ty.int (0 : Int)), (Ty.val (Value.slice none 0 0)), (Ty.bool false)] := r1
   clear r1
   refine wpList_nil ?_
   refine tn ?_
   refine wp_seq ?_
   have p1_ : inCalls cs ([] : List Int) := fun i hi => by simp at hi
   have p2_ : QOk MN (Qst.mk 0 [] false) := qok_zero MN
   have p3_ : LN + List.length ([] : List Int) = LN := rfl
   have p4_ : trueP n.toNat l cs ([] : List Int) = true := true_nil _ _ _
   have p5_ : VisOk n.toNat l cs ([] : List Int) ([] : List Int) := vis_nil _ _ _
   have p6_ : roundsL n.toNat = tHd n.toNat l cs ([] : List Int) (List.length ([] : List Int)) := rfl
   have p7_ : (List.map (endsL l) cs) = cs.map (endsL l) := rfl
   refine reg2 (a := a7) (σ := s8) rfl 0 (fun i_ => List.getD [] i_ Pr.any) ok7 rfl (by decide) rfl trivial ?_
   intro a8 s9 D8
   have ok8 := D8.ok
   have F9 := F8.step0 D8.stp
   have q31 := D8.kt q29 rfl
   have o3 := OwnP.k0 o2 D8.stp
   clear D8
   have o4 : Own s9 41 23 1 (Value.slice none 0 0) 0 (List.map Ty.ints ([] : List (List Int))) := Own.nil _ _ _ _
   refine tailL (L := [40, 41]) (R := (fun v τ' => ∃ τ, (fun v τ => ∃ (fz : Value), True ∧ (OwnP τ 40 x1 [(Ty.val (Value.string nm)), (Ty.int n), (Ty.lst Ty.ints l), (Ty.lstc 2 callC cs), (Ty.nat (LN)), (Ty.nat (MN)), (Ty.nat (goQ n.toNat l cs (LN) (MN) (LN) (([] : List Int)) (Qst.mk (0) (([] : List (List Int))) (false))).met), (Ty.val fz), (Ty.bool (goQ n.toNat l cs (LN) (MN) (LN) (([] : List Int)) (Qst.mk (0) (([] : List (List Int))) (false))).full)]) ∧ (Own τ 41 23 1 fz (List.length (goQ n.toNat l cs (LN) (MN) (LN) (([] : List Int)) (Qst.mk (0) (([] : List (List Int))) (false))).found) (List.map Ty.ints (goQ n.toNat l cs (LN) (MN) (LN) (([] : List Int)) (Qst.mk (0) (([] : List (List Int))) (false))).found))) v τ ∧ Back [(40, 40), (41, 41)] τ τ')) rfl rfl (by decide) ok8 (y_callL (L := [40, 41]) [(40, 40), (41, 41)] [(40, 40), (41, 41)] #[a8.eval (.tmp 11), a8.eval ((Operand.const (Value.slice none 0 0)))] rfl (by decide) Try.func52 rfl rfl (by simp only [List.map_toArray, List.map_cons, List.map_nil]) (rGo_fn (LN) (x1) ((Value.slice none 0 0)) (nm) (n) (l) (cs) (LN) (MN) (0) (([] : List (List Int))) (false) (([] : List Int)) _ (GW.low_lend _ (by decide)) _ _ (Ty.up _ (GW.le_lend _ _) q31) (Ty.up _ (GW.le_lend _ _) (nil_lst rfl rfl)) (OwnP.ren (ownp_cell 8 (Ty.bool (false)) (ownp_cell 6 (Ty.nat (0)) (ownp_cell 5 (Ty.nat (MN)) (ownp_cell 4 (Ty.nat (LN)) o3 rfl (fun _ _ h => (cvi (by (first | rfl | omega | (simp_all; done) | (simp_all; omega))) h))) rfl (fun _ _ h => (cvi (by (first | rfl | omega | (simp_all; done) | (simp_all; omega))) h))) rfl (fun _ _ h => (cvi (by (first | rfl | omega | (simp_all; done) | (simp_all; omega))) h))) rfl (fun _ _ h => (cvb (by (first | rfl | omega | (simp_all; done) | (simp_all; omega))) h))) (GW.ren_lend _ _ (by decide) rfl)) (Own.ren (cvo (by (simp)) (by (simp)) o4) (GW.ren_lend _ _ (by decide) rfl)) (by first | omega | assumption) (by first | omega | assumption) (by first | omega | assumption) (by first | omega | assumption) (by first | omega | assumption) (by first | omega | assumption) (by first | omega | assumption) (by first | omega | assumption) (by first | omega | assumption))) (fun a9 s10 hs2 ok9 r2 sm1 => ?_)
   have F10 := F9.stepL hs2 (by decide)
   have q32 := kpL hs2 (by decide) (sm1 11 (by decide)) q31
   obtain ⟨t1, ⟨x2, hT1, o5, o6⟩, B1⟩ := r2
   have o7 : OwnP s10 40 x1 [(Ty.val (Value.string nm)), (Ty.int n), (Ty.lst Ty.ints l), (Ty.lstc 2 callC cs), (Ty.nat (LN)), (Ty.nat (MN)), (Ty.nat (goQ n.toNat l cs (LN) (MN) (LN) (([] : List Int)) (Qst.mk (0) (([] : List (List Int))) (false))).met), (Ty.val x2), (Ty.bool (goQ n.toNat l cs (LN) (MN) (LN) (([] : List Int)) (Qst.mk (0) (([] : List (List Int))) (false))).full)] := OwnP.ren o5 (B1.ren (by decide) rfl)
   have o8 : Own s10 41 23 1 x2 (List.length (goQ n.toNat l cs (LN) (MN) (LN) (([] : List Int)) (Qst.mk (0) (([] : List (List Int))) (false))).found) (List.map Ty.ints (goQ n.toNat l cs (LN) (MN) (LN) (([] : List Int)) (Qst.mk (0) (([] : List (List Int))) (false))).found) := Own.ren o6 (B1.ren (by decide) rfl)
   refine wpList_nil ?_
   refine tn ?_
   refine wp_seq ?_
   refine wp_seq ?_
   refine reg (a := a9) (σ := s10) rfl (fun i_ => List.getD [(Ty.pr (Ty.val (ptrAt x1 8))), (Ty.pr (Ty.bool (goQ n.toNat l cs (LN) (MN) (LN) (([] : List Int)) (Qst.mk (0) (([] : List (List Int))) (false))).full))] i_ Pr.any) ok9 rfl ⟨?_, ?_, trivial⟩ ?_
   · intro ax tx hs okx sm
     exact run_plain rfl (ownp_field Try.fld93_6 Try.inf4 (by decide) (OwnP.k0 o7 hs) (kp (sm 11 rfl) hs q32))
   · intro ax tx hs okx sm d0
     have e0 := ed d0 rfl rfl rfl
     exact run_plain rfl (ownp_load Try.underlying4 rfl (OwnP.k0 o7 hs) e0 rfl)
   intro a10 s11 D9
   have ok10 := D9.ok
   have F11 := F10.step0 D9.stp
   have q34 := D9.kt q32 rfl
   have o9 := OwnP.k0 o7 D9.stp
   have o10 := Own.k0 o8 D9.stp
   have q35 : At (Ty.bool (goQ n.toNat l cs (LN) (MN) (LN) (([] : List Int)) (Qst.mk (0) (([] : List (List Int))) (false))).full) s11 a10 (.tmp 39) := D9.done 1
   clear D9
   refine tn ?_
   refine cond_t q35 (fun c3 => ?_) (fun c3 => ?_)
   ·
    have hm := qMay_full c1 hxx (by rw [← hLN, ← hMN]; exact c3)
    refine wp_seq ?_
    refine reg (a := a10) (σ := s11) rfl (fun i_ => List.getD [(Ty.pr (Ty.val (Value.slice none 0 0))), (Ty.pr (Ty.int (3 : Int)))] i_ Pr.any) ok10 rfl ⟨?_, ?_, trivial⟩ ?_
    · intro ax tx hs okx sm
      exact run_plain rfl (y_assign rfl)
    · intro ax tx hs okx sm d0 d1
      exact run_plain rfl (y_assign rfl)
    intro a11 s12 D10
    have ok11 := D10.ok
    have F12 := F11.step0 D10.stp
    have o11 := OwnP.k0 o9 D10.stp
    have o12 := Own.k0 o10 D10.stp
    have q36 : At (Ty.val (Value.slice none 0 0)) s12 a11 (.tmp 8) := D10.done 0
    have q37 : At (Ty.int (3 : Int)) s12 a11 (.tmp 9) := D10.done 1
    clear D10
    refine tn ?_
    refine wp_ret ?_
    refine tr ?_
    exact retL2 rfl ok11 F12 (hasT2 (nil_lst (by (rw [hm, if_neg (by decide)])) q36) (cvi (by (exact hm.symm)) q37))
   ·
    have hm := qMay_ok c1 hxx (by rw [← hLN, ← hMN, Bool.not_eq_true]; exact c3)
    refine wp_skip ?_
    refine tn ?_
    refine wp_seq ?_
    refine reg (a := a10) (σ := s11) rfl (fun i_ => List.getD [(Ty.pr (Ty.val (ptrAt x1 7))), (Ty.pr (Ty.val x2)), (Ty.pr (Ty.val x2)), (Ty.pr (Ty.int (0 : Int)))] i_ Pr.any) ok10 rfl ⟨?_, ?_, ?_, ?_, trivial⟩ ?_
    · intro ax tx hs okx sm
      exact run_plain rfl (ownp_field Try.fld93_5 Try.inf29 (by decide) (OwnP.k0 o9 hs) (kp (sm 11 rfl) hs q34))
    · intro ax tx hs okx sm d0
      have e0 := ed d0 rfl rfl rfl
      exact run_plain rfl (ownp_load Try.underlying29 rfl (OwnP.k0 o9 hs) e0 rfl)
    · intro ax tx hs okx sm d0 d1 d2
      have e1 := ed d0 rfl rfl rfl
      exact run_plain rfl (y_assign e1)
    · intro ax tx hs okx sm d0 d1 d2 d3
      exact run_plain rfl (y_assign rfl)
    intro a12 s13 D11
    have ok12 := D11.ok
    have F13 := F11.step0 D11.stp
    have o13 := OwnP.k0 o9 D11.stp
    have o14 := Own.k0 o10 D11.stp
    have q38 : At (Ty.val x2) s13 a12 (.tmp 8) := D11.done 2
    have q39 : At (Ty.int (0 : Int)) s13 a12 (.tmp 9) := D11.done 3
    clear D11
    refine tn ?_
    refine wp_ret ?_
    obtain ⟨t2, e1, h1, q40⟩ := Own.seal o14 (by decide)
    rw [← e1]
    have F14 := F13.step h1 (by decide)
    have q41 : At (Ty.lst Ty.ints (goQ n.toNat l cs (LN) (MN) (LN) (([] : List Int)) (Qst.mk (0) (([] : List (List Int))) (false))).found) t2 a12 (.tmp 8) := by have e : a12.eval (.tmp 8) = x2 := q38; show Ty.has _ _ _; rw [e]; exact q40
    have q42 := Ty.up (Ty.int (0 : Int)) (h1.le (by decide)) q39
    exact retL2 rfl ok12 F14 (hasT2 (cvt (by (rw [hm, if_pos rfl]; unfold qFnd; rw [← hLN, ← hMN])) q41) (cvi (by (exact hm.symm)) q42))


set_option maxRecDepth 100000 in
theorem rsame_fn (xs : List Int) (ys : List Int) (σ : GW) (v0 v1 : Value) (hv0 : Ty.has (Ty.lst Ty.int xs) σ v0) (hv1 : Ty.has (Ty.lst Ty.int ys) σ v1)  :
    FnC Try.prog 14 #[v0, v1] σ (Ty.bool (decide (xs = ys))) := by
 refine fn_intro Try.func14 rfl Try.ntmps14 (Nat.le_of_ble_eq_true rfl) (fun s0 a0 hle F0 ok0 hargs => ?_)
 have p0 : At (Ty.lst Ty.int xs) s0 a0 (.tmp 0) := by have e := hargs 0 _ rfl; show Ty.has _ _ _; rw [e]; exact Ty.up _ hle hv0
 have b1 := sl_le p0
 have p1 : At (Ty.lst Ty.int ys) s0 a0 (.tmp 1) := by have e := hargs 1 _ rfl; show Ty.has _ _ _; rw [e]; exact Ty.up _ hle hv1
 have b2 := sl_le p1
 clear hargs
 refine wp_seq ?_
 refine reg (a := a0) (σ := s0) rfl (fun i_ => List.getD [(Ty.pr (Ty.bool false))] i_ Pr.any) ok0 rfl ⟨?_, trivial⟩ ?_
 · intro ax tx hs okx sm
   exact run_plain rfl (y_assign rfl)
 intro a1 s1 D1
 have ok1 := D1.ok
 have F1 := F0.step0 D1.stp
 have q1 := D1.kt p0 rfl
 have q2 := D1.kt p1 rfl
 clear D1
 refine tn ?_
 refine wp_seq ?_
 refine wp_seq ?_
 refine reg (a := a1) (σ := s1) rfl (fun i_ => List.getD [(Ty.pr (Ty.lst Ty.int xs)), (Ty.pr (Ty.nat (List.length xs))), (Ty.pr (Ty.lst Ty.int ys)), (Ty.pr (Ty.nat (List.length ys))), (Ty.pr (Ty.bool (decide ((((List.length xs) : Nat) : Int) ≠ (((List.length ys) : Nat) : Int)))))] i_ Pr.any) ok1 rfl ⟨?_, ?_, ?_, ?_, ?_, trivial⟩ ?_
 · intro ax tx hs okx sm
   exact run_plain rfl (y_move (kp (sm 0 rfl) hs q1))
 · intro ax tx hs okx sm d0
   have e0 := ed d0 rfl rfl rfl
   exact run_plain rfl (y_len Try.underlying23 e0)
 · intro ax tx hs okx sm
   exact run_plain rfl (y_move (kp (sm 1 rfl) hs q2))
 · intro ax tx hs okx sm d0
   have e2 := ed d0 rfl rfl rfl
   exact run_plain rfl (y_len Try.underlying23 e2)
 · intro ax tx hs okx sm d0 d1
   have e1 := ed d0 rfl rfl rfl
   have e3 := ed d1 rfl rfl rfl
   exact run_plain rfl (y_neq e1 e3)
 intro a2 s2 D2
 have ok2 := D2.ok
 have F2 := F1.step0 D2.stp
 have q3 := D2.kt q1 rfl
 have q4 := D2.kt q2 rfl
 have q5 : At (Ty.bool (decide ((((List.length xs) : Nat) : Int) ≠ (((List.length ys) : Nat) : Int)))) s2 a2 (.tmp 10) := D2.done 4
 clear D2
 refine tn ?_
 refine cond_p (p := ((((List.length xs) : Nat) : Int) ≠ (((List.length ys) : Nat) : Int))) q5 (fun c1 => ?_) (fun c1 => ?_)
 ·
  refine wp_seq ?_
  refine reg (a := a2) (σ := s2) rfl (fun i_ => List.getD [(Ty.pr (Ty.bool false))] i_ Pr.any) ok2 rfl ⟨?_, trivial⟩ ?_
  · intro ax tx hs okx sm
    exact run_plain rfl (y_assign rfl)
  intro a3 s3 D3
  have ok3 := D3.ok
  have F3 := F2.step0 D3.stp
  have q6 : At (Ty.bool false) s3 a3 (.tmp 4) := D3.done 0
  clear D3
  refine tn ?_
  refine wp_ret ?_
  refine tr ?_
  exact ret1 rfl ok3 F3 (cvb (by (rw [decide_eq_false]; intro e; subst e; omega)) q6)
 ·
  refine wp_skip ?_
  refine tn ?_
  refine wp_seq ?_
  refine wp_seq ?_
  refine reg (a := a2) (σ := s2) rfl (fun i_ => List.getD [(Ty.pr (Ty.int (0 : Int)))] i_ Pr.any) ok2 rfl ⟨?_, trivial⟩ ?_
  · intro ax tx hs okx sm
    exact run_plain rfl (y_assign rfl)
  intro a4 s4 D4
  have ok4 := D4.ok
  have F4 := F2.step0 D4.stp
  have q7 := D4.kt q3 rfl
  have q8 := D4.kt q4 rfl
  have q9 : At (Ty.int (0 : Int)) s4 a4 (.tmp 5) := D4.done 0
  clear D4
  refine tn ?_
  refine wp_block ?_
  refine loop (fun n1 a5 w1 => ∃ (t1 : GW) (k : Nat), t1.w = w1 ∧ From s0 t1 ∧ Ok 26 a5 ∧ At (Ty.nat k) t1 a5 (.tmp 5) ∧ At (Ty.lst Ty.int xs) t1 a5 (.tmp 0) ∧ At (Ty.lst Ty.int ys) t1 a5 (.tmp 1) ∧ (k ≤ xs.length) ∧ (xs.length = ys.length) ∧ (∀ j, j < k → xs.getD j 0 = ys.getD j 0) ∧ n1 = xs.length - k) (xs.length - (0)) ?_ ?_
  ·
   exact ⟨s4, 0, rfl, F4, ok4, (cvi (by (first | rfl | omega | (simp_all; done) | (simp_all; omega))) q9), q7, q8, by omega, by omega, fun j hj => absurd hj (Nat.not_lt_zero j), rfl⟩
  ·
   rintro n2 a6 w2 ⟨t2, k, rfl, F5, ok5, q10, q11, q12, hk, hl, heq, rfl⟩
   refine wp_seq ?_
   refine wp_seq ?_
   refine reg (a := a6) (σ := t2) rfl (fun i_ => List.getD [(Ty.pr (Ty.nat k)), (Ty.pr (Ty.lst Ty.int xs)), (Ty.pr (Ty.nat (List.length xs))), (Ty.pr (Ty.bool (decide (((k : Nat) : Int) < (((List.length xs) : Nat) : Int)))))] i_ Pr.any) ok5 rfl ⟨?_, ?_, ?_, ?_, trivial⟩ ?_
   · intro ax tx hs okx sm
     exact run_plain rfl (y_move (kp (sm 5 rfl) hs q10))
   · intro ax tx hs okx sm
     exact run_plain rfl (y_move (kp (sm 0 rfl) hs q11))
   · intro ax tx hs okx sm d0
     have e1 := ed d0 rfl rfl rfl
     exact run_plain rfl (y_len Try.underlying23 e1)
   · intro ax tx hs okx sm d0 d1
     have e0 := ed d0 rfl rfl rfl
     have e2 := ed d1 rfl rfl rfl
     exact run_plain rfl (y_lss e0 e2)
   intro a7 s5 D5
   have ok6 := D5.ok
   have F6 := F5.step0 D5.stp
   have q13 := D5.kt q10 rfl
   have q14 := D5.kt q11 rfl
   have q15 := D5.kt q12 rfl
   have q16 : At (Ty.bool (decide (((k : Nat) : Int) < (((List.length xs) : Nat) : Int)))) s5 a7 (.tmp 14) := D5.done 3
   clear D5
   refine tn ?_
   refine cond_p (p := (((k : Nat) : Int) < (((List.length xs) : Nat) : Int))) q16 (fun c2 => ?_) (fun c2 => ?_)
   ·
    refine wp_skip ?_
    refine tn ?_
    refine wp_seq ?_
    refine wp_block ?_
    refine wp_seq ?_
    refine reg (a := a7) (σ := s5) rfl (fun i_ => List.getD [(Ty.pr (Ty.lst Ty.int xs)), (Ty.pr (Ty.nat k)), (Ty.pr (Ty.ref [(Ty.int (xs.getD k 0))])), (Ty.pr (Ty.int (xs.getD k 0))), (Ty.pr (Ty.lst Ty.int ys)), (Ty.pr (Ty.nat k)), (Ty.pr (Ty.ref [(Ty.int (ys.getD k 0))])), (Ty.pr (Ty.int (ys.getD k 0))), (Ty.pr (Ty.bool (decide ((xs.getD k 0) ≠ (ys.getD k 0)))))] i_ Pr.any) ok6 rfl ⟨?_, ?_, ?_, ?_, ?_, ?_, ?_, ?_, ?_, trivial⟩ ?_
    · intro ax tx hs okx sm
      exact run_plain rfl (y_move (kp (sm 0 rfl) hs q14))
    · intro ax tx hs okx sm
      exact run_plain rfl (y_move (kp (sm 5 rfl) hs q13))
    · intro ax tx hs okx sm d0 d1
      have e0 := ed d0 rfl rfl rfl
      have e1 := ed d1 rfl rfl rfl
      exact run_plain rfl (y_index1 Try.underlying23 Try.inf3 e0 e1 (by omega) (lst_get Ty.int xs 0 k (by omega)))
    · intro ax tx hs okx sm d0
      have e2 := ed d0 rfl rfl rfl
      exact run_plain rfl (y_load Try.underlying3 rfl e2 rfl)
    · intro ax tx hs okx sm
      exact run_plain rfl (y_move (kp (sm 1 rfl) hs q15))
    · intro ax tx hs okx sm
      exact run_plain rfl (y_move (kp (sm 5 rfl) hs q13))
    · intro ax tx hs okx sm d0 d1
      have e4 := ed d0 rfl rfl rfl
      have e5 := ed d1 rfl rfl rfl
      exact run_plain rfl (y_index1 Try.underlying23 Try.inf3 e4 e5 (by omega) (lst_get Ty.int ys 0 k (by omega)))
    · intro ax tx hs okx sm d0
      have e6 := ed d0 rfl rfl rfl
      exact run_plain rfl (y_load Try.underlying3 rfl e6 rfl)
    · intro ax tx hs okx sm d0 d1
      have e3 := ed d0 rfl rfl rfl
      have e7 := ed d1 rfl rfl rfl
      exact run_plain rfl (y_neq e3 e7)
    intro a8 s6 D6
    have ok7 := D6.ok
    have F7 := F6.step0 D6.stp
    have q17 := D6.kt q13 rfl
    have q18 := D6.kt q14 rfl
    have q19 := D6.kt q15 rfl
    have q20 : At (Ty.bool (decide ((xs.getD k 0) ≠ (ys.getD k 0)))) s6 a8 (.tmp 25) := D6.done 8
    clear D6
    refine tn ?_
    refine cond_p (p := ((xs.getD k 0) ≠ (ys.getD k 0))) q20 (fun c3 => ?_) (fun c3 => ?_)
    ·
     refine wp_seq ?_
     refine reg (a := a8) (σ := s6) rfl (fun i_ => List.getD [(Ty.pr (Ty.bool false))] i_ Pr.any) ok7 rfl ⟨?_, trivial⟩ ?_
     · intro ax tx hs okx sm
       exact run_plain rfl (y_assign rfl)
     intro a9 s7 D7
     have ok8 := D7.ok
     have F8 := F7.step0 D7.stp
     have q21 : At (Ty.bool false) s7 a9 (.tmp 4) := D7.done 0
     clear D7
     refine tn ?_
     refine wp_ret ?_
     refine br ?_
     refine tr ?_
     refine tr ?_
     refine br ?_
     refine tr ?_
     exact ret1 rfl ok8 F8 (cvb (by (exact (decide_eq_false (fun e => by subst e; simp_all)).symm)) q21)
    ·
     refine wp_skip ?_
     refine bn ?_
     refine tn ?_
     refine reg (a := a8) (σ := s6) rfl (fun i_ => List.getD [(Ty.pr (Ty.nat k)), (Ty.pr (Ty.int (((k : Nat) : Int) + (1 : Int)))), (Ty.pr (Ty.int (((k : Nat) : Int) + (1 : Int))))] i_ Pr.any) ok7 rfl ⟨?_, ?_, ?_, trivial⟩ ?_
     · intro ax tx hs okx sm
       exact run_plain rfl (y_move (kp (sm 5 rfl) hs q17))
     · intro ax tx hs okx sm d0
       have e0 := ed d0 rfl rfl rfl
       exact run_plain rfl (y_add e0 rfl (w64 (by omega) (by omega)))
     · intro ax tx hs okx sm d0 d1 d2
       have e1 := ed d0 rfl rfl rfl
       exact run_plain rfl (y_assign e1)
     intro a10 s8 D8
     have ok9 := D8.ok
     have F9 := F7.step0 D8.stp
     have q22 := D8.kt q18 rfl
     have q23 := D8.kt q19 rfl
     have q24 : At (Ty.int (((k : Nat) : Int) + (1 : Int))) s8 a10 (.tmp 5) := D8.done 2
     clear D8
     exact tn ⟨xs.length - ((k+1)), by omega, s8, (k+1), rfl, F9, ok9, (cvi (by (first | rfl | omega | (simp_all; done) | (simp_all; omega))) q24), q22, q23, by omega, by omega, all_snoc heq (by assumption), rfl⟩
   ·
    refine wp_exit ?_
    refine tx ?_
    refine tx ?_
    refine bx ?_
    refine tn ?_
    refine wp_seq ?_
    refine reg (a := a7) (σ := s5) rfl (fun i_ => List.getD [(Ty.pr (Ty.bool true))] i_ Pr.any) ok6 rfl ⟨?_, trivial⟩ ?_
    · intro ax tx hs okx sm
      exact run_plain rfl (y_assign rfl)
    intro a11 s9 D9
    have ok10 := D9.ok
    have F10 := F6.step0 D9.stp
    have q25 : At (Ty.bool true) s9 a11 (.tmp 4) := D9.done 0
    clear D9
    refine tn ?_
    refine wp_ret ?_
    exact ret1 rfl ok10 F10 (cvb (by (exact (decide_eq_true (list_ext (by omega) (fun j hj => heq j (by omega)))).symm)) q25)


set_option maxHeartbeats 4000000 in
set_option maxRecDepth 100000 in
theorem rSameAll_fn (a : List (List Int)) (b : List (List Int)) (σ : GW)  (v0 v1 : Value) (hv0 : Ty.has (Ty.lst Ty.ints a) σ v0) (hv1 : Ty.has (Ty.lst Ty.ints b) σ v1)   :
    FnC Try.prog 17 #[v0, v1] σ (Ty.bool (decide (a = b))) := by
 refine fn_intro0 Try.func17 rfl Try.ntmps17 (Nat.le_of_ble_eq_true rfl) (fun s0 a0 hle F0 ok0 hargs => ?_)
 have p0 : At (Ty.lst Ty.ints a) s0 a0 (.tmp 0) := by have e := hargs 0 _ rfl; show Ty.has _ _ _; rw [e]; exact Ty.up _ hle hv0
 have b1 := sl_le p0
 have p1 : At (Ty.lst Ty.ints b) s0 a0 (.tmp 1) := by have e := hargs 1 _ rfl; show Ty.has _ _ _; rw [e]; exact Ty.up _ hle hv1
 have b2 := sl_le p1
 clear hargs
 refine wp_seq ?_
 refine reg (a := a0) (σ := s0) rfl (fun i_ => List.getD [(Ty.pr (Ty.bool false))] i_ Pr.any) ok0 rfl ⟨?_, trivial⟩ ?_
 · intro ax tx hs okx sm
   exact run_plain rfl (y_assign rfl)
 intro a1 s1 D1
 have ok1 := D1.ok
 have F1 := F0.step0 D1.stp
 have q1 := D1.kt p0 rfl
 have q2 := D1.kt p1 rfl
 clear D1
 refine tn ?_
 refine wp_seq ?_
 refine wp_seq ?_
 refine reg (a := a1) (σ := s1) rfl (fun i_ => List.getD [(Ty.pr (Ty.lst Ty.ints a)), (Ty.pr (Ty.nat (List.length a))), (Ty.pr (Ty.lst Ty.ints b)), (Ty.pr (Ty.nat (List.length b))), (Ty.pr (Ty.bool (decide ((((List.length a) : Nat) : Int) ≠ (((List.length b) : Nat) : Int)))))] i_ Pr.any) ok1 rfl ⟨?_, ?_, ?_, ?_, ?_, trivial⟩ ?_
 · intro ax tx hs okx sm
   exact run_plain rfl (y_move (kp (sm 0 rfl) hs q1))
 · intro ax tx hs okx sm d0
   have e0 := ed d0 rfl rfl rfl
   exact run_plain rfl (y_len Try.underlying29 e0)
 · intro ax tx hs okx sm
   exact run_plain rfl (y_move (kp (sm 1 rfl) hs q2))
 · intro ax tx hs okx sm d0
   have e2 := ed d0 rfl rfl rfl
   exact run_plain rfl (y_len Try.underlying29 e2)
 · intro ax tx hs okx sm d0 d1
   have e1 := ed d0 rfl rfl rfl
   have e3 := ed d1 rfl rfl rfl
   exact run_plain rfl (y_neq e1 e3)
 intro a2 s2 D2
 have ok2 := D2.ok
 have F2 := F1.step0 D2.stp
 have q3 := D2.kt q1 rfl
 have q4 := D2.kt q2 rfl
 have q5 : At (Ty.bool (decide ((((List.length a) : Nat) : Int) ≠ (((List.length b) : Nat) : Int)))) s2 a2 (.tmp 11) := D2.done 4
 clear D2
 refine tn ?_
 refine cond_p (p := ((((List.length a) : Nat) : Int) ≠ (((List.length b) : Nat) : Int))) q5 (fun c1 => ?_) (fun c1 => ?_)
 ·
  refine wp_seq ?_
  refine reg (a := a2) (σ := s2) rfl (fun i_ => List.getD [(Ty.pr (Ty.bool false))] i_ Pr.any) ok2 rfl ⟨?_, trivial⟩ ?_
  · intro ax tx hs okx sm
    exact run_plain rfl (y_assign rfl)
  intro a3 s3 D3
  have ok3 := D3.ok
  have F3 := F2.step0 D3.stp
  have q6 : At (Ty.bool false) s3 a3 (.tmp 4) := D3.done 0
  clear D3
  refine tn ?_
  refine wp_ret ?_
  refine tr ?_
  exact retL1 rfl ok3 F3 (cvb (by (rw [decide_eq_false]; intro e; subst e; omega)) q6)
 ·
  refine wp_skip ?_
  refine tn ?_
  refine wp_seq ?_
  refine wp_seq ?_
  refine reg (a := a2) (σ := s2) rfl (fun i_ => List.getD [(Ty.pr (Ty.int (0 : Int)))] i_ Pr.any) ok2 rfl ⟨?_, trivial⟩ ?_
  · intro ax tx hs okx sm
    exact run_plain rfl (y_assign rfl)
  intro a4 s4 D4
  have ok4 := D4.ok
  have F4 := F2.step0 D4.stp
  have q7 := D4.kt q3 rfl
  have q8 := D4.kt q4 rfl
  have q9 : At (Ty.int (0 : Int)) s4 a4 (.tmp 5) := D4.done 0
  clear D4
  refine tn ?_
  refine wp_block ?_
  refine loop (fun n1 a5 w1 => ∃ (t1 : GW) (k : Nat), t1.w = w1 ∧ FromL [] s0 t1 ∧ Ok 29 a5 ∧ At (Ty.nat k) t1 a5 (.tmp 5) ∧ At (Ty.lst Ty.ints a) t1 a5 (.tmp 0) ∧ At (Ty.lst Ty.ints b) t1 a5 (.tmp 1) ∧ (k ≤ a.length) ∧ (a.length = b.length) ∧ (∀ j, j < k → a.getD j [] = b.getD j []) ∧ n1 = a.length - k) (a.length - (0)) ?_ ?_
  ·
   exact ⟨s4, 0, rfl, F4, ok4, (cvi (by (first | rfl | omega | (simp_all; done) | (simp_all; omega))) q9), q7, q8, by omega, by omega, fun j hj => absurd hj (Nat.not_lt_zero j), rfl⟩
  ·
   rintro n2 a6 w2 ⟨t2, k, rfl, F5, ok5, q10, q11, q12, hk, hl, heq, rfl⟩
   refine wp_seq ?_
   refine wp_seq ?_
   refine reg (a := a6) (σ := t2) rfl (fun i_ => List.getD [(Ty.pr (Ty.nat k)), (Ty.pr (Ty.lst Ty.ints a)), (Ty.pr (Ty.nat (List.length a))), (Ty.pr (Ty.bool (decide (((k : Nat) : Int) < (((List.length a) : Nat) : Int)))))] i_ Pr.any) ok5 rfl ⟨?_, ?_, ?_, ?_, trivial⟩ ?_
   · intro ax tx hs okx sm
     exact run_plain rfl (y_move (kp (sm 5 rfl) hs q10))
   · intro ax tx hs okx sm
     exact run_plain rfl (y_move (kp (sm 0 rfl) hs q11))
   · intro ax tx hs okx sm d0
     have e1 := ed d0 rfl rfl rfl
     exact run_plain rfl (y_len Try.underlying29 e1)
   · intro ax tx hs okx sm d0 d1
     have e0 := ed d0 rfl rfl rfl
     have e2 := ed d1 rfl rfl rfl
     exact run_plain rfl (y_lss e0 e2)
   intro a7 s5 D5
   have ok6 := D5.ok
   have F6 := F5.step0 D5.stp
   have q13 := D5.kt q10 rfl
   have q14 := D5.kt q11 rfl
   have q15 := D5.kt q12 rfl
   have q16 : At (Ty.bool (decide (((k : Nat) : Int) < (((List.length a) : Nat) : Int)))) s5 a7 (.tmp 15) := D5.done 3
   clear D5
   refine tn ?_
   refine cond_p (p := (((k : Nat) : Int) < (((List.length a) : Nat) : Int))) q16 (fun c2 => ?_) (fun c2 => ?_)
   ·
    refine wp_skip ?_
    refine tn ?_
    refine wp_seq ?_
    refine wp_block ?_
    refine wp_seq ?_
    refine reg (a := a7) (σ := s5) rfl (fun i_ => List.getD [(Ty.pr (Ty.lst Ty.ints a)), (Ty.pr (Ty.nat k)), (Ty.pr (Ty.ref [(Ty.lst Ty.int (a.getD k []))])), (Ty.pr (Ty.lst Ty.int (a.getD k []))), (Ty.pr (Ty.lst Ty.ints b)), (Ty.pr (Ty.nat k)), (Ty.pr (Ty.ref [(Ty.lst Ty.int (b.getD k []))])), (Ty.pr (Ty.lst Ty.int (b.getD k []))), (Ty.pr (Ty.bool (decide (((a.getD k [])) = ((b.getD k [])))))), (Ty.pr (Ty.bool (decide (((a.getD k [])) = ((b.getD k []))))))] i_ Pr.any) ok6 rfl ⟨?_, ?_, ?_, ?_, ?_, ?_, ?_, ?_, ?_, ?_, trivial⟩ ?_
    · intro ax tx hs okx sm
      exact run_plain rfl (y_move (kp (sm 0 rfl) hs q14))
    · intro ax tx hs okx sm
      exact run_plain rfl (y_move (kp (sm 5 rfl) hs q13))
    · intro ax tx hs okx sm d0 d1
      have e0 := ed d0 rfl rfl rfl
      have e1 := ed d1 rfl rfl rfl
      exact run_plain rfl (y_index1 Try.underlying29 Try.inf23 e0 e1 (by omega) (lst_get Ty.ints a [] k (by omega)))
    · intro ax tx hs okx sm d0
      have e2 := ed d0 rfl rfl rfl
      exact run_plain rfl (y_load Try.underlying23 rfl e2 rfl)
    · intro ax tx hs okx sm
      exact run_plain rfl (y_move (kp (sm 1 rfl) hs q15))
    · intro ax tx hs okx sm
      exact run_plain rfl (y_move (kp (sm 5 rfl) hs q13))
    · intro ax tx hs okx sm d0 d1
      have e4 := ed d0 rfl rfl rfl
      have e5 := ed d1 rfl rfl rfl
      exact run_plain rfl (y_index1 Try.underlying29 Try.inf23 e4 e5 (by omega) (lst_get Ty.ints b [] k (by omega)))
    · intro ax tx hs okx sm d0
      have e6 := ed d0 rfl rfl rfl
      exact run_plain rfl (y_load Try.underlying23 rfl e6 rfl)
    · intro ax tx hs okx sm d0 d1
      have e3 := ed d0 rfl rfl rfl
      have e7 := ed d1 rfl rfl rfl
      exact run_plain rfl (y_call #[ax.eval (.tmp 21), ax.eval (.tmp 25)] Try.func14 rfl rfl (by simp only [List.map_toArray, List.map_cons, List.map_nil]) (rsame_fn ((a.getD k [])) ((b.getD k [])) _ _ _ e3 e7 ))
    · intro ax tx hs okx sm d0 d1 d2 d3 d4 d5 d6 d7 d8 d9 d10
      have e8 := ed d0 rfl rfl rfl
      exact run_plain rfl (y_assign e8)
    intro a8 s6 D6
    have ok7 := D6.ok
    have F7 := F6.step0 D6.stp
    have q17 := D6.kt q13 rfl
    have q18 := D6.kt q14 rfl
    have q19 := D6.kt q15 rfl
    have q20 : At (Ty.bool (decide (((a.getD k [])) = ((b.getD k []))))) s6 a8 (.tmp 6) := D6.done 9
    clear D6
    refine tn ?_
    refine wp_seq ?_
    refine reg (a := a8) (σ := s6) rfl (fun i_ => List.getD [(Ty.pr (Ty.bool (decide (((a.getD k [])) = ((b.getD k [])))))), (Ty.pr (Ty.bool (!(decide (((a.getD k [])) = ((b.getD k [])))))))] i_ Pr.any) ok7 rfl ⟨?_, ?_, trivial⟩ ?_
    · intro ax tx hs okx sm
      exact run_plain rfl (y_move (kp (sm 6 rfl) hs q20))
    · intro ax tx hs okx sm d0
      have e0 := ed d0 rfl rfl rfl
      exact run_plain rfl (y_not e0)
    intro a9 s7 D7
    have ok8 := D7.ok
    have F8 := F7.step0 D7.stp
    have q21 := D7.kt q17 rfl
    have q22 := D7.kt q18 rfl
    have q23 := D7.kt q19 rfl
    have q24 : At (Ty.bool (!(decide (((a.getD k [])) = ((b.getD k [])))))) s7 a9 (.tmp 28) := D7.done 1
    clear D7
    refine tn ?_
    refine cond_t q24 (fun c3 => ?_) (fun c3 => ?_)
    ·
     refine wp_seq ?_
     refine reg (a := a9) (σ := s7) rfl (fun i_ => List.getD [(Ty.pr (Ty.bool false))] i_ Pr.any) ok8 rfl ⟨?_, trivial⟩ ?_
     · intro ax tx hs okx sm
       exact run_plain rfl (y_assign rfl)
     intro a10 s8 D8
     have ok9 := D8.ok
     have F9 := F8.step0 D8.stp
     have q25 : At (Ty.bool false) s8 a10 (.tmp 4) := D8.done 0
     clear D8
     refine tn ?_
     refine wp_ret ?_
     refine br ?_
     refine tr ?_
     refine tr ?_
     refine br ?_
     refine tr ?_
     exact retL1 rfl ok9 F9 (cvb (by (exact (decide_eq_false (fun e => by subst e; simp at c3)).symm)) q25)
    ·
     refine wp_skip ?_
     refine bn ?_
     refine tn ?_
     refine reg (a := a9) (σ := s7) rfl (fun i_ => List.getD [(Ty.pr (Ty.nat k)), (Ty.pr (Ty.int (((k : Nat) : Int) + (1 : Int)))), (Ty.pr (Ty.int (((k : Nat) : Int) + (1 : Int))))] i_ Pr.any) ok8 rfl ⟨?_, ?_, ?_, trivial⟩ ?_
     · intro ax tx hs okx sm
       exact run_plain rfl (y_move (kp (sm 5 rfl) hs q21))
     · intro ax tx hs okx sm d0
       have e0 := ed d0 rfl rfl rfl
       exact run_plain rfl (y_add e0 rfl (w64 (by omega) (by omega)))
     · intro ax tx hs okx sm d0 d1 d2
       have e1 := ed d0 rfl rfl rfl
       exact run_plain rfl (y_assign e1)
     intro a11 s9 D9
     have ok10 := D9.ok
     have F10 := F8.step0 D9.stp
     have q26 := D9.kt q22 rfl
     have q27 := D9.kt q23 rfl
     have q28 : At (Ty.int (((k : Nat) : Int) + (1 : Int))) s9 a11 (.tmp 5) := D9.done 2
     clear D9
     exact tn ⟨a.length - ((k+1)), by omega, s9, (k+1), rfl, F10, ok10, (cvi (by (first | rfl | omega | (simp_all; done) | (simp_all; omega))) q28), q26, q27, by omega, by omega, all_snocs heq (by simpa using c3), rfl⟩
   ·
    refine wp_exit ?_
    refine tx ?_
    refine tx ?_
    refine bx ?_
    refine tn ?_
    refine wp_seq ?_
    refine reg (a := a7) (σ := s5) rfl (fun i_ => List.getD [(Ty.pr (Ty.bool true))] i_ Pr.any) ok6 rfl ⟨?_, trivial⟩ ?_
    · intro ax tx hs okx sm
      exact run_plain rfl (y_assign rfl)
    intro a12 s10 D10
    have ok11 := D10.ok
    have F11 := F6.step0 D10.stp
    have q29 : At (Ty.bool true) s10 a12 (.tmp 4) := D10.done 0
    clear D10
    refine tn ?_
    refine wp_ret ?_
    exact retL1 rfl ok11 F11 (cvb (by (exact (decide_eq_true (lists_ext (by omega) (fun j hj => heq j (by omega)))).symm)) q29)


end Go.Proofs.Ytbilebfnanlgfaa
