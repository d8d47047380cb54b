/- The functions that the law TruthMade reaches, each by its contract. Part 9. -/
import Derived.Test.YtbilebfnanlgfaaTruthMadeW8
namespace Go.Proofs.Ytbilebfnanlgfaa
open Go.KL

set_option maxHeartbeats 4000000 in
set_option maxRecDepth 100000 in
theorem rProve_fn (nm : ByteArray) (n : Int) (l : List (List Int)) (cs : List BCall) (leads : List Int) (σ : GW)  (v0 v1 v2 : Value) (hv0 : Ty.has (Ty.agg [(Ty.val (Value.string nm)), (Ty.int n), (Ty.lst Ty.ints l)]) σ v0) (hv1 : Ty.has (Ty.lstc 2 callC cs) σ v1) (hv2 : Ty.has (Ty.lst Ty.int leads) σ v2)  (h0 : touchMay nm n l cs leads = 0) :
    FnC Try.prog 28 #[v0, v1, v2] σ (Ty.agg [(Ty.nat (leads.length * l.length)), (Ty.bool (rndB (tRows n.toNat l cs leads leads.length))), (Ty.bool (prO (tRows n.toNat l cs leads leads.length)).isNone), (Ty.nat (agnL (tRows n.toNat l cs leads leads.length))), (Ty.int (befL (tRows n.toNat l cs leads leads.length)))]) := by
 obtain ⟨hok, hnn, hlo, hlh, hin, hlim⟩ := touchMay_ok h0; have hl1 := hok.meth.l1; have hl2 := hok.meth.l2; have hn1 := hok.meth.n1; have hn2 := hok.meth.n2
 obtain ⟨R, hR⟩ : ∃ R, R = (tRows n.toNat l cs leads leads.length) := ⟨_, rfl⟩
 have hRl : R.length = leads.length * l.length + 1 := (by rw [hR]; exact tRows_len hok hin _ (Nat.le_refl _))
 have hrw : ∀ i, i < R.length → IsRow (R.getD i []) ∧ (R.getD i []).length = n.toNat := (fun i hi => by rw [hR]; exact tRows_row hok hin (by omega))
 have hlst := (hrw (R.length - 1) (by omega)).1.le
 have hlrow := (hrw (R.length - 1) (by omega)).1
 refine fn_intro0 Try.func28 rfl Try.ntmps28 (Nat.le_of_ble_eq_true rfl) (fun s0 a0 hle F0 ok0 hargs => ?_)
 have p0 : At (Ty.agg [(Ty.val (Value.string nm)), (Ty.int n), (Ty.lst Ty.ints l)]) s0 a0 (.tmp 0) := by have e := hargs 0 _ rfl; show Ty.has _ _ _; rw [e]; exact Ty.up _ hle hv0
 have p1 : At (Ty.lstc 2 callC cs) s0 a0 (.tmp 1) := by have e := hargs 1 _ rfl; show Ty.has _ _ _; rw [e]; exact Ty.up _ hle hv1
 have b1 := sl_le p1
 have p2 : At (Ty.lst Ty.int leads) s0 a0 (.tmp 2) := by have e := hargs 2 _ rfl; show Ty.has _ _ _; rw [e]; exact Ty.up _ hle hv2
 have b2 := sl_le p2
 clear hargs; refine wp_seq ?_
 refine reg (a := a0) (σ := s0) rfl (fun i_ => List.getD [(Ty.pr (Ty.ref [(Ty.val (Value.string nm)), (Ty.int n), (Ty.lst Ty.ints l)])), (Pr.ownp 4 [(Ty.int (0 : Int)), (Ty.bool false), (Ty.bool false), (Ty.int (0 : Int)), (Ty.int (0 : Int))])] i_ Pr.any) ok0 rfl ⟨?_, ?_, trivial⟩ ?_
 · intro A B E G H; exact rP (y_boxagg (kp (H 0 rfl) E p0))
 · intro A B E G H; exact rP (y_alloc Try.inf42 rfl (alloc_vals (vs := [.int .i64 0, .bool false, .bool false, .int .i64 0, .int .i64 0]) rfl))
 intro a1 s1 D1; have ok1 := D1.ok; have F1 := F0.step0 D1.stp; have q1 := D1.kt p1 rfl; have q2 := D1.kt p2 rfl; have q3 := D1.dn 0 rfl rfl
 obtain ⟨x1, hx1⟩ : ∃ x, a1.eval (.tmp 6) = x := ⟨_, rfl⟩
 have q4 : At (Ty.val x1) s1 a1 (.tmp 6) := hx1
 have o1 : OwnP s1 4 x1 [(Ty.int (0 : Int)), (Ty.bool false), (Ty.bool false), (Ty.int (0 : Int)), (Ty.int (0 : Int))] := al2 (R := (Pr.ownp 4 [(Ty.int (0 : Int)), (Ty.bool false), (Ty.bool false), (Ty.int (0 : Int)), (Ty.int (0 : Int))])) hx1 (D1.done 1)
 clear D1; refine tn ?_; refine wp_seq ?_
 refine rg a1 s1 [(Ty.agg [(Ty.val (Value.string nm)), (Ty.int n), (Ty.lst Ty.ints l)]), (Ty.lstc 2 callC cs), (Ty.lst Ty.int leads), (Ty.lst Ty.ints R), (Ty.lst Ty.ints R)] ok1 ⟨?_, ?_, ?_, ?_, ?_, trivial⟩ ?_
 · intro A B E G H; exact rP (y_loadagg Try.underlying31 Try.inf31 (kp (H 3 rfl) E q3))
 · intro A B E G H; exact rP (y_move (kp (H 1 rfl) E q1))
 · intro A B E G H; exact rP (y_move (kp (H 2 rfl) E q2))
 · intro A B E G H d0 d1 d2; exact rP ((y_call #[A.eval (.tmp 15), A.eval (.tmp 16), A.eval (.tmp 17)] Try.func29 rfl rfl (by simp only [List.map_toArray, List.map_cons, List.map_nil]) (rTouchRows_fn (nm) (n) (l) (cs) (leads) _ _ _ _ (ed d0 rfl rfl rfl) (ed d1 rfl rfl rfl) (ed d2 rfl rfl rfl) (by first | omega | assumption))).mono (fun τ _ h => cvt (σ := τ) (T := (Ty.lst Ty.ints (tRows n.toNat l cs leads leads.length))) (U := (Ty.lst Ty.ints R)) (by rw [hR]) h))
 · intro A B E G H d0 d1 d2 d3 d4 d5; exact rP (y_assign (ed d0 rfl rfl rfl))
 intro a2 s2 D2; have ok2 := D2.ok; have F2 := F1.step0 D2.stp; have q5 := D2.kt q4 rfl; have o2 := OwnP.k0 o1 D2.stp; have q6 := D2.dn 4 rfl rfl; clear D2; refine tn ?_; refine wp_seq ?_
 refine rg a2 s2 [(Ty.lst Ty.ints R), (Ty.nat (List.length R)), (Ty.nat ((List.length R) - 1)), (Ty.nat ((List.length R) - 1))] ok2 ⟨?_, ?_, ?_, ?_, trivial⟩ ?_
 · intro A B E G H; exact rP (y_move (kp (H 7 rfl) E q6))
 · intro A B E G H d0; exact rP (y_len Try.underlying29 (ed d0 rfl rfl rfl))
 · intro A B E G H d0; exact rP ((y_sub (ed d0 rfl rfl rfl) rfl (w64 (by omega) (by omega))).mono (fun τ _ h => cvi (σ := τ) (by omega) h))
 · intro A B E G H d0 d1 d2 d3; exact rP (y_assign (ed d0 rfl rfl rfl))
 intro a3 s3 D3; have ok3 := D3.ok; have F3 := F2.step0 D3.stp; have q7 := D3.kt q5 rfl; have q8 := D3.kt q6 rfl; have o3 := OwnP.k0 o2 D3.stp; have q9 := D3.dn 3 rfl rfl; clear D3; refine tn ?_; refine wp_seq ?_
 refine reg2 (a := a3) (σ := s3) rfl 9 (fun i_ => List.getD [(Ty.pr (Ty.nat ((List.length R) - 1))), (Ty.pr (Ty.lst Ty.ints R)), (Ty.pr (Ty.nat ((List.length R) - 1))), (Ty.pr (Ty.ref [(Ty.lst Ty.int (R.getD ((List.length R) - 1) []))])), (Ty.pr (Ty.lst Ty.int (R.getD ((List.length R) - 1) []))), (Ty.pr (Ty.nat (rankL ((R.getD ((List.length R) - 1) []))))), (Ty.pr (Ty.bool (decide ((((rankL ((R.getD ((List.length R) - 1) []))) : Nat) : Int) = (0 : Int))))), (Ty.pr (Ty.agg [(Ty.nat ((List.length R) - 1)), (Ty.bool (decide ((((rankL ((R.getD ((List.length R) - 1) []))) : Nat) : Int) = (0 : Int)))), (Ty.bool true), (Ty.int (0 : Int)), (Ty.int (0 : Int))])), (Pr.ownp 5 [(Ty.int (0 : Int)), (Ty.bool false), (Ty.bool false), (Ty.int (0 : Int)), (Ty.int (0 : Int))])] i_ Pr.any) ok3 rfl (by decide) rfl ⟨?_, ?_, ?_, ?_, ?_, ?_, ?_, ?_, ?_, trivial⟩ ?_
 · intro A B E G H; exact rP (y_move (kp (H 8 rfl) E q9))
 · intro A B E G H; exact rP (y_move (kp (H 7 rfl) E q8))
 · intro A B E G H; exact rP (y_move (kp (H 8 rfl) E q9))
 · intro A B E G H d0 d1; exact rP (y_index1 Try.underlying29 Try.inf23 (ed d0 rfl rfl rfl) (ed d1 rfl rfl rfl) (by omega) (lst_get Ty.ints R [] ((List.length R) - 1) (by omega)))
 · intro A B E G H d0; exact rP (y_load Try.underlying23 rfl (ed d0 rfl rfl rfl) rfl)
 · intro A B E G H d0; exact rP (y_call #[A.eval (.tmp 26)] Try.func41 rfl rfl (by simp only [List.map_toArray, List.map_cons, List.map_nil]) (rRank_fn ((R.getD ((List.length R) - 1) [])) _ _ (ed d0 rfl rfl rfl) (by first | omega | assumption)))
 · intro A B E G H d0; exact rP (y_eql (ed d0 rfl rfl rfl) rfl)
 · intro A B E G H d0 d1; exact rP (y_bld [(0, (.tmp 22), (Ty.nat ((List.length R) - 1))), (1, (.tmp 28), (Ty.bool (decide ((((rankL ((R.getD ((List.length R) - 1) []))) : Nat) : Int) = (0 : Int))))), (2, ((Operand.const (Value.bool true))), (Ty.bool true))] [(Ty.int (0 : Int)), (Ty.bool false), (Ty.bool false), (Ty.int (0 : Int)), (Ty.int (0 : Int))] (l := [(0, 1), (1, 1), (2, 1), (3, 1), (4, 1)]) rfl Try.inf42 rfl (alloc_vals (vs := [.int .i64 0, .bool false, .bool false, .int .i64 0, .int .i64 0]) rfl) rfl (by intro p hp; simp only [List.mem_cons, List.not_mem_nil, or_false] at hp; rcases hp with rfl | rfl | rfl; exact ⟨one_val rfl, (ed d0 rfl rfl rfl)⟩; exact ⟨one_val rfl, (ed d1 rfl rfl rfl)⟩; exact ⟨one_val rfl, rfl⟩))
 · intro A B E G H; exact rP (y_alloc Try.inf42 rfl (alloc_vals (vs := [.int .i64 0, .bool false, .bool false, .int .i64 0, .int .i64 0]) rfl))
 intro a4 s4 D4; have ok4 := D4.ok; have F4 := F3.step0 D4.stp; have q10 := D4.kt q7 rfl; have q11 := D4.kt q8 rfl; have q12 := D4.kt q9 rfl; have o4 := OwnP.k0 o3 D4.stp; have q13 := D4.dn 7 (by decide) rfl rfl
 obtain ⟨x2, hx2⟩ : ∃ x, a4.eval (.tmp 9) = x := ⟨_, rfl⟩
 have q14 : At (Ty.val x2) s4 a4 (.tmp 9) := hx2
 have o5 : OwnP s4 5 x2 [(Ty.int (0 : Int)), (Ty.bool false), (Ty.bool false), (Ty.int (0 : Int)), (Ty.int (0 : Int))] := al2 (R := (Pr.ownp 5 [(Ty.int (0 : Int)), (Ty.bool false), (Ty.bool false), (Ty.int (0 : Int)), (Ty.int (0 : Int))])) hx2 (D4.done 8 (by decide))
 clear D4
 refine tailL0 (L := [5]) (R := (fun _ τ => OwnP τ 5 x2 [(Ty.nat ((List.length R) - 1)), (Ty.bool (decide ((((rankL ((R.getD ((List.length R) - 1) []))) : Nat) : Int) = (0 : Int)))), (Ty.bool true), (Ty.int (0 : Int)), (Ty.int (0 : Int))])) rfl rfl (YldM.toL (m_storeagg Try.inf42 (by decide) o5 q14 rfl q13 (by intro U hU; simp only [List.mem_cons, List.not_mem_nil, or_false] at hU; rcases hU with rfl | rfl | rfl | rfl | rfl <;> first | exact one_val rfl | exact one_sl | exact one_ref))) (fun v1 s5 hs1 r1 => ?_)
 have F5 := F4.stepL hs1 (by decide); have q15 := kpL hs1 (by decide) rfl q10; have q16 := kpL hs1 (by decide) rfl q11; have q17 := kpL hs1 (by decide) rfl q12; have q18 := kpL hs1 (by decide) rfl q14; have o7 := OwnP.keepL o4 hs1 (by decide) (by decide)
 have o6 : OwnP s5 5 x2 [(Ty.nat ((List.length R) - 1)), (Ty.bool (decide ((((rankL ((R.getD ((List.length R) - 1) []))) : Nat) : Int) = (0 : Int)))), (Ty.bool true), (Ty.int (0 : Int)), (Ty.int (0 : Int))] := r1
 clear r1; refine wpList_nil ?_; refine tn ?_; refine wp_seq ?_
 refine reg2 (a := a4) (σ := s5) rfl 1 (fun i_ => List.getD [(Pr.ownm Ty.int kI 6 (fun _ => none : Int → Option Int))] i_ Pr.any) ok4 rfl (by decide) rfl ⟨?_, trivial⟩ ?_
 · intro A B E G H; exact rP (y_makemap 6)
 intro a5 s6 D5; have ok5 := D5.ok; have F6 := F5.step0 D5.stp; have q20 := D5.kt q15 rfl; have q21 := D5.kt q16 rfl; have q22 := D5.kt q17 rfl; have q23 := D5.kt q18 rfl; have o8 := OwnP.k0 o7 D5.stp; have o9 := OwnP.k0 o6 D5.stp
 obtain ⟨x3, hx3⟩ : ∃ x, a5.eval (.tmp 30) = x := ⟨_, rfl⟩
 have q24 : At (Ty.val x3) s6 a5 (.tmp 30) := hx3
 have o10 : OwnM Ty.int kI s6 6 x3 (fun _ => none : Int → Option Int) := al2 (R := (Pr.ownm Ty.int kI 6 (fun _ => none : Int → Option Int))) hx3 (D5.done 0 (by decide))
 clear D5
 refine tailL (L := []) (R := (fun v τ => Pr.has (Ty.pr (Ty.val x3)) τ v)) rfl rfl (by decide) ok5 (Yld.toL (y_assign q24)) (fun a6 s7 hs2 ok6 r2 sm1 => ?_)
 have F7 := F6.stepL hs2 (by decide); have q25 := kpL hs2 (by decide) (sm1 6 (by decide)) q20; have q26 := kpL hs2 (by decide) (sm1 7 (by decide)) q21; have q27 := kpL hs2 (by decide) (sm1 8 (by decide)) q22; have q28 := kpL hs2 (by decide) (sm1 9 (by decide)) q23; have o11 := OwnP.keepL o8 hs2 (by decide) (by decide); have o12 := OwnP.keepL o9 hs2 (by decide) (by decide); have o13 := OwnM.keepL o10 hs2 (by decide) (by decide)
 have q29 : At (Ty.val x3) s7 a6 (.tmp 10) := r2
 clear r2; refine wpList_nil ?_; refine tn ?_; refine wp_seq ?_; refine wp_seq ?_
 refine rg a6 s7 [(Ty.int (0 : Int))] ok6 ⟨?_, trivial⟩ ?_
 · intro A B E G H; exact rP (y_assign rfl)
 intro a7 s8 D6; have ok7 := D6.ok; have F8 := F7.step0 D6.stp; have q30 := D6.kt q25 rfl; have q31 := D6.kt q26 rfl; have q32 := D6.kt q27 rfl; have q33 := D6.kt q28 rfl; have q34 := D6.kt q29 rfl; have o14 := OwnP.k0 o11 D6.stp; have o15 := OwnP.k0 o12 D6.stp; have o16 := OwnM.k0 o13 D6.stp; have q35 := D6.dn 0 rfl rfl; clear D6; refine tn ?_; refine wp_block ?_
 refine loop (fun n1 a8 w1 => ∃ (t1 : GW) (k : Nat), t1.w = w1 ∧ FromL [] s0 t1 ∧ Ok 58 a8 ∧ At (Ty.nat k) t1 a8 (.tmp 11) ∧ At (Ty.val x1) t1 a8 (.tmp 6) ∧ At (Ty.lst Ty.ints R) t1 a8 (.tmp 7) ∧ At (Ty.nat ((List.length R) - 1)) t1 a8 (.tmp 8) ∧ At (Ty.val x2) t1 a8 (.tmp 9) ∧ At (Ty.val x3) t1 a8 (.tmp 10) ∧ OwnM Ty.int kI t1 6 x3 (mapOf R k) ∧ OwnP t1 4 x1 [(Ty.int (0 : Int)), (Ty.bool false), (Ty.bool false), (Ty.int (0 : Int)), (Ty.int (0 : Int))] ∧ OwnP t1 5 x2 [(Ty.nat ((List.length R) - 1)), (Ty.bool (decide ((((rankL ((R.getD ((List.length R) - 1) []))) : Nat) : Int) = (0 : Int)))), (Ty.bool true), (Ty.int (0 : Int)), (Ty.int (0 : Int))] ∧ (k ≤ (R.length - 1)) ∧ (prF R (R.length - 1 - k) k = prO R) ∧ n1 = (R.length - 1) - k) ((R.length - 1) - (0)) ?_ ?_
 ·
  exact ⟨s8, 0, rfl, F8, ok7, (cvi (by (first | rfl | omega | (simp_all; done) | (simp_all; omega))) q35), q30, q31, q32, q33, q34, (cvm (by (rfl)) o16), o14, o15, by omega, rfl, rfl⟩
 ·
  rintro n2 a9 w2 ⟨t2, k, rfl, F9, ok8, q36, q37, q38, q39, q40, q41, o17, o18, o19, hk, hp, rfl⟩
  refine wp_seq ?_; refine wp_seq ?_
  refine reg (a := a9) (σ := t2) rfl (fun i_ => List.getD [(Ty.pr (Ty.nat k)), (Ty.pr (Ty.nat ((List.length R) - 1))), (Ty.pr (Ty.bool (decide (((k : Nat) : Int) < ((((List.length R) - 1) : Nat) : Int)))))] i_ Pr.any) ok8 rfl ⟨?_, ?_, ?_, trivial⟩ ?_
  · intro A B E G H; exact rP (y_move (kp (H 11 rfl) E q36))
  · intro A B E G H; exact rP (y_move (kp (H 8 rfl) E q39))
  · intro A B E G H d0 d1; exact rP (y_lss (ed d0 rfl rfl rfl) (ed d1 rfl rfl rfl))
  intro a10 s9 D7; have ok9 := D7.ok; have F10 := F9.step0 D7.stp; have q42 := D7.kt q36 rfl; have q43 := D7.kt q37 rfl; have q44 := D7.kt q38 rfl; have q45 := D7.kt q39 rfl; have q46 := D7.kt q40 rfl; have q47 := D7.kt q41 rfl; have o20 := OwnM.k0 o17 D7.stp; have o21 := OwnP.k0 o18 D7.stp; have o22 := OwnP.k0 o19 D7.stp; have q48 := D7.dn 2 rfl rfl; clear D7; refine tn ?_
  refine cond_p (p := (((k : Nat) : Int) < ((((List.length R) - 1) : Nat) : Int))) q48 (fun c1 => ?_) (fun c1 => ?_)
  ·
   have hfr := hrw k (by omega); have hln := hfr.1.le; have hrwk := hfr.1
   refine wp_skip ?_; refine tn ?_; refine wp_seq ?_; refine wp_block ?_; refine wp_seq ?_
   refine rg a10 s9 [(Ty.lst Ty.ints R), (Ty.nat k), (Ty.ref [(Ty.lst Ty.int (R.getD k []))]), (Ty.lst Ty.int (R.getD k [])), (Ty.nat (rankL ((R.getD k [])))), (Ty.nat (rankL ((R.getD k []))))] ok9 ⟨?_, ?_, ?_, ?_, ?_, ?_, trivial⟩ ?_
   · intro A B E G H; exact rP (y_move (kp (H 7 rfl) E q44))
   · intro A B E G H; exact rP (y_move (kp (H 11 rfl) E q42))
   · intro A B E G H d0 d1; exact rP (y_index1 Try.underlying29 Try.inf23 (ed d0 rfl rfl rfl) (ed d1 rfl rfl rfl) (by omega) (lst_get Ty.ints R [] k (by omega)))
   · intro A B E G H d0; exact rP (y_load Try.underlying23 rfl (ed d0 rfl rfl rfl) rfl)
   · intro A B E G H d0; exact rP (y_call #[A.eval (.tmp 39)] Try.func41 rfl rfl (by simp only [List.map_toArray, List.map_cons, List.map_nil]) (rRank_fn ((R.getD k [])) _ _ (ed d0 rfl rfl rfl) (by first | omega | assumption)))
   · intro A B E G H d0 d1 d2 d3 d4 d5 d6; exact rP (y_assign (ed d0 rfl rfl rfl))
   intro a11 s10 D8; have ok10 := D8.ok; have F11 := F10.step0 D8.stp; have q49 := D8.kt q42 rfl; have q50 := D8.kt q43 rfl; have q51 := D8.kt q44 rfl; have q52 := D8.kt q45 rfl; have q53 := D8.kt q46 rfl; have q54 := D8.kt q47 rfl; have o23 := OwnM.k0 o20 D8.stp; have o24 := OwnP.k0 o21 D8.stp; have o25 := OwnP.k0 o22 D8.stp; have q55 := D8.dn 5 rfl rfl; clear D8; refine tn ?_; refine wp_seq ?_
   refine rg a11 s10 [(Ty.val x3), (Ty.nat (rankL ((R.getD k [])))), (Ty.tup2 (Ty.int (((mapOf R k) (((rankL ((R.getD k []))) : Nat) : Int)).getD 0)) (Ty.bool (Option.isSome ((mapOf R k) (((rankL ((R.getD k []))) : Nat) : Int))))), (Ty.tup2 (Ty.int (((mapOf R k) (((rankL ((R.getD k []))) : Nat) : Int)).getD 0)) (Ty.bool (Option.isSome ((mapOf R k) (((rankL ((R.getD k []))) : Nat) : Int))))), (Ty.int (((mapOf R k) (((rankL ((R.getD k []))) : Nat) : Int)).getD 0)), (Ty.bool (Option.isSome ((mapOf R k) (((rankL ((R.getD k []))) : Nat) : Int)))), (Ty.int (((mapOf R k) (((rankL ((R.getD k []))) : Nat) : Int)).getD 0)), (Ty.bool (Option.isSome ((mapOf R k) (((rankL ((R.getD k []))) : Nat) : Int))))] ok10 ⟨?_, ?_, ?_, ?_, ?_, ?_, ?_, ?_, trivial⟩ ?_
   · intro A B E G H; exact rP (y_move (kp (H 10 rfl) E q54))
   · intro A B E G H; exact rP (y_move (kp (H 12 rfl) E q55))
   · intro A B E G H d0 d1; exact rP (y_lookup2 (i := (((rankL ((R.getD k []))) : Nat) : Int)) (z := 0) Try.underlying86 (keyInt Try.underlying3) Try.inf3 (fun _ => rfl) (OwnM.k0 o23 E) (ed d0 rfl rfl rfl) (ed d1 rfl rfl rfl))
   · intro A B E G H d0; exact rP (y_move (ed d0 rfl rfl rfl))
   · intro A B E G H d0; exact rP (y_ext2_0 (ed d0 rfl rfl rfl))
   · intro A B E G H d0 d1; exact rP (y_ext2_1 (ed d0 rfl rfl rfl))
   · intro A B E G H d0 d1 d2 d3 d4 d5 d6; exact rP (y_assign (ed d0 rfl rfl rfl))
   · intro A B E G H d0 d1 d2 d3 d4 d5 d6 d7 d8; exact rP (y_assign (ed d0 rfl rfl rfl))
   intro a12 s11 D9; have ok11 := D9.ok; have F12 := F11.step0 D9.stp; have q56 := D9.kt q49 rfl; have q57 := D9.kt q50 rfl; have q58 := D9.kt q51 rfl; have q59 := D9.kt q52 rfl; have q60 := D9.kt q53 rfl; have q61 := D9.kt q54 rfl; have q62 := D9.kt q55 rfl; have o26 := OwnM.k0 o23 D9.stp; have o27 := OwnP.k0 o24 D9.stp; have o28 := OwnP.k0 o25 D9.stp; have q63 := D9.dn 6 rfl rfl; have q64 := D9.dn 7 rfl rfl; clear D9; refine tn ?_; refine wp_seq ?_; refine wp_seq ?_
   refine rg a12 s11 [(Ty.bool (Option.isSome ((mapOf R k) (((rankL ((R.getD k []))) : Nat) : Int))))] ok11 ⟨?_, trivial⟩ ?_
   · intro A B E G H; exact rP (y_move (kp (H 14 rfl) E q64))
   intro a13 s12 D10; have ok12 := D10.ok; have F13 := F12.step0 D10.stp; have q65 := D10.kt q56 rfl; have q66 := D10.kt q57 rfl; have q67 := D10.kt q58 rfl; have q68 := D10.kt q59 rfl; have q69 := D10.kt q60 rfl; have q70 := D10.kt q61 rfl; have q71 := D10.kt q62 rfl; have q72 := D10.kt q63 rfl; have o29 := OwnM.k0 o26 D10.stp; have o30 := OwnP.k0 o27 D10.stp; have o31 := OwnP.k0 o28 D10.stp; have q73 := D10.dn 0 rfl rfl; clear D10; refine tn ?_
   refine cond_t q73 (fun c2 => ?_) (fun c2 => ?_)
   ·
    obtain ⟨j, hj⟩ := Option.isSome_iff_exists.1 c2; have hpo := pr_hit hp (by omega) hj
    refine wp_seq ?_
    refine reg2 (a := a13) (σ := s12) rfl 1 (fun i_ => List.getD [(Ty.pr (Ty.val (ptrAt x2 2)))] i_ Pr.any) ok12 rfl (by decide) rfl ⟨?_, trivial⟩ ?_
    · intro A B E G H; exact rP (ownp_field Try.fld42_2 Try.inf4 (by decide) (OwnP.k0 o31 E) (kp (H 9 rfl) E q69))
    intro a14 s13 D11; have ok13 := D11.ok; have F14 := F13.step0 D11.stp; have q74 := D11.kt q65 rfl; have q75 := D11.kt q66 rfl; have q76 := D11.kt q69 rfl; have q77 := D11.kt q72 rfl; have o32 := OwnM.k0 o29 D11.stp; have o33 := OwnP.k0 o30 D11.stp; have o34 := OwnP.k0 o31 D11.stp; have q78 := D11.dn 0 (by decide) rfl rfl; clear D11
    refine tailL0 (L := [5]) (R := (fun _ τ => OwnP τ 5 x2 ([(Ty.nat ((List.length R) - 1)), (Ty.bool (decide ((((rankL ((R.getD ((List.length R) - 1) []))) : Nat) : Int) = (0 : Int)))), (Ty.bool true), (Ty.int (0 : Int)), (Ty.int (0 : Int))].set 2 (Ty.bool false)))) rfl rfl (YldM.toL (m_storep Try.inf4 (by decide) o34 q78 (Nat.le_of_ble_eq_true rfl) rfl (one_val rfl))) (fun v2 s14 hs3 r3 => ?_)
    have F15 := F14.stepL hs3 (by decide); have q79 := kpL hs3 (by decide) rfl q74; have q80 := kpL hs3 (by decide) rfl q75; have q81 := kpL hs3 (by decide) rfl q76; have q82 := kpL hs3 (by decide) rfl q77; have o36 := OwnM.keepL o32 hs3 (by decide) (by decide); have o37 := OwnP.keepL o33 hs3 (by decide) (by decide)
    have o35 : OwnP s14 5 x2 [(Ty.nat ((List.length R) - 1)), (Ty.bool (decide ((((rankL ((R.getD ((List.length R) - 1) []))) : Nat) : Int) = (0 : Int)))), (Ty.bool false), (Ty.int (0 : Int)), (Ty.int (0 : Int))] := r3
    clear r3; refine wpList_nil ?_; refine tn ?_; refine wp_seq ?_
    refine reg2 (a := a14) (σ := s14) rfl 2 (fun i_ => List.getD [(Ty.pr (Ty.nat k)), (Ty.pr (Ty.val (ptrAt x2 3)))] i_ Pr.any) ok13 rfl (by decide) rfl ⟨?_, ?_, trivial⟩ ?_
    · intro A B E G H; exact rP (y_move (kp (H 11 rfl) E q79))
    · intro A B E G H d0; exact rP (ownp_field Try.fld42_3 Try.inf3 (by decide) (OwnP.k0 o35 E) (kp (H 9 rfl) E q81))
    intro a15 s15 D12; have ok14 := D12.ok; have F16 := F15.step0 D12.stp; have q84 := D12.kt q80 rfl; have q85 := D12.kt q81 rfl; have q86 := D12.kt q82 rfl; have o38 := OwnP.k0 o37 D12.stp; have o39 := OwnP.k0 o35 D12.stp; have q87 := D12.dn 0 (by decide) rfl rfl; have q88 := D12.dn 1 (by decide) rfl rfl; clear D12
    refine tailL0 (L := [5]) (R := (fun _ τ => OwnP τ 5 x2 ([(Ty.nat ((List.length R) - 1)), (Ty.bool (decide ((((rankL ((R.getD ((List.length R) - 1) []))) : Nat) : Int) = (0 : Int)))), (Ty.bool false), (Ty.int (0 : Int)), (Ty.int (0 : Int))].set 3 (Ty.nat k)))) rfl rfl (YldM.toL (m_storep Try.inf3 (by decide) o39 q88 (Nat.le_of_ble_eq_true rfl) q87 (one_val rfl))) (fun v3 s16 hs4 r4 => ?_)
    have F17 := F16.stepL hs4 (by decide); have q89 := kpL hs4 (by decide) rfl q84; have q90 := kpL hs4 (by decide) rfl q85; have q91 := kpL hs4 (by decide) rfl q86; have o41 := OwnP.keepL o38 hs4 (by decide) (by decide)
    have o40 : OwnP s16 5 x2 [(Ty.nat ((List.length R) - 1)), (Ty.bool (decide ((((rankL ((R.getD ((List.length R) - 1) []))) : Nat) : Int) = (0 : Int)))), (Ty.bool false), (Ty.nat k), (Ty.int (0 : Int))] := r4
    clear r4; refine wpList_nil ?_; refine tn ?_; refine wp_seq ?_
    refine reg2 (a := a15) (σ := s16) rfl 2 (fun i_ => List.getD [(Ty.pr (Ty.int (((mapOf R k) (((rankL ((R.getD k []))) : Nat) : Int)).getD 0))), (Ty.pr (Ty.val (ptrAt x2 4)))] i_ Pr.any) ok14 rfl (by decide) rfl ⟨?_, ?_, trivial⟩ ?_
    · intro A B E G H; exact rP (y_move (kp (H 13 rfl) E q91))
    · intro A B E G H d0; exact rP (ownp_field Try.fld42_4 Try.inf3 (by decide) (OwnP.k0 o40 E) (kp (H 9 rfl) E q90))
    intro a16 s17 D13; have ok15 := D13.ok; have F18 := F17.step0 D13.stp; have q93 := D13.kt q89 rfl; have q94 := D13.kt q90 rfl; have o42 := OwnP.k0 o41 D13.stp; have o43 := OwnP.k0 o40 D13.stp; have q95 := D13.dn 0 (by decide) rfl rfl; have q96 := D13.dn 1 (by decide) rfl rfl; clear D13
    refine tailL0 (L := [5]) (R := (fun _ τ => OwnP τ 5 x2 ([(Ty.nat ((List.length R) - 1)), (Ty.bool (decide ((((rankL ((R.getD ((List.length R) - 1) []))) : Nat) : Int) = (0 : Int)))), (Ty.bool false), (Ty.nat k), (Ty.int (0 : Int))].set 4 (Ty.int (((mapOf R k) (((rankL ((R.getD k []))) : Nat) : Int)).getD 0))))) rfl rfl (YldM.toL (m_storep Try.inf3 (by decide) o43 q96 (Nat.le_of_ble_eq_true rfl) q95 (one_val rfl))) (fun v4 s18 hs5 r5 => ?_)
    have F19 := F18.stepL hs5 (by decide); have q97 := kpL hs5 (by decide) rfl q93; have q98 := kpL hs5 (by decide) rfl q94; have o45 := OwnP.keepL o42 hs5 (by decide) (by decide)
    have o44 : OwnP s18 5 x2 [(Ty.nat ((List.length R) - 1)), (Ty.bool (decide ((((rankL ((R.getD ((List.length R) - 1) []))) : Nat) : Int) = (0 : Int)))), (Ty.bool false), (Ty.nat k), (Ty.int (((mapOf R k) (((rankL ((R.getD k []))) : Nat) : Int)).getD 0))] := r5
    clear r5; refine wpList_nil ?_; refine tn ?_; refine wp_seq ?_
    refine reg2 (a := a16) (σ := s18) rfl 1 (fun i_ => List.getD [(Ty.pr (Ty.agg [(Ty.nat ((List.length R) - 1)), (Ty.bool (decide ((((rankL ((R.getD ((List.length R) - 1) []))) : Nat) : Int) = (0 : Int)))), (Ty.bool false), (Ty.nat k), (Ty.int (((mapOf R k) (((rankL ((R.getD k []))) : Nat) : Int)).getD 0))]))] i_ Pr.any) ok15 rfl (by decide) rfl ⟨?_, trivial⟩ ?_
    · intro A B E G H; exact rP (ownp_loadagg Try.underlying42 Try.inf42 (OwnP.k0 o44 E) (kp (H 9 rfl) E q98))
    intro a17 s19 D14; have ok16 := D14.ok; have F20 := F19.step0 D14.stp; have q100 := D14.kt q97 rfl; have o46 := OwnP.k0 o45 D14.stp; have o47 := OwnP.k0 o44 D14.stp; have q101 := D14.dn 0 (by decide) rfl rfl; clear D14
    refine tailL0 (L := [4]) (R := (fun _ τ => OwnP τ 4 x1 [(Ty.nat ((List.length R) - 1)), (Ty.bool (decide ((((rankL ((R.getD ((List.length R) - 1) []))) : Nat) : Int) = (0 : Int)))), (Ty.bool false), (Ty.nat k), (Ty.int (((mapOf R k) (((rankL ((R.getD k []))) : Nat) : Int)).getD 0))])) rfl rfl (YldM.toL (m_storeagg Try.inf42 (by decide) o46 q100 rfl q101 (by intro U hU; simp only [List.mem_cons, List.not_mem_nil, or_false] at hU; rcases hU with rfl | rfl | rfl | rfl | rfl <;> first | exact one_val rfl | exact one_sl | exact one_ref))) (fun v5 s20 hs6 r6 => ?_)
    have F21 := F20.stepL hs6 (by decide); have q102 := kpL hs6 (by decide) rfl q100; have o49 := OwnP.keepL o47 hs6 (by decide) (by decide)
    have o48 : OwnP s20 4 x1 [(Ty.nat ((List.length R) - 1)), (Ty.bool (decide ((((rankL ((R.getD ((List.length R) - 1) []))) : Nat) : Int) = (0 : Int)))), (Ty.bool false), (Ty.nat k), (Ty.int (((mapOf R k) (((rankL ((R.getD k []))) : Nat) : Int)).getD 0))] := r6
    clear r6; refine wpList_nil ?_; refine tn ?_; refine wp_ret ?_; refine tr ?_; refine br ?_; refine tr ?_; refine tr ?_; refine br ?_; refine tr ?_
    have o50 : OwnP s20 4 x1 [(Ty.nat ((List.length R) - 1)), (Ty.bool (decide ((((rankL ((R.getD ((List.length R) - 1) []))) : Nat) : Int) = (0 : Int)))), (Ty.bool false), (Ty.nat k), (Ty.int (((mapOf R k) (((rankL ((R.getD k []))) : Nat) : Int)).getD 0))] := o48
    have o51 : OwnP s20 4 x1 [(Ty.nat (leads.length * l.length)), (Ty.bool (decide ((((rankL ((R.getD ((List.length R) - 1) []))) : Nat) : Int) = (0 : Int)))), (Ty.bool false), (Ty.nat k), (Ty.int (((mapOf R k) (((rankL ((R.getD k []))) : Nat) : Int)).getD 0))] := cvop (by rw [show (Ty.nat ((List.length R) - 1)) = (Ty.nat (leads.length * l.length)) from by (rw [show R.length - 1 = leads.length * l.length by omega])]) o50
    have o52 : OwnP s20 4 x1 [(Ty.nat (leads.length * l.length)), (Ty.bool (rndB (tRows n.toNat l cs leads leads.length))), (Ty.bool false), (Ty.nat k), (Ty.int (((mapOf R k) (((rankL ((R.getD k []))) : Nat) : Int)).getD 0))] := cvop (by rw [show (Ty.bool (decide ((((rankL ((R.getD ((List.length R) - 1) []))) : Nat) : Int) = (0 : Int)))) = (Ty.bool (rndB (tRows n.toNat l cs leads leads.length))) from by (rw [← hR]; rfl)]) o51
    have o53 : OwnP s20 4 x1 [(Ty.nat (leads.length * l.length)), (Ty.bool (rndB (tRows n.toNat l cs leads leads.length))), (Ty.bool (prO (tRows n.toNat l cs leads leads.length)).isNone), (Ty.nat k), (Ty.int (((mapOf R k) (((rankL ((R.getD k []))) : Nat) : Int)).getD 0))] := cvop (by rw [show (Ty.bool false) = (Ty.bool (prO (tRows n.toNat l cs leads leads.length)).isNone) from by (rw [← hR]; rw [hpo]; rfl)]) o52
    have o54 : OwnP s20 4 x1 [(Ty.nat (leads.length * l.length)), (Ty.bool (rndB (tRows n.toNat l cs leads leads.length))), (Ty.bool (prO (tRows n.toNat l cs leads leads.length)).isNone), (Ty.nat (agnL (tRows n.toNat l cs leads leads.length))), (Ty.int (((mapOf R k) (((rankL ((R.getD k []))) : Nat) : Int)).getD 0))] := cvop (by rw [show (Ty.nat k) = (Ty.nat (agnL (tRows n.toNat l cs leads leads.length))) from by (rw [← hR]; unfold agnL; rw [hpo]; rfl)]) o53
    have o55 : OwnP s20 4 x1 [(Ty.nat (leads.length * l.length)), (Ty.bool (rndB (tRows n.toNat l cs leads leads.length))), (Ty.bool (prO (tRows n.toNat l cs leads leads.length)).isNone), (Ty.nat (agnL (tRows n.toNat l cs leads leads.length))), (Ty.int (befL (tRows n.toNat l cs leads leads.length)))] := cvop (by rw [show (Ty.int (((mapOf R k) (((rankL ((R.getD k []))) : Nat) : Int)).getD 0)) = (Ty.int (befL (tRows n.toNat l cs leads leads.length))) from by (rw [← hR]; unfold befL; rw [hpo, hj]; rfl)]) o54
    exact retL1c (k := 4) (ts := [(Ty.nat (leads.length * l.length)), (Ty.bool (rndB (tRows n.toNat l cs leads leads.length))), (Ty.bool (prO (tRows n.toNat l cs leads leads.length)).isNone), (Ty.nat (agnL (tRows n.toNat l cs leads leads.length))), (Ty.int (befL (tRows n.toNat l cs leads leads.length)))]) rfl ok16 F21 Try.underlying42 Try.inf42 (al (R := (Pr.ownp 4 [(Ty.nat (leads.length * l.length)), (Ty.bool (rndB (tRows n.toNat l cs leads leads.length))), (Ty.bool (prO (tRows n.toNat l cs leads leads.length)).isNone), (Ty.nat (agnL (tRows n.toNat l cs leads leads.length))), (Ty.int (befL (tRows n.toNat l cs leads leads.length)))])) q102 o55) (fun v_ hv_ => hv_)
   ·
    have hnn := opt_nof c2; have hpx := pr_next hp (by omega) hnn
    refine wp_skip ?_; refine tn ?_
    refine reg2 (a := a13) (σ := s12) rfl 3 (fun i_ => List.getD [(Ty.pr (Ty.val x3)), (Ty.pr (Ty.nat (rankL ((R.getD k []))))), (Ty.pr (Ty.nat k))] i_ Pr.any) ok12 rfl (by decide) rfl ⟨?_, ?_, ?_, trivial⟩ ?_
    · intro A B E G H; exact rP (y_move (kp (H 10 rfl) E q70))
    · intro A B E G H; exact rP (y_move (kp (H 12 rfl) E q71))
    · intro A B E G H; exact rP (y_move (kp (H 11 rfl) E q65))
    intro a18 s21 D15; have ok17 := D15.ok; have F22 := F13.step0 D15.stp; have q104 := D15.kt q65 rfl; have q105 := D15.kt q66 rfl; have q106 := D15.kt q67 rfl; have q107 := D15.kt q68 rfl; have q108 := D15.kt q69 rfl; have q109 := D15.kt q70 rfl; have o56 := OwnM.k0 o29 D15.stp; have o57 := OwnP.k0 o30 D15.stp; have o58 := OwnP.k0 o31 D15.stp
    have q110 : At (Ty.val x3) s21 a18 (.tmp 54) := D15.done 0 (by decide)
    have q111 := D15.dn 1 (by decide) rfl rfl; have q112 := D15.dn 2 (by decide) rfl rfl; clear D15
    refine tailL0 (L := [6]) (R := (fun _ τ => OwnM Ty.int kI τ 6 x3 (fun x_ => if x_ = (((rankL ((R.getD k []))) : Nat) : Int) then some ((k : Nat) : Int) else (mapOf R k) x_))) rfl rfl (YldM.toL (m_mapset (i := (((rankL ((R.getD k []))) : Nat) : Int)) Try.underlying86 (keyInt Try.underlying3) (by decide) o56 q110 q111 q112)) (fun v6 s22 hs7 r7 => ?_)
    have F23 := F22.stepL hs7 (by decide); have q113 := kpL hs7 (by decide) rfl q104; have q114 := kpL hs7 (by decide) rfl q105; have q115 := kpL hs7 (by decide) rfl q106; have q116 := kpL hs7 (by decide) rfl q107; have q117 := kpL hs7 (by decide) rfl q108; have q118 := kpL hs7 (by decide) rfl q109; have o60 := OwnP.keepL o57 hs7 (by decide) (by decide); have o61 := OwnP.keepL o58 hs7 (by decide) (by decide)
    have o59 : OwnM Ty.int kI s22 6 x3 (fun x_ => if x_ = (((rankL ((R.getD k []))) : Nat) : Int) then some ((k : Nat) : Int) else (mapOf R k) x_) := r7
    clear r7; refine wpList_nil ?_; refine bn ?_; refine tn ?_
    refine rg a18 s22 [(Ty.nat k), (Ty.nat (k + 1)), (Ty.nat (k + 1))] ok17 ⟨?_, ?_, ?_, trivial⟩ ?_
    · intro A B E G H; exact rP (y_move (kp (H 11 rfl) E q113))
    · intro A B E G H d0; exact rP ((y_add (ed d0 rfl rfl rfl) rfl (w64 (by omega) (by omega))).mono (fun τ _ h => cvi (σ := τ) (by first | omega | exact (Int.natCast_mul _ _).symm) h))
    · intro A B E G H d0 d1 d2; exact rP (y_assign (ed d0 rfl rfl rfl))
    intro a19 s23 D16; have ok18 := D16.ok; have F24 := F23.step0 D16.stp; have q120 := D16.kt q114 rfl; have q121 := D16.kt q115 rfl; have q122 := D16.kt q116 rfl; have q123 := D16.kt q117 rfl; have q124 := D16.kt q118 rfl; have o62 := OwnP.k0 o60 D16.stp; have o63 := OwnP.k0 o61 D16.stp; have o64 := OwnM.k0 o59 D16.stp; have q125 := D16.dn 2 rfl rfl; clear D16
    exact tn ⟨(R.length - 1) - ((k+1)), by omega, s23, (k+1), rfl, F24, ok18, (cvi (by (first | rfl | omega | (simp_all; done) | (simp_all; omega))) q125), q120, q121, q122, q123, q124, (cvm (by (rfl)) o64), o62, o63, by omega, by rw [show R.length - 1 - (k + 1) = R.length - 1 - k - 1 by omega]; exact hpx, rfl⟩
  ·
   have hpo := pr_end hp (by omega)
   refine wp_exit ?_; refine tx ?_; refine tx ?_; refine bx ?_; refine tn ?_; refine wp_seq ?_
   refine reg2 (a := a10) (σ := s9) rfl 1 (fun i_ => List.getD [(Ty.pr (Ty.agg [(Ty.nat ((List.length R) - 1)), (Ty.bool (decide ((((rankL ((R.getD ((List.length R) - 1) []))) : Nat) : Int) = (0 : Int)))), (Ty.bool true), (Ty.int (0 : Int)), (Ty.int (0 : Int))]))] i_ Pr.any) ok9 rfl (by decide) rfl ⟨?_, trivial⟩ ?_
   · intro A B E G H; exact rP (ownp_loadagg Try.underlying42 Try.inf42 (OwnP.k0 o22 E) (kp (H 9 rfl) E q46))
   intro a20 s24 D17; have ok19 := D17.ok; have F25 := F10.step0 D17.stp; have q126 := D17.kt q43 rfl; have o65 := OwnM.k0 o20 D17.stp; have o66 := OwnP.k0 o21 D17.stp; have o67 := OwnP.k0 o22 D17.stp; have q127 := D17.dn 0 (by decide) rfl rfl; clear D17
   refine tailL0 (L := [4]) (R := (fun _ τ => OwnP τ 4 x1 [(Ty.nat ((List.length R) - 1)), (Ty.bool (decide ((((rankL ((R.getD ((List.length R) - 1) []))) : Nat) : Int) = (0 : Int)))), (Ty.bool true), (Ty.int (0 : Int)), (Ty.int (0 : Int))])) rfl rfl (YldM.toL (m_storeagg Try.inf42 (by decide) o66 q126 rfl q127 (by intro U hU; simp only [List.mem_cons, List.not_mem_nil, or_false] at hU; rcases hU with rfl | rfl | rfl | rfl | rfl <;> first | exact one_val rfl | exact one_sl | exact one_ref))) (fun v7 s25 hs8 r8 => ?_)
   have F26 := F25.stepL hs8 (by decide); have q128 := kpL hs8 (by decide) rfl q126; have o69 := OwnM.keepL o65 hs8 (by decide) (by decide); have o70 := OwnP.keepL o67 hs8 (by decide) (by decide)
   have o68 : OwnP s25 4 x1 [(Ty.nat ((List.length R) - 1)), (Ty.bool (decide ((((rankL ((R.getD ((List.length R) - 1) []))) : Nat) : Int) = (0 : Int)))), (Ty.bool true), (Ty.int (0 : Int)), (Ty.int (0 : Int))] := r8
   clear r8; refine wpList_nil ?_; refine tn ?_; refine wp_ret ?_
   have o71 : OwnP s25 4 x1 [(Ty.nat ((List.length R) - 1)), (Ty.bool (decide ((((rankL ((R.getD ((List.length R) - 1) []))) : Nat) : Int) = (0 : Int)))), (Ty.bool true), (Ty.int (0 : Int)), (Ty.int (0 : Int))] := o68
   have o72 : OwnP s25 4 x1 [(Ty.nat (leads.length * l.length)), (Ty.bool (decide ((((rankL ((R.getD ((List.length R) - 1) []))) : Nat) : Int) = (0 : Int)))), (Ty.bool true), (Ty.int (0 : Int)), (Ty.int (0 : Int))] := cvop (by rw [show (Ty.nat ((List.length R) - 1)) = (Ty.nat (leads.length * l.length)) from by (rw [show R.length - 1 = leads.length * l.length by omega])]) o71
   have o73 : OwnP s25 4 x1 [(Ty.nat (leads.length * l.length)), (Ty.bool (rndB (tRows n.toNat l cs leads leads.length))), (Ty.bool true), (Ty.int (0 : Int)), (Ty.int (0 : Int))] := cvop (by rw [show (Ty.bool (decide ((((rankL ((R.getD ((List.length R) - 1) []))) : Nat) : Int) = (0 : Int)))) = (Ty.bool (rndB (tRows n.toNat l cs leads leads.length))) from by (rw [← hR]; rfl)]) o72
   have o74 : OwnP s25 4 x1 [(Ty.nat (leads.length * l.length)), (Ty.bool (rndB (tRows n.toNat l cs leads leads.length))), (Ty.bool (prO (tRows n.toNat l cs leads leads.length)).isNone), (Ty.int (0 : Int)), (Ty.int (0 : Int))] := cvop (by rw [show (Ty.bool true) = (Ty.bool (prO (tRows n.toNat l cs leads leads.length)).isNone) from by (rw [← hR]; rw [hpo]; rfl)]) o73
   have o75 : OwnP s25 4 x1 [(Ty.nat (leads.length * l.length)), (Ty.bool (rndB (tRows n.toNat l cs leads leads.length))), (Ty.bool (prO (tRows n.toNat l cs leads leads.length)).isNone), (Ty.nat (agnL (tRows n.toNat l cs leads leads.length))), (Ty.int (0 : Int))] := cvop (by rw [show (Ty.int (0 : Int)) = (Ty.nat (agnL (tRows n.toNat l cs leads leads.length))) from by (rw [← hR]; unfold agnL; rw [hpo]; rfl)]) o74
   have o76 : OwnP s25 4 x1 [(Ty.nat (leads.length * l.length)), (Ty.bool (rndB (tRows n.toNat l cs leads leads.length))), (Ty.bool (prO (tRows n.toNat l cs leads leads.length)).isNone), (Ty.nat (agnL (tRows n.toNat l cs leads leads.length))), (Ty.int (befL (tRows n.toNat l cs leads leads.length)))] := cvop (by rw [show (Ty.int (0 : Int)) = (Ty.int (befL (tRows n.toNat l cs leads leads.length))) from by (rw [← hR]; unfold befL; rw [hpo]; rfl)]) o75
   exact retL1c (k := 4) (ts := [(Ty.nat (leads.length * l.length)), (Ty.bool (rndB (tRows n.toNat l cs leads leads.length))), (Ty.bool (prO (tRows n.toNat l cs leads leads.length)).isNone), (Ty.nat (agnL (tRows n.toNat l cs leads leads.length))), (Ty.int (befL (tRows n.toNat l cs leads leads.length)))]) rfl ok19 F26 Try.underlying42 Try.inf42 (al (R := (Pr.ownp 4 [(Ty.nat (leads.length * l.length)), (Ty.bool (rndB (tRows n.toNat l cs leads leads.length))), (Ty.bool (prO (tRows n.toNat l cs leads leads.length)).isNone), (Ty.nat (agnL (tRows n.toNat l cs leads leads.length))), (Ty.int (befL (tRows n.toNat l cs leads leads.length)))])) q128 o76) (fun v_ hv_ => hv_)


end Go.Proofs.Ytbilebfnanlgfaa
