/- The functions that the law TruthMade reaches, each by its contract. Part 11. -/
import Derived.Test.YtbilebfnanlgfaaTruthMadeW10
namespace Go.Proofs.Ytbilebfnanlgfaa
open Go.KL

set_option maxHeartbeats 4000000 in
set_option maxRecDepth 100000 in
theorem truthMade_fn (raw : List Int) (n : Int) (changes : Int) (many : Int) (leads : Int) (σ : GW)  (v0 v1 v2 v3 v4 : Value) (hv0 : Ty.has (Ty.lst Ty.int raw) σ v0) (hv1 : Ty.has (Ty.int n) σ v1) (hv2 : Ty.has (Ty.int changes) σ v2) (hv3 : Ty.has (Ty.int many) σ v3) (hv4 : Ty.has (Ty.int leads) σ v4)  (hraw : ∀ x ∈ raw, -9223372036854775808 ≤ x ∧ x ≤ 9223372036854775807) (hn : -9223372036854775808 ≤ n ∧ n ≤ 9223372036854775807) (hchanges : -9223372036854775808 ≤ changes ∧ changes ≤ 9223372036854775807) (hmany : -9223372036854775808 ≤ many ∧ many ≤ 9223372036854775807) (hleads : -9223372036854775808 ≤ leads ∧ leads ≤ 9223372036854775807) :
    FnC Try.prog 7 #[v0, v1, v2, v3, v4] σ (Ty.bool true) := by
 have hr : ∀ k, -9223372036854775808 ≤ rawAt raw k ∧ rawAt raw k ≤ 9223372036854775807 := fun k => rawAt_bd hraw k
 have hp_n := pick_lt n (n := 7) (by omega)
 have hp_changes := pick_lt changes (n := 16) (by omega)
 have hp_many := pick_lt many (n := 3) (by omega)
 have hp_leads := pick_lt leads (n := 20) (by omega)
 obtain ⟨M, hM⟩ : ∃ M, M = 2 + pick n 7 := ⟨_, rfl⟩
 obtain ⟨C, hC⟩ : ∃ C, C = 1 + pick many 3 := ⟨_, rfl⟩
 have hbs : (ByteArray.mk #[84, 114, 105, 101, 100]).size ≤ 1099511627776 := by (show 5 ≤ 1099511627776; omega)
 refine fn_intro0 Try.func7 rfl Try.ntmps7 (Nat.le_of_ble_eq_true rfl) (fun s0 a0 hle F0 ok0 hargs => ?_)
 have p0 : At (Ty.lst Ty.int raw) s0 a0 (.tmp 0) := by have e := hargs 0 _ rfl; show Ty.has _ _ _; rw [e]; exact Ty.up _ hle hv0
 have b1 := sl_le p0
 have p1 : At (Ty.int n) s0 a0 (.tmp 1) := by have e := hargs 1 _ rfl; show Ty.has _ _ _; rw [e]; exact Ty.up _ hle hv1
 have p2 : At (Ty.int changes) s0 a0 (.tmp 2) := by have e := hargs 2 _ rfl; show Ty.has _ _ _; rw [e]; exact Ty.up _ hle hv2
 have p3 : At (Ty.int many) s0 a0 (.tmp 3) := by have e := hargs 3 _ rfl; show Ty.has _ _ _; rw [e]; exact Ty.up _ hle hv3
 have p4 : At (Ty.int leads) s0 a0 (.tmp 4) := by have e := hargs 4 _ rfl; show Ty.has _ _ _; rw [e]; exact Ty.up _ hle hv4
 clear hargs; refine wp_seq ?_
 refine rg a0 s0 [(Ty.bool false)] ok0 ⟨?_, trivial⟩ ?_
 · intro A B E G H; exact rP (y_assign rfl)
 intro a1 s1 D1; have ok1 := D1.ok; have F1 := F0.step0 D1.stp; have q1 := D1.kt p0 rfl; have q2 := D1.kt p1 rfl; have q3 := D1.kt p2 rfl; have q4 := D1.kt p3 rfl; have q5 := D1.kt p4 rfl; clear D1; refine tn ?_; refine wp_seq ?_; refine wp_seq ?_
 refine rg a1 s1 [(Ty.lst Ty.int raw), (Ty.nat (List.length raw)), (Ty.bool (decide ((256 : Int) < (((List.length raw) : Nat) : Int))))] ok1 ⟨?_, ?_, ?_, trivial⟩ ?_
 · intro A B E G H; exact rP (y_move (kp (H 0 rfl) E q1))
 · intro A B E G H d0; exact rP (y_len Try.underlying23 (ed d0 rfl rfl rfl))
 · intro A B E G H d0; exact rP (y_gtr (ed d0 rfl rfl rfl) rfl)
 intro a2 s2 D2; have ok2 := D2.ok; have F2 := F1.step0 D2.stp; have q6 := D2.kt q1 rfl; have q7 := D2.kt q2 rfl; have q8 := D2.kt q3 rfl; have q9 := D2.kt q4 rfl; have q10 := D2.kt q5 rfl; have q11 := D2.dn 2 rfl rfl; clear D2; refine tn ?_
 refine cond_p (p := ((256 : Int) < (((List.length raw) : Nat) : Int))) q11 (fun c1 => ?_) (fun c1 => ?_)
 ·
  refine wp_seq ?_
  refine rg a2 s2 [(Ty.bool true)] ok2 ⟨?_, trivial⟩ ?_
  · intro A B E G H; exact rP (y_assign rfl)
  intro a3 s3 D3; have ok3 := D3.ok; have F3 := F2.step0 D3.stp; have q12 := D3.dn 0 rfl rfl; clear D3; refine tn ?_; refine wp_ret ?_; refine tr ?_
  exact retL1 rfl ok3 F3 q12
 ·
  refine wp_skip ?_; refine tn ?_; refine wp_seq ?_
  refine rg a2 s2 [(Ty.int n), (Ty.nat (pick (n) (7))), (Ty.nat (2 + (pick (n) (7)))), (Ty.nat (2 + (pick (n) (7))))] ok2 ⟨?_, ?_, ?_, ?_, trivial⟩ ?_
  · intro A B E G H; exact rP (y_move (kp (H 1 rfl) E q7))
  · intro A B E G H d0; exact rP (y_call #[A.eval (.tmp 15), A.eval ((Operand.const (Value.int IntKind.i64 7)))] Try.func18 rfl rfl (by simp only [List.map_toArray, List.map_cons, List.map_nil]) (pick_fn (n) (7) _ _ _ (cvi (σ := B) (by omega) (ed d0 rfl rfl rfl)) (cvi (σ := B) (by omega) rfl) (by omega) (by omega)))
  · intro A B E G H d0; exact rP ((y_add rfl (ed d0 rfl rfl rfl) (w64 (by omega) (by omega))).mono (fun τ _ h => cvi (σ := τ) (by first | omega | exact (Int.natCast_mul _ _).symm) h))
  · intro A B E G H d0 d1 d2 d3 d4; exact rP (y_assign (ed d0 rfl rfl rfl))
  intro a4 s4 D4; have ok4 := D4.ok; have F4 := F2.step0 D4.stp; have q13 := D4.kt q6 rfl; have q14 := D4.kt q8 rfl; have q15 := D4.kt q9 rfl; have q16 := D4.kt q10 rfl; have q17 := D4.dn 3 rfl rfl; clear D4
  have q18 : At (Ty.nat M) s4 a4 (.tmp 1) := (cvi (by (rw [hM])) q17)
  refine tn ?_; refine wp_seq ?_
  refine rg a4 s4 [(Ty.int many), (Ty.nat (pick (many) (3))), (Ty.nat (1 + (pick (many) (3)))), (Ty.nat (1 + (pick (many) (3))))] ok4 ⟨?_, ?_, ?_, ?_, trivial⟩ ?_
  · intro A B E G H; exact rP (y_move (kp (H 3 rfl) E q15))
  · intro A B E G H d0; exact rP (y_call #[A.eval (.tmp 18), A.eval ((Operand.const (Value.int IntKind.i64 3)))] Try.func18 rfl rfl (by simp only [List.map_toArray, List.map_cons, List.map_nil]) (pick_fn (many) (3) _ _ _ (cvi (σ := B) (by omega) (ed d0 rfl rfl rfl)) (cvi (σ := B) (by omega) rfl) (by omega) (by omega)))
  · intro A B E G H d0; exact rP ((y_add rfl (ed d0 rfl rfl rfl) (w64 (by omega) (by omega))).mono (fun τ _ h => cvi (σ := τ) (by first | omega | exact (Int.natCast_mul _ _).symm) h))
  · intro A B E G H d0 d1 d2 d3 d4; exact rP (y_assign (ed d0 rfl rfl rfl))
  intro a5 s5 D5; have ok5 := D5.ok; have F5 := F4.step0 D5.stp; have q19 := D5.kt q13 rfl; have q20 := D5.kt q14 rfl; have q21 := D5.kt q16 rfl; have q22 := D5.kt q18 rfl; have q23 := D5.dn 3 rfl rfl; clear D5
  have q24 : At (Ty.nat C) s5 a5 (.tmp 3) := (cvi (by (rw [hC])) q23)
  refine tn ?_; refine wp_seq ?_
  refine reg2 (a := a5) (σ := s5) rfl 7 (fun i_ => List.getD [(Ty.pr (Ty.lst Ty.int raw)), (Ty.pr (Ty.nat M)), (Ty.pr (Ty.int changes)), (Ty.pr (Ty.nat (pick (changes) (16)))), (Ty.pr (Ty.nat (1 + (pick (changes) (16))))), (Ty.pr (Ty.agg [(Ty.val (Value.string (ByteArray.mk #[84, 114, 105, 101, 100]))), (Ty.nat (M)), (Ty.lst Ty.ints (changesOf raw 3 (M) ((1 + (pick (changes) (16))))))])), (Pr.ownp 61 [(Ty.val (Value.string ByteArray.empty)), (Ty.int (0 : Int)), (Ty.val (Value.slice none 0 0))])] i_ Pr.any) ok5 rfl (by decide) rfl ⟨?_, ?_, ?_, ?_, ?_, ?_, ?_, trivial⟩ ?_
  · intro A B E G H; exact rP (y_move (kp (H 0 rfl) E q19))
  · intro A B E G H; exact rP (y_move (kp (H 1 rfl) E q22))
  · intro A B E G H; exact rP (y_move (kp (H 2 rfl) E q20))
  · intro A B E G H d0; exact rP (y_call #[A.eval (.tmp 23), A.eval ((Operand.const (Value.int IntKind.i64 16)))] Try.func18 rfl rfl (by simp only [List.map_toArray, List.map_cons, List.map_nil]) (pick_fn (changes) (16) _ _ _ (cvi (σ := B) (by omega) (ed d0 rfl rfl rfl)) (cvi (σ := B) (by omega) rfl) (by omega) (by omega)))
  · intro A B E G H d0; exact rP ((y_add rfl (ed d0 rfl rfl rfl) (w64 (by omega) (by omega))).mono (fun τ _ h => cvi (σ := τ) (by first | omega | exact (Int.natCast_mul _ _).symm) h))
  · intro A B E G H d0 d1 d2 d3; exact rP (y_call #[A.eval (.tmp 21), A.eval (.tmp 22), A.eval (.tmp 25)] Try.func19 rfl rfl (by simp only [List.map_toArray, List.map_cons, List.map_nil]) (methodOf_fn (raw) (M) ((1 + (pick (changes) (16)))) _ _ _ _ (ed d0 rfl rfl rfl) (cvi (σ := B) (by first | omega | exact hr | assumption) (ed d1 rfl rfl rfl)) (cvi (σ := B) (by first | omega | exact hr | assumption) (ed d2 rfl rfl rfl)) (by first | omega | exact hr | assumption) (by first | omega | exact hr | assumption) (by first | omega | exact hr | assumption)))
  · intro A B E G H; exact rP (y_alloc Try.inf31 rfl (alloc_vals (vs := [.string ByteArray.empty, .int .i64 0, .slice none 0 0]) rfl))
  intro a6 s6 D6; have ok6 := D6.ok; have F6 := F5.step0 D6.stp; have q25 := D6.kt q19 rfl; have q26 := D6.kt q21 rfl; have q27 := D6.kt q22 rfl; have q28 := D6.kt q24 rfl; have q29 := D6.dn 5 (by decide) rfl rfl
  obtain ⟨x1, hx1⟩ : ∃ x, a6.eval (.tmp 11) = x := ⟨_, rfl⟩
  have q30 : At (Ty.val x1) s6 a6 (.tmp 11) := hx1
  have o1 : OwnP s6 61 x1 [(Ty.val (Value.string ByteArray.empty)), (Ty.int (0 : Int)), (Ty.val (Value.slice none 0 0))] := al2 (R := (Pr.ownp 61 [(Ty.val (Value.string ByteArray.empty)), (Ty.int (0 : Int)), (Ty.val (Value.slice none 0 0))])) hx1 (D6.done 6 (by decide))
  clear D6
  refine tailL0 (L := [61]) (R := (fun _ τ => OwnP τ 61 x1 [(Ty.val (Value.string (ByteArray.mk #[84, 114, 105, 101, 100]))), (Ty.nat (M)), (Ty.lst Ty.ints (changesOf raw 3 (M) ((1 + (pick (changes) (16))))))])) rfl rfl (YldM.toL (m_storeagg Try.inf31 (by decide) o1 q30 rfl q29 (by intro U hU; simp only [List.mem_cons, List.not_mem_nil, or_false] at hU; rcases hU with rfl | rfl | rfl <;> first | exact one_val rfl | exact one_sl | exact one_ref))) (fun v1 s7 hs1 r1 => ?_)
  have F7 := F6.stepL hs1 (by decide); have q31 := kpL hs1 (by decide) rfl q25; have q32 := kpL hs1 (by decide) rfl q26; have q33 := kpL hs1 (by decide) rfl q27; have q34 := kpL hs1 (by decide) rfl q28; have q35 := kpL hs1 (by decide) rfl q30
  have o2 : OwnP s7 61 x1 [(Ty.val (Value.string (ByteArray.mk #[84, 114, 105, 101, 100]))), (Ty.nat (M)), (Ty.lst Ty.ints (changesOf raw 3 (M) ((1 + (pick (changes) (16))))))] := r1
  clear r1; refine wpList_nil ?_; refine tn ?_; refine wp_seq ?_
  refine rg a6 s7 [(Ty.agg [(Ty.val (Value.string (ByteArray.mk #[84, 114, 105, 101, 100]))), (Ty.nat (M)), (Ty.lst Ty.ints (changesOf raw 3 (M) ((1 + (pick (changes) (16))))))]), (Ty.lst Ty.int raw), (Ty.nat M), (Ty.nat C), (Ty.lstc 2 callC (cOf raw (M) ((C) - 1))), (Ty.lst Ty.int raw), (Ty.int leads), (Ty.nat (pick (leads) (20))), (Ty.nat (1 + (pick (leads) (20)))), (Ty.nat C), (Ty.lst Ty.int (leadsOf raw ((1 + (pick (leads) (20)))) (C))), (Ty.bool true), (Ty.bool true)] ok6 ⟨?_, ?_, ?_, ?_, ?_, ?_, ?_, ?_, ?_, ?_, ?_, ?_, ?_, trivial⟩ ?_
  · intro A B E G H; exact rP (ownp_loadagg Try.underlying31 Try.inf31 (OwnP.k0 o2 E) (kp (H 11 rfl) E q35))
  · intro A B E G H; exact rP (y_move (kp (H 0 rfl) E q31))
  · intro A B E G H; exact rP (y_move (kp (H 1 rfl) E q33))
  · intro A B E G H; exact rP (y_move (kp (H 3 rfl) E q34))
  · intro A B E G H d0 d1 d2; exact rP (y_call #[A.eval (.tmp 28), A.eval (.tmp 29), A.eval (.tmp 30)] Try.func20 rfl rfl (by simp only [List.map_toArray, List.map_cons, List.map_nil]) (callsOf_fn (raw) (M) (C) _ _ _ _ (ed d0 rfl rfl rfl) (cvi (σ := B) (by first | omega | exact hr | assumption) (ed d1 rfl rfl rfl)) (cvi (σ := B) (by first | omega | exact hr | assumption) (ed d2 rfl rfl rfl)) (by first | omega | exact hr | assumption) (by first | omega | exact hr | assumption) (by first | omega | exact hr | assumption)))
  · intro A B E G H; exact rP (y_move (kp (H 0 rfl) E q31))
  · intro A B E G H; exact rP (y_move (kp (H 4 rfl) E q32))
  · intro A B E G H d0 d1; exact rP (y_call #[A.eval (.tmp 33), A.eval ((Operand.const (Value.int IntKind.i64 20)))] Try.func18 rfl rfl (by simp only [List.map_toArray, List.map_cons, List.map_nil]) (pick_fn (leads) (20) _ _ _ (cvi (σ := B) (by omega) (ed d0 rfl rfl rfl)) (cvi (σ := B) (by omega) rfl) (by omega) (by omega)))
  · intro A B E G H d0; exact rP ((y_add rfl (ed d0 rfl rfl rfl) (w64 (by omega) (by omega))).mono (fun τ _ h => cvi (σ := τ) (by first | omega | exact (Int.natCast_mul _ _).symm) h))
  · intro A B E G H; exact rP (y_move (kp (H 3 rfl) E q34))
  · intro A B E G H d0 d1 d2 d3; exact rP (y_call #[A.eval (.tmp 32), A.eval (.tmp 35), A.eval (.tmp 36)] Try.func30 rfl rfl (by simp only [List.map_toArray, List.map_cons, List.map_nil]) (rLeadsOf_fn (raw) ((1 + (pick (leads) (20)))) (C) _ _ _ _ (ed d0 rfl rfl rfl) (cvi (σ := B) (by first | omega | assumption) (ed d1 rfl rfl rfl)) (cvi (σ := B) (by first | omega | assumption) (ed d2 rfl rfl rfl)) (by first | omega | assumption) (by first | omega | assumption) (by first | omega | assumption)))
  · intro A B E G H d0 d1 d2 d3; exact rP (y_call #[A.eval (.tmp 27), A.eval (.tmp 31), A.eval (.tmp 37)] Try.func6 rfl rfl (by simp only [List.map_toArray, List.map_cons, List.map_nil]) (truthSays_fn ((ByteArray.mk #[84, 114, 105, 101, 100])) ((((M) : Nat) : Int)) ((changesOf raw 3 (M) ((1 + (pick (changes) (16)))))) ((cOf raw (M) ((C) - 1))) ((leadsOf raw ((1 + (pick (leads) (20)))) (C))) _ _ _ _ (ed d0 rfl rfl rfl) (ed d1 rfl rfl rfl) (ed d2 rfl rfl rfl) (by first | omega | assumption) (by first | omega | assumption)))
  · intro A B E G H d0 d1 d2 d3 d4 d5 d6 d7 d8 d9 d10 d11 d12 d13; exact rP (y_assign (ed d0 rfl rfl rfl))
  intro a7 s8 D7; have ok7 := D7.ok; have F8 := F7.step0 D7.stp; have o3 := OwnP.k0 o2 D7.stp; have q37 := D7.dn 12 rfl rfl; clear D7; refine tn ?_; refine wp_ret ?_
  exact retL1 rfl ok7 F8 q37


end Go.Proofs.Ytbilebfnanlgfaa
