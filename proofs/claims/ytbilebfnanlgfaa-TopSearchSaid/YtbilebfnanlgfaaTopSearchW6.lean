/- The functions that the law TopSearch reaches, each by its contract. Part 6. -/
import Derived.Test.YtbilebfnanlgfaaTopSearchW5
namespace Go.Proofs.Ytbilebfnanlgfaa
open Go.KL

theorem Try.fld42_1 : fieldOf Try.prog 42 1 = some (4, 1) := by kernel_rfl
set_option maxHeartbeats 4000000 in
set_option maxRecDepth 100000 in
theorem topSearch_fn (raw : List Int) (n : Int) (changes : Int) (calls : Int) (leads : Int) (many : Int) (guess : List Int) (σ : GW)  (v0 v1 v2 v3 v4 v5 v6 : Value) (hv0 : Ty.has (Ty.lst Ty.int raw) σ v0) (hv1 : Ty.has (Ty.int n) σ v1) (hv2 : Ty.has (Ty.int changes) σ v2) (hv3 : Ty.has (Ty.int calls) σ v3) (hv4 : Ty.has (Ty.int leads) σ v4) (hv5 : Ty.has (Ty.int many) σ v5) (hv6 : Ty.has (Ty.lst Ty.int guess) σ v6)  (hraw : ∀ x ∈ raw, -9223372036854775808 ≤ x ∧ x ≤ 9223372036854775807) (hn : -9223372036854775808 ≤ n ∧ n ≤ 9223372036854775807) (hchanges : -9223372036854775808 ≤ changes ∧ changes ≤ 9223372036854775807) (hcalls : -9223372036854775808 ≤ calls ∧ calls ≤ 9223372036854775807) (hleads : -9223372036854775808 ≤ leads ∧ leads ≤ 9223372036854775807) (hmany : -9223372036854775808 ≤ many ∧ many ≤ 9223372036854775807) (hgs : ∀ x ∈ guess, -9223372036854775808 ≤ x ∧ x ≤ 9223372036854775807) (hlr : raw.length ≤ 281474976710656) (hlg : guess.length ≤ 281474976710656) :
    FnC Try.prog 9 #[v0, v1, v2, v3, v4, v5, v6] σ (Ty.bool true) := by
 have hr : ∀ k, -9223372036854775808 ≤ rawAt raw k ∧ rawAt raw k ≤ 9223372036854775807 := fun k => rawAt_bd hraw k
 have hr2 : ∀ k, -9223372036854775808 ≤ rawAt guess k ∧ rawAt guess k ≤ 9223372036854775807 := fun k => rawAt_bd hgs k
 have hr0 : ∀ k, -9223372036854775808 ≤ rawAt [] k ∧ rawAt [] k ≤ 9223372036854775807 := fun k => rawAt_bd (by simp) k
 have hp_n := pick_lt n (n := 4) (by omega)
 have hp_changes := pick_lt changes (n := 8) (by omega)
 have hp_calls := pick_lt calls (n := 3) (by omega)
 have hp_leads := pick_lt leads (n := 6) (by omega)
 have hp_many := pick_lt many (n := 50) (by omega)
 obtain ⟨M, hM⟩ : ∃ M, M = 2 + pick n 4 := ⟨_, rfl⟩
 obtain ⟨K, hK⟩ : ∃ K, K = 1 + pick changes 8 := ⟨_, rfl⟩
 obtain ⟨C, hC⟩ : ∃ C, C = 1 + pick calls 3 := ⟨_, rfl⟩
 obtain ⟨LD, hLD⟩ : ∃ LD, LD = 1 + pick leads 6 := ⟨_, rfl⟩
 obtain ⟨MN, hMN⟩ : ∃ MN, MN = 1 + pick many 50 := ⟨_, rfl⟩
 obtain ⟨L, hL⟩ : ∃ L, L = changesOf raw 3 M K := ⟨_, rfl⟩
 obtain ⟨CS, hCS⟩ : ∃ CS, CS = cOf raw M (C - 1) := ⟨_, rfl⟩
 obtain ⟨G, hG⟩ : ∃ G, G = leadsOf guess LD C := ⟨_, rfl⟩
 have hmo : MethOk (ByteArray.mk #[84, 114, 105, 101, 100]) M L := by (rw [hL]; exact methOk_of (by decide +kernel) (by omega) (by omega) (by omega) (by omega))
 have hbs : (ByteArray.mk #[84, 114, 105, 101, 100]).size ≤ 1099511627776 := by (show 5 ≤ 1099511627776; omega)
 have hbh : bHunt.size ≤ 1099511627776 := by (show 10 ≤ 1099511627776; omega)
 have hco : callsMay (ByteArray.mk #[84, 114, 105, 101, 100]) ((M : Nat) : Int) L CS = 0 := by (rw [hCS]; exact cOf_may hmo (by omega))
 have hCl : CS.length = C := by rw [hCS, cOf_len]; omega
 have hGl : G.length = LD := by rw [hG, leadsOf_len]
 have hGi : ∀ y ∈ G, 0 ≤ y ∧ y < (CS.length : Int) := by rw [hG, hCl]; exact leads_in (by omega)
 have htG : touchMay (ByteArray.mk #[84, 114, 105, 101, 100]) ((M : Nat) : Int) L CS G = 0 := touch_path hco (in_calls hGi) (by omega) (by omega)
 obtain ⟨hq1, hq2⟩ := q_law (s := (ByteArray.mk #[84, 114, 105, 101, 100])) (leads := LD) (many := MN) hco (by omega) (by omega) (by omega) (by omega) (by omega)
 obtain ⟨A, hA⟩ : ∃ A, A = allG M L CS LD := ⟨_, rfl⟩
 obtain ⟨F, hF⟩ : ∃ F, F = A.take MN := ⟨_, rfl⟩
 have hFl : F.length ≤ MN := by rw [hF, List.length_take]; omega
 have hmem : ∀ k, k < F.length → F.getD k [] ∈ allG M L CS LD := fun k hk => by rw [← hA]; exact List.mem_of_mem_take (by rw [← hF]; exact mem_getDD [] hk)
 have hord : A.Pairwise (fun a b => belowL a b = true) := by rw [hA]; exact allG_order
 have htn : (((M : Nat) : Int)).toNat = M := Int.toNat_natCast _
 have hbl : ∀ k, 0 < k → k < F.length → belowL (F.getD (k - 1) []) (F.getD k []) = true := fun k h1 h2 => by (rw [hF] at h2 ⊢; have h3 := take_pair (m := MN) (i := k - 1) hord (by omega); rwa [show k - 1 + 1 = k by omega] at h3)
 refine fn_intro0 Try.func9 rfl Try.ntmps9 (Nat.le_of_ble_eq_true rfl) (fun s0 a0 hle F0 ok0 hargs => ?_)
 have p0 : At (Ty.lst Ty.int raw) s0 a0 (.tmp 0) := by have e := hargs 0 _ rfl; show Ty.has _ _ _; rw [e]; exact Ty.up _ hle hv0
 have b1 := sl_le p0
 have p1 : At (Ty.int n) s0 a0 (.tmp 1) := by have e := hargs 1 _ rfl; show Ty.has _ _ _; rw [e]; exact Ty.up _ hle hv1
 have p2 : At (Ty.int changes) s0 a0 (.tmp 2) := by have e := hargs 2 _ rfl; show Ty.has _ _ _; rw [e]; exact Ty.up _ hle hv2
 have p3 : At (Ty.int calls) s0 a0 (.tmp 3) := by have e := hargs 3 _ rfl; show Ty.has _ _ _; rw [e]; exact Ty.up _ hle hv3
 have p4 : At (Ty.int leads) s0 a0 (.tmp 4) := by have e := hargs 4 _ rfl; show Ty.has _ _ _; rw [e]; exact Ty.up _ hle hv4
 have p5 : At (Ty.int many) s0 a0 (.tmp 5) := by have e := hargs 5 _ rfl; show Ty.has _ _ _; rw [e]; exact Ty.up _ hle hv5
 have p6 : At (Ty.lst Ty.int guess) s0 a0 (.tmp 6) := by have e := hargs 6 _ rfl; show Ty.has _ _ _; rw [e]; exact Ty.up _ hle hv6
 have b2 := sl_le p6
 clear hargs
 refine wp_seq ?_
 refine reg (a := a0) (σ := s0) rfl (fun i_ => List.getD [(Ty.pr (Ty.bool false))] i_ Pr.any) ok0 rfl ⟨?_, trivial⟩ ?_
 · intro ax tx hs okx sm
   exact run_plain rfl (y_assign rfl)
 intro a1 s1 D1
 have ok1 := D1.ok
 have F1 := F0.step0 D1.stp
 have q1 := D1.kt p0 rfl
 have q2 := D1.kt p1 rfl
 have q3 := D1.kt p2 rfl
 have q4 := D1.kt p3 rfl
 have q5 := D1.kt p4 rfl
 have q6 := D1.kt p5 rfl
 have q7 := D1.kt p6 rfl
 clear D1
 refine tn ?_
 refine wp_seq ?_
 refine wp_seq ?_
 refine reg (a := a1) (σ := s1) rfl (fun i_ => List.getD [(Ty.pr (Ty.lst Ty.int raw)), (Ty.pr (Ty.nat (List.length raw))), (Ty.pr (Ty.lst Ty.int guess)), (Ty.pr (Ty.nat (List.length guess))), (Ty.pr (Ty.nat ((List.length raw) + (List.length guess)))), (Ty.pr (Ty.bool (decide ((256 : Int) < ((((List.length raw) + (List.length guess)) : Nat) : Int)))))] i_ Pr.any) ok1 rfl ⟨?_, ?_, ?_, ?_, ?_, ?_, trivial⟩ ?_
 · intro ax tx hs okx sm
   exact run_plain rfl (y_move (kp (sm 0 rfl) hs q1))
 · intro ax tx hs okx sm d0
   have e0 := ed d0 rfl rfl rfl
   exact run_plain rfl (y_len Try.underlying23 e0)
 · intro ax tx hs okx sm
   exact run_plain rfl (y_move (kp (sm 6 rfl) hs q7))
 · intro ax tx hs okx sm d0
   have e2 := ed d0 rfl rfl rfl
   exact run_plain rfl (y_len Try.underlying23 e2)
 · intro ax tx hs okx sm d0 d1
   have e1 := ed d0 rfl rfl rfl
   have e3 := ed d1 rfl rfl rfl
   exact run_plain rfl ((y_add e1 e3 (w64 (by omega) (by omega))).mono (fun τ _ h => cvi (σ := τ) (by first | omega | exact (Int.natCast_mul _ _).symm) h))
 · intro ax tx hs okx sm d0
   have e4 := ed d0 rfl rfl rfl
   exact run_plain rfl (y_gtr e4 rfl)
 intro a2 s2 D2
 have ok2 := D2.ok
 have F2 := F1.step0 D2.stp
 have q8 := D2.kt q1 rfl
 have q9 := D2.kt q2 rfl
 have q10 := D2.kt q3 rfl
 have q11 := D2.kt q4 rfl
 have q12 := D2.kt q5 rfl
 have q13 := D2.kt q6 rfl
 have q14 := D2.kt q7 rfl
 have q15 : At (Ty.bool (decide ((256 : Int) < ((((List.length raw) + (List.length guess)) : Nat) : Int)))) s2 a2 (.tmp 34) := D2.done 5
 clear D2
 refine tn ?_
 refine cond_p (p := ((256 : Int) < ((((List.length raw) + (List.length guess)) : Nat) : Int))) q15 (fun c1 => ?_) (fun c1 => ?_)
 ·
  refine wp_seq ?_
  refine reg (a := a2) (σ := s2) rfl (fun i_ => List.getD [(Ty.pr (Ty.bool true))] i_ Pr.any) ok2 rfl ⟨?_, trivial⟩ ?_
  · intro ax tx hs okx sm
    exact run_plain rfl (y_assign rfl)
  intro a3 s3 D3
  have ok3 := D3.ok
  have F3 := F2.step0 D3.stp
  have q16 : At (Ty.bool true) s3 a3 (.tmp 14) := D3.done 0
  clear D3
  refine tn ?_
  refine wp_ret ?_
  refine tr ?_
  exact retL1 rfl ok3 F3 q16
 ·
  refine wp_skip ?_
  refine tn ?_
  refine wp_seq ?_
  refine wp_seq ?_
  refine reg (a := a2) (σ := s2) rfl (fun i_ => List.getD [(Ty.pr (Ty.agg [(Ty.val (Value.string bHunt)), (Ty.int (4 : Int)), (Ty.lst Ty.ints lHunt)])), (Ty.pr (Ty.lstc 2 callC (cOf [] 4 (1 - 1)))), (Ty.pr (Ty.tup2 (Ty.lst Ty.ints [[0, 0, 0, 0]]) (Ty.int (0 : Int)))), (Ty.pr (Ty.tup2 (Ty.lst Ty.ints [[0, 0, 0, 0]]) (Ty.int (0 : Int)))), (Ty.pr (Ty.lst Ty.ints [[0, 0, 0, 0]])), (Ty.pr (Ty.int (0 : Int))), (Ty.pr (Ty.lst Ty.ints [[0, 0, 0, 0]])), (Ty.pr (Ty.int (0 : Int)))] i_ Pr.any) ok2 rfl ⟨?_, ?_, ?_, ?_, ?_, ?_, ?_, ?_, trivial⟩ ?_
  · intro ax tx hs okx sm
    exact run_plain rfl (y_call #[] Try.func38 rfl rfl (by simp only [List.map_toArray, List.map_cons, List.map_nil]) (hunt_fn  _   ))
  · intro ax tx hs okx sm d0
    exact run_plain rfl ((y_call #[ax.eval ((Operand.const (Value.slice none 0 0))), ax.eval ((Operand.const (Value.int IntKind.i64 4))), ax.eval ((Operand.const (Value.int IntKind.i64 1)))] Try.func20 rfl rfl (by simp only [List.map_toArray, List.map_cons, List.map_nil]) (callsOf_fn (([] : List Int)) (4) (1) _ _ _ _ (nil_lst (σ := tx) rfl rfl) (cvi (σ := tx) (by first | omega | exact hr | assumption) rfl) (cvi (σ := tx) (by first | omega | exact hr | assumption) rfl) (by first | omega | exact hr | assumption) (by first | omega | exact hr | assumption) (by first | omega | exact hr | assumption))).mono (fun τ _ h => cvt (σ := τ) (T := (Ty.lstc 2 callC (cOf (([] : List Int)) (4) ((1) - 1)))) (U := (Ty.lstc 2 callC (cOf [] 4 (1 - 1)))) (by rfl) h))
  · intro ax tx hs okx sm d0 d1 d2
    have e0 := ed d0 rfl rfl rfl
    have e1 := ed d1 rfl rfl rfl
    exact run_plain rfl ((y_call #[ax.eval (.tmp 36), ax.eval (.tmp 37), ax.eval ((Operand.const (Value.int IntKind.i64 4))), ax.eval ((Operand.const (Value.int IntKind.i64 9)))] Try.func15 rfl rfl (by simp only [List.map_toArray, List.map_cons, List.map_nil]) (touches_fn (bHunt) ((4 : Int)) (lHunt) ((cOf [] 4 (1 - 1))) ((4 : Int)) ((9 : Int)) _ _ _ _ _ e0 e1 (cvi (σ := tx) (by first | omega | assumption) rfl) (cvi (σ := tx) (by first | omega | assumption) rfl) (by first | omega | assumption) (by first | omega | assumption))).mono (fun τ _ h => cvt (σ := τ) (T := (Ty.tup2 (Ty.lst Ty.ints (if qMay (bHunt) ((4 : Int)) (lHunt) ((cOf [] 4 (1 - 1))) ((4 : Int)) ((9 : Int)) = 0 then qFnd ((4 : Int)) (lHunt) ((cOf [] 4 (1 - 1))) ((4 : Int)) ((9 : Int)) else [])) (Ty.int (qMay (bHunt) ((4 : Int)) (lHunt) ((cOf [] 4 (1 - 1))) ((4 : Int)) ((9 : Int)))))) (U := (Ty.tup2 (Ty.lst Ty.ints [[0, 0, 0, 0]]) (Ty.int (0 : Int)))) (by rw [hunt_q, if_pos rfl, hunt_f]) h))
  · intro ax tx hs okx sm d0
    have e2 := ed d0 rfl rfl rfl
    exact run_plain rfl (y_move e2)
  · intro ax tx hs okx sm d0
    have e3 := ed d0 rfl rfl rfl
    exact run_plain rfl (y_ext2_0 e3)
  · intro ax tx hs okx sm d0 d1
    have e3 := ed d0 rfl rfl rfl
    exact run_plain rfl (y_ext2_1 e3)
  · intro ax tx hs okx sm d0 d1 d2 d3 d4 d5 d6 d7
    have e4 := ed d0 rfl rfl rfl
    exact run_plain rfl (y_assign e4)
  · intro ax tx hs okx sm d0 d1 d2 d3 d4 d5 d6 d7 d8
    have e5 := ed d0 rfl rfl rfl
    exact run_plain rfl (y_assign e5)
  intro a4 s4 D4
  have ok4 := D4.ok
  have F4 := F2.step0 D4.stp
  have q17 := D4.kt q8 rfl
  have q18 := D4.kt q9 rfl
  have q19 := D4.kt q10 rfl
  have q20 := D4.kt q11 rfl
  have q21 := D4.kt q12 rfl
  have q22 := D4.kt q13 rfl
  have q23 := D4.kt q14 rfl
  have q24 : At (Ty.lst Ty.ints [[0, 0, 0, 0]]) s4 a4 (.tmp 15) := D4.done 6
  have q25 : At (Ty.int (0 : Int)) s4 a4 (.tmp 16) := D4.done 7
  clear D4
  refine tn ?_
  refine wp_seq ?_
  refine reg (a := a4) (σ := s4) rfl (fun i_ => List.getD [(Ty.pr (Ty.int (0 : Int))), (Ty.pr (Ty.bool false)), (Ty.pr (Ty.bool false)), (Ty.pr (Ty.grd (false = false) (Ty.lst Ty.ints [[0, 0, 0, 0]]))), (Ty.pr (Ty.grd (false = false) (Ty.nat (List.length [[0, 0, 0, 0]])))), (Ty.pr (Ty.grd (false = false) (Ty.bool (decide ((((List.length [[0, 0, 0, 0]]) : Nat) : Int) ≠ (1 : Int)))))), (Ty.pr (Ty.bool (false || (decide ((((List.length [[0, 0, 0, 0]]) : Nat) : Int) ≠ (1 : Int)))))), (Ty.pr (Ty.bool (false || (decide ((((List.length [[0, 0, 0, 0]]) : Nat) : Int) ≠ (1 : Int)))))), (Ty.pr (Ty.grd ((false || (decide ((((List.length [[0, 0, 0, 0]]) : Nat) : Int) ≠ (1 : Int)))) = false) (Ty.lst Ty.ints [[0, 0, 0, 0]]))), (Ty.pr (Ty.grd ((false || (decide ((((List.length [[0, 0, 0, 0]]) : Nat) : Int) ≠ (1 : Int)))) = false) (Ty.ref [(Ty.lst Ty.int ([[0, 0, 0, 0]].getD ((0 : Int)).toNat []))]))), (Ty.pr (Ty.grd ((false || (decide ((((List.length [[0, 0, 0, 0]]) : Nat) : Int) ≠ (1 : Int)))) = false) (Ty.lst Ty.int ([[0, 0, 0, 0]].getD ((0 : Int)).toNat [])))), (Ty.pr (Ty.grd ((false || (decide ((((List.length [[0, 0, 0, 0]]) : Nat) : Int) ≠ (1 : Int)))) = false) (Ty.nat (List.length ([[0, 0, 0, 0]].getD ((0 : Int)).toNat []))))), (Ty.pr (Ty.grd ((false || (decide ((((List.length [[0, 0, 0, 0]]) : Nat) : Int) ≠ (1 : Int)))) = false) (Ty.bool (decide ((((List.length ([[0, 0, 0, 0]].getD ((0 : Int)).toNat [])) : Nat) : Int) ≠ (4 : Int)))))), (Ty.pr (Ty.bool ((false || (decide ((((List.length [[0, 0, 0, 0]]) : Nat) : Int) ≠ (1 : Int)))) || (decide ((((List.length ([[0, 0, 0, 0]].getD ((0 : Int)).toNat [])) : Nat) : Int) ≠ (4 : Int))))))] i_ Pr.any) ok4 rfl ⟨?_, ?_, ?_, ?_, ?_, ?_, ?_, ?_, ?_, ?_, ?_, ?_, ?_, ?_, trivial⟩ ?_
  · intro ax tx hs okx sm
    exact run_plain rfl (y_move (kp (sm 16 rfl) hs q25))
  · intro ax tx hs okx sm d0
    have e0 := ed d0 rfl rfl rfl
    exact run_plain rfl ((y_neq e0 rfl).mono (fun τ _ h => cvb (σ := τ) (by decide) h))
  · intro ax tx hs okx sm d0
    have e1 := ed d0 rfl rfl rfl
    exact run_plain rfl (y_move e1)
  · intro ax tx hs okx sm d0
    have e2 := ed d0 rfl rfl rfl
    refine run_guard (T := (Ty.lst Ty.ints [[0, 0, 0, 0]])) okx rfl rfl (by decide) e2 (fun hg => ?_)
    exact y_move (kp (sm 15 rfl) hs q24)
  · intro ax tx hs okx sm d0 d1
    have e3 := ed d0 rfl rfl rfl
    have e2 := ed d1 rfl rfl rfl
    refine run_guard (T := (Ty.nat (List.length [[0, 0, 0, 0]]))) okx rfl rfl (by decide) e2 (fun hg => ?_)
    exact y_len Try.underlying29 (e3.1 hg)
  · intro ax tx hs okx sm d0 d1
    have e4 := ed d0 rfl rfl rfl
    have e2 := ed d1 rfl rfl rfl
    refine run_guard (T := (Ty.bool (decide ((((List.length [[0, 0, 0, 0]]) : Nat) : Int) ≠ (1 : Int))))) okx rfl rfl (by decide) e2 (fun hg => ?_)
    exact y_neq (e4.1 hg) rfl
  · intro ax tx hs okx sm d0 d1
    have e2 := ed d0 rfl rfl rfl
    have e5 := ed d1 rfl rfl rfl
    exact run_plain rfl (y_pick_or e2 rfl e5)
  · intro ax tx hs okx sm d0 d1
    have e6 := ed d0 rfl rfl rfl
    exact run_plain rfl (y_move e6)
  · intro ax tx hs okx sm d0
    have e7 := ed d0 rfl rfl rfl
    refine run_guard (T := (Ty.lst Ty.ints [[0, 0, 0, 0]])) okx rfl rfl (by decide) e7 (fun hg => ?_)
    obtain ⟨d1, d2⟩ := Bool.or_eq_false_iff.mp hg
    have d2 := of_decide_eq_false d2
    exact y_move (kp (sm 15 rfl) hs q24)
  · intro ax tx hs okx sm d0 d1
    have e8 := ed d0 rfl rfl rfl
    have e7 := ed d1 rfl rfl rfl
    refine run_guard (T := (Ty.ref [(Ty.lst Ty.int ([[0, 0, 0, 0]].getD ((0 : Int)).toNat []))])) okx rfl rfl (by decide) e7 (fun hg => ?_)
    obtain ⟨d3, d4⟩ := Bool.or_eq_false_iff.mp hg
    have d4 := of_decide_eq_false d4
    exact y_index1 Try.underlying29 Try.inf23 (e8.1 hg) rfl (by omega) (lst_get Ty.ints [[0, 0, 0, 0]] [] ((0 : Int)).toNat (by omega))
  · intro ax tx hs okx sm d0 d1
    have e9 := ed d0 rfl rfl rfl
    have e7 := ed d1 rfl rfl rfl
    refine run_guard (T := (Ty.lst Ty.int ([[0, 0, 0, 0]].getD ((0 : Int)).toNat []))) okx rfl rfl (by decide) e7 (fun hg => ?_)
    obtain ⟨d5, d6⟩ := Bool.or_eq_false_iff.mp hg
    have d6 := of_decide_eq_false d6
    exact y_load Try.underlying23 rfl (e9.1 hg) rfl
  · intro ax tx hs okx sm d0 d1
    have e10 := ed d0 rfl rfl rfl
    have e7 := ed d1 rfl rfl rfl
    refine run_guard (T := (Ty.nat (List.length ([[0, 0, 0, 0]].getD ((0 : Int)).toNat [])))) okx rfl rfl (by decide) e7 (fun hg => ?_)
    obtain ⟨d7, d8⟩ := Bool.or_eq_false_iff.mp hg
    have d8 := of_decide_eq_false d8
    exact y_len Try.underlying23 (e10.1 hg)
  · intro ax tx hs okx sm d0 d1
    have e11 := ed d0 rfl rfl rfl
    have e7 := ed d1 rfl rfl rfl
    refine run_guard (T := (Ty.bool (decide ((((List.length ([[0, 0, 0, 0]].getD ((0 : Int)).toNat [])) : Nat) : Int) ≠ (4 : Int))))) okx rfl rfl (by decide) e7 (fun hg => ?_)
    obtain ⟨d9, d10⟩ := Bool.or_eq_false_iff.mp hg
    have d10 := of_decide_eq_false d10
    exact y_neq (e11.1 hg) rfl
  · intro ax tx hs okx sm d0 d1
    have e7 := ed d0 rfl rfl rfl
    have e12 := ed d1 rfl rfl rfl
    exact run_plain rfl (y_pick_or e7 rfl e12)
  intro a5 s5 D5
  have ok5 := D5.ok
  have F5 := F4.step0 D5.stp
  have q26 := D5.kt q17 rfl
  have q27 := D5.kt q18 rfl
  have q28 := D5.kt q19 rfl
  have q29 := D5.kt q20 rfl
  have q30 := D5.kt q21 rfl
  have q31 := D5.kt q22 rfl
  have q32 := D5.kt q23 rfl
  have q33 : At (Ty.bool ((false || (decide ((((List.length [[0, 0, 0, 0]]) : Nat) : Int) ≠ (1 : Int)))) || (decide ((((List.length ([[0, 0, 0, 0]].getD ((0 : Int)).toNat [])) : Nat) : Int) ≠ (4 : Int))))) s5 a5 (.tmp 54) := D5.done 13
  clear D5
  refine tn ?_
  refine cond_t q33 (fun c2 => ?_) (fun c2 => ?_)
  ·
   exfalso
   simp at c2
  ·
   obtain ⟨d11, d12⟩ := Bool.or_eq_false_iff.mp c2
   obtain ⟨d13, d14⟩ := Bool.or_eq_false_iff.mp d11
   replace d14 := of_decide_eq_false d14
   replace d12 := of_decide_eq_false d12
   refine wp_skip ?_
   refine tn ?_
   refine wp_seq ?_
   refine reg (a := a5) (σ := s5) rfl (fun i_ => List.getD [(Ty.pr (Ty.int n)), (Ty.pr (Ty.nat (pick (n) (4)))), (Ty.pr (Ty.nat (2 + (pick (n) (4))))), (Ty.pr (Ty.nat (2 + (pick (n) (4)))))] i_ Pr.any) ok5 rfl ⟨?_, ?_, ?_, ?_, trivial⟩ ?_
   · intro ax tx hs okx sm
     exact run_plain rfl (y_move (kp (sm 1 rfl) hs q27))
   · intro ax tx hs okx sm d0
     have e0 := ed d0 rfl rfl rfl
     exact run_plain rfl (y_call #[ax.eval (.tmp 55), ax.eval ((Operand.const (Value.int IntKind.i64 4)))] Try.func18 rfl rfl (by simp only [List.map_toArray, List.map_cons, List.map_nil]) (pick_fn (n) (4) _ _ _ (cvi (σ := tx) (by omega) e0) (cvi (σ := tx) (by omega) rfl) (by omega) (by omega)))
   · intro ax tx hs okx sm d0
     have e1 := ed d0 rfl rfl rfl
     exact run_plain rfl ((y_add rfl e1 (w64 (by omega) (by omega))).mono (fun τ _ h => cvi (σ := τ) (by first | omega | exact (Int.natCast_mul _ _).symm) h))
   · intro ax tx hs okx sm d0 d1 d2 d3 d4
     have e2 := ed d0 rfl rfl rfl
     exact run_plain rfl (y_assign e2)
   intro a6 s6 D6
   have ok6 := D6.ok
   have F6 := F5.step0 D6.stp
   have q34 := D6.kt q26 rfl
   have q35 := D6.kt q28 rfl
   have q36 := D6.kt q29 rfl
   have q37 := D6.kt q30 rfl
   have q38 := D6.kt q31 rfl
   have q39 := D6.kt q32 rfl
   have q40 : At (Ty.nat (2 + (pick (n) (4)))) s6 a6 (.tmp 1) := D6.done 3
   clear D6
   have q41 : At (Ty.nat M) s6 a6 (.tmp 1) := (cvi (by (rw [hM])) q40)
   refine tn ?_
   refine wp_seq ?_
   refine reg (a := a6) (σ := s6) rfl (fun i_ => List.getD [(Ty.pr (Ty.int calls)), (Ty.pr (Ty.nat (pick (calls) (3)))), (Ty.pr (Ty.nat (1 + (pick (calls) (3))))), (Ty.pr (Ty.nat (1 + (pick (calls) (3)))))] i_ Pr.any) ok6 rfl ⟨?_, ?_, ?_, ?_, trivial⟩ ?_
   · intro ax tx hs okx sm
     exact run_plain rfl (y_move (kp (sm 3 rfl) hs q36))
   · intro ax tx hs okx sm d0
     have e0 := ed d0 rfl rfl rfl
     exact run_plain rfl (y_call #[ax.eval (.tmp 58), ax.eval ((Operand.const (Value.int IntKind.i64 3)))] Try.func18 rfl rfl (by simp only [List.map_toArray, List.map_cons, List.map_nil]) (pick_fn (calls) (3) _ _ _ (cvi (σ := tx) (by omega) e0) (cvi (σ := tx) (by omega) rfl) (by omega) (by omega)))
   · intro ax tx hs okx sm d0
     have e1 := ed d0 rfl rfl rfl
     exact run_plain rfl ((y_add rfl e1 (w64 (by omega) (by omega))).mono (fun τ _ h => cvi (σ := τ) (by first | omega | exact (Int.natCast_mul _ _).symm) h))
   · intro ax tx hs okx sm d0 d1 d2 d3 d4
     have e2 := ed d0 rfl rfl rfl
     exact run_plain rfl (y_assign e2)
   intro a7 s7 D7
   have ok7 := D7.ok
   have F7 := F6.step0 D7.stp
   have q42 := D7.kt q34 rfl
   have q43 := D7.kt q35 rfl
   have q44 := D7.kt q37 rfl
   have q45 := D7.kt q38 rfl
   have q46 := D7.kt q39 rfl
   have q47 := D7.kt q41 rfl
   have q48 : At (Ty.nat (1 + (pick (calls) (3)))) s7 a7 (.tmp 17) := D7.done 3
   clear D7
   have q49 : At (Ty.nat C) s7 a7 (.tmp 17) := (cvi (by (rw [hC])) q48)
   refine tn ?_
   refine wp_seq ?_
   refine reg (a := a7) (σ := s7) rfl (fun i_ => List.getD [(Ty.pr (Ty.int leads)), (Ty.pr (Ty.nat (pick (leads) (6)))), (Ty.pr (Ty.nat (1 + (pick (leads) (6))))), (Ty.pr (Ty.nat (1 + (pick (leads) (6)))))] i_ Pr.any) ok7 rfl ⟨?_, ?_, ?_, ?_, trivial⟩ ?_
   · intro ax tx hs okx sm
     exact run_plain rfl (y_move (kp (sm 4 rfl) hs q44))
   · intro ax tx hs okx sm d0
     have e0 := ed d0 rfl rfl rfl
     exact run_plain rfl (y_call #[ax.eval (.tmp 61), ax.eval ((Operand.const (Value.int IntKind.i64 6)))] Try.func18 rfl rfl (by simp only [List.map_toArray, List.map_cons, List.map_nil]) (pick_fn (leads) (6) _ _ _ (cvi (σ := tx) (by omega) e0) (cvi (σ := tx) (by omega) rfl) (by omega) (by omega)))
   · intro ax tx hs okx sm d0
     have e1 := ed d0 rfl rfl rfl
     exact run_plain rfl ((y_add rfl e1 (w64 (by omega) (by omega))).mono (fun τ _ h => cvi (σ := τ) (by first | omega | exact (Int.natCast_mul _ _).symm) h))
   · intro ax tx hs okx sm d0 d1 d2 d3 d4
     have e2 := ed d0 rfl rfl rfl
     exact run_plain rfl (y_assign e2)
   intro a8 s8 D8
   have ok8 := D8.ok
   have F8 := F7.step0 D8.stp
   have q50 := D8.kt q42 rfl
   have q51 := D8.kt q43 rfl
   have q52 := D8.kt q45 rfl
   have q53 := D8.kt q46 rfl
   have q54 := D8.kt q47 rfl
   have q55 := D8.kt q49 rfl
   have q56 : At (Ty.nat (1 + (pick (leads) (6)))) s8 a8 (.tmp 4) := D8.done 3
   clear D8
   have q57 : At (Ty.nat LD) s8 a8 (.tmp 4) := (cvi (by (rw [hLD])) q56)
   refine tn ?_
   refine wp_seq ?_
   refine reg (a := a8) (σ := s8) rfl (fun i_ => List.getD [(Ty.pr (Ty.int many)), (Ty.pr (Ty.nat (pick (many) (50)))), (Ty.pr (Ty.nat (1 + (pick (many) (50))))), (Ty.pr (Ty.nat (1 + (pick (many) (50)))))] i_ Pr.any) ok8 rfl ⟨?_, ?_, ?_, ?_, trivial⟩ ?_
   · intro ax tx hs okx sm
     exact run_plain rfl (y_move (kp (sm 5 rfl) hs q52))
   · intro ax tx hs okx sm d0
     have e0 := ed d0 rfl rfl rfl
     exact run_plain rfl (y_call #[ax.eval (.tmp 64), ax.eval ((Operand.const (Value.int IntKind.i64 50)))] Try.func18 rfl rfl (by simp only [List.map_toArray, List.map_cons, List.map_nil]) (pick_fn (many) (50) _ _ _ (cvi (σ := tx) (by omega) e0) (cvi (σ := tx) (by omega) rfl) (by omega) (by omega)))
   · intro ax tx hs okx sm d0
     have e1 := ed d0 rfl rfl rfl
     exact run_plain rfl ((y_add rfl e1 (w64 (by omega) (by omega))).mono (fun τ _ h => cvi (σ := τ) (by first | omega | exact (Int.natCast_mul _ _).symm) h))
   · intro ax tx hs okx sm d0 d1 d2 d3 d4
     have e2 := ed d0 rfl rfl rfl
     exact run_plain rfl (y_assign e2)
   intro a9 s9 D9
   have ok9 := D9.ok
   have F9 := F8.step0 D9.stp
   have q58 := D9.kt q50 rfl
   have q59 := D9.kt q51 rfl
   have q60 := D9.kt q53 rfl
   have q61 := D9.kt q54 rfl
   have q62 := D9.kt q55 rfl
   have q63 := D9.kt q57 rfl
   have q64 : At (Ty.nat (1 + (pick (many) (50)))) s9 a9 (.tmp 5) := D9.done 3
   clear D9
   have q65 : At (Ty.nat MN) s9 a9 (.tmp 5) := (cvi (by (rw [hMN])) q64)
   refine tn ?_
   refine wp_seq ?_
   refine reg2 (a := a9) (σ := s9) rfl 7 (fun i_ => List.getD [(Ty.pr (Ty.lst Ty.int raw)), (Ty.pr (Ty.nat M)), (Ty.pr (Ty.int changes)), (Ty.pr (Ty.nat (pick (changes) (8)))), (Ty.pr (Ty.nat (1 + (pick (changes) (8))))), (Ty.pr (Ty.agg [(Ty.val (Value.string (ByteArray.mk #[84, 114, 105, 101, 100]))), (Ty.nat M), (Ty.lst Ty.ints L)])), (Pr.ownp 7 [(Ty.val (Value.string ByteArray.empty)), (Ty.int (0 : Int)), (Ty.val (Value.slice none 0 0))])] i_ Pr.any) ok9 rfl (by decide) rfl ⟨?_, ?_, ?_, ?_, ?_, ?_, ?_, trivial⟩ ?_
   · intro ax tx hs okx sm
     exact run_plain rfl (y_move (kp (sm 0 rfl) hs q58))
   · intro ax tx hs okx sm
     exact run_plain rfl (y_move (kp (sm 1 rfl) hs q61))
   · intro ax tx hs okx sm
     exact run_plain rfl (y_move (kp (sm 2 rfl) hs q59))
   · intro ax tx hs okx sm d0
     have e2 := ed d0 rfl rfl rfl
     exact run_plain rfl (y_call #[ax.eval (.tmp 69), ax.eval ((Operand.const (Value.int IntKind.i64 8)))] Try.func18 rfl rfl (by simp only [List.map_toArray, List.map_cons, List.map_nil]) (pick_fn (changes) (8) _ _ _ (cvi (σ := tx) (by omega) e2) (cvi (σ := tx) (by omega) rfl) (by omega) (by omega)))
   · intro ax tx hs okx sm d0
     have e3 := ed d0 rfl rfl rfl
     exact run_plain rfl ((y_add rfl e3 (w64 (by omega) (by omega))).mono (fun τ _ h => cvi (σ := τ) (by first | omega | exact (Int.natCast_mul _ _).symm) h))
   · intro ax tx hs okx sm d0 d1 d2 d3
     have e0 := ed d0 rfl rfl rfl
     have e1 := ed d1 rfl rfl rfl
     have e4 := ed d2 rfl rfl rfl
     exact run_plain rfl ((y_call #[ax.eval (.tmp 67), ax.eval (.tmp 68), ax.eval (.tmp 71)] Try.func19 rfl rfl (by simp only [List.map_toArray, List.map_cons, List.map_nil]) (methodOf_fn (raw) (M) ((1 + (pick (changes) (8)))) _ _ _ _ e0 (cvi (σ := tx) (by first | omega | exact hr | assumption) e1) (cvi (σ := tx) (by first | omega | exact hr | assumption) e4) (by first | omega | exact hr | assumption) (by first | omega | exact hr | assumption) (by first | omega | exact hr | assumption))).mono (fun τ _ h => cvt (σ := τ) (T := (Ty.agg [(Ty.val (Value.string (ByteArray.mk #[84, 114, 105, 101, 100]))), (Ty.nat (M)), (Ty.lst Ty.ints (changesOf raw 3 (M) ((1 + (pick (changes) (8))))))])) (U := (Ty.agg [(Ty.val (Value.string (ByteArray.mk #[84, 114, 105, 101, 100]))), (Ty.nat M), (Ty.lst Ty.ints L)])) (by rw [hL, hK]) h))
   · intro ax tx hs okx sm
     exact run_plain rfl (y_alloc Try.inf31 rfl (alloc_vals (vs := [.string ByteArray.empty, .int .i64 0, .slice none 0 0]) rfl))
   intro a10 s10 D10
   have ok10 := D10.ok
   have F10 := F9.step0 D10.stp
   have q66 := D10.kt q58 rfl
   have q67 := D10.kt q60 rfl
   have q68 := D10.kt q61 rfl
   have q69 := D10.kt q62 rfl
   have q70 := D10.kt q63 rfl
   have q71 := D10.kt q65 rfl
   have q72 : At (Ty.agg [(Ty.val (Value.string (ByteArray.mk #[84, 114, 105, 101, 100]))), (Ty.nat M), (Ty.lst Ty.ints L)]) s10 a10 (.tmp 72) := D10.done 5 (by decide)
   obtain ⟨x1, hx1⟩ : ∃ x, a10.eval (.tmp 18) = x := ⟨_, rfl⟩
   have q73 : At (Ty.val x1) s10 a10 (.tmp 18) := hx1
   have o1 : OwnP s10 7 x1 [(Ty.val (Value.string ByteArray.empty)), (Ty.int (0 : Int)), (Ty.val (Value.slice none 0 0))] := al2 (R := (Pr.ownp 7 [(Ty.val (Value.string ByteArray.empty)), (Ty.int (0 : Int)), (Ty.val (Value.slice none 0 0))])) hx1 (D10.done 6 (by decide))
   clear D10
   refine tailL0 (L := [7]) (R := (fun _ τ => OwnP τ 7 x1 [(Ty.val (Value.string (ByteArray.mk #[84, 114, 105, 101, 100]))), (Ty.nat M), (Ty.lst Ty.ints L)])) rfl rfl (YldM.toL (m_storeagg Try.inf31 (by decide) o1 q73 rfl q72 (by intro U hU; simp only [List.mem_cons, List.not_mem_nil, or_false] at hU; rcases hU with rfl | rfl | rfl <;> first | exact one_val rfl | exact one_sl | exact one_ref))) (fun v1 s11 hs1 r1 => ?_)
   have F11 := F10.stepL hs1 (by decide)
   have q74 := kpL hs1 (by decide) rfl q66
   have q75 := kpL hs1 (by decide) rfl q67
   have q76 := kpL hs1 (by decide) rfl q68
   have q77 := kpL hs1 (by decide) rfl q69
   have q78 := kpL hs1 (by decide) rfl q70
   have q79 := kpL hs1 (by decide) rfl q71
   have q80 := kpL hs1 (by decide) rfl q73
   have o2 : OwnP s11 7 x1 [(Ty.val (Value.string (ByteArray.mk #[84, 114, 105, 101, 100]))), (Ty.nat M), (Ty.lst Ty.ints L)] := r1
   clear r1
   refine wpList_nil ?_
   refine tn ?_
   refine wp_seq ?_
   refine reg (a := a10) (σ := s11) rfl (fun i_ => List.getD [(Ty.pr (Ty.lst Ty.int raw)), (Ty.pr (Ty.nat M)), (Ty.pr (Ty.nat C)), (Ty.pr (Ty.lstc 2 callC CS)), (Ty.pr (Ty.lstc 2 callC CS))] i_ Pr.any) ok10 rfl ⟨?_, ?_, ?_, ?_, ?_, trivial⟩ ?_
   · intro ax tx hs okx sm
     exact run_plain rfl (y_move (kp (sm 0 rfl) hs q74))
   · intro ax tx hs okx sm
     exact run_plain rfl (y_move (kp (sm 1 rfl) hs q76))
   · intro ax tx hs okx sm
     exact run_plain rfl (y_move (kp (sm 17 rfl) hs q77))
   · intro ax tx hs okx sm d0 d1 d2
     have e0 := ed d0 rfl rfl rfl
     have e1 := ed d1 rfl rfl rfl
     have e2 := ed d2 rfl rfl rfl
     exact run_plain rfl ((y_call #[ax.eval (.tmp 73), ax.eval (.tmp 74), ax.eval (.tmp 75)] Try.func20 rfl rfl (by simp only [List.map_toArray, List.map_cons, List.map_nil]) (callsOf_fn (raw) (M) (C) _ _ _ _ e0 (cvi (σ := tx) (by first | omega | exact hr | assumption) e1) (cvi (σ := tx) (by first | omega | exact hr | assumption) e2) (by first | omega | exact hr | assumption) (by first | omega | exact hr | assumption) (by first | omega | exact hr | assumption))).mono (fun τ _ h => cvt (σ := τ) (T := (Ty.lstc 2 callC (cOf raw (M) ((C) - 1)))) (U := (Ty.lstc 2 callC CS)) (by rw [hCS]) h))
   · intro ax tx hs okx sm d0 d1 d2 d3 d4 d5
     have e3 := ed d0 rfl rfl rfl
     exact run_plain rfl (y_assign e3)
   intro a11 s12 D11
   have ok11 := D11.ok
   have F12 := F11.step0 D11.stp
   have q82 := D11.kt q75 rfl
   have q83 := D11.kt q77 rfl
   have q84 := D11.kt q78 rfl
   have q85 := D11.kt q79 rfl
   have q86 := D11.kt q80 rfl
   have o3 := OwnP.k0 o2 D11.stp
   have q87 : At (Ty.lstc 2 callC CS) s12 a11 (.tmp 19) := D11.done 4
   clear D11
   refine tn ?_
   refine wp_seq ?_
   refine reg (a := a11) (σ := s12) rfl (fun i_ => List.getD [(Ty.pr (Ty.agg [(Ty.val (Value.string (ByteArray.mk #[84, 114, 105, 101, 100]))), (Ty.nat M), (Ty.lst Ty.ints L)])), (Ty.pr (Ty.lstc 2 callC CS)), (Ty.pr (Ty.nat LD)), (Ty.pr (Ty.nat MN)), (Ty.pr (Ty.tup2 (Ty.lst Ty.ints F) (Ty.int (0 : Int)))), (Ty.pr (Ty.tup2 (Ty.lst Ty.ints F) (Ty.int (0 : Int)))), (Ty.pr (Ty.lst Ty.ints F)), (Ty.pr (Ty.int (0 : Int))), (Ty.pr (Ty.lst Ty.ints F)), (Ty.pr (Ty.int (0 : Int)))] i_ Pr.any) ok11 rfl ⟨?_, ?_, ?_, ?_, ?_, ?_, ?_, ?_, ?_, ?_, trivial⟩ ?_
   · intro ax tx hs okx sm
     exact run_plain rfl (ownp_loadagg Try.underlying31 Try.inf31 (OwnP.k0 o3 hs) (kp (sm 18 rfl) hs q86))
   · intro ax tx hs okx sm
     exact run_plain rfl (y_move (kp (sm 19 rfl) hs q87))
   · intro ax tx hs okx sm
     exact run_plain rfl (y_move (kp (sm 4 rfl) hs q84))
   · intro ax tx hs okx sm
     exact run_plain rfl (y_move (kp (sm 5 rfl) hs q85))
   · intro ax tx hs okx sm d0 d1 d2 d3
     have e0 := ed d0 rfl rfl rfl
     have e1 := ed d1 rfl rfl rfl
     have e2 := ed d2 rfl rfl rfl
     have e3 := ed d3 rfl rfl rfl
     exact run_plain rfl ((y_call #[ax.eval (.tmp 78), ax.eval (.tmp 79), ax.eval (.tmp 80), ax.eval (.tmp 81)] Try.func15 rfl rfl (by simp only [List.map_toArray, List.map_cons, List.map_nil]) (touches_fn ((ByteArray.mk #[84, 114, 105, 101, 100])) (((M : Nat) : Int)) (L) (CS) (((LD : Nat) : Int)) (((MN : Nat) : Int)) _ _ _ _ _ e0 e1 (cvi (σ := tx) (by first | omega | assumption) e2) (cvi (σ := tx) (by first | omega | assumption) e3) (by first | omega | assumption) (by first | omega | assumption))).mono (fun τ _ h => cvt (σ := τ) (T := (Ty.tup2 (Ty.lst Ty.ints (if qMay ((ByteArray.mk #[84, 114, 105, 101, 100])) (((M : Nat) : Int)) (L) (CS) (((LD : Nat) : Int)) (((MN : Nat) : Int)) = 0 then qFnd (((M : Nat) : Int)) (L) (CS) (((LD : Nat) : Int)) (((MN : Nat) : Int)) else [])) (Ty.int (qMay ((ByteArray.mk #[84, 114, 105, 101, 100])) (((M : Nat) : Int)) (L) (CS) (((LD : Nat) : Int)) (((MN : Nat) : Int)))))) (U := (Ty.tup2 (Ty.lst Ty.ints F) (Ty.int (0 : Int)))) (by rw [hq1, if_pos rfl, hq2, hF, hA]) h))
   · intro ax tx hs okx sm d0
     have e4 := ed d0 rfl rfl rfl
     exact run_plain rfl (y_move e4)
   · intro ax tx hs okx sm d0
     have e5 := ed d0 rfl rfl rfl
     exact run_plain rfl (y_ext2_0 e5)
   · intro ax tx hs okx sm d0 d1
     have e5 := ed d0 rfl rfl rfl
     exact run_plain rfl (y_ext2_1 e5)
   · intro ax tx hs okx sm d0 d1 d2 d3 d4 d5 d6 d7 d8 d9
     have e6 := ed d0 rfl rfl rfl
     exact run_plain rfl (y_assign e6)
   · intro ax tx hs okx sm d0 d1 d2 d3 d4 d5 d6 d7 d8 d9 d10
     have e7 := ed d0 rfl rfl rfl
     exact run_plain rfl (y_assign e7)
   intro a12 s13 D12
   have ok12 := D12.ok
   have F13 := F12.step0 D12.stp
   have q88 := D12.kt q82 rfl
   have q89 := D12.kt q83 rfl
   have q90 := D12.kt q84 rfl
   have q91 := D12.kt q85 rfl
   have q92 := D12.kt q86 rfl
   have q93 := D12.kt q87 rfl
   have o4 := OwnP.k0 o3 D12.stp
   have q94 : At (Ty.lst Ty.ints F) s13 a12 (.tmp 20) := D12.done 8
   have q95 : At (Ty.int (0 : Int)) s13 a12 (.tmp 21) := D12.done 9
   clear D12
   refine tn ?_
   refine wp_seq ?_
   refine wp_seq ?_
   refine reg (a := a12) (σ := s13) rfl (fun i_ => List.getD [(Ty.pr (Ty.int (0 : Int))), (Ty.pr (Ty.bool false)), (Ty.pr (Ty.bool false)), (Ty.pr (Ty.grd (false = false) (Ty.lst Ty.ints F))), (Ty.pr (Ty.grd (false = false) (Ty.nat (List.length F)))), (Ty.pr (Ty.grd (false = false) (Ty.nat MN))), (Ty.pr (Ty.grd (false = false) (Ty.bool (decide (((MN : Nat) : Int) < (((List.length F) : Nat) : Int)))))), (Ty.pr (Ty.bool (false || (decide (((MN : Nat) : Int) < (((List.length F) : Nat) : Int))))))] i_ Pr.any) ok12 rfl ⟨?_, ?_, ?_, ?_, ?_, ?_, ?_, ?_, trivial⟩ ?_
   · intro ax tx hs okx sm
     exact run_plain rfl (y_move (kp (sm 21 rfl) hs q95))
   · intro ax tx hs okx sm d0
     have e0 := ed d0 rfl rfl rfl
     exact run_plain rfl ((y_neq e0 rfl).mono (fun τ _ h => cvb (σ := τ) (by decide) h))
   · intro ax tx hs okx sm d0
     have e1 := ed d0 rfl rfl rfl
     exact run_plain rfl (y_move e1)
   · intro ax tx hs okx sm d0
     have e2 := ed d0 rfl rfl rfl
     refine run_guard (T := (Ty.lst Ty.ints F)) okx rfl rfl (by decide) e2 (fun hg => ?_)
     exact y_move (kp (sm 20 rfl) hs q94)
   · intro ax tx hs okx sm d0 d1
     have e3 := ed d0 rfl rfl rfl
     have e2 := ed d1 rfl rfl rfl
     refine run_guard (T := (Ty.nat (List.length F))) okx rfl rfl (by decide) e2 (fun hg => ?_)
     exact y_len Try.underlying29 (e3.1 hg)
   · intro ax tx hs okx sm d0
     have e2 := ed d0 rfl rfl rfl
     refine run_guard (T := (Ty.nat MN)) okx rfl rfl (by decide) e2 (fun hg => ?_)
     exact y_move (kp (sm 5 rfl) hs q91)
   · intro ax tx hs okx sm d0 d1 d2
     have e4 := ed d0 rfl rfl rfl
     have e5 := ed d1 rfl rfl rfl
     have e2 := ed d2 rfl rfl rfl
     refine run_guard (T := (Ty.bool (decide (((MN : Nat) : Int) < (((List.length F) : Nat) : Int))))) okx rfl rfl (by decide) e2 (fun hg => ?_)
     exact y_gtr (e4.1 hg) (e5.1 hg)
   · intro ax tx hs okx sm d0 d1
     have e2 := ed d0 rfl rfl rfl
     have e6 := ed d1 rfl rfl rfl
     exact run_plain rfl (y_pick_or e2 rfl e6)
   intro a13 s14 D13
   have ok13 := D13.ok
   have F14 := F13.step0 D13.stp
   have q96 := D13.kt q88 rfl
   have q97 := D13.kt q89 rfl
   have q98 := D13.kt q90 rfl
   have q99 := D13.kt q91 rfl
   have q100 := D13.kt q92 rfl
   have q101 := D13.kt q93 rfl
   have q102 := D13.kt q94 rfl
   have o5 := OwnP.k0 o4 D13.stp
   have q103 : At (Ty.bool (false || (decide (((MN : Nat) : Int) < (((List.length F) : Nat) : Int))))) s14 a13 (.tmp 92) := D13.done 7
   clear D13
   refine tn ?_
   refine cond_t q103 (fun c3 => ?_) (fun c3 => ?_)
   ·
    exfalso
    simp at c3; omega
   ·
    obtain ⟨d15, d16⟩ := Bool.or_eq_false_iff.mp c3
    replace d16 := of_decide_eq_false d16
    refine wp_skip ?_
    refine tn ?_
    refine wp_seq ?_
    refine reg (a := a13) (σ := s14) rfl (fun i_ => List.getD [(Ty.pr (Ty.lst Ty.int guess)), (Ty.pr (Ty.nat LD)), (Ty.pr (Ty.nat C)), (Ty.pr (Ty.lst Ty.int G)), (Ty.pr (Ty.lst Ty.int G))] i_ Pr.any) ok13 rfl ⟨?_, ?_, ?_, ?_, ?_, trivial⟩ ?_
    · intro ax tx hs okx sm
      exact run_plain rfl (y_move (kp (sm 6 rfl) hs q96))
    · intro ax tx hs okx sm
      exact run_plain rfl (y_move (kp (sm 4 rfl) hs q98))
    · intro ax tx hs okx sm
      exact run_plain rfl (y_move (kp (sm 17 rfl) hs q97))
    · intro ax tx hs okx sm d0 d1 d2
      have e0 := ed d0 rfl rfl rfl
      have e1 := ed d1 rfl rfl rfl
      have e2 := ed d2 rfl rfl rfl
      exact run_plain rfl ((y_call #[ax.eval (.tmp 93), ax.eval (.tmp 94), ax.eval (.tmp 95)] Try.func30 rfl rfl (by simp only [List.map_toArray, List.map_cons, List.map_nil]) (rLeadsOf_fn (guess) (LD) (C) _ _ _ _ e0 (cvi (σ := tx) (by first | omega | assumption) e1) (cvi (σ := tx) (by first | omega | assumption) e2) (by first | omega | assumption) (by first | omega | assumption) (by first | omega | assumption))).mono (fun τ _ h => cvt (σ := τ) (T := (Ty.lst Ty.int (leadsOf (guess) (LD) (C)))) (U := (Ty.lst Ty.int G)) (by rw [hG]) h))
    · intro ax tx hs okx sm d0 d1 d2 d3 d4 d5
      have e3 := ed d0 rfl rfl rfl
      exact run_plain rfl (y_assign e3)
    intro a14 s15 D14
    have ok14 := D14.ok
    have F15 := F14.step0 D14.stp
    have q104 := D14.kt q98 rfl
    have q105 := D14.kt q99 rfl
    have q106 := D14.kt q100 rfl
    have q107 := D14.kt q101 rfl
    have q108 := D14.kt q102 rfl
    have o6 := OwnP.k0 o5 D14.stp
    have q109 : At (Ty.lst Ty.int G) s15 a14 (.tmp 22) := D14.done 4
    clear D14
    refine tn ?_
    refine wp_seq ?_
    refine reg (a := a14) (σ := s15) rfl (fun i_ => List.getD [(Ty.pr (Ty.bool false))] i_ Pr.any) ok14 rfl ⟨?_, trivial⟩ ?_
    · intro ax tx hs okx sm
      exact run_plain rfl (y_assign rfl)
    intro a15 s16 D15
    have ok15 := D15.ok
    have F16 := F15.step0 D15.stp
    have q110 := D15.kt q104 rfl
    have q111 := D15.kt q105 rfl
    have q112 := D15.kt q106 rfl
    have q113 := D15.kt q107 rfl
    have q114 := D15.kt q108 rfl
    have q115 := D15.kt q109 rfl
    have o7 := OwnP.k0 o6 D15.stp
    have q116 : At (Ty.bool false) s16 a15 (.tmp 23) := D15.done 0
    clear D15
    refine tn ?_
    refine wp_seq ?_
    refine wp_seq ?_
    refine reg (a := a15) (σ := s16) rfl (fun i_ => List.getD [(Ty.pr (Ty.int (0 : Int)))] i_ Pr.any) ok15 rfl ⟨?_, trivial⟩ ?_
    · intro ax tx hs okx sm
      exact run_plain rfl (y_assign rfl)
    intro a16 s17 D16
    have ok16 := D16.ok
    have F17 := F16.step0 D16.stp
    have q117 := D16.kt q110 rfl
    have q118 := D16.kt q111 rfl
    have q119 := D16.kt q112 rfl
    have q120 := D16.kt q113 rfl
    have q121 := D16.kt q114 rfl
    have q122 := D16.kt q115 rfl
    have q123 := D16.kt q116 rfl
    have o8 := OwnP.k0 o7 D16.stp
    have q124 : At (Ty.int (0 : Int)) s17 a16 (.tmp 24) := D16.done 0
    clear D16
    refine tn ?_
    refine wp_block ?_
    refine loop (fun n1 a17 w1 => ∃ (t1 : GW) (k : Nat), t1.w = w1 ∧ FromL [] s0 t1 ∧ Ok 196 a17 ∧ At (Ty.nat k) t1 a17 (.tmp 24) ∧ At (Ty.bool (decide (G ∈ F.take k))) t1 a17 (.tmp 23) ∧ At (Ty.nat LD) t1 a17 (.tmp 4) ∧ At (Ty.nat MN) t1 a17 (.tmp 5) ∧ At (Ty.val x1) t1 a17 (.tmp 18) ∧ At (Ty.lstc 2 callC CS) t1 a17 (.tmp 19) ∧ At (Ty.lst Ty.ints F) t1 a17 (.tmp 20) ∧ At (Ty.lst Ty.int G) t1 a17 (.tmp 22) ∧ OwnP t1 7 x1 [(Ty.val (Value.string (ByteArray.mk #[84, 114, 105, 101, 100]))), (Ty.nat M), (Ty.lst Ty.ints L)] ∧ (k ≤ F.length) ∧ n1 = F.length - k) (F.length - (0)) ?_ ?_
    ·
     exact ⟨s17, 0, rfl, F17, ok16, (cvi (by (first | rfl | omega | (simp_all; done) | (simp_all; omega))) q124), (cvb (by (simp)) q123), q117, q118, q119, q120, q121, q122, o8, by omega, rfl⟩
    ·
     rintro n2 a18 w2 ⟨t2, k, rfl, F18, ok17, q125, q126, q127, q128, q129, q130, q131, q132, o9, hk, rfl⟩
     refine wp_seq ?_
     refine wp_seq ?_
     refine reg (a := a18) (σ := t2) rfl (fun i_ => List.getD [(Ty.pr (Ty.nat k)), (Ty.pr (Ty.lst Ty.ints F)), (Ty.pr (Ty.nat (List.length F))), (Ty.pr (Ty.bool (decide (((k : Nat) : Int) < (((List.length F) : Nat) : Int)))))] i_ Pr.any) ok17 rfl ⟨?_, ?_, ?_, ?_, trivial⟩ ?_
     · intro ax tx hs okx sm
       exact run_plain rfl (y_move (kp (sm 24 rfl) hs q125))
     · intro ax tx hs okx sm
       exact run_plain rfl (y_move (kp (sm 20 rfl) hs q131))
     · intro ax tx hs okx sm d0
       have e1 := ed d0 rfl rfl rfl
       exact run_plain rfl (y_len Try.underlying29 e1)
     · intro ax tx hs okx sm d0 d1
       have e0 := ed d0 rfl rfl rfl
       have e2 := ed d1 rfl rfl rfl
       exact run_plain rfl (y_lss e0 e2)
     intro a19 s18 D17
     have ok18 := D17.ok
     have F19 := F18.step0 D17.stp
     have q133 := D17.kt q125 rfl
     have q134 := D17.kt q126 rfl
     have q135 := D17.kt q127 rfl
     have q136 := D17.kt q128 rfl
     have q137 := D17.kt q129 rfl
     have q138 := D17.kt q130 rfl
     have q139 := D17.kt q131 rfl
     have q140 := D17.kt q132 rfl
     have o10 := OwnP.k0 o9 D17.stp
     have q141 : At (Ty.bool (decide (((k : Nat) : Int) < (((List.length F) : Nat) : Int)))) s18 a19 (.tmp 100) := D17.done 3
     clear D17
     refine tn ?_
     refine cond_p (p := (((k : Nat) : Int) < (((List.length F) : Nat) : Int))) q141 (fun c4 => ?_) (fun c4 => ?_)
     ·
      obtain ⟨hgl, hgi, hgt, hgr⟩ := allG_mem (hmem k (by omega)); have htk : touchMay (ByteArray.mk #[84, 114, 105, 101, 100]) ((M : Nat) : Int) L CS (F.getD k []) = 0 := touch_path hco hgi (by omega) (by omega); have hbk := hbl k
      refine wp_skip ?_
      refine tn ?_
      refine wp_seq ?_
      refine wp_block ?_
      refine wp_seq ?_
      refine reg4 (a := a19) (σ := s18) rfl 12 11 10 25 [5] (by decide) (Pr.ownp 5 [(Ty.int (0 : Int)), (Ty.bool false), (Ty.bool false), (Ty.int (0 : Int)), (Ty.int (0 : Int))]) (Pr.ownp 5 [(Ty.nat (if touchMay ((ByteArray.mk #[84, 114, 105, 101, 100])) (((M : Nat) : Int)) (L) (CS) ((F.getD k [])) = 0 then ((F.getD k [])).length * (L).length else 0)), (Ty.bool (if touchMay ((ByteArray.mk #[84, 114, 105, 101, 100])) (((M : Nat) : Int)) (L) (CS) ((F.getD k [])) = 0 then rndB (tRows (((M : Nat) : Int)).toNat (L) (CS) ((F.getD k [])) ((F.getD k [])).length) else false)), (Ty.bool (if touchMay ((ByteArray.mk #[84, 114, 105, 101, 100])) (((M : Nat) : Int)) (L) (CS) ((F.getD k [])) = 0 then (prO (tRows (((M : Nat) : Int)).toNat (L) (CS) ((F.getD k [])) ((F.getD k [])).length)).isNone else false)), (Ty.nat (if touchMay ((ByteArray.mk #[84, 114, 105, 101, 100])) (((M : Nat) : Int)) (L) (CS) ((F.getD k [])) = 0 then agnL (tRows (((M : Nat) : Int)).toNat (L) (CS) ((F.getD k [])) ((F.getD k [])).length) else 0)), (Ty.int (if touchMay ((ByteArray.mk #[84, 114, 105, 101, 100])) (((M : Nat) : Int)) (L) (CS) ((F.getD k [])) = 0 then befL (tRows (((M : Nat) : Int)).toNat (L) (CS) ((F.getD k [])) ((F.getD k [])).length) else 0))]) (fun i_ => List.getD [(Ty.agg [(Ty.val (Value.string (ByteArray.mk #[84, 114, 105, 101, 100]))), (Ty.nat M), (Ty.lst Ty.ints L)]), (Ty.lstc 2 callC CS), (Ty.lst Ty.ints F), (Ty.nat k), (Ty.ref [(Ty.lst Ty.int (F.getD k []))]), (Ty.lst Ty.int (F.getD k [])), (Ty.tup2 (Ty.agg [(Ty.nat (if touchMay ((ByteArray.mk #[84, 114, 105, 101, 100])) (((M : Nat) : Int)) (L) (CS) ((F.getD k [])) = 0 then ((F.getD k [])).length * (L).length else 0)), (Ty.bool (if touchMay ((ByteArray.mk #[84, 114, 105, 101, 100])) (((M : Nat) : Int)) (L) (CS) ((F.getD k [])) = 0 then rndB (tRows (((M : Nat) : Int)).toNat (L) (CS) ((F.getD k [])) ((F.getD k [])).length) else false)), (Ty.bool (if touchMay ((ByteArray.mk #[84, 114, 105, 101, 100])) (((M : Nat) : Int)) (L) (CS) ((F.getD k [])) = 0 then (prO (tRows (((M : Nat) : Int)).toNat (L) (CS) ((F.getD k [])) ((F.getD k [])).length)).isNone else false)), (Ty.nat (if touchMay ((ByteArray.mk #[84, 114, 105, 101, 100])) (((M : Nat) : Int)) (L) (CS) ((F.getD k [])) = 0 then agnL (tRows (((M : Nat) : Int)).toNat (L) (CS) ((F.getD k [])) ((F.getD k [])).length) else 0)), (Ty.int (if touchMay ((ByteArray.mk #[84, 114, 105, 101, 100])) (((M : Nat) : Int)) (L) (CS) ((F.getD k [])) = 0 then befL (tRows (((M : Nat) : Int)).toNat (L) (CS) ((F.getD k [])) ((F.getD k [])).length) else 0))]) (Ty.int (touchMay ((ByteArray.mk #[84, 114, 105, 101, 100])) (((M : Nat) : Int)) (L) (CS) ((F.getD k []))))), (Ty.tup2 (Ty.agg [(Ty.nat (if touchMay ((ByteArray.mk #[84, 114, 105, 101, 100])) (((M : Nat) : Int)) (L) (CS) ((F.getD k [])) = 0 then ((F.getD k [])).length * (L).length else 0)), (Ty.bool (if touchMay ((ByteArray.mk #[84, 114, 105, 101, 100])) (((M : Nat) : Int)) (L) (CS) ((F.getD k [])) = 0 then rndB (tRows (((M : Nat) : Int)).toNat (L) (CS) ((F.getD k [])) ((F.getD k [])).length) else false)), (Ty.bool (if touchMay ((ByteArray.mk #[84, 114, 105, 101, 100])) (((M : Nat) : Int)) (L) (CS) ((F.getD k [])) = 0 then (prO (tRows (((M : Nat) : Int)).toNat (L) (CS) ((F.getD k [])) ((F.getD k [])).length)).isNone else false)), (Ty.nat (if touchMay ((ByteArray.mk #[84, 114, 105, 101, 100])) (((M : Nat) : Int)) (L) (CS) ((F.getD k [])) = 0 then agnL (tRows (((M : Nat) : Int)).toNat (L) (CS) ((F.getD k [])) ((F.getD k [])).length) else 0)), (Ty.int (if touchMay ((ByteArray.mk #[84, 114, 105, 101, 100])) (((M : Nat) : Int)) (L) (CS) ((F.getD k [])) = 0 then befL (tRows (((M : Nat) : Int)).toNat (L) (CS) ((F.getD k [])) ((F.getD k [])).length) else 0))]) (Ty.int (touchMay ((ByteArray.mk #[84, 114, 105, 101, 100])) (((M : Nat) : Int)) (L) (CS) ((F.getD k []))))), (Ty.agg [(Ty.nat (if touchMay ((ByteArray.mk #[84, 114, 105, 101, 100])) (((M : Nat) : Int)) (L) (CS) ((F.getD k [])) = 0 then ((F.getD k [])).length * (L).length else 0)), (Ty.bool (if touchMay ((ByteArray.mk #[84, 114, 105, 101, 100])) (((M : Nat) : Int)) (L) (CS) ((F.getD k [])) = 0 then rndB (tRows (((M : Nat) : Int)).toNat (L) (CS) ((F.getD k [])) ((F.getD k [])).length) else false)), (Ty.bool (if touchMay ((ByteArray.mk #[84, 114, 105, 101, 100])) (((M : Nat) : Int)) (L) (CS) ((F.getD k [])) = 0 then (prO (tRows (((M : Nat) : Int)).toNat (L) (CS) ((F.getD k [])) ((F.getD k [])).length)).isNone else false)), (Ty.nat (if touchMay ((ByteArray.mk #[84, 114, 105, 101, 100])) (((M : Nat) : Int)) (L) (CS) ((F.getD k [])) = 0 then agnL (tRows (((M : Nat) : Int)).toNat (L) (CS) ((F.getD k [])) ((F.getD k [])).length) else 0)), (Ty.int (if touchMay ((ByteArray.mk #[84, 114, 105, 101, 100])) (((M : Nat) : Int)) (L) (CS) ((F.getD k [])) = 0 then befL (tRows (((M : Nat) : Int)).toNat (L) (CS) ((F.getD k [])) ((F.getD k [])).length) else 0))]), (Ty.int (touchMay ((ByteArray.mk #[84, 114, 105, 101, 100])) (((M : Nat) : Int)) (L) (CS) ((F.getD k [])))), Ty.any, Ty.any] i_ Ty.any) ok18 rfl (by decide) rfl (by decide) (by decide) (by decide) rfl rfl (fun _ _ => trivial) rfl ⟨?_, ?_, ?_, ?_, ?_, ?_, ?_, ?_, ?_, ?_, ?_, ?_, trivial⟩ ?_
      · refine obR4 (by decide) (by decide) ?_
        intro ax tx hs okx sm
        exact run_plain rfl (ownp_loadagg Try.underlying31 Try.inf31 (OwnP.keepL o10 hs (by decide) (by decide)) (kpL hs (by decide) (sm 18 rfl) q137))
      · refine obR4 (by decide) (by decide) ?_
        intro ax tx hs okx sm
        exact run_plain rfl (y_move (kpL hs (by decide) (sm 19 rfl) q138))
      · refine obR4 (by decide) (by decide) ?_
        intro ax tx hs okx sm
        exact run_plain rfl (y_move (kpL hs (by decide) (sm 20 rfl) q139))
      · refine obR4 (by decide) (by decide) ?_
        intro ax tx hs okx sm
        exact run_plain rfl (y_move (kpL hs (by decide) (sm 24 rfl) q133))
      · refine obR4 (by decide) (by decide) ?_
        intro ax tx hs okx sm d0 d1
        have e2 : At (Ty.lst Ty.ints F) tx ax (.tmp 106) := d0 rfl
        have e3 : At (Ty.nat k) tx ax (.tmp 107) := d1 rfl
        exact run_plain rfl (y_index1 Try.underlying29 Try.inf23 e2 e3 (by omega) (lst_get Ty.ints F [] k (by omega)))
      · refine obR4 (by decide) (by decide) ?_
        intro ax tx hs okx sm d0
        have e4 : At (Ty.ref [(Ty.lst Ty.int (F.getD k []))]) tx ax (.tmp 108) := d0 rfl
        exact run_plain rfl (y_load Try.underlying23 rfl e4 rfl)
      · refine obR4 (by decide) (by decide) ?_
        intro ax tx hs okx sm d0 d1 d2
        have e0 : At (Ty.agg [(Ty.val (Value.string (ByteArray.mk #[84, 114, 105, 101, 100]))), (Ty.nat M), (Ty.lst Ty.ints L)]) tx ax (.tmp 104) := d0 rfl
        have e1 : At (Ty.lstc 2 callC CS) tx ax (.tmp 105) := d1 rfl
        have e5 : At (Ty.lst Ty.int (F.getD k [])) tx ax (.tmp 109) := d2 rfl
        exact run_plain rfl (y_call #[ax.eval (.tmp 104), ax.eval (.tmp 105), ax.eval (.tmp 109)] Try.func22 rfl rfl (by simp only [List.map_toArray, List.map_cons, List.map_nil]) (prove_fn ((ByteArray.mk #[84, 114, 105, 101, 100])) (((M : Nat) : Int)) (L) (CS) ((F.getD k [])) _ _ _ _ e0 e1 e5 (by first | omega | assumption) (by first | omega | assumption)))
      · refine obR4 (by decide) (by decide) ?_
        intro ax tx hs okx sm d0
        have e6 : At (Ty.tup2 (Ty.agg [(Ty.nat (if touchMay ((ByteArray.mk #[84, 114, 105, 101, 100])) (((M : Nat) : Int)) (L) (CS) ((F.getD k [])) = 0 then ((F.getD k [])).length * (L).length else 0)), (Ty.bool (if touchMay ((ByteArray.mk #[84, 114, 105, 101, 100])) (((M : Nat) : Int)) (L) (CS) ((F.getD k [])) = 0 then rndB (tRows (((M : Nat) : Int)).toNat (L) (CS) ((F.getD k [])) ((F.getD k [])).length) else false)), (Ty.bool (if touchMay ((ByteArray.mk #[84, 114, 105, 101, 100])) (((M : Nat) : Int)) (L) (CS) ((F.getD k [])) = 0 then (prO (tRows (((M : Nat) : Int)).toNat (L) (CS) ((F.getD k [])) ((F.getD k [])).length)).isNone else false)), (Ty.nat (if touchMay ((ByteArray.mk #[84, 114, 105, 101, 100])) (((M : Nat) : Int)) (L) (CS) ((F.getD k [])) = 0 then agnL (tRows (((M : Nat) : Int)).toNat (L) (CS) ((F.getD k [])) ((F.getD k [])).length) else 0)), (Ty.int (if touchMay ((ByteArray.mk #[84, 114, 105, 101, 100])) (((M : Nat) : Int)) (L) (CS) ((F.getD k [])) = 0 then befL (tRows (((M : Nat) : Int)).toNat (L) (CS) ((F.getD k [])) ((F.getD k [])).length) else 0))]) (Ty.int (touchMay ((ByteArray.mk #[84, 114, 105, 101, 100])) (((M : Nat) : Int)) (L) (CS) ((F.getD k []))))) tx ax (.tmp 110) := d0 rfl
        exact run_plain rfl (y_move e6)
      · refine obR4 (by decide) (by decide) ?_
        intro ax tx hs okx sm d0
        have e7 : At (Ty.tup2 (Ty.agg [(Ty.nat (if touchMay ((ByteArray.mk #[84, 114, 105, 101, 100])) (((M : Nat) : Int)) (L) (CS) ((F.getD k [])) = 0 then ((F.getD k [])).length * (L).length else 0)), (Ty.bool (if touchMay ((ByteArray.mk #[84, 114, 105, 101, 100])) (((M : Nat) : Int)) (L) (CS) ((F.getD k [])) = 0 then rndB (tRows (((M : Nat) : Int)).toNat (L) (CS) ((F.getD k [])) ((F.getD k [])).length) else false)), (Ty.bool (if touchMay ((ByteArray.mk #[84, 114, 105, 101, 100])) (((M : Nat) : Int)) (L) (CS) ((F.getD k [])) = 0 then (prO (tRows (((M : Nat) : Int)).toNat (L) (CS) ((F.getD k [])) ((F.getD k [])).length)).isNone else false)), (Ty.nat (if touchMay ((ByteArray.mk #[84, 114, 105, 101, 100])) (((M : Nat) : Int)) (L) (CS) ((F.getD k [])) = 0 then agnL (tRows (((M : Nat) : Int)).toNat (L) (CS) ((F.getD k [])) ((F.getD k [])).length) else 0)), (Ty.int (if touchMay ((ByteArray.mk #[84, 114, 105, 101, 100])) (((M : Nat) : Int)) (L) (CS) ((F.getD k [])) = 0 then befL (tRows (((M : Nat) : Int)).toNat (L) (CS) ((F.getD k [])) ((F.getD k [])).length) else 0))]) (Ty.int (touchMay ((ByteArray.mk #[84, 114, 105, 101, 100])) (((M : Nat) : Int)) (L) (CS) ((F.getD k []))))) tx ax (.tmp 103) := d0 rfl
        exact run_plain rfl (y_ext2_0 e7)
      · refine obR4 (by decide) (by decide) ?_
        intro ax tx hs okx sm d0 d1
        have e7 : At (Ty.tup2 (Ty.agg [(Ty.nat (if touchMay ((ByteArray.mk #[84, 114, 105, 101, 100])) (((M : Nat) : Int)) (L) (CS) ((F.getD k [])) = 0 then ((F.getD k [])).length * (L).length else 0)), (Ty.bool (if touchMay ((ByteArray.mk #[84, 114, 105, 101, 100])) (((M : Nat) : Int)) (L) (CS) ((F.getD k [])) = 0 then rndB (tRows (((M : Nat) : Int)).toNat (L) (CS) ((F.getD k [])) ((F.getD k [])).length) else false)), (Ty.bool (if touchMay ((ByteArray.mk #[84, 114, 105, 101, 100])) (((M : Nat) : Int)) (L) (CS) ((F.getD k [])) = 0 then (prO (tRows (((M : Nat) : Int)).toNat (L) (CS) ((F.getD k [])) ((F.getD k [])).length)).isNone else false)), (Ty.nat (if touchMay ((ByteArray.mk #[84, 114, 105, 101, 100])) (((M : Nat) : Int)) (L) (CS) ((F.getD k [])) = 0 then agnL (tRows (((M : Nat) : Int)).toNat (L) (CS) ((F.getD k [])) ((F.getD k [])).length) else 0)), (Ty.int (if touchMay ((ByteArray.mk #[84, 114, 105, 101, 100])) (((M : Nat) : Int)) (L) (CS) ((F.getD k [])) = 0 then befL (tRows (((M : Nat) : Int)).toNat (L) (CS) ((F.getD k [])) ((F.getD k [])).length) else 0))]) (Ty.int (touchMay ((ByteArray.mk #[84, 114, 105, 101, 100])) (((M : Nat) : Int)) (L) (CS) ((F.getD k []))))) tx ax (.tmp 103) := d0 rfl
        exact run_plain rfl (y_ext2_1 e7)
      · refine obR4q (by decide) rfl ?_
        intro ax tx hs okx sm
        exact run_plain rfl (y_alloc Try.inf42 rfl (alloc_vals (vs := [.int .i64 0, .bool false, .bool false, .int .i64 0, .int .i64 0]) rfl))
      · refine obR4w rfl ?_
        intro ax tx hs okx sm hA d0 d1 d2 d3 d4 d5 d6 d7 d8 d9 d10 d11 d12 d13
        have e8 : At (Ty.agg [(Ty.nat (if touchMay ((ByteArray.mk #[84, 114, 105, 101, 100])) (((M : Nat) : Int)) (L) (CS) ((F.getD k [])) = 0 then ((F.getD k [])).length * (L).length else 0)), (Ty.bool (if touchMay ((ByteArray.mk #[84, 114, 105, 101, 100])) (((M : Nat) : Int)) (L) (CS) ((F.getD k [])) = 0 then rndB (tRows (((M : Nat) : Int)).toNat (L) (CS) ((F.getD k [])) ((F.getD k [])).length) else false)), (Ty.bool (if touchMay ((ByteArray.mk #[84, 114, 105, 101, 100])) (((M : Nat) : Int)) (L) (CS) ((F.getD k [])) = 0 then (prO (tRows (((M : Nat) : Int)).toNat (L) (CS) ((F.getD k [])) ((F.getD k [])).length)).isNone else false)), (Ty.nat (if touchMay ((ByteArray.mk #[84, 114, 105, 101, 100])) (((M : Nat) : Int)) (L) (CS) ((F.getD k [])) = 0 then agnL (tRows (((M : Nat) : Int)).toNat (L) (CS) ((F.getD k [])) ((F.getD k [])).length) else 0)), (Ty.int (if touchMay ((ByteArray.mk #[84, 114, 105, 101, 100])) (((M : Nat) : Int)) (L) (CS) ((F.getD k [])) = 0 then befL (tRows (((M : Nat) : Int)).toNat (L) (CS) ((F.getD k [])) ((F.getD k [])).length) else 0))]) tx ax (.tmp 111) := d1 rfl
        exact YldM.toL (m_storeagg Try.inf42 (by decide) hA rfl rfl e8 (by intro U hU; simp only [List.mem_cons, List.not_mem_nil, or_false] at hU; rcases hU with rfl | rfl | rfl | rfl | rfl <;> first | exact one_val rfl | exact one_sl | exact one_ref))
      intro a20 s19 D18
      have ok19 := D18.ok
      have F20 := F19.stepL D18.stp (by decide)
      have q142 : At (Ty.nat k) s19 a20 (.tmp 24) := D18.kt (by decide) q133 rfl
      have q143 : At (Ty.bool (decide (G ∈ F.take k))) s19 a20 (.tmp 23) := D18.kt (by decide) q134 rfl
      have q144 : At (Ty.nat LD) s19 a20 (.tmp 4) := D18.kt (by decide) q135 rfl
      have q145 : At (Ty.nat MN) s19 a20 (.tmp 5) := D18.kt (by decide) q136 rfl
      have q146 : At (Ty.val x1) s19 a20 (.tmp 18) := D18.kt (by decide) q137 rfl
      have q147 : At (Ty.lstc 2 callC CS) s19 a20 (.tmp 19) := D18.kt (by decide) q138 rfl
      have q148 : At (Ty.lst Ty.ints F) s19 a20 (.tmp 20) := D18.kt (by decide) q139 rfl
      have q149 : At (Ty.lst Ty.int G) s19 a20 (.tmp 22) := D18.kt (by decide) q140 rfl
      have o12 := OwnP.keepL o10 D18.stp (by decide) (by decide)
      have q150 : At (Ty.int (touchMay ((ByteArray.mk #[84, 114, 105, 101, 100])) (((M : Nat) : Int)) (L) (CS) ((F.getD k [])))) s19 a20 (.tmp 112) := D18.done 9 (by decide)
      obtain ⟨x2, hx2⟩ : ∃ x, a20.eval (.tmp 25) = x := ⟨_, rfl⟩
      have q151 : At (Ty.val x2) s19 a20 (.tmp 25) := hx2
      have o13 : OwnP s19 5 x2 [(Ty.nat (if touchMay ((ByteArray.mk #[84, 114, 105, 101, 100])) (((M : Nat) : Int)) (L) (CS) ((F.getD k [])) = 0 then ((F.getD k [])).length * (L).length else 0)), (Ty.bool (if touchMay ((ByteArray.mk #[84, 114, 105, 101, 100])) (((M : Nat) : Int)) (L) (CS) ((F.getD k [])) = 0 then rndB (tRows (((M : Nat) : Int)).toNat (L) (CS) ((F.getD k [])) ((F.getD k [])).length) else false)), (Ty.bool (if touchMay ((ByteArray.mk #[84, 114, 105, 101, 100])) (((M : Nat) : Int)) (L) (CS) ((F.getD k [])) = 0 then (prO (tRows (((M : Nat) : Int)).toNat (L) (CS) ((F.getD k [])) ((F.getD k [])).length)).isNone else false)), (Ty.nat (if touchMay ((ByteArray.mk #[84, 114, 105, 101, 100])) (((M : Nat) : Int)) (L) (CS) ((F.getD k [])) = 0 then agnL (tRows (((M : Nat) : Int)).toNat (L) (CS) ((F.getD k [])) ((F.getD k [])).length) else 0)), (Ty.int (if touchMay ((ByteArray.mk #[84, 114, 105, 101, 100])) (((M : Nat) : Int)) (L) (CS) ((F.getD k [])) = 0 then befL (tRows (((M : Nat) : Int)).toNat (L) (CS) ((F.getD k [])) ((F.getD k [])).length) else 0))] := al2 (R := (Pr.ownp 5 [(Ty.nat (if touchMay ((ByteArray.mk #[84, 114, 105, 101, 100])) (((M : Nat) : Int)) (L) (CS) ((F.getD k [])) = 0 then ((F.getD k [])).length * (L).length else 0)), (Ty.bool (if touchMay ((ByteArray.mk #[84, 114, 105, 101, 100])) (((M : Nat) : Int)) (L) (CS) ((F.getD k [])) = 0 then rndB (tRows (((M : Nat) : Int)).toNat (L) (CS) ((F.getD k [])) ((F.getD k [])).length) else false)), (Ty.bool (if touchMay ((ByteArray.mk #[84, 114, 105, 101, 100])) (((M : Nat) : Int)) (L) (CS) ((F.getD k [])) = 0 then (prO (tRows (((M : Nat) : Int)).toNat (L) (CS) ((F.getD k [])) ((F.getD k [])).length)).isNone else false)), (Ty.nat (if touchMay ((ByteArray.mk #[84, 114, 105, 101, 100])) (((M : Nat) : Int)) (L) (CS) ((F.getD k [])) = 0 then agnL (tRows (((M : Nat) : Int)).toNat (L) (CS) ((F.getD k [])) ((F.getD k [])).length) else 0)), (Ty.int (if touchMay ((ByteArray.mk #[84, 114, 105, 101, 100])) (((M : Nat) : Int)) (L) (CS) ((F.getD k [])) = 0 then befL (tRows (((M : Nat) : Int)).toNat (L) (CS) ((F.getD k [])) ((F.getD k [])).length) else 0))])) hx2 D18.donep
      clear D18
      refine tailL (L := []) (R := (fun v τ => Pr.has (Ty.pr (Ty.int (touchMay ((ByteArray.mk #[84, 114, 105, 101, 100])) (((M : Nat) : Int)) (L) (CS) ((F.getD k []))))) τ v)) rfl rfl (by decide) ok19 (Yld.toL (y_assign q150)) (fun a21 s20 hs2 ok20 r2 sm1 => ?_)
      have F21 := F20.stepL hs2 (by decide)
      have q152 := kpL hs2 (by decide) (sm1 24 (by decide)) q142
      have q153 := kpL hs2 (by decide) (sm1 23 (by decide)) q143
      have q154 := kpL hs2 (by decide) (sm1 4 (by decide)) q144
      have q155 := kpL hs2 (by decide) (sm1 5 (by decide)) q145
      have q156 := kpL hs2 (by decide) (sm1 18 (by decide)) q146
      have q157 := kpL hs2 (by decide) (sm1 19 (by decide)) q147
      have q158 := kpL hs2 (by decide) (sm1 20 (by decide)) q148
      have q159 := kpL hs2 (by decide) (sm1 22 (by decide)) q149
      have q160 := kpL hs2 (by decide) (sm1 25 (by decide)) q151
      have o14 := OwnP.keepL o12 hs2 (by decide) (by decide)
      have o15 := OwnP.keepL o13 hs2 (by decide) (by decide)
      have q161 : At (Ty.int (touchMay ((ByteArray.mk #[84, 114, 105, 101, 100])) (((M : Nat) : Int)) (L) (CS) ((F.getD k [])))) s20 a21 (.tmp 26) := r2
      clear r2
      refine wpList_nil ?_
      refine tn ?_
      refine wp_seq ?_
      refine wp_seq ?_
      refine reg (a := a21) (σ := s20) rfl (fun i_ => List.getD [(Ty.pr (Ty.int (touchMay ((ByteArray.mk #[84, 114, 105, 101, 100])) (((M : Nat) : Int)) (L) (CS) ((F.getD k []))))), (Ty.pr (Ty.bool (decide ((touchMay ((ByteArray.mk #[84, 114, 105, 101, 100])) (((M : Nat) : Int)) (L) (CS) ((F.getD k []))) ≠ (0 : Int))))), (Ty.pr (Ty.bool (decide ((touchMay ((ByteArray.mk #[84, 114, 105, 101, 100])) (((M : Nat) : Int)) (L) (CS) ((F.getD k []))) ≠ (0 : Int))))), (Ty.pr (Ty.grd ((decide ((touchMay ((ByteArray.mk #[84, 114, 105, 101, 100])) (((M : Nat) : Int)) (L) (CS) ((F.getD k []))) ≠ (0 : Int))) = false) (Ty.val (ptrAt x2 2)))), (Ty.pr (Ty.grd ((decide ((touchMay ((ByteArray.mk #[84, 114, 105, 101, 100])) (((M : Nat) : Int)) (L) (CS) ((F.getD k []))) ≠ (0 : Int))) = false) (Ty.bool (if touchMay ((ByteArray.mk #[84, 114, 105, 101, 100])) (((M : Nat) : Int)) (L) (CS) ((F.getD k [])) = 0 then (prO (tRows (((M : Nat) : Int)).toNat (L) (CS) ((F.getD k [])) ((F.getD k [])).length)).isNone else false)))), (Ty.pr (Ty.grd ((decide ((touchMay ((ByteArray.mk #[84, 114, 105, 101, 100])) (((M : Nat) : Int)) (L) (CS) ((F.getD k []))) ≠ (0 : Int))) = false) (Ty.bool (!(if touchMay ((ByteArray.mk #[84, 114, 105, 101, 100])) (((M : Nat) : Int)) (L) (CS) ((F.getD k [])) = 0 then (prO (tRows (((M : Nat) : Int)).toNat (L) (CS) ((F.getD k [])) ((F.getD k [])).length)).isNone else false))))), (Ty.pr (Ty.bool ((decide ((touchMay ((ByteArray.mk #[84, 114, 105, 101, 100])) (((M : Nat) : Int)) (L) (CS) ((F.getD k []))) ≠ (0 : Int))) || (!(if touchMay ((ByteArray.mk #[84, 114, 105, 101, 100])) (((M : Nat) : Int)) (L) (CS) ((F.getD k [])) = 0 then (prO (tRows (((M : Nat) : Int)).toNat (L) (CS) ((F.getD k [])) ((F.getD k [])).length)).isNone else false))))), (Ty.pr (Ty.bool ((decide ((touchMay ((ByteArray.mk #[84, 114, 105, 101, 100])) (((M : Nat) : Int)) (L) (CS) ((F.getD k []))) ≠ (0 : Int))) || (!(if touchMay ((ByteArray.mk #[84, 114, 105, 101, 100])) (((M : Nat) : Int)) (L) (CS) ((F.getD k [])) = 0 then (prO (tRows (((M : Nat) : Int)).toNat (L) (CS) ((F.getD k [])) ((F.getD k [])).length)).isNone else false))))), (Ty.pr (Ty.grd (((decide ((touchMay ((ByteArray.mk #[84, 114, 105, 101, 100])) (((M : Nat) : Int)) (L) (CS) ((F.getD k []))) ≠ (0 : Int))) || (!(if touchMay ((ByteArray.mk #[84, 114, 105, 101, 100])) (((M : Nat) : Int)) (L) (CS) ((F.getD k [])) = 0 then (prO (tRows (((M : Nat) : Int)).toNat (L) (CS) ((F.getD k [])) ((F.getD k [])).length)).isNone else false))) = false) (Ty.val (ptrAt x2 1)))), (Ty.pr (Ty.grd (((decide ((touchMay ((ByteArray.mk #[84, 114, 105, 101, 100])) (((M : Nat) : Int)) (L) (CS) ((F.getD k []))) ≠ (0 : Int))) || (!(if touchMay ((ByteArray.mk #[84, 114, 105, 101, 100])) (((M : Nat) : Int)) (L) (CS) ((F.getD k [])) = 0 then (prO (tRows (((M : Nat) : Int)).toNat (L) (CS) ((F.getD k [])) ((F.getD k [])).length)).isNone else false))) = false) (Ty.bool (if touchMay ((ByteArray.mk #[84, 114, 105, 101, 100])) (((M : Nat) : Int)) (L) (CS) ((F.getD k [])) = 0 then rndB (tRows (((M : Nat) : Int)).toNat (L) (CS) ((F.getD k [])) ((F.getD k [])).length) else false)))), (Ty.pr (Ty.grd (((decide ((touchMay ((ByteArray.mk #[84, 114, 105, 101, 100])) (((M : Nat) : Int)) (L) (CS) ((F.getD k []))) ≠ (0 : Int))) || (!(if touchMay ((ByteArray.mk #[84, 114, 105, 101, 100])) (((M : Nat) : Int)) (L) (CS) ((F.getD k [])) = 0 then (prO (tRows (((M : Nat) : Int)).toNat (L) (CS) ((F.getD k [])) ((F.getD k [])).length)).isNone else false))) = false) (Ty.bool (!(if touchMay ((ByteArray.mk #[84, 114, 105, 101, 100])) (((M : Nat) : Int)) (L) (CS) ((F.getD k [])) = 0 then rndB (tRows (((M : Nat) : Int)).toNat (L) (CS) ((F.getD k [])) ((F.getD k [])).length) else false))))), (Ty.pr (Ty.bool (((decide ((touchMay ((ByteArray.mk #[84, 114, 105, 101, 100])) (((M : Nat) : Int)) (L) (CS) ((F.getD k []))) ≠ (0 : Int))) || (!(if touchMay ((ByteArray.mk #[84, 114, 105, 101, 100])) (((M : Nat) : Int)) (L) (CS) ((F.getD k [])) = 0 then (prO (tRows (((M : Nat) : Int)).toNat (L) (CS) ((F.getD k [])) ((F.getD k [])).length)).isNone else false))) || (!(if touchMay ((ByteArray.mk #[84, 114, 105, 101, 100])) (((M : Nat) : Int)) (L) (CS) ((F.getD k [])) = 0 then rndB (tRows (((M : Nat) : Int)).toNat (L) (CS) ((F.getD k [])) ((F.getD k [])).length) else false))))), (Ty.pr (Ty.bool (((decide ((touchMay ((ByteArray.mk #[84, 114, 105, 101, 100])) (((M : Nat) : Int)) (L) (CS) ((F.getD k []))) ≠ (0 : Int))) || (!(if touchMay ((ByteArray.mk #[84, 114, 105, 101, 100])) (((M : Nat) : Int)) (L) (CS) ((F.getD k [])) = 0 then (prO (tRows (((M : Nat) : Int)).toNat (L) (CS) ((F.getD k [])) ((F.getD k [])).length)).isNone else false))) || (!(if touchMay ((ByteArray.mk #[84, 114, 105, 101, 100])) (((M : Nat) : Int)) (L) (CS) ((F.getD k [])) = 0 then rndB (tRows (((M : Nat) : Int)).toNat (L) (CS) ((F.getD k [])) ((F.getD k [])).length) else false))))), (Ty.pr (Ty.grd ((((decide ((touchMay ((ByteArray.mk #[84, 114, 105, 101, 100])) (((M : Nat) : Int)) (L) (CS) ((F.getD k []))) ≠ (0 : Int))) || (!(if touchMay ((ByteArray.mk #[84, 114, 105, 101, 100])) (((M : Nat) : Int)) (L) (CS) ((F.getD k [])) = 0 then (prO (tRows (((M : Nat) : Int)).toNat (L) (CS) ((F.getD k [])) ((F.getD k [])).length)).isNone else false))) || (!(if touchMay ((ByteArray.mk #[84, 114, 105, 101, 100])) (((M : Nat) : Int)) (L) (CS) ((F.getD k [])) = 0 then rndB (tRows (((M : Nat) : Int)).toNat (L) (CS) ((F.getD k [])) ((F.getD k [])).length) else false))) = false) (Ty.lst Ty.ints F))), (Ty.pr (Ty.grd ((((decide ((touchMay ((ByteArray.mk #[84, 114, 105, 101, 100])) (((M : Nat) : Int)) (L) (CS) ((F.getD k []))) ≠ (0 : Int))) || (!(if touchMay ((ByteArray.mk #[84, 114, 105, 101, 100])) (((M : Nat) : Int)) (L) (CS) ((F.getD k [])) = 0 then (prO (tRows (((M : Nat) : Int)).toNat (L) (CS) ((F.getD k [])) ((F.getD k [])).length)).isNone else false))) || (!(if touchMay ((ByteArray.mk #[84, 114, 105, 101, 100])) (((M : Nat) : Int)) (L) (CS) ((F.getD k [])) = 0 then rndB (tRows (((M : Nat) : Int)).toNat (L) (CS) ((F.getD k [])) ((F.getD k [])).length) else false))) = false) (Ty.nat k))), (Ty.pr (Ty.grd ((((decide ((touchMay ((ByteArray.mk #[84, 114, 105, 101, 100])) (((M : Nat) : Int)) (L) (CS) ((F.getD k []))) ≠ (0 : Int))) || (!(if touchMay ((ByteArray.mk #[84, 114, 105, 101, 100])) (((M : Nat) : Int)) (L) (CS) ((F.getD k [])) = 0 then (prO (tRows (((M : Nat) : Int)).toNat (L) (CS) ((F.getD k [])) ((F.getD k [])).length)).isNone else false))) || (!(if touchMay ((ByteArray.mk #[84, 114, 105, 101, 100])) (((M : Nat) : Int)) (L) (CS) ((F.getD k [])) = 0 then rndB (tRows (((M : Nat) : Int)).toNat (L) (CS) ((F.getD k [])) ((F.getD k [])).length) else false))) = false) (Ty.ref [(Ty.lst Ty.int (F.getD k []))]))), (Ty.pr (Ty.grd ((((decide ((touchMay ((ByteArray.mk #[84, 114, 105, 101, 100])) (((M : Nat) : Int)) (L) (CS) ((F.getD k []))) ≠ (0 : Int))) || (!(if touchMay ((ByteArray.mk #[84, 114, 105, 101, 100])) (((M : Nat) : Int)) (L) (CS) ((F.getD k [])) = 0 then (prO (tRows (((M : Nat) : Int)).toNat (L) (CS) ((F.getD k [])) ((F.getD k [])).length)).isNone else false))) || (!(if touchMay ((ByteArray.mk #[84, 114, 105, 101, 100])) (((M : Nat) : Int)) (L) (CS) ((F.getD k [])) = 0 then rndB (tRows (((M : Nat) : Int)).toNat (L) (CS) ((F.getD k [])) ((F.getD k [])).length) else false))) = false) (Ty.lst Ty.int (F.getD k [])))), (Ty.pr (Ty.grd ((((decide ((touchMay ((ByteArray.mk #[84, 114, 105, 101, 100])) (((M : Nat) : Int)) (L) (CS) ((F.getD k []))) ≠ (0 : Int))) || (!(if touchMay ((ByteArray.mk #[84, 114, 105, 101, 100])) (((M : Nat) : Int)) (L) (CS) ((F.getD k [])) = 0 then (prO (tRows (((M : Nat) : Int)).toNat (L) (CS) ((F.getD k [])) ((F.getD k [])).length)).isNone else false))) || (!(if touchMay ((ByteArray.mk #[84, 114, 105, 101, 100])) (((M : Nat) : Int)) (L) (CS) ((F.getD k [])) = 0 then rndB (tRows (((M : Nat) : Int)).toNat (L) (CS) ((F.getD k [])) ((F.getD k [])).length) else false))) = false) (Ty.nat (List.length (F.getD k []))))), (Ty.pr (Ty.grd ((((decide ((touchMay ((ByteArray.mk #[84, 114, 105, 101, 100])) (((M : Nat) : Int)) (L) (CS) ((F.getD k []))) ≠ (0 : Int))) || (!(if touchMay ((ByteArray.mk #[84, 114, 105, 101, 100])) (((M : Nat) : Int)) (L) (CS) ((F.getD k [])) = 0 then (prO (tRows (((M : Nat) : Int)).toNat (L) (CS) ((F.getD k [])) ((F.getD k [])).length)).isNone else false))) || (!(if touchMay ((ByteArray.mk #[84, 114, 105, 101, 100])) (((M : Nat) : Int)) (L) (CS) ((F.getD k [])) = 0 then rndB (tRows (((M : Nat) : Int)).toNat (L) (CS) ((F.getD k [])) ((F.getD k [])).length) else false))) = false) (Ty.nat LD))), (Ty.pr (Ty.grd ((((decide ((touchMay ((ByteArray.mk #[84, 114, 105, 101, 100])) (((M : Nat) : Int)) (L) (CS) ((F.getD k []))) ≠ (0 : Int))) || (!(if touchMay ((ByteArray.mk #[84, 114, 105, 101, 100])) (((M : Nat) : Int)) (L) (CS) ((F.getD k [])) = 0 then (prO (tRows (((M : Nat) : Int)).toNat (L) (CS) ((F.getD k [])) ((F.getD k [])).length)).isNone else false))) || (!(if touchMay ((ByteArray.mk #[84, 114, 105, 101, 100])) (((M : Nat) : Int)) (L) (CS) ((F.getD k [])) = 0 then rndB (tRows (((M : Nat) : Int)).toNat (L) (CS) ((F.getD k [])) ((F.getD k [])).length) else false))) = false) (Ty.bool (decide ((((List.length (F.getD k [])) : Nat) : Int) ≠ ((LD : Nat) : Int)))))), (Ty.pr (Ty.bool ((((decide ((touchMay ((ByteArray.mk #[84, 114, 105, 101, 100])) (((M : Nat) : Int)) (L) (CS) ((F.getD k []))) ≠ (0 : Int))) || (!(if touchMay ((ByteArray.mk #[84, 114, 105, 101, 100])) (((M : Nat) : Int)) (L) (CS) ((F.getD k [])) = 0 then (prO (tRows (((M : Nat) : Int)).toNat (L) (CS) ((F.getD k [])) ((F.getD k [])).length)).isNone else false))) || (!(if touchMay ((ByteArray.mk #[84, 114, 105, 101, 100])) (((M : Nat) : Int)) (L) (CS) ((F.getD k [])) = 0 then rndB (tRows (((M : Nat) : Int)).toNat (L) (CS) ((F.getD k [])) ((F.getD k [])).length) else false))) || (decide ((((List.length (F.getD k [])) : Nat) : Int) ≠ ((LD : Nat) : Int)))))), (Ty.pr (Ty.bool ((((decide ((touchMay ((ByteArray.mk #[84, 114, 105, 101, 100])) (((M : Nat) : Int)) (L) (CS) ((F.getD k []))) ≠ (0 : Int))) || (!(if touchMay ((ByteArray.mk #[84, 114, 105, 101, 100])) (((M : Nat) : Int)) (L) (CS) ((F.getD k [])) = 0 then (prO (tRows (((M : Nat) : Int)).toNat (L) (CS) ((F.getD k [])) ((F.getD k [])).length)).isNone else false))) || (!(if touchMay ((ByteArray.mk #[84, 114, 105, 101, 100])) (((M : Nat) : Int)) (L) (CS) ((F.getD k [])) = 0 then rndB (tRows (((M : Nat) : Int)).toNat (L) (CS) ((F.getD k [])) ((F.getD k [])).length) else false))) || (decide ((((List.length (F.getD k [])) : Nat) : Int) ≠ ((LD : Nat) : Int)))))), (Ty.pr (Ty.grd (((((decide ((touchMay ((ByteArray.mk #[84, 114, 105, 101, 100])) (((M : Nat) : Int)) (L) (CS) ((F.getD k []))) ≠ (0 : Int))) || (!(if touchMay ((ByteArray.mk #[84, 114, 105, 101, 100])) (((M : Nat) : Int)) (L) (CS) ((F.getD k [])) = 0 then (prO (tRows (((M : Nat) : Int)).toNat (L) (CS) ((F.getD k [])) ((F.getD k [])).length)).isNone else false))) || (!(if touchMay ((ByteArray.mk #[84, 114, 105, 101, 100])) (((M : Nat) : Int)) (L) (CS) ((F.getD k [])) = 0 then rndB (tRows (((M : Nat) : Int)).toNat (L) (CS) ((F.getD k [])) ((F.getD k [])).length) else false))) || (decide ((((List.length (F.getD k [])) : Nat) : Int) ≠ ((LD : Nat) : Int)))) = false) (Ty.nat k))), (Ty.pr (Ty.grd (((((decide ((touchMay ((ByteArray.mk #[84, 114, 105, 101, 100])) (((M : Nat) : Int)) (L) (CS) ((F.getD k []))) ≠ (0 : Int))) || (!(if touchMay ((ByteArray.mk #[84, 114, 105, 101, 100])) (((M : Nat) : Int)) (L) (CS) ((F.getD k [])) = 0 then (prO (tRows (((M : Nat) : Int)).toNat (L) (CS) ((F.getD k [])) ((F.getD k [])).length)).isNone else false))) || (!(if touchMay ((ByteArray.mk #[84, 114, 105, 101, 100])) (((M : Nat) : Int)) (L) (CS) ((F.getD k [])) = 0 then rndB (tRows (((M : Nat) : Int)).toNat (L) (CS) ((F.getD k [])) ((F.getD k [])).length) else false))) || (decide ((((List.length (F.getD k [])) : Nat) : Int) ≠ ((LD : Nat) : Int)))) = false) (Ty.bool (decide ((0 : Int) < ((k : Nat) : Int)))))), (Ty.pr (Ty.grd (((((decide ((touchMay ((ByteArray.mk #[84, 114, 105, 101, 100])) (((M : Nat) : Int)) (L) (CS) ((F.getD k []))) ≠ (0 : Int))) || (!(if touchMay ((ByteArray.mk #[84, 114, 105, 101, 100])) (((M : Nat) : Int)) (L) (CS) ((F.getD k [])) = 0 then (prO (tRows (((M : Nat) : Int)).toNat (L) (CS) ((F.getD k [])) ((F.getD k [])).length)).isNone else false))) || (!(if touchMay ((ByteArray.mk #[84, 114, 105, 101, 100])) (((M : Nat) : Int)) (L) (CS) ((F.getD k [])) = 0 then rndB (tRows (((M : Nat) : Int)).toNat (L) (CS) ((F.getD k [])) ((F.getD k [])).length) else false))) || (decide ((((List.length (F.getD k [])) : Nat) : Int) ≠ ((LD : Nat) : Int)))) = false) (Ty.bool (decide ((0 : Int) < ((k : Nat) : Int)))))), (Ty.pr (Ty.grd ((((((decide ((touchMay ((ByteArray.mk #[84, 114, 105, 101, 100])) (((M : Nat) : Int)) (L) (CS) ((F.getD k []))) ≠ (0 : Int))) || (!(if touchMay ((ByteArray.mk #[84, 114, 105, 101, 100])) (((M : Nat) : Int)) (L) (CS) ((F.getD k [])) = 0 then (prO (tRows (((M : Nat) : Int)).toNat (L) (CS) ((F.getD k [])) ((F.getD k [])).length)).isNone else false))) || (!(if touchMay ((ByteArray.mk #[84, 114, 105, 101, 100])) (((M : Nat) : Int)) (L) (CS) ((F.getD k [])) = 0 then rndB (tRows (((M : Nat) : Int)).toNat (L) (CS) ((F.getD k [])) ((F.getD k [])).length) else false))) || (decide ((((List.length (F.getD k [])) : Nat) : Int) ≠ ((LD : Nat) : Int)))) = false) ∧ (decide ((0 : Int) < ((k : Nat) : Int))) = true) (Ty.lst Ty.ints F))), (Ty.pr (Ty.grd ((((((decide ((touchMay ((ByteArray.mk #[84, 114, 105, 101, 100])) (((M : Nat) : Int)) (L) (CS) ((F.getD k []))) ≠ (0 : Int))) || (!(if touchMay ((ByteArray.mk #[84, 114, 105, 101, 100])) (((M : Nat) : Int)) (L) (CS) ((F.getD k [])) = 0 then (prO (tRows (((M : Nat) : Int)).toNat (L) (CS) ((F.getD k [])) ((F.getD k [])).length)).isNone else false))) || (!(if touchMay ((ByteArray.mk #[84, 114, 105, 101, 100])) (((M : Nat) : Int)) (L) (CS) ((F.getD k [])) = 0 then rndB (tRows (((M : Nat) : Int)).toNat (L) (CS) ((F.getD k [])) ((F.getD k [])).length) else false))) || (decide ((((List.length (F.getD k [])) : Nat) : Int) ≠ ((LD : Nat) : Int)))) = false) ∧ (decide ((0 : Int) < ((k : Nat) : Int))) = true) (Ty.nat k))), (Ty.pr (Ty.grd ((((((decide ((touchMay ((ByteArray.mk #[84, 114, 105, 101, 100])) (((M : Nat) : Int)) (L) (CS) ((F.getD k []))) ≠ (0 : Int))) || (!(if touchMay ((ByteArray.mk #[84, 114, 105, 101, 100])) (((M : Nat) : Int)) (L) (CS) ((F.getD k [])) = 0 then (prO (tRows (((M : Nat) : Int)).toNat (L) (CS) ((F.getD k [])) ((F.getD k [])).length)).isNone else false))) || (!(if touchMay ((ByteArray.mk #[84, 114, 105, 101, 100])) (((M : Nat) : Int)) (L) (CS) ((F.getD k [])) = 0 then rndB (tRows (((M : Nat) : Int)).toNat (L) (CS) ((F.getD k [])) ((F.getD k [])).length) else false))) || (decide ((((List.length (F.getD k [])) : Nat) : Int) ≠ ((LD : Nat) : Int)))) = false) ∧ (decide ((0 : Int) < ((k : Nat) : Int))) = true) (Ty.nat (k - 1)))), (Ty.pr (Ty.grd ((((((decide ((touchMay ((ByteArray.mk #[84, 114, 105, 101, 100])) (((M : Nat) : Int)) (L) (CS) ((F.getD k []))) ≠ (0 : Int))) || (!(if touchMay ((ByteArray.mk #[84, 114, 105, 101, 100])) (((M : Nat) : Int)) (L) (CS) ((F.getD k [])) = 0 then (prO (tRows (((M : Nat) : Int)).toNat (L) (CS) ((F.getD k [])) ((F.getD k [])).length)).isNone else false))) || (!(if touchMay ((ByteArray.mk #[84, 114, 105, 101, 100])) (((M : Nat) : Int)) (L) (CS) ((F.getD k [])) = 0 then rndB (tRows (((M : Nat) : Int)).toNat (L) (CS) ((F.getD k [])) ((F.getD k [])).length) else false))) || (decide ((((List.length (F.getD k [])) : Nat) : Int) ≠ ((LD : Nat) : Int)))) = false) ∧ (decide ((0 : Int) < ((k : Nat) : Int))) = true) (Ty.ref [(Ty.lst Ty.int (F.getD (k - 1) []))]))), (Ty.pr (Ty.grd ((((((decide ((touchMay ((ByteArray.mk #[84, 114, 105, 101, 100])) (((M : Nat) : Int)) (L) (CS) ((F.getD k []))) ≠ (0 : Int))) || (!(if touchMay ((ByteArray.mk #[84, 114, 105, 101, 100])) (((M : Nat) : Int)) (L) (CS) ((F.getD k [])) = 0 then (prO (tRows (((M : Nat) : Int)).toNat (L) (CS) ((F.getD k [])) ((F.getD k [])).length)).isNone else false))) || (!(if touchMay ((ByteArray.mk #[84, 114, 105, 101, 100])) (((M : Nat) : Int)) (L) (CS) ((F.getD k [])) = 0 then rndB (tRows (((M : Nat) : Int)).toNat (L) (CS) ((F.getD k [])) ((F.getD k [])).length) else false))) || (decide ((((List.length (F.getD k [])) : Nat) : Int) ≠ ((LD : Nat) : Int)))) = false) ∧ (decide ((0 : Int) < ((k : Nat) : Int))) = true) (Ty.lst Ty.int (F.getD (k - 1) [])))), (Ty.pr (Ty.grd ((((((decide ((touchMay ((ByteArray.mk #[84, 114, 105, 101, 100])) (((M : Nat) : Int)) (L) (CS) ((F.getD k []))) ≠ (0 : Int))) || (!(if touchMay ((ByteArray.mk #[84, 114, 105, 101, 100])) (((M : Nat) : Int)) (L) (CS) ((F.getD k [])) = 0 then (prO (tRows (((M : Nat) : Int)).toNat (L) (CS) ((F.getD k [])) ((F.getD k [])).length)).isNone else false))) || (!(if touchMay ((ByteArray.mk #[84, 114, 105, 101, 100])) (((M : Nat) : Int)) (L) (CS) ((F.getD k [])) = 0 then rndB (tRows (((M : Nat) : Int)).toNat (L) (CS) ((F.getD k [])) ((F.getD k [])).length) else false))) || (decide ((((List.length (F.getD k [])) : Nat) : Int) ≠ ((LD : Nat) : Int)))) = false) ∧ (decide ((0 : Int) < ((k : Nat) : Int))) = true) (Ty.lst Ty.ints F))), (Ty.pr (Ty.grd ((((((decide ((touchMay ((ByteArray.mk #[84, 114, 105, 101, 100])) (((M : Nat) : Int)) (L) (CS) ((F.getD k []))) ≠ (0 : Int))) || (!(if touchMay ((ByteArray.mk #[84, 114, 105, 101, 100])) (((M : Nat) : Int)) (L) (CS) ((F.getD k [])) = 0 then (prO (tRows (((M : Nat) : Int)).toNat (L) (CS) ((F.getD k [])) ((F.getD k [])).length)).isNone else false))) || (!(if touchMay ((ByteArray.mk #[84, 114, 105, 101, 100])) (((M : Nat) : Int)) (L) (CS) ((F.getD k [])) = 0 then rndB (tRows (((M : Nat) : Int)).toNat (L) (CS) ((F.getD k [])) ((F.getD k [])).length) else false))) || (decide ((((List.length (F.getD k [])) : Nat) : Int) ≠ ((LD : Nat) : Int)))) = false) ∧ (decide ((0 : Int) < ((k : Nat) : Int))) = true) (Ty.nat k))), (Ty.pr (Ty.grd ((((((decide ((touchMay ((ByteArray.mk #[84, 114, 105, 101, 100])) (((M : Nat) : Int)) (L) (CS) ((F.getD k []))) ≠ (0 : Int))) || (!(if touchMay ((ByteArray.mk #[84, 114, 105, 101, 100])) (((M : Nat) : Int)) (L) (CS) ((F.getD k [])) = 0 then (prO (tRows (((M : Nat) : Int)).toNat (L) (CS) ((F.getD k [])) ((F.getD k [])).length)).isNone else false))) || (!(if touchMay ((ByteArray.mk #[84, 114, 105, 101, 100])) (((M : Nat) : Int)) (L) (CS) ((F.getD k [])) = 0 then rndB (tRows (((M : Nat) : Int)).toNat (L) (CS) ((F.getD k [])) ((F.getD k [])).length) else false))) || (decide ((((List.length (F.getD k [])) : Nat) : Int) ≠ ((LD : Nat) : Int)))) = false) ∧ (decide ((0 : Int) < ((k : Nat) : Int))) = true) (Ty.ref [(Ty.lst Ty.int (F.getD k []))]))), (Ty.pr (Ty.grd ((((((decide ((touchMay ((ByteArray.mk #[84, 114, 105, 101, 100])) (((M : Nat) : Int)) (L) (CS) ((F.getD k []))) ≠ (0 : Int))) || (!(if touchMay ((ByteArray.mk #[84, 114, 105, 101, 100])) (((M : Nat) : Int)) (L) (CS) ((F.getD k [])) = 0 then (prO (tRows (((M : Nat) : Int)).toNat (L) (CS) ((F.getD k [])) ((F.getD k [])).length)).isNone else false))) || (!(if touchMay ((ByteArray.mk #[84, 114, 105, 101, 100])) (((M : Nat) : Int)) (L) (CS) ((F.getD k [])) = 0 then rndB (tRows (((M : Nat) : Int)).toNat (L) (CS) ((F.getD k [])) ((F.getD k [])).length) else false))) || (decide ((((List.length (F.getD k [])) : Nat) : Int) ≠ ((LD : Nat) : Int)))) = false) ∧ (decide ((0 : Int) < ((k : Nat) : Int))) = true) (Ty.lst Ty.int (F.getD k [])))), (Ty.pr (Ty.grd ((((((decide ((touchMay ((ByteArray.mk #[84, 114, 105, 101, 100])) (((M : Nat) : Int)) (L) (CS) ((F.getD k []))) ≠ (0 : Int))) || (!(if touchMay ((ByteArray.mk #[84, 114, 105, 101, 100])) (((M : Nat) : Int)) (L) (CS) ((F.getD k [])) = 0 then (prO (tRows (((M : Nat) : Int)).toNat (L) (CS) ((F.getD k [])) ((F.getD k [])).length)).isNone else false))) || (!(if touchMay ((ByteArray.mk #[84, 114, 105, 101, 100])) (((M : Nat) : Int)) (L) (CS) ((F.getD k [])) = 0 then rndB (tRows (((M : Nat) : Int)).toNat (L) (CS) ((F.getD k [])) ((F.getD k [])).length) else false))) || (decide ((((List.length (F.getD k [])) : Nat) : Int) ≠ ((LD : Nat) : Int)))) = false) ∧ (decide ((0 : Int) < ((k : Nat) : Int))) = true) (Ty.bool (belowL ((F.getD (k - 1) [])) ((F.getD k [])))))), (Ty.pr (Ty.grd ((((((decide ((touchMay ((ByteArray.mk #[84, 114, 105, 101, 100])) (((M : Nat) : Int)) (L) (CS) ((F.getD k []))) ≠ (0 : Int))) || (!(if touchMay ((ByteArray.mk #[84, 114, 105, 101, 100])) (((M : Nat) : Int)) (L) (CS) ((F.getD k [])) = 0 then (prO (tRows (((M : Nat) : Int)).toNat (L) (CS) ((F.getD k [])) ((F.getD k [])).length)).isNone else false))) || (!(if touchMay ((ByteArray.mk #[84, 114, 105, 101, 100])) (((M : Nat) : Int)) (L) (CS) ((F.getD k [])) = 0 then rndB (tRows (((M : Nat) : Int)).toNat (L) (CS) ((F.getD k [])) ((F.getD k [])).length) else false))) || (decide ((((List.length (F.getD k [])) : Nat) : Int) ≠ ((LD : Nat) : Int)))) = false) ∧ (decide ((0 : Int) < ((k : Nat) : Int))) = true) (Ty.bool (!(belowL ((F.getD (k - 1) [])) ((F.getD k []))))))), (Ty.pr (Ty.grd (((((decide ((touchMay ((ByteArray.mk #[84, 114, 105, 101, 100])) (((M : Nat) : Int)) (L) (CS) ((F.getD k []))) ≠ (0 : Int))) || (!(if touchMay ((ByteArray.mk #[84, 114, 105, 101, 100])) (((M : Nat) : Int)) (L) (CS) ((F.getD k [])) = 0 then (prO (tRows (((M : Nat) : Int)).toNat (L) (CS) ((F.getD k [])) ((F.getD k [])).length)).isNone else false))) || (!(if touchMay ((ByteArray.mk #[84, 114, 105, 101, 100])) (((M : Nat) : Int)) (L) (CS) ((F.getD k [])) = 0 then rndB (tRows (((M : Nat) : Int)).toNat (L) (CS) ((F.getD k [])) ((F.getD k [])).length) else false))) || (decide ((((List.length (F.getD k [])) : Nat) : Int) ≠ ((LD : Nat) : Int)))) = false) (Ty.bool ((decide ((0 : Int) < ((k : Nat) : Int))) && (!(belowL ((F.getD (k - 1) [])) ((F.getD k [])))))))), (Ty.pr (Ty.bool (((((decide ((touchMay ((ByteArray.mk #[84, 114, 105, 101, 100])) (((M : Nat) : Int)) (L) (CS) ((F.getD k []))) ≠ (0 : Int))) || (!(if touchMay ((ByteArray.mk #[84, 114, 105, 101, 100])) (((M : Nat) : Int)) (L) (CS) ((F.getD k [])) = 0 then (prO (tRows (((M : Nat) : Int)).toNat (L) (CS) ((F.getD k [])) ((F.getD k [])).length)).isNone else false))) || (!(if touchMay ((ByteArray.mk #[84, 114, 105, 101, 100])) (((M : Nat) : Int)) (L) (CS) ((F.getD k [])) = 0 then rndB (tRows (((M : Nat) : Int)).toNat (L) (CS) ((F.getD k [])) ((F.getD k [])).length) else false))) || (decide ((((List.length (F.getD k [])) : Nat) : Int) ≠ ((LD : Nat) : Int)))) || ((decide ((0 : Int) < ((k : Nat) : Int))) && (!(belowL ((F.getD (k - 1) [])) ((F.getD k []))))))))] i_ Pr.any) ok20 rfl ⟨?_, ?_, ?_, ?_, ?_, ?_, ?_, ?_, ?_, ?_, ?_, ?_, ?_, ?_, ?_, ?_, ?_, ?_, ?_, ?_, ?_, ?_, ?_, ?_, ?_, ?_, ?_, ?_, ?_, ?_, ?_, ?_, ?_, ?_, ?_, ?_, ?_, ?_, trivial⟩ ?_
      · intro ax tx hs okx sm
        exact run_plain rfl (y_move (kp (sm 26 rfl) hs q161))
      · intro ax tx hs okx sm d0
        have e0 := ed d0 rfl rfl rfl
        exact run_plain rfl (y_neq e0 rfl)
      · intro ax tx hs okx sm d0
        have e1 := ed d0 rfl rfl rfl
        exact run_plain rfl (y_move e1)
      · intro ax tx hs okx sm d0
        have e2 := ed d0 rfl rfl rfl
        refine run_guard (T := (Ty.val (ptrAt x2 2))) okx rfl rfl (by decide) e2 (fun hg => ?_)
        have hp := of_decide_eq_false hg
        exact ownp_field Try.fld42_2 Try.inf4 (by decide) (OwnP.k0 o15 hs) (kp (sm 25 rfl) hs q160)
      · intro ax tx hs okx sm d0 d1
        have e3 := ed d0 rfl rfl rfl
        have e2 := ed d1 rfl rfl rfl
        refine run_guard (T := (Ty.bool (if touchMay ((ByteArray.mk #[84, 114, 105, 101, 100])) (((M : Nat) : Int)) (L) (CS) ((F.getD k [])) = 0 then (prO (tRows (((M : Nat) : Int)).toNat (L) (CS) ((F.getD k [])) ((F.getD k [])).length)).isNone else false))) okx rfl rfl (by decide) e2 (fun hg => ?_)
        have hp := of_decide_eq_false hg
        exact ownp_load Try.underlying4 rfl (OwnP.k0 o15 hs) (e3.1 hg) rfl
      · intro ax tx hs okx sm d0 d1
        have e4 := ed d0 rfl rfl rfl
        have e2 := ed d1 rfl rfl rfl
        refine run_guard (T := (Ty.bool (!(if touchMay ((ByteArray.mk #[84, 114, 105, 101, 100])) (((M : Nat) : Int)) (L) (CS) ((F.getD k [])) = 0 then (prO (tRows (((M : Nat) : Int)).toNat (L) (CS) ((F.getD k [])) ((F.getD k [])).length)).isNone else false)))) okx rfl rfl (by decide) e2 (fun hg => ?_)
        have hp := of_decide_eq_false hg
        exact y_not (e4.1 hg)
      · intro ax tx hs okx sm d0 d1
        have e2 := ed d0 rfl rfl rfl
        have e5 := ed d1 rfl rfl rfl
        exact run_plain rfl (y_pick_or e2 rfl e5)
      · intro ax tx hs okx sm d0 d1
        have e6 := ed d0 rfl rfl rfl
        exact run_plain rfl (y_move e6)
      · intro ax tx hs okx sm d0
        have e7 := ed d0 rfl rfl rfl
        refine run_guard (T := (Ty.val (ptrAt x2 1))) okx rfl rfl (by decide) e7 (fun hg => ?_)
        obtain ⟨d17, d18⟩ := Bool.or_eq_false_iff.mp hg
        have d17 := of_decide_eq_false d17
        exact ownp_field Try.fld42_1 Try.inf4 (by decide) (OwnP.k0 o15 hs) (kp (sm 25 rfl) hs q160)
      · intro ax tx hs okx sm d0 d1
        have e8 := ed d0 rfl rfl rfl
        have e7 := ed d1 rfl rfl rfl
        refine run_guard (T := (Ty.bool (if touchMay ((ByteArray.mk #[84, 114, 105, 101, 100])) (((M : Nat) : Int)) (L) (CS) ((F.getD k [])) = 0 then rndB (tRows (((M : Nat) : Int)).toNat (L) (CS) ((F.getD k [])) ((F.getD k [])).length) else false))) okx rfl rfl (by decide) e7 (fun hg => ?_)
        obtain ⟨d19, d20⟩ := Bool.or_eq_false_iff.mp hg
        have d19 := of_decide_eq_false d19
        exact ownp_load Try.underlying4 rfl (OwnP.k0 o15 hs) (e8.1 hg) rfl
      · intro ax tx hs okx sm d0 d1
        have e9 := ed d0 rfl rfl rfl
        have e7 := ed d1 rfl rfl rfl
        refine run_guard (T := (Ty.bool (!(if touchMay ((ByteArray.mk #[84, 114, 105, 101, 100])) (((M : Nat) : Int)) (L) (CS) ((F.getD k [])) = 0 then rndB (tRows (((M : Nat) : Int)).toNat (L) (CS) ((F.getD k [])) ((F.getD k [])).length) else false)))) okx rfl rfl (by decide) e7 (fun hg => ?_)
        obtain ⟨d21, d22⟩ := Bool.or_eq_false_iff.mp hg
        have d21 := of_decide_eq_false d21
        exact y_not (e9.1 hg)
      · intro ax tx hs okx sm d0 d1
        have e7 := ed d0 rfl rfl rfl
        have e10 := ed d1 rfl rfl rfl
        exact run_plain rfl (y_pick_or e7 rfl e10)
      · intro ax tx hs okx sm d0 d1
        have e11 := ed d0 rfl rfl rfl
        exact run_plain rfl (y_move e11)
      · intro ax tx hs okx sm d0
        have e12 := ed d0 rfl rfl rfl
        refine run_guard (T := (Ty.lst Ty.ints F)) okx rfl rfl (by decide) e12 (fun hg => ?_)
        obtain ⟨d23, d24⟩ := Bool.or_eq_false_iff.mp hg
        obtain ⟨d25, d26⟩ := Bool.or_eq_false_iff.mp d23
        have d25 := of_decide_eq_false d25
        exact y_move (kp (sm 20 rfl) hs q158)
      · intro ax tx hs okx sm d0
        have e12 := ed d0 rfl rfl rfl
        refine run_guard (T := (Ty.nat k)) okx rfl rfl (by decide) e12 (fun hg => ?_)
        obtain ⟨d27, d28⟩ := Bool.or_eq_false_iff.mp hg
        obtain ⟨d29, d30⟩ := Bool.or_eq_false_iff.mp d27
        have d29 := of_decide_eq_false d29
        exact y_move (kp (sm 24 rfl) hs q152)
      · intro ax tx hs okx sm d0 d1 d2
        have e13 := ed d0 rfl rfl rfl
        have e14 := ed d1 rfl rfl rfl
        have e12 := ed d2 rfl rfl rfl
        refine run_guard (T := (Ty.ref [(Ty.lst Ty.int (F.getD k []))])) okx rfl rfl (by decide) e12 (fun hg => ?_)
        obtain ⟨d31, d32⟩ := Bool.or_eq_false_iff.mp hg
        obtain ⟨d33, d34⟩ := Bool.or_eq_false_iff.mp d31
        have d33 := of_decide_eq_false d33
        exact y_index1 Try.underlying29 Try.inf23 (e13.1 hg) (e14.1 hg) (by omega) (lst_get Ty.ints F [] k (by omega))
      · intro ax tx hs okx sm d0 d1
        have e15 := ed d0 rfl rfl rfl
        have e12 := ed d1 rfl rfl rfl
        refine run_guard (T := (Ty.lst Ty.int (F.getD k []))) okx rfl rfl (by decide) e12 (fun hg => ?_)
        obtain ⟨d35, d36⟩ := Bool.or_eq_false_iff.mp hg
        obtain ⟨d37, d38⟩ := Bool.or_eq_false_iff.mp d35
        have d37 := of_decide_eq_false d37
        exact y_load Try.underlying23 rfl (e15.1 hg) rfl
      · intro ax tx hs okx sm d0 d1
        have e16 := ed d0 rfl rfl rfl
        have e12 := ed d1 rfl rfl rfl
        refine run_guard (T := (Ty.nat (List.length (F.getD k [])))) okx rfl rfl (by decide) e12 (fun hg => ?_)
        obtain ⟨d39, d40⟩ := Bool.or_eq_false_iff.mp hg
        obtain ⟨d41, d42⟩ := Bool.or_eq_false_iff.mp d39
        have d41 := of_decide_eq_false d41
        exact y_len Try.underlying23 (e16.1 hg)
      · intro ax tx hs okx sm d0
        have e12 := ed d0 rfl rfl rfl
        refine run_guard (T := (Ty.nat LD)) okx rfl rfl (by decide) e12 (fun hg => ?_)
        obtain ⟨d43, d44⟩ := Bool.or_eq_false_iff.mp hg
        obtain ⟨d45, d46⟩ := Bool.or_eq_false_iff.mp d43
        have d45 := of_decide_eq_false d45
        exact y_move (kp (sm 4 rfl) hs q154)
      · intro ax tx hs okx sm d0 d1 d2
        have e17 := ed d0 rfl rfl rfl
        have e18 := ed d1 rfl rfl rfl
        have e12 := ed d2 rfl rfl rfl
        refine run_guard (T := (Ty.bool (decide ((((List.length (F.getD k [])) : Nat) : Int) ≠ ((LD : Nat) : Int))))) okx rfl rfl (by decide) e12 (fun hg => ?_)
        obtain ⟨d47, d48⟩ := Bool.or_eq_false_iff.mp hg
        obtain ⟨d49, d50⟩ := Bool.or_eq_false_iff.mp d47
        have d49 := of_decide_eq_false d49
        exact y_neq (e17.1 hg) (e18.1 hg)
      · intro ax tx hs okx sm d0 d1
        have e12 := ed d0 rfl rfl rfl
        have e19 := ed d1 rfl rfl rfl
        exact run_plain rfl (y_pick_or e12 rfl e19)
      · intro ax tx hs okx sm d0 d1
        have e20 := ed d0 rfl rfl rfl
        exact run_plain rfl (y_move e20)
      · intro ax tx hs okx sm d0
        have e21 := ed d0 rfl rfl rfl
        refine run_guard (T := (Ty.nat k)) okx rfl rfl (by decide) e21 (fun hg => ?_)
        obtain ⟨d51, d52⟩ := Bool.or_eq_false_iff.mp hg
        obtain ⟨d53, d54⟩ := Bool.or_eq_false_iff.mp d51
        obtain ⟨d55, d56⟩ := Bool.or_eq_false_iff.mp d53
        have d55 := of_decide_eq_false d55
        have d52 := of_decide_eq_false d52
        exact y_move (kp (sm 24 rfl) hs q152)
      · intro ax tx hs okx sm d0 d1
        have e22 := ed d0 rfl rfl rfl
        have e21 := ed d1 rfl rfl rfl
        refine run_guard (T := (Ty.bool (decide ((0 : Int) < ((k : Nat) : Int))))) okx rfl rfl (by decide) e21 (fun hg => ?_)
        obtain ⟨d57, d58⟩ := Bool.or_eq_false_iff.mp hg
        obtain ⟨d59, d60⟩ := Bool.or_eq_false_iff.mp d57
        obtain ⟨d61, d62⟩ := Bool.or_eq_false_iff.mp d59
        have d61 := of_decide_eq_false d61
        have d58 := of_decide_eq_false d58
        exact y_gtr (e22.1 hg) rfl
      · intro ax tx hs okx sm d0 d1 d2
        have e23 := ed d0 rfl rfl rfl
        have e21 := ed d1 rfl rfl rfl
        refine run_guard (T := (Ty.bool (decide ((0 : Int) < ((k : Nat) : Int))))) okx rfl rfl (by decide) e21 (fun hg => ?_)
        obtain ⟨d63, d64⟩ := Bool.or_eq_false_iff.mp hg
        obtain ⟨d65, d66⟩ := Bool.or_eq_false_iff.mp d63
        obtain ⟨d67, d68⟩ := Bool.or_eq_false_iff.mp d65
        have d67 := of_decide_eq_false d67
        have d64 := of_decide_eq_false d64
        exact y_move (e23.1 hg)
      · intro ax tx hs okx sm d0
        have e24 := ed d0 rfl rfl rfl
        refine run_guard2 (T := (Ty.lst Ty.ints F)) okx rfl rfl (by decide) e24 (fun hg => ?_)
        have hp := of_decide_eq_true hg.2
        exact y_move (kp (sm 20 rfl) hs q158)
      · intro ax tx hs okx sm d0
        have e24 := ed d0 rfl rfl rfl
        refine run_guard2 (T := (Ty.nat k)) okx rfl rfl (by decide) e24 (fun hg => ?_)
        have hp := of_decide_eq_true hg.2
        exact y_move (kp (sm 24 rfl) hs q152)
      · intro ax tx hs okx sm d0 d1
        have e26 := ed d0 rfl rfl rfl
        have e24 := ed d1 rfl rfl rfl
        refine run_guard2 (T := (Ty.nat (k - 1))) okx rfl rfl (by decide) e24 (fun hg => ?_)
        have hp := of_decide_eq_true hg.2
        exact (y_sub (e26.1 hg) rfl (w64 (by omega) (by omega))).mono (fun τ _ h => cvi (σ := τ) (by omega) h)
      · intro ax tx hs okx sm d0 d1 d2
        have e25 := ed d0 rfl rfl rfl
        have e27 := ed d1 rfl rfl rfl
        have e24 := ed d2 rfl rfl rfl
        refine run_guard2 (T := (Ty.ref [(Ty.lst Ty.int (F.getD (k - 1) []))])) okx rfl rfl (by decide) e24 (fun hg => ?_)
        have hp := of_decide_eq_true hg.2
        exact y_index1 Try.underlying29 Try.inf23 (e25.1 hg) (e27.1 hg) (by omega) (lst_get Ty.ints F [] (k - 1) (by omega))
      · intro ax tx hs okx sm d0 d1
        have e28 := ed d0 rfl rfl rfl
        have e24 := ed d1 rfl rfl rfl
        refine run_guard2 (T := (Ty.lst Ty.int (F.getD (k - 1) []))) okx rfl rfl (by decide) e24 (fun hg => ?_)
        have hp := of_decide_eq_true hg.2
        exact y_load Try.underlying23 rfl (e28.1 hg) rfl
      · intro ax tx hs okx sm d0
        have e24 := ed d0 rfl rfl rfl
        refine run_guard2 (T := (Ty.lst Ty.ints F)) okx rfl rfl (by decide) e24 (fun hg => ?_)
        have hp := of_decide_eq_true hg.2
        exact y_move (kp (sm 20 rfl) hs q158)
      · intro ax tx hs okx sm d0
        have e24 := ed d0 rfl rfl rfl
        refine run_guard2 (T := (Ty.nat k)) okx rfl rfl (by decide) e24 (fun hg => ?_)
        have hp := of_decide_eq_true hg.2
        exact y_move (kp (sm 24 rfl) hs q152)
      · intro ax tx hs okx sm d0 d1 d2
        have e30 := ed d0 rfl rfl rfl
        have e31 := ed d1 rfl rfl rfl
        have e24 := ed d2 rfl rfl rfl
        refine run_guard2 (T := (Ty.ref [(Ty.lst Ty.int (F.getD k []))])) okx rfl rfl (by decide) e24 (fun hg => ?_)
        have hp := of_decide_eq_true hg.2
        exact y_index1 Try.underlying29 Try.inf23 (e30.1 hg) (e31.1 hg) (by omega) (lst_get Ty.ints F [] k (by omega))
      · intro ax tx hs okx sm d0 d1
        have e32 := ed d0 rfl rfl rfl
        have e24 := ed d1 rfl rfl rfl
        refine run_guard2 (T := (Ty.lst Ty.int (F.getD k []))) okx rfl rfl (by decide) e24 (fun hg => ?_)
        have hp := of_decide_eq_true hg.2
        exact y_load Try.underlying23 rfl (e32.1 hg) rfl
      · intro ax tx hs okx sm d0 d1 d2 d3
        have e29 := ed d0 rfl rfl rfl
        have e33 := ed d1 rfl rfl rfl
        have e24 := ed d2 rfl rfl rfl
        refine run_guard2 (T := (Ty.bool (belowL ((F.getD (k - 1) [])) ((F.getD k []))))) okx rfl rfl (by decide) e24 (fun hg => ?_)
        have hp := of_decide_eq_true hg.2
        exact y_call #[ax.eval (.tmp 142), ax.eval (.tmp 146)] Try.func39 rfl rfl (by simp only [List.map_toArray, List.map_cons, List.map_nil]) (rBelow_fn ((F.getD (k - 1) [])) ((F.getD k [])) _ _ _ (e29.1 hg) (e33.1 hg) )
      · intro ax tx hs okx sm d0 d1
        have e34 := ed d0 rfl rfl rfl
        have e24 := ed d1 rfl rfl rfl
        refine run_guard2 (T := (Ty.bool (!(belowL ((F.getD (k - 1) [])) ((F.getD k [])))))) okx rfl rfl (by decide) e24 (fun hg => ?_)
        have hp := of_decide_eq_true hg.2
        exact y_not (e34.1 hg)
      · intro ax tx hs okx sm d0 d1 d2
        have e24 := ed d0 rfl rfl rfl
        have e35 := ed d1 rfl rfl rfl
        have e21 := ed d2 rfl rfl rfl
        refine run_guard (T := (Ty.bool ((decide ((0 : Int) < ((k : Nat) : Int))) && (!(belowL ((F.getD (k - 1) [])) ((F.getD k []))))))) okx rfl rfl (by decide) e21 (fun hg => ?_)
        obtain ⟨d69, d70⟩ := Bool.or_eq_false_iff.mp hg
        obtain ⟨d71, d72⟩ := Bool.or_eq_false_iff.mp d69
        obtain ⟨d73, d74⟩ := Bool.or_eq_false_iff.mp d71
        have d73 := of_decide_eq_false d73
        have d70 := of_decide_eq_false d70
        exact y_pick_and (e24.1 hg) (grd_part hg e35) rfl
      · intro ax tx hs okx sm d0 d1
        have e21 := ed d0 rfl rfl rfl
        have e36 := ed d1 rfl rfl rfl
        exact run_plain rfl (y_pick_or e21 rfl e36)
      intro a22 s21 D19
      have ok21 := D19.ok
      have F22 := F21.step0 D19.stp
      have q162 := D19.kt q152 rfl
      have q163 := D19.kt q153 rfl
      have q164 := D19.kt q154 rfl
      have q165 := D19.kt q155 rfl
      have q166 := D19.kt q156 rfl
      have q167 := D19.kt q157 rfl
      have q168 := D19.kt q158 rfl
      have q169 := D19.kt q159 rfl
      have o16 := OwnP.k0 o14 D19.stp
      have o17 := OwnP.k0 o15 D19.stp
      have q170 : At (Ty.bool (((((decide ((touchMay ((ByteArray.mk #[84, 114, 105, 101, 100])) (((M : Nat) : Int)) (L) (CS) ((F.getD k []))) ≠ (0 : Int))) || (!(if touchMay ((ByteArray.mk #[84, 114, 105, 101, 100])) (((M : Nat) : Int)) (L) (CS) ((F.getD k [])) = 0 then (prO (tRows (((M : Nat) : Int)).toNat (L) (CS) ((F.getD k [])) ((F.getD k [])).length)).isNone else false))) || (!(if touchMay ((ByteArray.mk #[84, 114, 105, 101, 100])) (((M : Nat) : Int)) (L) (CS) ((F.getD k [])) = 0 then rndB (tRows (((M : Nat) : Int)).toNat (L) (CS) ((F.getD k [])) ((F.getD k [])).length) else false))) || (decide ((((List.length (F.getD k [])) : Nat) : Int) ≠ ((LD : Nat) : Int)))) || ((decide ((0 : Int) < ((k : Nat) : Int))) && (!(belowL ((F.getD (k - 1) [])) ((F.getD k []))))))) s21 a22 (.tmp 150) := D19.done 37
      clear D19
      refine tn ?_
      refine cond_t q170 (fun c5 => ?_) (fun c5 => ?_)
      ·
       exfalso
       have hT_ : (prO (tRows (((M : Nat) : Int)).toNat L CS (F.getD k []) (F.getD k []).length)).isNone = true := (by rw [htn]; exact hgt); have hR_ : rndB (tRows (((M : Nat) : Int)).toNat L CS (F.getD k []) (F.getD k []).length) = true := (by rw [htn]; exact hgr); rw [htk, if_pos rfl, if_pos rfl, hT_, hR_] at c5; simp only [ne_eq, not_true_eq_false, decide_false, Bool.false_or, Bool.not_true, Bool.or_eq_true, decide_eq_true_eq, Bool.and_eq_true, Bool.not_eq_true'] at c5; rcases c5 with h_ | ⟨h_, h2_⟩; omega; rw [hbk (by omega) (by omega)] at h2_; cases h2_
      ·
       obtain ⟨d75, d76⟩ := Bool.or_eq_false_iff.mp c5
       obtain ⟨d77, d78⟩ := Bool.or_eq_false_iff.mp d75
       obtain ⟨d79, d80⟩ := Bool.or_eq_false_iff.mp d77
       obtain ⟨d81, d82⟩ := Bool.or_eq_false_iff.mp d79
       replace d81 := of_decide_eq_false d81
       replace d78 := of_decide_eq_false d78
       refine wp_skip ?_
       refine tn ?_
       refine reg (a := a22) (σ := s21) rfl (fun i_ => List.getD [(Ty.pr (Ty.bool (decide (G ∈ F.take k)))), (Ty.pr (Ty.bool (decide (G ∈ F.take k)))), (Ty.pr (Ty.grd ((decide (G ∈ F.take k)) = false) (Ty.lst Ty.ints F))), (Ty.pr (Ty.grd ((decide (G ∈ F.take k)) = false) (Ty.nat k))), (Ty.pr (Ty.grd ((decide (G ∈ F.take k)) = false) (Ty.ref [(Ty.lst Ty.int (F.getD k []))]))), (Ty.pr (Ty.grd ((decide (G ∈ F.take k)) = false) (Ty.lst Ty.int (F.getD k [])))), (Ty.pr (Ty.grd ((decide (G ∈ F.take k)) = false) (Ty.lst Ty.int G))), (Ty.pr (Ty.grd ((decide (G ∈ F.take k)) = false) (Ty.bool (decide (((F.getD k [])) = (G)))))), (Ty.pr (Ty.bool ((decide (G ∈ F.take k)) || (decide (((F.getD k [])) = (G)))))), (Ty.pr (Ty.bool ((decide (G ∈ F.take k)) || (decide (((F.getD k [])) = (G))))))] i_ Pr.any) ok21 rfl ⟨?_, ?_, ?_, ?_, ?_, ?_, ?_, ?_, ?_, ?_, trivial⟩ ?_
       · intro ax tx hs okx sm
         exact run_plain rfl (y_move (kp (sm 23 rfl) hs q163))
       · intro ax tx hs okx sm d0
         have e0 := ed d0 rfl rfl rfl
         exact run_plain rfl (y_move e0)
       · intro ax tx hs okx sm d0
         have e1 := ed d0 rfl rfl rfl
         refine run_guard (T := (Ty.lst Ty.ints F)) okx rfl rfl (by decide) e1 (fun hg => ?_)
         exact y_move (kp (sm 20 rfl) hs q168)
       · intro ax tx hs okx sm d0
         have e1 := ed d0 rfl rfl rfl
         refine run_guard (T := (Ty.nat k)) okx rfl rfl (by decide) e1 (fun hg => ?_)
         exact y_move (kp (sm 24 rfl) hs q162)
       · intro ax tx hs okx sm d0 d1 d2
         have e2 := ed d0 rfl rfl rfl
         have e3 := ed d1 rfl rfl rfl
         have e1 := ed d2 rfl rfl rfl
         refine run_guard (T := (Ty.ref [(Ty.lst Ty.int (F.getD k []))])) okx rfl rfl (by decide) e1 (fun hg => ?_)
         exact y_index1 Try.underlying29 Try.inf23 (e2.1 hg) (e3.1 hg) (by omega) (lst_get Ty.ints F [] k (by omega))
       · intro ax tx hs okx sm d0 d1
         have e4 := ed d0 rfl rfl rfl
         have e1 := ed d1 rfl rfl rfl
         refine run_guard (T := (Ty.lst Ty.int (F.getD k []))) okx rfl rfl (by decide) e1 (fun hg => ?_)
         exact y_load Try.underlying23 rfl (e4.1 hg) rfl
       · intro ax tx hs okx sm d0
         have e1 := ed d0 rfl rfl rfl
         refine run_guard (T := (Ty.lst Ty.int G)) okx rfl rfl (by decide) e1 (fun hg => ?_)
         exact y_move (kp (sm 22 rfl) hs q169)
       · intro ax tx hs okx sm d0 d1 d2 d3
         have e5 := ed d0 rfl rfl rfl
         have e6 := ed d1 rfl rfl rfl
         have e1 := ed d2 rfl rfl rfl
         refine run_guard (T := (Ty.bool (decide (((F.getD k [])) = (G))))) okx rfl rfl (by decide) e1 (fun hg => ?_)
         exact y_call #[ax.eval (.tmp 156), ax.eval (.tmp 157)] Try.func14 rfl rfl (by simp only [List.map_toArray, List.map_cons, List.map_nil]) (rsame_fn ((F.getD k [])) (G) _ _ _ (e5.1 hg) (e6.1 hg) )
       · intro ax tx hs okx sm d0 d1
         have e1 := ed d0 rfl rfl rfl
         have e7 := ed d1 rfl rfl rfl
         exact run_plain rfl (y_pick_or e1 rfl e7)
       · intro ax tx hs okx sm d0 d1 d2 d3 d4 d5 d6 d7 d8 d9 d10
         have e8 := ed d0 rfl rfl rfl
         exact run_plain rfl (y_assign e8)
       intro a23 s22 D20
       have ok22 := D20.ok
       have F23 := F22.step0 D20.stp
       have q171 := D20.kt q162 rfl
       have q172 := D20.kt q164 rfl
       have q173 := D20.kt q165 rfl
       have q174 := D20.kt q166 rfl
       have q175 := D20.kt q167 rfl
       have q176 := D20.kt q168 rfl
       have q177 := D20.kt q169 rfl
       have o18 := OwnP.k0 o16 D20.stp
       have q178 : At (Ty.bool ((decide (G ∈ F.take k)) || (decide (((F.getD k [])) = (G))))) s22 a23 (.tmp 23) := D20.done 9
       clear D20
       refine bn ?_
       refine tn ?_
       refine reg (a := a23) (σ := s22) rfl (fun i_ => List.getD [(Ty.pr (Ty.nat k)), (Ty.pr (Ty.nat (k + 1))), (Ty.pr (Ty.nat (k + 1)))] i_ Pr.any) ok22 rfl ⟨?_, ?_, ?_, trivial⟩ ?_
       · intro ax tx hs okx sm
         exact run_plain rfl (y_move (kp (sm 24 rfl) hs q171))
       · intro ax tx hs okx sm d0
         have e0 := ed d0 rfl rfl rfl
         exact run_plain rfl ((y_add e0 rfl (w64 (by omega) (by omega))).mono (fun τ _ h => cvi (σ := τ) (by first | omega | exact (Int.natCast_mul _ _).symm) h))
       · intro ax tx hs okx sm d0 d1 d2
         have e1 := ed d0 rfl rfl rfl
         exact run_plain rfl (y_assign e1)
       intro a24 s23 D21
       have ok23 := D21.ok
       have F24 := F23.step0 D21.stp
       have q179 := D21.kt q172 rfl
       have q180 := D21.kt q173 rfl
       have q181 := D21.kt q174 rfl
       have q182 := D21.kt q175 rfl
       have q183 := D21.kt q176 rfl
       have q184 := D21.kt q177 rfl
       have q185 := D21.kt q178 rfl
       have o19 := OwnP.k0 o18 D21.stp
       have q186 : At (Ty.nat (k + 1)) s23 a24 (.tmp 24) := D21.done 2
       clear D21
       exact tn ⟨F.length - ((k+1)), by omega, s23, (k+1), rfl, F24, ok23, (cvi (by (first | rfl | omega | (simp_all; done) | (simp_all; omega))) q186), (cvb (by (exact among_step (by omega))) q185), q179, q180, q181, q182, q183, q184, o19, by omega, rfl⟩
     ·
      refine wp_exit ?_
      refine tx ?_
      refine tx ?_
      refine bx ?_
      refine tn ?_
      refine wp_seq ?_
      refine reg2 (a := a19) (σ := s18) rfl 8 (fun i_ => List.getD [(Ty.pr (Ty.agg [(Ty.val (Value.string (ByteArray.mk #[84, 114, 105, 101, 100]))), (Ty.nat M), (Ty.lst Ty.ints L)])), (Ty.pr (Ty.lstc 2 callC CS)), (Ty.pr (Ty.lst Ty.int G)), (Ty.pr (Ty.tup2 (Ty.agg [(Ty.nat (if touchMay ((ByteArray.mk #[84, 114, 105, 101, 100])) (((M : Nat) : Int)) (L) (CS) (G) = 0 then (G).length * (L).length else 0)), (Ty.bool (if touchMay ((ByteArray.mk #[84, 114, 105, 101, 100])) (((M : Nat) : Int)) (L) (CS) (G) = 0 then rndB (tRows (((M : Nat) : Int)).toNat (L) (CS) (G) (G).length) else false)), (Ty.bool (if touchMay ((ByteArray.mk #[84, 114, 105, 101, 100])) (((M : Nat) : Int)) (L) (CS) (G) = 0 then (prO (tRows (((M : Nat) : Int)).toNat (L) (CS) (G) (G).length)).isNone else false)), (Ty.nat (if touchMay ((ByteArray.mk #[84, 114, 105, 101, 100])) (((M : Nat) : Int)) (L) (CS) (G) = 0 then agnL (tRows (((M : Nat) : Int)).toNat (L) (CS) (G) (G).length) else 0)), (Ty.int (if touchMay ((ByteArray.mk #[84, 114, 105, 101, 100])) (((M : Nat) : Int)) (L) (CS) (G) = 0 then befL (tRows (((M : Nat) : Int)).toNat (L) (CS) (G) (G).length) else 0))]) (Ty.int (touchMay ((ByteArray.mk #[84, 114, 105, 101, 100])) (((M : Nat) : Int)) (L) (CS) (G))))), (Ty.pr (Ty.tup2 (Ty.agg [(Ty.nat (if touchMay ((ByteArray.mk #[84, 114, 105, 101, 100])) (((M : Nat) : Int)) (L) (CS) (G) = 0 then (G).length * (L).length else 0)), (Ty.bool (if touchMay ((ByteArray.mk #[84, 114, 105, 101, 100])) (((M : Nat) : Int)) (L) (CS) (G) = 0 then rndB (tRows (((M : Nat) : Int)).toNat (L) (CS) (G) (G).length) else false)), (Ty.bool (if touchMay ((ByteArray.mk #[84, 114, 105, 101, 100])) (((M : Nat) : Int)) (L) (CS) (G) = 0 then (prO (tRows (((M : Nat) : Int)).toNat (L) (CS) (G) (G).length)).isNone else false)), (Ty.nat (if touchMay ((ByteArray.mk #[84, 114, 105, 101, 100])) (((M : Nat) : Int)) (L) (CS) (G) = 0 then agnL (tRows (((M : Nat) : Int)).toNat (L) (CS) (G) (G).length) else 0)), (Ty.int (if touchMay ((ByteArray.mk #[84, 114, 105, 101, 100])) (((M : Nat) : Int)) (L) (CS) (G) = 0 then befL (tRows (((M : Nat) : Int)).toNat (L) (CS) (G) (G).length) else 0))]) (Ty.int (touchMay ((ByteArray.mk #[84, 114, 105, 101, 100])) (((M : Nat) : Int)) (L) (CS) (G))))), (Ty.pr (Ty.agg [(Ty.nat (if touchMay ((ByteArray.mk #[84, 114, 105, 101, 100])) (((M : Nat) : Int)) (L) (CS) (G) = 0 then (G).length * (L).length else 0)), (Ty.bool (if touchMay ((ByteArray.mk #[84, 114, 105, 101, 100])) (((M : Nat) : Int)) (L) (CS) (G) = 0 then rndB (tRows (((M : Nat) : Int)).toNat (L) (CS) (G) (G).length) else false)), (Ty.bool (if touchMay ((ByteArray.mk #[84, 114, 105, 101, 100])) (((M : Nat) : Int)) (L) (CS) (G) = 0 then (prO (tRows (((M : Nat) : Int)).toNat (L) (CS) (G) (G).length)).isNone else false)), (Ty.nat (if touchMay ((ByteArray.mk #[84, 114, 105, 101, 100])) (((M : Nat) : Int)) (L) (CS) (G) = 0 then agnL (tRows (((M : Nat) : Int)).toNat (L) (CS) (G) (G).length) else 0)), (Ty.int (if touchMay ((ByteArray.mk #[84, 114, 105, 101, 100])) (((M : Nat) : Int)) (L) (CS) (G) = 0 then befL (tRows (((M : Nat) : Int)).toNat (L) (CS) (G) (G).length) else 0))])), (Ty.pr (Ty.int (touchMay ((ByteArray.mk #[84, 114, 105, 101, 100])) (((M : Nat) : Int)) (L) (CS) (G)))), (Pr.ownp 6 [(Ty.int (0 : Int)), (Ty.bool false), (Ty.bool false), (Ty.int (0 : Int)), (Ty.int (0 : Int))])] i_ Pr.any) ok18 rfl (by decide) rfl ⟨?_, ?_, ?_, ?_, ?_, ?_, ?_, ?_, trivial⟩ ?_
      · intro ax tx hs okx sm
        exact run_plain rfl (ownp_loadagg Try.underlying31 Try.inf31 (OwnP.k0 o10 hs) (kp (sm 18 rfl) hs q137))
      · intro ax tx hs okx sm
        exact run_plain rfl (y_move (kp (sm 19 rfl) hs q138))
      · intro ax tx hs okx sm
        exact run_plain rfl (y_move (kp (sm 22 rfl) hs q140))
      · intro ax tx hs okx sm d0 d1 d2
        have e0 := ed d0 rfl rfl rfl
        have e1 := ed d1 rfl rfl rfl
        have e2 := ed d2 rfl rfl rfl
        exact run_plain rfl (y_call #[ax.eval (.tmp 161), ax.eval (.tmp 162), ax.eval (.tmp 163)] Try.func22 rfl rfl (by simp only [List.map_toArray, List.map_cons, List.map_nil]) (prove_fn ((ByteArray.mk #[84, 114, 105, 101, 100])) (((M : Nat) : Int)) (L) (CS) (G) _ _ _ _ e0 e1 e2 (by first | omega | assumption) (by first | omega | assumption)))
      · intro ax tx hs okx sm d0
        have e3 := ed d0 rfl rfl rfl
        exact run_plain rfl (y_move e3)
      · intro ax tx hs okx sm d0
        have e4 := ed d0 rfl rfl rfl
        exact run_plain rfl (y_ext2_0 e4)
      · intro ax tx hs okx sm d0 d1
        have e4 := ed d0 rfl rfl rfl
        exact run_plain rfl (y_ext2_1 e4)
      · intro ax tx hs okx sm
        exact run_plain rfl (y_alloc Try.inf42 rfl (alloc_vals (vs := [.int .i64 0, .bool false, .bool false, .int .i64 0, .int .i64 0]) rfl))
      intro a25 s24 D22
      have ok24 := D22.ok
      have F25 := F19.step0 D22.stp
      have q187 := D22.kt q134 rfl
      have q188 := D22.kt q136 rfl
      have q189 := D22.kt q139 rfl
      have q190 := D22.kt q140 rfl
      have o20 := OwnP.k0 o10 D22.stp
      have q191 : At (Ty.agg [(Ty.nat (if touchMay ((ByteArray.mk #[84, 114, 105, 101, 100])) (((M : Nat) : Int)) (L) (CS) (G) = 0 then (G).length * (L).length else 0)), (Ty.bool (if touchMay ((ByteArray.mk #[84, 114, 105, 101, 100])) (((M : Nat) : Int)) (L) (CS) (G) = 0 then rndB (tRows (((M : Nat) : Int)).toNat (L) (CS) (G) (G).length) else false)), (Ty.bool (if touchMay ((ByteArray.mk #[84, 114, 105, 101, 100])) (((M : Nat) : Int)) (L) (CS) (G) = 0 then (prO (tRows (((M : Nat) : Int)).toNat (L) (CS) (G) (G).length)).isNone else false)), (Ty.nat (if touchMay ((ByteArray.mk #[84, 114, 105, 101, 100])) (((M : Nat) : Int)) (L) (CS) (G) = 0 then agnL (tRows (((M : Nat) : Int)).toNat (L) (CS) (G) (G).length) else 0)), (Ty.int (if touchMay ((ByteArray.mk #[84, 114, 105, 101, 100])) (((M : Nat) : Int)) (L) (CS) (G) = 0 then befL (tRows (((M : Nat) : Int)).toNat (L) (CS) (G) (G).length) else 0))]) s24 a25 (.tmp 165) := D22.done 5 (by decide)
      have q192 : At (Ty.int (touchMay ((ByteArray.mk #[84, 114, 105, 101, 100])) (((M : Nat) : Int)) (L) (CS) (G))) s24 a25 (.tmp 166) := D22.done 6 (by decide)
      obtain ⟨x3, hx3⟩ : ∃ x, a25.eval (.tmp 27) = x := ⟨_, rfl⟩
      have q193 : At (Ty.val x3) s24 a25 (.tmp 27) := hx3
      have o21 : OwnP s24 6 x3 [(Ty.int (0 : Int)), (Ty.bool false), (Ty.bool false), (Ty.int (0 : Int)), (Ty.int (0 : Int))] := al2 (R := (Pr.ownp 6 [(Ty.int (0 : Int)), (Ty.bool false), (Ty.bool false), (Ty.int (0 : Int)), (Ty.int (0 : Int))])) hx3 (D22.done 7 (by decide))
      clear D22
      refine tailL0 (L := [6]) (R := (fun _ τ => OwnP τ 6 x3 [(Ty.nat (if touchMay ((ByteArray.mk #[84, 114, 105, 101, 100])) (((M : Nat) : Int)) (L) (CS) (G) = 0 then (G).length * (L).length else 0)), (Ty.bool (if touchMay ((ByteArray.mk #[84, 114, 105, 101, 100])) (((M : Nat) : Int)) (L) (CS) (G) = 0 then rndB (tRows (((M : Nat) : Int)).toNat (L) (CS) (G) (G).length) else false)), (Ty.bool (if touchMay ((ByteArray.mk #[84, 114, 105, 101, 100])) (((M : Nat) : Int)) (L) (CS) (G) = 0 then (prO (tRows (((M : Nat) : Int)).toNat (L) (CS) (G) (G).length)).isNone else false)), (Ty.nat (if touchMay ((ByteArray.mk #[84, 114, 105, 101, 100])) (((M : Nat) : Int)) (L) (CS) (G) = 0 then agnL (tRows (((M : Nat) : Int)).toNat (L) (CS) (G) (G).length) else 0)), (Ty.int (if touchMay ((ByteArray.mk #[84, 114, 105, 101, 100])) (((M : Nat) : Int)) (L) (CS) (G) = 0 then befL (tRows (((M : Nat) : Int)).toNat (L) (CS) (G) (G).length) else 0))])) rfl rfl (YldM.toL (m_storeagg Try.inf42 (by decide) o21 q193 rfl q191 (by intro U hU; simp only [List.mem_cons, List.not_mem_nil, or_false] at hU; rcases hU with rfl | rfl | rfl | rfl | rfl <;> first | exact one_val rfl | exact one_sl | exact one_ref))) (fun v2 s25 hs3 r3 => ?_)
      have F26 := F25.stepL hs3 (by decide)
      have q194 := kpL hs3 (by decide) rfl q187
      have q195 := kpL hs3 (by decide) rfl q188
      have q196 := kpL hs3 (by decide) rfl q189
      have q197 := kpL hs3 (by decide) rfl q190
      have q198 := kpL hs3 (by decide) rfl q192
      have q199 := kpL hs3 (by decide) rfl q193
      have o23 := OwnP.keepL o20 hs3 (by decide) (by decide)
      have o22 : OwnP s25 6 x3 [(Ty.nat (if touchMay ((ByteArray.mk #[84, 114, 105, 101, 100])) (((M : Nat) : Int)) (L) (CS) (G) = 0 then (G).length * (L).length else 0)), (Ty.bool (if touchMay ((ByteArray.mk #[84, 114, 105, 101, 100])) (((M : Nat) : Int)) (L) (CS) (G) = 0 then rndB (tRows (((M : Nat) : Int)).toNat (L) (CS) (G) (G).length) else false)), (Ty.bool (if touchMay ((ByteArray.mk #[84, 114, 105, 101, 100])) (((M : Nat) : Int)) (L) (CS) (G) = 0 then (prO (tRows (((M : Nat) : Int)).toNat (L) (CS) (G) (G).length)).isNone else false)), (Ty.nat (if touchMay ((ByteArray.mk #[84, 114, 105, 101, 100])) (((M : Nat) : Int)) (L) (CS) (G) = 0 then agnL (tRows (((M : Nat) : Int)).toNat (L) (CS) (G) (G).length) else 0)), (Ty.int (if touchMay ((ByteArray.mk #[84, 114, 105, 101, 100])) (((M : Nat) : Int)) (L) (CS) (G) = 0 then befL (tRows (((M : Nat) : Int)).toNat (L) (CS) (G) (G).length) else 0))] := r3
      clear r3
      refine tailL (L := []) (R := (fun v τ => Pr.has (Ty.pr (Ty.int (touchMay ((ByteArray.mk #[84, 114, 105, 101, 100])) (((M : Nat) : Int)) (L) (CS) (G)))) τ v)) rfl rfl (by decide) ok24 (Yld.toL (y_assign q198)) (fun a26 s26 hs4 ok25 r4 sm2 => ?_)
      have F27 := F26.stepL hs4 (by decide)
      have q201 := kpL hs4 (by decide) (sm2 23 (by decide)) q194
      have q202 := kpL hs4 (by decide) (sm2 5 (by decide)) q195
      have q203 := kpL hs4 (by decide) (sm2 20 (by decide)) q196
      have q204 := kpL hs4 (by decide) (sm2 22 (by decide)) q197
      have q205 := kpL hs4 (by decide) (sm2 27 (by decide)) q199
      have o24 := OwnP.keepL o23 hs4 (by decide) (by decide)
      have o25 := OwnP.keepL o22 hs4 (by decide) (by decide)
      have q206 : At (Ty.int (touchMay ((ByteArray.mk #[84, 114, 105, 101, 100])) (((M : Nat) : Int)) (L) (CS) (G))) s26 a26 (.tmp 21) := r4
      clear r4
      refine wpList_nil ?_
      refine tn ?_
      refine wp_seq ?_
      refine wp_seq ?_
      refine reg (a := a26) (σ := s26) rfl (fun i_ => List.getD [(Ty.pr (Ty.int (touchMay ((ByteArray.mk #[84, 114, 105, 101, 100])) (((M : Nat) : Int)) (L) (CS) (G)))), (Ty.pr (Ty.bool (decide ((touchMay ((ByteArray.mk #[84, 114, 105, 101, 100])) (((M : Nat) : Int)) (L) (CS) (G)) ≠ (0 : Int)))))] i_ Pr.any) ok25 rfl ⟨?_, ?_, trivial⟩ ?_
      · intro ax tx hs okx sm
        exact run_plain rfl (y_move (kp (sm 21 rfl) hs q206))
      · intro ax tx hs okx sm d0
        have e0 := ed d0 rfl rfl rfl
        exact run_plain rfl (y_neq e0 rfl)
      intro a27 s27 D23
      have ok26 := D23.ok
      have F28 := F27.step0 D23.stp
      have q207 := D23.kt q201 rfl
      have q208 := D23.kt q202 rfl
      have q209 := D23.kt q203 rfl
      have q210 := D23.kt q204 rfl
      have q211 := D23.kt q205 rfl
      have o26 := OwnP.k0 o25 D23.stp
      have q212 : At (Ty.bool (decide ((touchMay ((ByteArray.mk #[84, 114, 105, 101, 100])) (((M : Nat) : Int)) (L) (CS) (G)) ≠ (0 : Int)))) s27 a27 (.tmp 168) := D23.done 1
      clear D23
      refine tn ?_
      refine cond_p (p := ((touchMay ((ByteArray.mk #[84, 114, 105, 101, 100])) (((M : Nat) : Int)) (L) (CS) (G)) ≠ (0 : Int))) q212 (fun c6 => ?_) (fun c6 => ?_)
      ·
       exfalso
       exact c6 htG
      ·
       refine wp_skip ?_
       refine tn ?_
       refine wp_seq ?_
       refine reg (a := a27) (σ := s27) rfl (fun i_ => List.getD [(Ty.pr (Ty.val (ptrAt x3 2))), (Ty.pr (Ty.bool (if touchMay ((ByteArray.mk #[84, 114, 105, 101, 100])) (((M : Nat) : Int)) (L) (CS) (G) = 0 then (prO (tRows (((M : Nat) : Int)).toNat (L) (CS) (G) (G).length)).isNone else false))), (Ty.pr (Ty.bool (if touchMay ((ByteArray.mk #[84, 114, 105, 101, 100])) (((M : Nat) : Int)) (L) (CS) (G) = 0 then (prO (tRows (((M : Nat) : Int)).toNat (L) (CS) (G) (G).length)).isNone else false))), (Ty.pr (Ty.grd ((if touchMay ((ByteArray.mk #[84, 114, 105, 101, 100])) (((M : Nat) : Int)) (L) (CS) (G) = 0 then (prO (tRows (((M : Nat) : Int)).toNat (L) (CS) (G) (G).length)).isNone else false) = true) (Ty.val (ptrAt x3 1)))), (Ty.pr (Ty.grd ((if touchMay ((ByteArray.mk #[84, 114, 105, 101, 100])) (((M : Nat) : Int)) (L) (CS) (G) = 0 then (prO (tRows (((M : Nat) : Int)).toNat (L) (CS) (G) (G).length)).isNone else false) = true) (Ty.bool (if touchMay ((ByteArray.mk #[84, 114, 105, 101, 100])) (((M : Nat) : Int)) (L) (CS) (G) = 0 then rndB (tRows (((M : Nat) : Int)).toNat (L) (CS) (G) (G).length) else false)))), (Ty.pr (Ty.bool ((if touchMay ((ByteArray.mk #[84, 114, 105, 101, 100])) (((M : Nat) : Int)) (L) (CS) (G) = 0 then (prO (tRows (((M : Nat) : Int)).toNat (L) (CS) (G) (G).length)).isNone else false) && (if touchMay ((ByteArray.mk #[84, 114, 105, 101, 100])) (((M : Nat) : Int)) (L) (CS) (G) = 0 then rndB (tRows (((M : Nat) : Int)).toNat (L) (CS) (G) (G).length) else false)))), (Ty.pr (Ty.bool ((if touchMay ((ByteArray.mk #[84, 114, 105, 101, 100])) (((M : Nat) : Int)) (L) (CS) (G) = 0 then (prO (tRows (((M : Nat) : Int)).toNat (L) (CS) (G) (G).length)).isNone else false) && (if touchMay ((ByteArray.mk #[84, 114, 105, 101, 100])) (((M : Nat) : Int)) (L) (CS) (G) = 0 then rndB (tRows (((M : Nat) : Int)).toNat (L) (CS) (G) (G).length) else false)))), (Ty.pr (Ty.grd (((if touchMay ((ByteArray.mk #[84, 114, 105, 101, 100])) (((M : Nat) : Int)) (L) (CS) (G) = 0 then (prO (tRows (((M : Nat) : Int)).toNat (L) (CS) (G) (G).length)).isNone else false) && (if touchMay ((ByteArray.mk #[84, 114, 105, 101, 100])) (((M : Nat) : Int)) (L) (CS) (G) = 0 then rndB (tRows (((M : Nat) : Int)).toNat (L) (CS) (G) (G).length) else false)) = true) (Ty.bool (decide (G ∈ F.take k))))), (Ty.pr (Ty.grd (((if touchMay ((ByteArray.mk #[84, 114, 105, 101, 100])) (((M : Nat) : Int)) (L) (CS) (G) = 0 then (prO (tRows (((M : Nat) : Int)).toNat (L) (CS) (G) (G).length)).isNone else false) && (if touchMay ((ByteArray.mk #[84, 114, 105, 101, 100])) (((M : Nat) : Int)) (L) (CS) (G) = 0 then rndB (tRows (((M : Nat) : Int)).toNat (L) (CS) (G) (G).length) else false)) = true) (Ty.bool (!(decide (G ∈ F.take k)))))), (Ty.pr (Ty.bool (((if touchMay ((ByteArray.mk #[84, 114, 105, 101, 100])) (((M : Nat) : Int)) (L) (CS) (G) = 0 then (prO (tRows (((M : Nat) : Int)).toNat (L) (CS) (G) (G).length)).isNone else false) && (if touchMay ((ByteArray.mk #[84, 114, 105, 101, 100])) (((M : Nat) : Int)) (L) (CS) (G) = 0 then rndB (tRows (((M : Nat) : Int)).toNat (L) (CS) (G) (G).length) else false)) && (!(decide (G ∈ F.take k)))))), (Ty.pr (Ty.bool (((if touchMay ((ByteArray.mk #[84, 114, 105, 101, 100])) (((M : Nat) : Int)) (L) (CS) (G) = 0 then (prO (tRows (((M : Nat) : Int)).toNat (L) (CS) (G) (G).length)).isNone else false) && (if touchMay ((ByteArray.mk #[84, 114, 105, 101, 100])) (((M : Nat) : Int)) (L) (CS) (G) = 0 then rndB (tRows (((M : Nat) : Int)).toNat (L) (CS) (G) (G).length) else false)) && (!(decide (G ∈ F.take k))))))] i_ Pr.any) ok26 rfl ⟨?_, ?_, ?_, ?_, ?_, ?_, ?_, ?_, ?_, ?_, ?_, trivial⟩ ?_
       · intro ax tx hs okx sm
         exact run_plain rfl (ownp_field Try.fld42_2 Try.inf4 (by decide) (OwnP.k0 o26 hs) (kp (sm 27 rfl) hs q211))
       · intro ax tx hs okx sm d0
         have e0 := ed d0 rfl rfl rfl
         exact run_plain rfl (ownp_load Try.underlying4 rfl (OwnP.k0 o26 hs) e0 rfl)
       · intro ax tx hs okx sm d0
         have e1 := ed d0 rfl rfl rfl
         exact run_plain rfl (y_move e1)
       · intro ax tx hs okx sm d0
         have e2 := ed d0 rfl rfl rfl
         refine run_guard (T := (Ty.val (ptrAt x3 1))) okx rfl rfl (by decide) e2 (fun hg => ?_)
         exact ownp_field Try.fld42_1 Try.inf4 (by decide) (OwnP.k0 o26 hs) (kp (sm 27 rfl) hs q211)
       · intro ax tx hs okx sm d0 d1
         have e3 := ed d0 rfl rfl rfl
         have e2 := ed d1 rfl rfl rfl
         refine run_guard (T := (Ty.bool (if touchMay ((ByteArray.mk #[84, 114, 105, 101, 100])) (((M : Nat) : Int)) (L) (CS) (G) = 0 then rndB (tRows (((M : Nat) : Int)).toNat (L) (CS) (G) (G).length) else false))) okx rfl rfl (by decide) e2 (fun hg => ?_)
         exact ownp_load Try.underlying4 rfl (OwnP.k0 o26 hs) (e3.1 hg) rfl
       · intro ax tx hs okx sm d0 d1
         have e2 := ed d0 rfl rfl rfl
         have e4 := ed d1 rfl rfl rfl
         exact run_plain rfl (y_pick_and e2 e4 rfl)
       · intro ax tx hs okx sm d0 d1
         have e5 := ed d0 rfl rfl rfl
         exact run_plain rfl (y_move e5)
       · intro ax tx hs okx sm d0
         have e6 := ed d0 rfl rfl rfl
         refine run_guard (T := (Ty.bool (decide (G ∈ F.take k)))) okx rfl rfl (by decide) e6 (fun hg => ?_)
         obtain ⟨d83, d84⟩ := Bool.and_eq_true_iff.mp hg
         exact y_move (kp (sm 23 rfl) hs q207)
       · intro ax tx hs okx sm d0 d1
         have e7 := ed d0 rfl rfl rfl
         have e6 := ed d1 rfl rfl rfl
         refine run_guard (T := (Ty.bool (!(decide (G ∈ F.take k))))) okx rfl rfl (by decide) e6 (fun hg => ?_)
         obtain ⟨d85, d86⟩ := Bool.and_eq_true_iff.mp hg
         exact y_not (e7.1 hg)
       · intro ax tx hs okx sm d0 d1
         have e6 := ed d0 rfl rfl rfl
         have e8 := ed d1 rfl rfl rfl
         exact run_plain rfl (y_pick_and e6 e8 rfl)
       · intro ax tx hs okx sm d0 d1 d2 d3 d4 d5 d6 d7 d8 d9 d10 d11
         have e9 := ed d0 rfl rfl rfl
         exact run_plain rfl (y_assign e9)
       intro a28 s28 D24
       have ok27 := D24.ok
       have F29 := F28.step0 D24.stp
       have q213 := D24.kt q208 rfl
       have q214 := D24.kt q209 rfl
       have q215 := D24.kt q210 rfl
       have o27 := OwnP.k0 o26 D24.stp
       have q216 : At (Ty.bool (((if touchMay ((ByteArray.mk #[84, 114, 105, 101, 100])) (((M : Nat) : Int)) (L) (CS) (G) = 0 then (prO (tRows (((M : Nat) : Int)).toNat (L) (CS) (G) (G).length)).isNone else false) && (if touchMay ((ByteArray.mk #[84, 114, 105, 101, 100])) (((M : Nat) : Int)) (L) (CS) (G) = 0 then rndB (tRows (((M : Nat) : Int)).toNat (L) (CS) (G) (G).length) else false)) && (!(decide (G ∈ F.take k))))) s28 a28 (.tmp 28) := D24.done 10
       clear D24
       refine tn ?_
       refine wp_seq ?_
       refine reg (a := a28) (σ := s28) rfl (fun i_ => List.getD [(Ty.pr (Ty.bool (((if touchMay ((ByteArray.mk #[84, 114, 105, 101, 100])) (((M : Nat) : Int)) (L) (CS) (G) = 0 then (prO (tRows (((M : Nat) : Int)).toNat (L) (CS) (G) (G).length)).isNone else false) && (if touchMay ((ByteArray.mk #[84, 114, 105, 101, 100])) (((M : Nat) : Int)) (L) (CS) (G) = 0 then rndB (tRows (((M : Nat) : Int)).toNat (L) (CS) (G) (G).length) else false)) && (!(decide (G ∈ F.take k)))))), (Ty.pr (Ty.bool (!(((if touchMay ((ByteArray.mk #[84, 114, 105, 101, 100])) (((M : Nat) : Int)) (L) (CS) (G) = 0 then (prO (tRows (((M : Nat) : Int)).toNat (L) (CS) (G) (G).length)).isNone else false) && (if touchMay ((ByteArray.mk #[84, 114, 105, 101, 100])) (((M : Nat) : Int)) (L) (CS) (G) = 0 then rndB (tRows (((M : Nat) : Int)).toNat (L) (CS) (G) (G).length) else false)) && (!(decide (G ∈ F.take k))))))), (Ty.pr (Ty.bool (!(((if touchMay ((ByteArray.mk #[84, 114, 105, 101, 100])) (((M : Nat) : Int)) (L) (CS) (G) = 0 then (prO (tRows (((M : Nat) : Int)).toNat (L) (CS) (G) (G).length)).isNone else false) && (if touchMay ((ByteArray.mk #[84, 114, 105, 101, 100])) (((M : Nat) : Int)) (L) (CS) (G) = 0 then rndB (tRows (((M : Nat) : Int)).toNat (L) (CS) (G) (G).length) else false)) && (!(decide (G ∈ F.take k))))))), (Ty.pr (Ty.grd ((!(((if touchMay ((ByteArray.mk #[84, 114, 105, 101, 100])) (((M : Nat) : Int)) (L) (CS) (G) = 0 then (prO (tRows (((M : Nat) : Int)).toNat (L) (CS) (G) (G).length)).isNone else false) && (if touchMay ((ByteArray.mk #[84, 114, 105, 101, 100])) (((M : Nat) : Int)) (L) (CS) (G) = 0 then rndB (tRows (((M : Nat) : Int)).toNat (L) (CS) (G) (G).length) else false)) && (!(decide (G ∈ F.take k))))) = false) (Ty.lst Ty.ints F))), (Ty.pr (Ty.grd ((!(((if touchMay ((ByteArray.mk #[84, 114, 105, 101, 100])) (((M : Nat) : Int)) (L) (CS) (G) = 0 then (prO (tRows (((M : Nat) : Int)).toNat (L) (CS) (G) (G).length)).isNone else false) && (if touchMay ((ByteArray.mk #[84, 114, 105, 101, 100])) (((M : Nat) : Int)) (L) (CS) (G) = 0 then rndB (tRows (((M : Nat) : Int)).toNat (L) (CS) (G) (G).length) else false)) && (!(decide (G ∈ F.take k))))) = false) (Ty.nat (List.length F)))), (Ty.pr (Ty.grd ((!(((if touchMay ((ByteArray.mk #[84, 114, 105, 101, 100])) (((M : Nat) : Int)) (L) (CS) (G) = 0 then (prO (tRows (((M : Nat) : Int)).toNat (L) (CS) (G) (G).length)).isNone else false) && (if touchMay ((ByteArray.mk #[84, 114, 105, 101, 100])) (((M : Nat) : Int)) (L) (CS) (G) = 0 then rndB (tRows (((M : Nat) : Int)).toNat (L) (CS) (G) (G).length) else false)) && (!(decide (G ∈ F.take k))))) = false) (Ty.nat MN))), (Ty.pr (Ty.grd ((!(((if touchMay ((ByteArray.mk #[84, 114, 105, 101, 100])) (((M : Nat) : Int)) (L) (CS) (G) = 0 then (prO (tRows (((M : Nat) : Int)).toNat (L) (CS) (G) (G).length)).isNone else false) && (if touchMay ((ByteArray.mk #[84, 114, 105, 101, 100])) (((M : Nat) : Int)) (L) (CS) (G) = 0 then rndB (tRows (((M : Nat) : Int)).toNat (L) (CS) (G) (G).length) else false)) && (!(decide (G ∈ F.take k))))) = false) (Ty.bool (decide ((((List.length F) : Nat) : Int) = ((MN : Nat) : Int)))))), (Ty.pr (Ty.grd ((!(((if touchMay ((ByteArray.mk #[84, 114, 105, 101, 100])) (((M : Nat) : Int)) (L) (CS) (G) = 0 then (prO (tRows (((M : Nat) : Int)).toNat (L) (CS) (G) (G).length)).isNone else false) && (if touchMay ((ByteArray.mk #[84, 114, 105, 101, 100])) (((M : Nat) : Int)) (L) (CS) (G) = 0 then rndB (tRows (((M : Nat) : Int)).toNat (L) (CS) (G) (G).length) else false)) && (!(decide (G ∈ F.take k))))) = false) (Ty.bool (decide ((((List.length F) : Nat) : Int) = ((MN : Nat) : Int)))))), (Ty.pr (Ty.grd (((!(((if touchMay ((ByteArray.mk #[84, 114, 105, 101, 100])) (((M : Nat) : Int)) (L) (CS) (G) = 0 then (prO (tRows (((M : Nat) : Int)).toNat (L) (CS) (G) (G).length)).isNone else false) && (if touchMay ((ByteArray.mk #[84, 114, 105, 101, 100])) (((M : Nat) : Int)) (L) (CS) (G) = 0 then rndB (tRows (((M : Nat) : Int)).toNat (L) (CS) (G) (G).length) else false)) && (!(decide (G ∈ F.take k))))) = false) ∧ (decide ((((List.length F) : Nat) : Int) = ((MN : Nat) : Int))) = true) (Ty.lst Ty.ints F))), (Ty.pr (Ty.grd (((!(((if touchMay ((ByteArray.mk #[84, 114, 105, 101, 100])) (((M : Nat) : Int)) (L) (CS) (G) = 0 then (prO (tRows (((M : Nat) : Int)).toNat (L) (CS) (G) (G).length)).isNone else false) && (if touchMay ((ByteArray.mk #[84, 114, 105, 101, 100])) (((M : Nat) : Int)) (L) (CS) (G) = 0 then rndB (tRows (((M : Nat) : Int)).toNat (L) (CS) (G) (G).length) else false)) && (!(decide (G ∈ F.take k))))) = false) ∧ (decide ((((List.length F) : Nat) : Int) = ((MN : Nat) : Int))) = true) (Ty.nat MN))), (Ty.pr (Ty.grd (((!(((if touchMay ((ByteArray.mk #[84, 114, 105, 101, 100])) (((M : Nat) : Int)) (L) (CS) (G) = 0 then (prO (tRows (((M : Nat) : Int)).toNat (L) (CS) (G) (G).length)).isNone else false) && (if touchMay ((ByteArray.mk #[84, 114, 105, 101, 100])) (((M : Nat) : Int)) (L) (CS) (G) = 0 then rndB (tRows (((M : Nat) : Int)).toNat (L) (CS) (G) (G).length) else false)) && (!(decide (G ∈ F.take k))))) = false) ∧ (decide ((((List.length F) : Nat) : Int) = ((MN : Nat) : Int))) = true) (Ty.nat (MN - 1)))), (Ty.pr (Ty.grd (((!(((if touchMay ((ByteArray.mk #[84, 114, 105, 101, 100])) (((M : Nat) : Int)) (L) (CS) (G) = 0 then (prO (tRows (((M : Nat) : Int)).toNat (L) (CS) (G) (G).length)).isNone else false) && (if touchMay ((ByteArray.mk #[84, 114, 105, 101, 100])) (((M : Nat) : Int)) (L) (CS) (G) = 0 then rndB (tRows (((M : Nat) : Int)).toNat (L) (CS) (G) (G).length) else false)) && (!(decide (G ∈ F.take k))))) = false) ∧ (decide ((((List.length F) : Nat) : Int) = ((MN : Nat) : Int))) = true) (Ty.ref [(Ty.lst Ty.int (F.getD (MN - 1) []))]))), (Ty.pr (Ty.grd (((!(((if touchMay ((ByteArray.mk #[84, 114, 105, 101, 100])) (((M : Nat) : Int)) (L) (CS) (G) = 0 then (prO (tRows (((M : Nat) : Int)).toNat (L) (CS) (G) (G).length)).isNone else false) && (if touchMay ((ByteArray.mk #[84, 114, 105, 101, 100])) (((M : Nat) : Int)) (L) (CS) (G) = 0 then rndB (tRows (((M : Nat) : Int)).toNat (L) (CS) (G) (G).length) else false)) && (!(decide (G ∈ F.take k))))) = false) ∧ (decide ((((List.length F) : Nat) : Int) = ((MN : Nat) : Int))) = true) (Ty.lst Ty.int (F.getD (MN - 1) [])))), (Ty.pr (Ty.grd (((!(((if touchMay ((ByteArray.mk #[84, 114, 105, 101, 100])) (((M : Nat) : Int)) (L) (CS) (G) = 0 then (prO (tRows (((M : Nat) : Int)).toNat (L) (CS) (G) (G).length)).isNone else false) && (if touchMay ((ByteArray.mk #[84, 114, 105, 101, 100])) (((M : Nat) : Int)) (L) (CS) (G) = 0 then rndB (tRows (((M : Nat) : Int)).toNat (L) (CS) (G) (G).length) else false)) && (!(decide (G ∈ F.take k))))) = false) ∧ (decide ((((List.length F) : Nat) : Int) = ((MN : Nat) : Int))) = true) (Ty.lst Ty.int G))), (Ty.pr (Ty.grd (((!(((if touchMay ((ByteArray.mk #[84, 114, 105, 101, 100])) (((M : Nat) : Int)) (L) (CS) (G) = 0 then (prO (tRows (((M : Nat) : Int)).toNat (L) (CS) (G) (G).length)).isNone else false) && (if touchMay ((ByteArray.mk #[84, 114, 105, 101, 100])) (((M : Nat) : Int)) (L) (CS) (G) = 0 then rndB (tRows (((M : Nat) : Int)).toNat (L) (CS) (G) (G).length) else false)) && (!(decide (G ∈ F.take k))))) = false) ∧ (decide ((((List.length F) : Nat) : Int) = ((MN : Nat) : Int))) = true) (Ty.bool (belowL ((F.getD (MN - 1) [])) (G))))), (Ty.pr (Ty.grd ((!(((if touchMay ((ByteArray.mk #[84, 114, 105, 101, 100])) (((M : Nat) : Int)) (L) (CS) (G) = 0 then (prO (tRows (((M : Nat) : Int)).toNat (L) (CS) (G) (G).length)).isNone else false) && (if touchMay ((ByteArray.mk #[84, 114, 105, 101, 100])) (((M : Nat) : Int)) (L) (CS) (G) = 0 then rndB (tRows (((M : Nat) : Int)).toNat (L) (CS) (G) (G).length) else false)) && (!(decide (G ∈ F.take k))))) = false) (Ty.bool ((decide ((((List.length F) : Nat) : Int) = ((MN : Nat) : Int))) && (belowL ((F.getD (MN - 1) [])) (G)))))), (Ty.pr (Ty.bool ((!(((if touchMay ((ByteArray.mk #[84, 114, 105, 101, 100])) (((M : Nat) : Int)) (L) (CS) (G) = 0 then (prO (tRows (((M : Nat) : Int)).toNat (L) (CS) (G) (G).length)).isNone else false) && (if touchMay ((ByteArray.mk #[84, 114, 105, 101, 100])) (((M : Nat) : Int)) (L) (CS) (G) = 0 then rndB (tRows (((M : Nat) : Int)).toNat (L) (CS) (G) (G).length) else false)) && (!(decide (G ∈ F.take k))))) || ((decide ((((List.length F) : Nat) : Int) = ((MN : Nat) : Int))) && (belowL ((F.getD (MN - 1) [])) (G)))))), (Ty.pr (Ty.bool ((!(((if touchMay ((ByteArray.mk #[84, 114, 105, 101, 100])) (((M : Nat) : Int)) (L) (CS) (G) = 0 then (prO (tRows (((M : Nat) : Int)).toNat (L) (CS) (G) (G).length)).isNone else false) && (if touchMay ((ByteArray.mk #[84, 114, 105, 101, 100])) (((M : Nat) : Int)) (L) (CS) (G) = 0 then rndB (tRows (((M : Nat) : Int)).toNat (L) (CS) (G) (G).length) else false)) && (!(decide (G ∈ F.take k))))) || ((decide ((((List.length F) : Nat) : Int) = ((MN : Nat) : Int))) && (belowL ((F.getD (MN - 1) [])) (G))))))] i_ Pr.any) ok27 rfl ⟨?_, ?_, ?_, ?_, ?_, ?_, ?_, ?_, ?_, ?_, ?_, ?_, ?_, ?_, ?_, ?_, ?_, ?_, trivial⟩ ?_
       · intro ax tx hs okx sm
         exact run_plain rfl (y_move (kp (sm 28 rfl) hs q216))
       · intro ax tx hs okx sm d0
         have e0 := ed d0 rfl rfl rfl
         exact run_plain rfl (y_not e0)
       · intro ax tx hs okx sm d0
         have e1 := ed d0 rfl rfl rfl
         exact run_plain rfl (y_move e1)
       · intro ax tx hs okx sm d0
         have e2 := ed d0 rfl rfl rfl
         refine run_guard (T := (Ty.lst Ty.ints F)) okx rfl rfl (by decide) e2 (fun hg => ?_)
         exact y_move (kp (sm 20 rfl) hs q214)
       · intro ax tx hs okx sm d0 d1
         have e3 := ed d0 rfl rfl rfl
         have e2 := ed d1 rfl rfl rfl
         refine run_guard (T := (Ty.nat (List.length F))) okx rfl rfl (by decide) e2 (fun hg => ?_)
         exact y_len Try.underlying29 (e3.1 hg)
       · intro ax tx hs okx sm d0
         have e2 := ed d0 rfl rfl rfl
         refine run_guard (T := (Ty.nat MN)) okx rfl rfl (by decide) e2 (fun hg => ?_)
         exact y_move (kp (sm 5 rfl) hs q213)
       · intro ax tx hs okx sm d0 d1 d2
         have e4 := ed d0 rfl rfl rfl
         have e5 := ed d1 rfl rfl rfl
         have e2 := ed d2 rfl rfl rfl
         refine run_guard (T := (Ty.bool (decide ((((List.length F) : Nat) : Int) = ((MN : Nat) : Int))))) okx rfl rfl (by decide) e2 (fun hg => ?_)
         exact y_eql (e4.1 hg) (e5.1 hg)
       · intro ax tx hs okx sm d0 d1 d2
         have e6 := ed d0 rfl rfl rfl
         have e2 := ed d1 rfl rfl rfl
         refine run_guard (T := (Ty.bool (decide ((((List.length F) : Nat) : Int) = ((MN : Nat) : Int))))) okx rfl rfl (by decide) e2 (fun hg => ?_)
         exact y_move (e6.1 hg)
       · intro ax tx hs okx sm d0
         have e7 := ed d0 rfl rfl rfl
         refine run_guard2 (T := (Ty.lst Ty.ints F)) okx rfl rfl (by decide) e7 (fun hg => ?_)
         have hp := of_decide_eq_true hg.2
         exact y_move (kp (sm 20 rfl) hs q214)
       · intro ax tx hs okx sm d0
         have e7 := ed d0 rfl rfl rfl
         refine run_guard2 (T := (Ty.nat MN)) okx rfl rfl (by decide) e7 (fun hg => ?_)
         have hp := of_decide_eq_true hg.2
         exact y_move (kp (sm 5 rfl) hs q213)
       · intro ax tx hs okx sm d0 d1
         have e9 := ed d0 rfl rfl rfl
         have e7 := ed d1 rfl rfl rfl
         refine run_guard2 (T := (Ty.nat (MN - 1))) okx rfl rfl (by decide) e7 (fun hg => ?_)
         have hp := of_decide_eq_true hg.2
         exact (y_sub (e9.1 hg) rfl (w64 (by omega) (by omega))).mono (fun τ _ h => cvi (σ := τ) (by omega) h)
       · intro ax tx hs okx sm d0 d1 d2
         have e8 := ed d0 rfl rfl rfl
         have e10 := ed d1 rfl rfl rfl
         have e7 := ed d2 rfl rfl rfl
         refine run_guard2 (T := (Ty.ref [(Ty.lst Ty.int (F.getD (MN - 1) []))])) okx rfl rfl (by decide) e7 (fun hg => ?_)
         have hp := of_decide_eq_true hg.2
         exact y_index1 Try.underlying29 Try.inf23 (e8.1 hg) (e10.1 hg) (by omega) (lst_get Ty.ints F [] (MN - 1) (by omega))
       · intro ax tx hs okx sm d0 d1
         have e11 := ed d0 rfl rfl rfl
         have e7 := ed d1 rfl rfl rfl
         refine run_guard2 (T := (Ty.lst Ty.int (F.getD (MN - 1) []))) okx rfl rfl (by decide) e7 (fun hg => ?_)
         have hp := of_decide_eq_true hg.2
         exact y_load Try.underlying23 rfl (e11.1 hg) rfl
       · intro ax tx hs okx sm d0
         have e7 := ed d0 rfl rfl rfl
         refine run_guard2 (T := (Ty.lst Ty.int G)) okx rfl rfl (by decide) e7 (fun hg => ?_)
         have hp := of_decide_eq_true hg.2
         exact y_move (kp (sm 22 rfl) hs q215)
       · intro ax tx hs okx sm d0 d1 d2 d3
         have e12 := ed d0 rfl rfl rfl
         have e13 := ed d1 rfl rfl rfl
         have e7 := ed d2 rfl rfl rfl
         refine run_guard2 (T := (Ty.bool (belowL ((F.getD (MN - 1) [])) (G)))) okx rfl rfl (by decide) e7 (fun hg => ?_)
         have hp := of_decide_eq_true hg.2
         exact y_call #[ax.eval (.tmp 191), ax.eval (.tmp 192)] Try.func39 rfl rfl (by simp only [List.map_toArray, List.map_cons, List.map_nil]) (rBelow_fn ((F.getD (MN - 1) [])) (G) _ _ _ (e12.1 hg) (e13.1 hg) )
       · intro ax tx hs okx sm d0 d1 d2
         have e7 := ed d0 rfl rfl rfl
         have e14 := ed d1 rfl rfl rfl
         have e2 := ed d2 rfl rfl rfl
         refine run_guard (T := (Ty.bool ((decide ((((List.length F) : Nat) : Int) = ((MN : Nat) : Int))) && (belowL ((F.getD (MN - 1) [])) (G))))) okx rfl rfl (by decide) e2 (fun hg => ?_)
         exact y_pick_and (e7.1 hg) (grd_part hg e14) rfl
       · intro ax tx hs okx sm d0 d1
         have e2 := ed d0 rfl rfl rfl
         have e15 := ed d1 rfl rfl rfl
         exact run_plain rfl (y_pick_or e2 rfl e15)
       · intro ax tx hs okx sm d0 d1 d2 d3 d4 d5 d6 d7 d8 d9 d10 d11 d12 d13 d14 d15 d16 d17 d18
         have e16 := ed d0 rfl rfl rfl
         exact run_plain rfl (y_assign e16)
       intro a29 s29 D25
       have ok28 := D25.ok
       have F30 := F29.step0 D25.stp
       have q217 : At (Ty.bool ((!(((if touchMay ((ByteArray.mk #[84, 114, 105, 101, 100])) (((M : Nat) : Int)) (L) (CS) (G) = 0 then (prO (tRows (((M : Nat) : Int)).toNat (L) (CS) (G) (G).length)).isNone else false) && (if touchMay ((ByteArray.mk #[84, 114, 105, 101, 100])) (((M : Nat) : Int)) (L) (CS) (G) = 0 then rndB (tRows (((M : Nat) : Int)).toNat (L) (CS) (G) (G).length) else false)) && (!(decide (G ∈ F.take k))))) || ((decide ((((List.length F) : Nat) : Int) = ((MN : Nat) : Int))) && (belowL ((F.getD (MN - 1) [])) (G))))) s29 a29 (.tmp 14) := D25.done 17
       clear D25
       refine tn ?_
       refine wp_ret ?_
       exact retL1 rfl ok28 F30 (cvb (by (rw [htG, if_pos rfl, if_pos rfl, htn, show k = F.length by omega, List.take_length]; exact search_last hA hF (by omega) hGl hGi)) q217)


end Go.Proofs.Ytbilebfnanlgfaa
