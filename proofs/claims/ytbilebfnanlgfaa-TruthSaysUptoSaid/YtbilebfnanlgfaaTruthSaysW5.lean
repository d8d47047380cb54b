/- The functions that the law TruthSays reaches, each by its contract. Part 5. -/
import Derived.Test.YtbilebfnanlgfaaTruthSaysW4
namespace Go.Proofs.Ytbilebfnanlgfaa
open Go.KL
theorem Try.inf4 : Info Try.prog 4 (.bool false) 1 1 := by unfold Info; kernel_rfl
theorem Try.inf42 : Info Try.prog 42 (.agg #[.int .i64 0, .bool false, .bool false, .int .i64 0, .int .i64 0]) 5 32 := by unfold Info; kernel_rfl
theorem Try.fld42_2 : fieldOf Try.prog 42 2 = some (4, 2) := by kernel_rfl
theorem Try.fld42_3 : fieldOf Try.prog 42 3 = some (3, 3) := by kernel_rfl
theorem Try.fld42_4 : fieldOf Try.prog 42 4 = some (3, 4) := by kernel_rfl
set_option maxHeartbeats 4000000 in
set_option maxRecDepth 100000 in
theorem prove_fn (nm : ByteArray) (n : Int) (l : List (List Int)) (cs : List BCall) (leads : List Int) (σ : GW)  (v0 v1 v2 : Value) (hv0 : Ty.has (Ty.agg [(Ty.val (Value.string nm)), (Ty.int n), (Ty.lst Ty.ints l)]) σ v0) (hv1 : Ty.has (Ty.lstc 2 callC cs) σ v1) (hv2 : Ty.has (Ty.lst Ty.int leads) σ v2)  (hnm : nm.size ≤ 1099511627776) (hn : -9223372036854775808 ≤ n ∧ n ≤ 9223372036854775807) :
    FnC Try.prog 22 #[v0, v1, v2] σ (Ty.tup2 (Ty.agg [(Ty.nat (if touchMay nm n l cs leads = 0 then leads.length * l.length else 0)), (Ty.bool (if touchMay nm n l cs leads = 0 then rndB (tRows n.toNat l cs leads leads.length) else false)), (Ty.bool (if touchMay nm n l cs leads = 0 then (prO (tRows n.toNat l cs leads leads.length)).isNone else false)), (Ty.nat (if touchMay nm n l cs leads = 0 then agnL (tRows n.toNat l cs leads leads.length) else 0)), (Ty.int (if touchMay nm n l cs leads = 0 then befL (tRows n.toNat l cs leads leads.length) else 0))]) (Ty.int (touchMay nm n l cs leads))) := by
 refine fn_intro0 Try.func22 rfl Try.ntmps22 (Nat.le_of_ble_eq_true rfl) (fun s0 a0 hle F0 ok0 hargs => ?_)
 have p0 : At (Ty.agg [(Ty.val (Value.string nm)), (Ty.int n), (Ty.lst Ty.ints l)]) s0 a0 (.tmp 0) := by have e := hargs 0 _ rfl; show Ty.has _ _ _; rw [e]; exact Ty.up _ hle hv0
 have p1 : At (Ty.lstc 2 callC cs) s0 a0 (.tmp 1) := by have e := hargs 1 _ rfl; show Ty.has _ _ _; rw [e]; exact Ty.up _ hle hv1
 have b1 := sl_le p1
 have p2 : At (Ty.lst Ty.int leads) s0 a0 (.tmp 2) := by have e := hargs 2 _ rfl; show Ty.has _ _ _; rw [e]; exact Ty.up _ hle hv2
 have b2 := sl_le p2
 clear hargs; refine wp_seq ?_
 refine reg (a := a0) (σ := s0) rfl (fun i_ => List.getD [(Ty.pr (Ty.ref [(Ty.val (Value.string nm)), (Ty.int n), (Ty.lst Ty.ints l)])), (Pr.ownp 4 [(Ty.int (0 : Int)), (Ty.bool false), (Ty.bool false), (Ty.int (0 : Int)), (Ty.int (0 : Int))]), (Ty.pr (Ty.int (0 : Int)))] i_ Pr.any) ok0 rfl ⟨?_, ?_, ?_, trivial⟩ ?_
 · intro A B E G H; exact rP (y_boxagg (kp (H 0 rfl) E p0))
 · intro A B E G H; exact rP (y_alloc Try.inf42 rfl (alloc_vals (vs := [.int .i64 0, .bool false, .bool false, .int .i64 0, .int .i64 0]) rfl))
 · intro A B E G H; exact rP (y_assign rfl)
 intro a1 s1 D1; have ok1 := D1.ok; have F1 := F0.step0 D1.stp; have q1 := D1.kt p1 rfl; have q2 := D1.kt p2 rfl; have q3 := D1.dn 0 rfl rfl
 obtain ⟨x1, hx1⟩ : ∃ x, a1.eval (.tmp 6) = x := ⟨_, rfl⟩
 have q4 : At (Ty.val x1) s1 a1 (.tmp 6) := hx1
 have o1 : OwnP s1 4 x1 [(Ty.int (0 : Int)), (Ty.bool false), (Ty.bool false), (Ty.int (0 : Int)), (Ty.int (0 : Int))] := al2 (R := (Pr.ownp 4 [(Ty.int (0 : Int)), (Ty.bool false), (Ty.bool false), (Ty.int (0 : Int)), (Ty.int (0 : Int))])) hx1 (D1.done 1)
 clear D1; refine tn ?_; refine wp_seq ?_
 refine rg a1 s1 [(Ty.agg [(Ty.val (Value.string nm)), (Ty.int n), (Ty.lst Ty.ints l)]), (Ty.lstc 2 callC cs), (Ty.lst Ty.int leads), (Ty.tup2 (Ty.lst Ty.ints (if touchMay nm n l cs leads = 0 then (tRows n.toNat l cs leads leads.length) else [])) (Ty.int (touchMay nm n l cs leads))), (Ty.tup2 (Ty.lst Ty.ints (if touchMay nm n l cs leads = 0 then (tRows n.toNat l cs leads leads.length) else [])) (Ty.int (touchMay nm n l cs leads))), (Ty.lst Ty.ints (if touchMay nm n l cs leads = 0 then (tRows n.toNat l cs leads leads.length) else [])), (Ty.int (touchMay nm n l cs leads)), (Ty.lst Ty.ints (if touchMay nm n l cs leads = 0 then (tRows n.toNat l cs leads leads.length) else [])), (Ty.int (touchMay nm n l cs leads))] ok1 ⟨?_, ?_, ?_, ?_, ?_, ?_, ?_, ?_, ?_, trivial⟩ ?_
 · intro A B E G H; exact rP (y_loadagg Try.underlying31 Try.inf31 (kp (H 3 rfl) E q3))
 · intro A B E G H; exact rP (y_move (kp (H 1 rfl) E q1))
 · intro A B E G H; exact rP (y_move (kp (H 2 rfl) E q2))
 · intro A B E G H d0 d1 d2; exact rP (y_call #[A.eval (.tmp 19), A.eval (.tmp 20), A.eval (.tmp 21)] Try.func54 rfl rfl (by simp only [List.map_toArray, List.map_cons, List.map_nil]) (callRows_fn (nm) (n) (l) (cs) (leads) _ _ _ _ (ed d0 rfl rfl rfl) (ed d1 rfl rfl rfl) (ed d2 rfl rfl rfl) (by first | omega | assumption) (by first | omega | assumption)))
 · intro A B E G H d0; exact rP (y_move (ed d0 rfl rfl rfl))
 · intro A B E G H d0; exact rP (y_ext2_0 (ed d0 rfl rfl rfl))
 · intro A B E G H d0 d1; exact rP (y_ext2_1 (ed d0 rfl rfl rfl))
 · intro A B E G H d0 d1 d2 d3 d4 d5 d6 d7 d8; exact rP (y_assign (ed d0 rfl rfl rfl))
 · intro A B E G H d0 d1 d2 d3 d4 d5 d6 d7 d8 d9; exact rP (y_assign (ed d0 rfl rfl rfl))
 intro a2 s2 D2; have ok2 := D2.ok; have F2 := F1.step0 D2.stp; have q5 := D2.kt q4 rfl; have o2 := OwnP.k0 o1 D2.stp; have q6 := D2.dn 7 rfl rfl; have q7 := D2.dn 8 rfl rfl; clear D2; refine tn ?_; refine wp_seq ?_; refine wp_seq ?_
 refine rg a2 s2 [(Ty.int (touchMay nm n l cs leads)), (Ty.bool (decide ((touchMay nm n l cs leads) ≠ (0 : Int))))] ok2 ⟨?_, ?_, trivial⟩ ?_
 · intro A B E G H; exact rP (y_move (kp (H 9 rfl) E q7))
 · intro A B E G H d0; exact rP (y_neq (ed d0 rfl rfl rfl) rfl)
 intro a3 s3 D3; have ok3 := D3.ok; have F3 := F2.step0 D3.stp; have q8 := D3.kt q5 rfl; have q9 := D3.kt q6 rfl; have q10 := D3.kt q7 rfl; have o3 := OwnP.k0 o2 D3.stp; have q11 := D3.dn 1 rfl rfl; clear D3; refine tn ?_
 refine cond_p (p := ((touchMay nm n l cs leads) ≠ (0 : Int))) q11 (fun c1 => ?_) (fun c1 => ?_)
 ·
  refine wp_seq ?_
  refine reg2 (a := a3) (σ := s3) rfl 2 (fun i_ => List.getD [(Ty.pr (Ty.agg [(Ty.int (0 : Int)), (Ty.bool false), (Ty.bool false), (Ty.int (0 : Int)), (Ty.int (0 : Int))])), (Ty.pr (Ty.int (touchMay nm n l cs leads)))] i_ Pr.any) ok3 rfl (by decide) rfl ⟨?_, ?_, trivial⟩ ?_
  · intro A B E G H; exact rP (y_bld [] [(Ty.int (0 : Int)), (Ty.bool false), (Ty.bool false), (Ty.int (0 : Int)), (Ty.int (0 : Int))] (l := [(0, 1), (1, 1), (2, 1), (3, 1), (4, 1)]) rfl Try.inf42 rfl (alloc_vals (vs := [.int .i64 0, .bool false, .bool false, .int .i64 0, .int .i64 0]) rfl) rfl (by intro p hp; cases hp))
  · intro A B E G H d0; exact rP (y_move (kp (H 9 rfl) E q10))
  intro a4 s4 D4; have ok4 := D4.ok; have F4 := F3.step0 D4.stp; have q12 := D4.kt q8 rfl; have o4 := OwnP.k0 o3 D4.stp; have q13 := D4.dn 0 (by decide) rfl rfl; have q14 := D4.dn 1 (by decide) rfl rfl; clear D4
  refine tailL0 (L := [4]) (R := (fun _ τ => OwnP τ 4 x1 [(Ty.int (0 : Int)), (Ty.bool false), (Ty.bool false), (Ty.int (0 : Int)), (Ty.int (0 : Int))])) rfl rfl (YldM.toL (m_storeagg Try.inf42 (by decide) o4 q12 rfl q13 (by intro U hU; simp only [List.mem_cons, List.not_mem_nil, or_false] at hU; rcases hU with rfl | rfl | rfl | rfl | rfl <;> first | exact one_val rfl | exact one_sl | exact one_ref))) (fun v1 s5 hs1 r1 => ?_)
  have F5 := F4.stepL hs1 (by decide); have q15 := kpL hs1 (by decide) rfl q12; have q16 := kpL hs1 (by decide) rfl q14
  have o5 : OwnP s5 4 x1 [(Ty.int (0 : Int)), (Ty.bool false), (Ty.bool false), (Ty.int (0 : Int)), (Ty.int (0 : Int))] := r1
  clear r1
  refine tailL (L := []) (R := (fun v τ => Pr.has (Ty.pr (Ty.int (touchMay nm n l cs leads))) τ v)) rfl rfl (by decide) ok4 (Yld.toL (y_assign q16)) (fun a5 s6 hs2 ok5 r2 sm1 => ?_)
  have F6 := F5.stepL hs2 (by decide); have q18 := kpL hs2 (by decide) (sm1 6 (by decide)) q15; have o6 := OwnP.keepL o5 hs2 (by decide) (by decide)
  have q19 : At (Ty.int (touchMay nm n l cs leads)) s6 a5 (.tmp 7) := r2
  clear r2; refine wpList_nil ?_; refine tn ?_; refine wp_ret ?_
  refine tr ?_
  have o7 : OwnP s6 4 x1 [(Ty.int (0 : Int)), (Ty.bool false), (Ty.bool false), (Ty.int (0 : Int)), (Ty.int (0 : Int))] := o6
  have o8 : OwnP s6 4 x1 [(Ty.nat (if touchMay nm n l cs leads = 0 then leads.length * l.length else 0)), (Ty.bool false), (Ty.bool false), (Ty.int (0 : Int)), (Ty.int (0 : Int))] := cvop (by rw [show (Ty.int (0 : Int)) = (Ty.nat (if touchMay nm n l cs leads = 0 then leads.length * l.length else 0)) from by (rw [if_neg c1]; first | done | rfl)]) o7
  have o9 : OwnP s6 4 x1 [(Ty.nat (if touchMay nm n l cs leads = 0 then leads.length * l.length else 0)), (Ty.bool (if touchMay nm n l cs leads = 0 then rndB (tRows n.toNat l cs leads leads.length) else false)), (Ty.bool false), (Ty.int (0 : Int)), (Ty.int (0 : Int))] := cvop (by rw [show (Ty.bool false) = (Ty.bool (if touchMay nm n l cs leads = 0 then rndB (tRows n.toNat l cs leads leads.length) else false)) from by (rw [if_neg c1]; first | done | rfl)]) o8
  have o10 : OwnP s6 4 x1 [(Ty.nat (if touchMay nm n l cs leads = 0 then leads.length * l.length else 0)), (Ty.bool (if touchMay nm n l cs leads = 0 then rndB (tRows n.toNat l cs leads leads.length) else false)), (Ty.bool (if touchMay nm n l cs leads = 0 then (prO (tRows n.toNat l cs leads leads.length)).isNone else false)), (Ty.int (0 : Int)), (Ty.int (0 : Int))] := cvop (by rw [show (Ty.bool false) = (Ty.bool (if touchMay nm n l cs leads = 0 then (prO (tRows n.toNat l cs leads leads.length)).isNone else false)) from by (rw [if_neg c1]; first | done | rfl)]) o9
  have o11 : OwnP s6 4 x1 [(Ty.nat (if touchMay nm n l cs leads = 0 then leads.length * l.length else 0)), (Ty.bool (if touchMay nm n l cs leads = 0 then rndB (tRows n.toNat l cs leads leads.length) else false)), (Ty.bool (if touchMay nm n l cs leads = 0 then (prO (tRows n.toNat l cs leads leads.length)).isNone else false)), (Ty.nat (if touchMay nm n l cs leads = 0 then agnL (tRows n.toNat l cs leads leads.length) else 0)), (Ty.int (0 : Int))] := cvop (by rw [show (Ty.int (0 : Int)) = (Ty.nat (if touchMay nm n l cs leads = 0 then agnL (tRows n.toNat l cs leads leads.length) else 0)) from by (rw [if_neg c1]; first | done | rfl)]) o10
  have o12 : OwnP s6 4 x1 [(Ty.nat (if touchMay nm n l cs leads = 0 then leads.length * l.length else 0)), (Ty.bool (if touchMay nm n l cs leads = 0 then rndB (tRows n.toNat l cs leads leads.length) else false)), (Ty.bool (if touchMay nm n l cs leads = 0 then (prO (tRows n.toNat l cs leads leads.length)).isNone else false)), (Ty.nat (if touchMay nm n l cs leads = 0 then agnL (tRows n.toNat l cs leads leads.length) else 0)), (Ty.int (if touchMay nm n l cs leads = 0 then befL (tRows n.toNat l cs leads leads.length) else 0))] := cvop (by rw [show (Ty.int (0 : Int)) = (Ty.int (if touchMay nm n l cs leads = 0 then befL (tRows n.toNat l cs leads leads.length) else 0)) from by (rw [if_neg c1]; first | done | rfl)]) o11
  exact retL2c (k := 4) (ts := [(Ty.nat (if touchMay nm n l cs leads = 0 then leads.length * l.length else 0)), (Ty.bool (if touchMay nm n l cs leads = 0 then rndB (tRows n.toNat l cs leads leads.length) else false)), (Ty.bool (if touchMay nm n l cs leads = 0 then (prO (tRows n.toNat l cs leads leads.length)).isNone else false)), (Ty.nat (if touchMay nm n l cs leads = 0 then agnL (tRows n.toNat l cs leads leads.length) else 0)), (Ty.int (if touchMay nm n l cs leads = 0 then befL (tRows n.toNat l cs leads leads.length) else 0))]) rfl ok5 F6 Try.underlying42 Try.inf42 (al (R := (Pr.ownp 4 [(Ty.nat (if touchMay nm n l cs leads = 0 then leads.length * l.length else 0)), (Ty.bool (if touchMay nm n l cs leads = 0 then rndB (tRows n.toNat l cs leads leads.length) else false)), (Ty.bool (if touchMay nm n l cs leads = 0 then (prO (tRows n.toNat l cs leads leads.length)).isNone else false)), (Ty.nat (if touchMay nm n l cs leads = 0 then agnL (tRows n.toNat l cs leads leads.length) else 0)), (Ty.int (if touchMay nm n l cs leads = 0 then befL (tRows n.toNat l cs leads leads.length) else 0))])) q18 o12) (fun v_ hv_ => (hasT2 hv_ q19))
 ·
  have h0 := Classical.not_not.1 c1; obtain ⟨hok, hnn, hlo, hlh, hin, hlim⟩ := touchMay_ok h0; have hl1 := hok.meth.l1; have hl2 := hok.meth.l2; have hn1 := hok.meth.n1; have hn2 := hok.meth.n2; obtain ⟨R, hR⟩ : ∃ R, R = (tRows n.toNat l cs leads leads.length) := ⟨_, rfl⟩; have hRl : R.length = leads.length * l.length + 1 := (by rw [hR]; exact tRows_len hok hin _ (Nat.le_refl _)); have hrw : ∀ i, i < R.length → IsRow (R.getD i []) ∧ (R.getD i []).length = n.toNat := (fun i hi => by rw [hR]; exact tRows_row hok hin (by omega)); have hlst := (hrw (R.length - 1) (by omega)).1.le
  have q20 : At (Ty.lst Ty.ints R) s3 a3 (.tmp 8) := cvt (T := (Ty.lst Ty.ints (if touchMay nm n l cs leads = 0 then (tRows n.toNat l cs leads leads.length) else []))) (U := (Ty.lst Ty.ints R)) (by rw [if_pos h0, hR]) q9
  refine wp_skip ?_
  refine tn ?_; refine wp_seq ?_
  refine rg a3 s3 [(Ty.lst Ty.ints R), (Ty.nat (List.length R)), (Ty.nat ((List.length R) - 1)), (Ty.nat ((List.length R) - 1))] ok3 ⟨?_, ?_, ?_, ?_, trivial⟩ ?_
  · intro A B E G H; exact rP (y_move (kp (H 8 rfl) E q20))
  · intro A B E G H d0; exact rP (y_len Try.underlying29 (ed d0 rfl rfl rfl))
  · intro A B E G H d0; exact rP ((y_sub (ed d0 rfl rfl rfl) rfl (w64 (by omega) (by omega))).mono (fun τ _ h => cvi (σ := τ) (by omega) h))
  · intro A B E G H d0 d1 d2 d3; exact rP (y_assign (ed d0 rfl rfl rfl))
  intro a6 s7 D5; have ok6 := D5.ok; have F7 := F3.step0 D5.stp; have q21 := D5.kt q8 rfl; have q22 := D5.kt q20 rfl; have o13 := OwnP.k0 o3 D5.stp; have q23 := D5.dn 3 rfl rfl; clear D5; refine tn ?_; refine wp_seq ?_
  refine reg2 (a := a6) (σ := s7) rfl 9 (fun i_ => List.getD [(Ty.pr (Ty.nat ((List.length R) - 1))), (Ty.pr (Ty.lst Ty.ints R)), (Ty.pr (Ty.nat ((List.length R) - 1))), (Ty.pr (Ty.ref [(Ty.lst Ty.int (R.getD ((List.length R) - 1) []))])), (Ty.pr (Ty.lst Ty.int (R.getD ((List.length R) - 1) []))), (Ty.pr (Ty.nat (rankL ((R.getD ((List.length R) - 1) []))))), (Ty.pr (Ty.bool (decide ((((rankL ((R.getD ((List.length R) - 1) []))) : Nat) : Int) = (0 : Int))))), (Ty.pr (Ty.agg [(Ty.nat ((List.length R) - 1)), (Ty.bool (decide ((((rankL ((R.getD ((List.length R) - 1) []))) : Nat) : Int) = (0 : Int)))), (Ty.bool true), (Ty.int (0 : Int)), (Ty.int (0 : Int))])), (Pr.ownp 5 [(Ty.int (0 : Int)), (Ty.bool false), (Ty.bool false), (Ty.int (0 : Int)), (Ty.int (0 : Int))])] i_ Pr.any) ok6 rfl (by decide) rfl ⟨?_, ?_, ?_, ?_, ?_, ?_, ?_, ?_, ?_, trivial⟩ ?_
  · intro A B E G H; exact rP (y_move (kp (H 10 rfl) E q23))
  · intro A B E G H; exact rP (y_move (kp (H 8 rfl) E q22))
  · intro A B E G H; exact rP (y_move (kp (H 10 rfl) E q23))
  · intro A B E G H d0 d1; exact rP (y_index1 Try.underlying29 Try.inf23 (ed d0 rfl rfl rfl) (ed d1 rfl rfl rfl) (by omega) (lst_get Ty.ints R [] ((List.length R) - 1) (by omega)))
  · intro A B E G H d0; exact rP (y_load Try.underlying23 rfl (ed d0 rfl rfl rfl) rfl)
  · intro A B E G H d0; exact rP (y_call #[A.eval (.tmp 36)] Try.func55 rfl rfl (by simp only [List.map_toArray, List.map_cons, List.map_nil]) (rowPlace_fn ((R.getD ((List.length R) - 1) [])) _ _ (ed d0 rfl rfl rfl) (by omega)))
  · intro A B E G H d0; exact rP (y_eql (ed d0 rfl rfl rfl) rfl)
  · intro A B E G H d0 d1; exact rP (y_bld [(0, (.tmp 32), (Ty.nat ((List.length R) - 1))), (1, (.tmp 38), (Ty.bool (decide ((((rankL ((R.getD ((List.length R) - 1) []))) : Nat) : Int) = (0 : Int))))), (2, ((Operand.const (Value.bool true))), (Ty.bool true))] [(Ty.int (0 : Int)), (Ty.bool false), (Ty.bool false), (Ty.int (0 : Int)), (Ty.int (0 : Int))] (l := [(0, 1), (1, 1), (2, 1), (3, 1), (4, 1)]) rfl Try.inf42 rfl (alloc_vals (vs := [.int .i64 0, .bool false, .bool false, .int .i64 0, .int .i64 0]) rfl) rfl (by intro p hp; simp only [List.mem_cons, List.not_mem_nil, or_false] at hp; rcases hp with rfl | rfl | rfl; exact ⟨one_val rfl, (ed d0 rfl rfl rfl)⟩; exact ⟨one_val rfl, (ed d1 rfl rfl rfl)⟩; exact ⟨one_val rfl, rfl⟩))
  · intro A B E G H; exact rP (y_alloc Try.inf42 rfl (alloc_vals (vs := [.int .i64 0, .bool false, .bool false, .int .i64 0, .int .i64 0]) rfl))
  intro a7 s8 D6; have ok7 := D6.ok; have F8 := F7.step0 D6.stp; have q24 := D6.kt q21 rfl; have q25 := D6.kt q22 rfl; have q26 := D6.kt q23 rfl; have o14 := OwnP.k0 o13 D6.stp; have q27 := D6.dn 7 (by decide) rfl rfl
  obtain ⟨x2, hx2⟩ : ∃ x, a7.eval (.tmp 11) = x := ⟨_, rfl⟩
  have q28 : At (Ty.val x2) s8 a7 (.tmp 11) := hx2
  have o15 : OwnP s8 5 x2 [(Ty.int (0 : Int)), (Ty.bool false), (Ty.bool false), (Ty.int (0 : Int)), (Ty.int (0 : Int))] := al2 (R := (Pr.ownp 5 [(Ty.int (0 : Int)), (Ty.bool false), (Ty.bool false), (Ty.int (0 : Int)), (Ty.int (0 : Int))])) hx2 (D6.done 8 (by decide))
  clear D6
  refine tailL0 (L := [5]) (R := (fun _ τ => OwnP τ 5 x2 [(Ty.nat ((List.length R) - 1)), (Ty.bool (decide ((((rankL ((R.getD ((List.length R) - 1) []))) : Nat) : Int) = (0 : Int)))), (Ty.bool true), (Ty.int (0 : Int)), (Ty.int (0 : Int))])) rfl rfl (YldM.toL (m_storeagg Try.inf42 (by decide) o15 q28 rfl q27 (by intro U hU; simp only [List.mem_cons, List.not_mem_nil, or_false] at hU; rcases hU with rfl | rfl | rfl | rfl | rfl <;> first | exact one_val rfl | exact one_sl | exact one_ref))) (fun v2 s9 hs3 r3 => ?_)
  have F9 := F8.stepL hs3 (by decide); have q29 := kpL hs3 (by decide) rfl q24; have q30 := kpL hs3 (by decide) rfl q25; have q31 := kpL hs3 (by decide) rfl q26; have q32 := kpL hs3 (by decide) rfl q28; have o17 := OwnP.keepL o14 hs3 (by decide) (by decide)
  have o16 : OwnP s9 5 x2 [(Ty.nat ((List.length R) - 1)), (Ty.bool (decide ((((rankL ((R.getD ((List.length R) - 1) []))) : Nat) : Int) = (0 : Int)))), (Ty.bool true), (Ty.int (0 : Int)), (Ty.int (0 : Int))] := r3
  clear r3; refine wpList_nil ?_; refine tn ?_; refine wp_seq ?_
  refine reg2 (a := a7) (σ := s9) rfl 1 (fun i_ => List.getD [(Pr.ownm Ty.int kI 6 (fun _ => none : Int → Option Int))] i_ Pr.any) ok7 rfl (by decide) rfl ⟨?_, trivial⟩ ?_
  · intro A B E G H; exact rP (y_makemap 6)
  intro a8 s10 D7; have ok8 := D7.ok; have F10 := F9.step0 D7.stp; have q34 := D7.kt q29 rfl; have q35 := D7.kt q30 rfl; have q36 := D7.kt q31 rfl; have q37 := D7.kt q32 rfl; have o18 := OwnP.k0 o17 D7.stp; have o19 := OwnP.k0 o16 D7.stp
  obtain ⟨x3, hx3⟩ : ∃ x, a8.eval (.tmp 40) = x := ⟨_, rfl⟩
  have q38 : At (Ty.val x3) s10 a8 (.tmp 40) := hx3
  have o20 : OwnM Ty.int kI s10 6 x3 (fun _ => none : Int → Option Int) := al2 (R := (Pr.ownm Ty.int kI 6 (fun _ => none : Int → Option Int))) hx3 (D7.done 0 (by decide))
  clear D7
  refine tailL (L := []) (R := (fun v τ => Pr.has (Ty.pr (Ty.val x3)) τ v)) rfl rfl (by decide) ok8 (Yld.toL (y_assign q38)) (fun a9 s11 hs4 ok9 r4 sm2 => ?_)
  have F11 := F10.stepL hs4 (by decide); have q39 := kpL hs4 (by decide) (sm2 6 (by decide)) q34; have q40 := kpL hs4 (by decide) (sm2 8 (by decide)) q35; have q41 := kpL hs4 (by decide) (sm2 10 (by decide)) q36; have q42 := kpL hs4 (by decide) (sm2 11 (by decide)) q37; have o21 := OwnP.keepL o18 hs4 (by decide) (by decide); have o22 := OwnP.keepL o19 hs4 (by decide) (by decide); have o23 := OwnM.keepL o20 hs4 (by decide) (by decide)
  have q43 : At (Ty.val x3) s11 a9 (.tmp 12) := r4
  clear r4; refine wpList_nil ?_; refine tn ?_; refine wp_seq ?_; refine wp_seq ?_
  refine rg a9 s11 [(Ty.lst Ty.ints R), (Ty.nat ((List.length R) - 1)), (Ty.lst Ty.ints (R.take ((List.length R) - 1))), (Ty.nat (List.length (R.take ((List.length R) - 1)))), (Ty.int (0 : Int))] ok9 ⟨?_, ?_, ?_, ?_, ?_, trivial⟩ ?_
  · intro A B E G H; exact rP (y_move (kp (H 8 rfl) E q40))
  · intro A B E G H; exact rP (y_move (kp (H 10 rfl) E q41))
  · intro A B E G H d0 d1; exact rP (y_take Try.underlying29 Try.inf23 (ed d0 rfl rfl rfl) (ed d1 rfl rfl rfl) (by omega))
  · intro A B E G H d0; exact rP (y_len Try.underlying29 (ed d0 rfl rfl rfl))
  · intro A B E G H; exact rP (y_move rfl)
  intro a10 s12 D8; have ok10 := D8.ok; have F12 := F11.step0 D8.stp; have q44 := D8.kt q39 rfl; have q45 := D8.kt q42 rfl; have q46 := D8.kt q43 rfl; have o24 := OwnP.k0 o21 D8.stp; have o25 := OwnP.k0 o22 D8.stp; have o26 := OwnM.k0 o23 D8.stp; have q47 := D8.dn 2 rfl rfl
  have b3 := sl_le q47
  have q48 := D8.dn 3 rfl rfl; have q49 := D8.dn 4 rfl rfl; clear D8
  have hTl : (List.take ((List.length R) - 1) R).length = R.length - 1 := (by rw [List.length_take]; omega)
  refine tn ?_
  refine wp_block ?_
  refine loop (fun n1 a11 w1 => ∃ (t1 : GW) (k : Nat), t1.w = w1 ∧ FromL [] s0 t1 ∧ Ok 69 a11 ∧ At (Ty.nat k) t1 a11 (.tmp 45) ∧ At (Ty.val x1) t1 a11 (.tmp 6) ∧ At (Ty.val x2) t1 a11 (.tmp 11) ∧ At (Ty.val x3) t1 a11 (.tmp 12) ∧ At (Ty.lst Ty.ints (R.take ((List.length R) - 1))) t1 a11 (.tmp 43) ∧ At (Ty.nat (List.length (R.take ((List.length R) - 1)))) t1 a11 (.tmp 44) ∧ OwnM Ty.int kI t1 6 x3 (mapOf R k) ∧ OwnP t1 4 x1 [(Ty.int (0 : Int)), (Ty.bool false), (Ty.bool false), (Ty.int (0 : Int)), (Ty.int (0 : Int))] ∧ OwnP t1 5 x2 [(Ty.nat ((List.length R) - 1)), (Ty.bool (decide ((((rankL ((R.getD ((List.length R) - 1) []))) : Nat) : Int) = (0 : Int)))), (Ty.bool true), (Ty.int (0 : Int)), (Ty.int (0 : Int))] ∧ (k ≤ (List.take ((List.length R) - 1) R).length) ∧ (prF R (R.length - 1 - k) k = prO R) ∧ n1 = (List.take ((List.length R) - 1) R).length - k) ((List.take ((List.length R) - 1) R).length - (0)) ?_ ?_
  ·
   exact ⟨s12, 0, rfl, F12, ok10, (cvi (by (first | rfl | omega | (simp_all; done) | (simp_all; omega))) q49), q44, q45, q46, q47, q48, (cvm (by (rfl)) o26), o24, o25, by omega, rfl, rfl⟩
  ·
   rintro n2 a12 w2 ⟨t2, k, rfl, F13, ok11, q50, q51, q52, q53, q54, q55, o27, o28, o29, hk, hp, rfl⟩
   refine wp_seq ?_
   refine reg (a := a12) (σ := t2) rfl (fun i_ => List.getD [(Ty.pr (Ty.bool (decide (((k : Nat) : Int) < (((List.length (R.take ((List.length R) - 1))) : Nat) : Int)))))] i_ Pr.any) ok11 rfl ⟨?_, trivial⟩ ?_
   · intro A B E G H; exact rP (y_lss (kp (H 45 rfl) E q50) (kp (H 44 rfl) E q55))
   intro a13 s13 D9; have ok12 := D9.ok; have F14 := F13.step0 D9.stp; have q56 := D9.kt q50 rfl; have q57 := D9.kt q51 rfl; have q58 := D9.kt q52 rfl; have q59 := D9.kt q53 rfl; have q60 := D9.kt q54 rfl; have q61 := D9.kt q55 rfl; have o30 := OwnM.k0 o27 D9.stp; have o31 := OwnP.k0 o28 D9.stp; have o32 := OwnP.k0 o29 D9.stp; have q62 := D9.dn 0 rfl rfl; clear D9; refine tn ?_; refine wp_seq ?_
   refine cond_p (p := (((k : Nat) : Int) < (((List.length (R.take ((List.length R) - 1))) : Nat) : Int))) q62 (fun c2 => ?_) (fun c2 => ?_)
   ·
    have hkk : k < R.length - 1 := (by omega); have hfr := hrw k (by omega); have hln := hfr.1.le
    refine wp_skip ?_
    refine tn ?_; refine wp_seq ?_
    refine wp_block ?_
    refine wp_seq ?_
    refine rg a13 s13 [(Ty.nat k), (Ty.ref [(Ty.lst Ty.int ((R.take ((List.length R) - 1)).getD k []))]), (Ty.lst Ty.int ((R.take ((List.length R) - 1)).getD k [])), (Ty.nat k), (Ty.lst Ty.int ((R.take ((List.length R) - 1)).getD k []))] ok12 ⟨?_, ?_, ?_, ?_, ?_, trivial⟩ ?_
    · intro A B E G H; exact rP (y_move (kp (H 45 rfl) E q56))
    · intro A B E G H; exact rP (y_index1 Try.underlying29 Try.inf23 (kp (H 43 rfl) E q60) (kp (H 45 rfl) E q56) (by omega) (lst_get Ty.ints (R.take ((List.length R) - 1)) [] k (by omega)))
    · intro A B E G H d0; exact rP (y_load Try.underlying23 rfl (ed d0 rfl rfl rfl) rfl)
    · intro A B E G H d0 d1 d2 d3; exact rP (y_assign (ed d0 rfl rfl rfl))
    · intro A B E G H d0 d1 d2 d3 d4 d5; exact rP (y_assign (ed d0 rfl rfl rfl))
    intro a14 s14 D10; have ok13 := D10.ok; have F15 := F14.step0 D10.stp; have q63 := D10.kt q56 rfl; have q64 := D10.kt q57 rfl; have q65 := D10.kt q58 rfl; have q66 := D10.kt q59 rfl; have q67 := D10.kt q60 rfl; have q68 := D10.kt q61 rfl; have o33 := OwnM.k0 o30 D10.stp; have o34 := OwnP.k0 o31 D10.stp; have o35 := OwnP.k0 o32 D10.stp; have q69 := D10.dn 3 rfl rfl; have q70 := D10.dn 4 rfl rfl; clear D10
    have q71 : At (Ty.lst Ty.int (R.getD k [])) s14 a14 (.tmp 14) := (cvt (by (rw [getD_takeD [] (by omega)])) q70)
    refine tn ?_; refine wp_seq ?_
    refine rg a14 s14 [(Ty.lst Ty.int (R.getD k [])), (Ty.nat (rankL ((R.getD k [])))), (Ty.nat (rankL ((R.getD k []))))] ok13 ⟨?_, ?_, ?_, trivial⟩ ?_
    · intro A B E G H; exact rP (y_move (kp (H 14 rfl) E q71))
    · intro A B E G H d0; exact rP (y_call #[A.eval (.tmp 50)] Try.func55 rfl rfl (by simp only [List.map_toArray, List.map_cons, List.map_nil]) (rowPlace_fn ((R.getD k [])) _ _ (ed d0 rfl rfl rfl) (by omega)))
    · intro A B E G H d0 d1 d2 d3; exact rP (y_assign (ed d0 rfl rfl rfl))
    intro a15 s15 D11; have ok14 := D11.ok; have F16 := F15.step0 D11.stp; have q72 := D11.kt q63 rfl; have q73 := D11.kt q64 rfl; have q74 := D11.kt q65 rfl; have q75 := D11.kt q66 rfl; have q76 := D11.kt q67 rfl; have q77 := D11.kt q68 rfl; have q78 := D11.kt q69 rfl; have o36 := OwnM.k0 o33 D11.stp; have o37 := OwnP.k0 o34 D11.stp; have o38 := OwnP.k0 o35 D11.stp; have q79 := D11.dn 2 rfl rfl; clear D11; refine tn ?_; refine wp_seq ?_; refine wp_seq ?_
    refine rg a15 s15 [(Ty.val x3), (Ty.nat (rankL ((R.getD k [])))), (Ty.tup2 (Ty.int (((mapOf R k) (((rankL ((R.getD k []))) : Nat) : Int)).getD 0)) (Ty.bool (Option.isSome ((mapOf R k) (((rankL ((R.getD k []))) : Nat) : Int))))), (Ty.tup2 (Ty.int (((mapOf R k) (((rankL ((R.getD k []))) : Nat) : Int)).getD 0)) (Ty.bool (Option.isSome ((mapOf R k) (((rankL ((R.getD k []))) : Nat) : Int))))), (Ty.int (((mapOf R k) (((rankL ((R.getD k []))) : Nat) : Int)).getD 0)), (Ty.bool (Option.isSome ((mapOf R k) (((rankL ((R.getD k []))) : Nat) : Int)))), (Ty.int (((mapOf R k) (((rankL ((R.getD k []))) : Nat) : Int)).getD 0)), (Ty.bool (Option.isSome ((mapOf R k) (((rankL ((R.getD k []))) : Nat) : Int))))] ok14 ⟨?_, ?_, ?_, ?_, ?_, ?_, ?_, ?_, trivial⟩ ?_
    · intro A B E G H; exact rP (y_move (kp (H 12 rfl) E q75))
    · intro A B E G H; exact rP (y_move (kp (H 15 rfl) E q79))
    · intro A B E G H d0 d1; exact rP (y_lookup2 (i := (((rankL ((R.getD k []))) : Nat) : Int)) (z := 0) Try.underlying86 (keyInt Try.underlying3) Try.inf3 (fun _ => rfl) (OwnM.k0 o36 E) (ed d0 rfl rfl rfl) (ed d1 rfl rfl rfl))
    · intro A B E G H d0; exact rP (y_move (ed d0 rfl rfl rfl))
    · intro A B E G H d0; exact rP (y_ext2_0 (ed d0 rfl rfl rfl))
    · intro A B E G H d0 d1; exact rP (y_ext2_1 (ed d0 rfl rfl rfl))
    · intro A B E G H d0 d1 d2 d3 d4 d5 d6; exact rP (y_assign (ed d0 rfl rfl rfl))
    · intro A B E G H d0 d1 d2 d3 d4 d5 d6 d7 d8; exact rP (y_assign (ed d0 rfl rfl rfl))
    intro a16 s16 D12; have ok15 := D12.ok; have F17 := F16.step0 D12.stp; have q80 := D12.kt q72 rfl; have q81 := D12.kt q73 rfl; have q82 := D12.kt q74 rfl; have q83 := D12.kt q75 rfl; have q84 := D12.kt q76 rfl; have q85 := D12.kt q77 rfl; have q86 := D12.kt q78 rfl; have q87 := D12.kt q79 rfl; have o39 := OwnM.k0 o36 D12.stp; have o40 := OwnP.k0 o37 D12.stp; have o41 := OwnP.k0 o38 D12.stp; have q88 := D12.dn 6 rfl rfl; have q89 := D12.dn 7 rfl rfl; clear D12; refine tn ?_; refine wp_seq ?_
    refine rg a16 s16 [(Ty.bool (Option.isSome ((mapOf R k) (((rankL ((R.getD k []))) : Nat) : Int))))] ok15 ⟨?_, trivial⟩ ?_
    · intro A B E G H; exact rP (y_move (kp (H 17 rfl) E q89))
    intro a17 s17 D13; have ok16 := D13.ok; have F18 := F17.step0 D13.stp; have q90 := D13.kt q80 rfl; have q91 := D13.kt q81 rfl; have q92 := D13.kt q82 rfl; have q93 := D13.kt q83 rfl; have q94 := D13.kt q84 rfl; have q95 := D13.kt q85 rfl; have q96 := D13.kt q86 rfl; have q97 := D13.kt q87 rfl; have q98 := D13.kt q88 rfl; have o42 := OwnM.k0 o39 D13.stp; have o43 := OwnP.k0 o40 D13.stp; have o44 := OwnP.k0 o41 D13.stp; have q99 := D13.dn 0 rfl rfl; clear D13; refine tn ?_
    refine cond_t q99 (fun c3 => ?_) (fun c3 => ?_)
    ·
     obtain ⟨j, hj⟩ := Option.isSome_iff_exists.1 c3; have hpo := pr_hit hp (by omega) hj
     refine wp_seq ?_
     refine reg2 (a := a17) (σ := s17) rfl 3 (fun i_ => List.getD [(Ty.pr (Ty.nat k)), (Ty.pr (Ty.int (((mapOf R k) (((rankL ((R.getD k []))) : Nat) : Int)).getD 0))), (Ty.pr (Ty.val (ptrAt x2 2)))] i_ Pr.any) ok16 rfl (by decide) rfl ⟨?_, ?_, ?_, trivial⟩ ?_
     · intro A B E G H d0; exact rP (y_move (kp (H 13 rfl) E q96))
     · intro A B E G H d0; exact rP (y_move (kp (H 16 rfl) E q98))
     · intro A B E G H d0 d1; exact rP (ownp_field Try.fld42_2 Try.inf4 (by decide) (OwnP.k0 o44 E) (kp (H 11 rfl) E q92))
     intro a18 s18 D14; have ok17 := D14.ok; have F19 := F18.step0 D14.stp; have q100 := D14.kt q91 rfl; have q101 := D14.kt q92 rfl; have o45 := OwnM.k0 o42 D14.stp; have o46 := OwnP.k0 o43 D14.stp; have o47 := OwnP.k0 o44 D14.stp; have q102 := D14.dn 0 (by decide) rfl rfl; have q103 := D14.dn 1 (by decide) rfl rfl; have q104 := D14.dn 2 (by decide) rfl rfl; clear D14
     refine tailL0 (L := [5]) (R := (fun _ τ => OwnP τ 5 x2 ([(Ty.nat ((List.length R) - 1)), (Ty.bool (decide ((((rankL ((R.getD ((List.length R) - 1) []))) : Nat) : Int) = (0 : Int)))), (Ty.bool true), (Ty.int (0 : Int)), (Ty.int (0 : Int))].set 2 (Ty.bool false)))) rfl rfl (YldM.toL (m_storep Try.inf4 (by decide) o47 q104 (Nat.le_of_ble_eq_true rfl) rfl (one_val rfl))) (fun v3 s19 hs5 r5 => ?_)
     have F20 := F19.stepL hs5 (by decide); have q105 := kpL hs5 (by decide) rfl q100; have q106 := kpL hs5 (by decide) rfl q101; have q107 := kpL hs5 (by decide) rfl q102; have q108 := kpL hs5 (by decide) rfl q103; have o49 := OwnM.keepL o45 hs5 (by decide) (by decide); have o50 := OwnP.keepL o46 hs5 (by decide) (by decide)
     have o48 : OwnP s19 5 x2 [(Ty.nat ((List.length R) - 1)), (Ty.bool (decide ((((rankL ((R.getD ((List.length R) - 1) []))) : Nat) : Int) = (0 : Int)))), (Ty.bool false), (Ty.int (0 : Int)), (Ty.int (0 : Int))] := r5
     clear r5
     refine tailL (L := []) (R := (fun v τ => Pr.has (Ty.pr (Ty.val (ptrAt x2 3))) τ v)) rfl rfl (by decide) ok17 (Yld.toL (ownp_field Try.fld42_3 Try.inf3 (by decide) o48 q106)) (fun a19 s20 hs6 ok18 r6 sm3 => ?_)
     have F21 := F20.stepL hs6 (by decide); have q110 := kpL hs6 (by decide) (sm3 6 (by decide)) q105; have q111 := kpL hs6 (by decide) (sm3 11 (by decide)) q106; have q112 := kpL hs6 (by decide) (sm3 59 (by decide)) q107; have q113 := kpL hs6 (by decide) (sm3 60 (by decide)) q108; have o51 := OwnM.keepL o49 hs6 (by decide) (by decide); have o52 := OwnP.keepL o50 hs6 (by decide) (by decide); have o53 := OwnP.keepL o48 hs6 (by decide) (by decide)
     have q114 : At (Ty.val (ptrAt x2 3)) s20 a19 (.tmp 62) := r6
     clear r6
     refine tailL0 (L := [5]) (R := (fun _ τ => OwnP τ 5 x2 ([(Ty.nat ((List.length R) - 1)), (Ty.bool (decide ((((rankL ((R.getD ((List.length R) - 1) []))) : Nat) : Int) = (0 : Int)))), (Ty.bool false), (Ty.int (0 : Int)), (Ty.int (0 : Int))].set 3 (Ty.nat k)))) rfl rfl (YldM.toL (m_storep Try.inf3 (by decide) o53 q114 (Nat.le_of_ble_eq_true rfl) q112 (one_val rfl))) (fun v4 s21 hs7 r7 => ?_)
     have F22 := F21.stepL hs7 (by decide); have q115 := kpL hs7 (by decide) rfl q110; have q116 := kpL hs7 (by decide) rfl q111; have q117 := kpL hs7 (by decide) rfl q113; have o55 := OwnM.keepL o51 hs7 (by decide) (by decide); have o56 := OwnP.keepL o52 hs7 (by decide) (by decide)
     have o54 : OwnP s21 5 x2 [(Ty.nat ((List.length R) - 1)), (Ty.bool (decide ((((rankL ((R.getD ((List.length R) - 1) []))) : Nat) : Int) = (0 : Int)))), (Ty.bool false), (Ty.nat k), (Ty.int (0 : Int))] := r7
     clear r7
     refine tailL (L := []) (R := (fun v τ => Pr.has (Ty.pr (Ty.val (ptrAt x2 4))) τ v)) rfl rfl (by decide) ok18 (Yld.toL (ownp_field Try.fld42_4 Try.inf3 (by decide) o54 q116)) (fun a20 s22 hs8 ok19 r8 sm4 => ?_)
     have F23 := F22.stepL hs8 (by decide); have q119 := kpL hs8 (by decide) (sm4 6 (by decide)) q115; have q120 := kpL hs8 (by decide) (sm4 11 (by decide)) q116; have q121 := kpL hs8 (by decide) (sm4 60 (by decide)) q117; have o57 := OwnM.keepL o55 hs8 (by decide) (by decide); have o58 := OwnP.keepL o56 hs8 (by decide) (by decide); have o59 := OwnP.keepL o54 hs8 (by decide) (by decide)
     have q122 : At (Ty.val (ptrAt x2 4)) s22 a20 (.tmp 63) := r8
     clear r8
     refine tailL0 (L := [5]) (R := (fun _ τ => OwnP τ 5 x2 ([(Ty.nat ((List.length R) - 1)), (Ty.bool (decide ((((rankL ((R.getD ((List.length R) - 1) []))) : Nat) : Int) = (0 : Int)))), (Ty.bool false), (Ty.nat k), (Ty.int (0 : Int))].set 4 (Ty.int (((mapOf R k) (((rankL ((R.getD k []))) : Nat) : Int)).getD 0))))) rfl rfl (YldM.toL (m_storep Try.inf3 (by decide) o59 q122 (Nat.le_of_ble_eq_true rfl) q121 (one_val rfl))) (fun v5 s23 hs9 r9 => ?_)
     have F24 := F23.stepL hs9 (by decide); have q123 := kpL hs9 (by decide) rfl q119; have q124 := kpL hs9 (by decide) rfl q120; have o61 := OwnM.keepL o57 hs9 (by decide) (by decide); have o62 := OwnP.keepL o58 hs9 (by decide) (by decide)
     have o60 : OwnP s23 5 x2 [(Ty.nat ((List.length R) - 1)), (Ty.bool (decide ((((rankL ((R.getD ((List.length R) - 1) []))) : Nat) : Int) = (0 : Int)))), (Ty.bool false), (Ty.nat k), (Ty.int (((mapOf R k) (((rankL ((R.getD k []))) : Nat) : Int)).getD 0))] := r9
     clear r9; refine wpList_nil ?_; refine tn ?_; refine wp_exit ?_; refine tx ?_
     refine bo (by decide) ?_
     refine tx ?_; refine tx ?_; refine bx ?_; refine tn ?_; refine wp_seq ?_
     refine reg2 (a := a20) (σ := s23) rfl 1 (fun i_ => List.getD [(Ty.pr (Ty.agg [(Ty.nat ((List.length R) - 1)), (Ty.bool (decide ((((rankL ((R.getD ((List.length R) - 1) []))) : Nat) : Int) = (0 : Int)))), (Ty.bool false), (Ty.nat k), (Ty.int (((mapOf R k) (((rankL ((R.getD k []))) : Nat) : Int)).getD 0))]))] i_ Pr.any) ok19 rfl (by decide) rfl ⟨?_, trivial⟩ ?_
     · intro A B E G H; exact rP (ownp_loadagg Try.underlying42 Try.inf42 (OwnP.k0 o60 E) (kp (H 11 rfl) E q124))
     intro a21 s24 D15; have ok20 := D15.ok; have F25 := F24.step0 D15.stp; have q126 := D15.kt q123 rfl; have o63 := OwnP.k0 o62 D15.stp; have o64 := OwnP.k0 o60 D15.stp; have q127 := D15.dn 0 (by decide) rfl rfl; clear D15
     refine tailL0 (L := [4]) (R := (fun _ τ => OwnP τ 4 x1 [(Ty.nat ((List.length R) - 1)), (Ty.bool (decide ((((rankL ((R.getD ((List.length R) - 1) []))) : Nat) : Int) = (0 : Int)))), (Ty.bool false), (Ty.nat k), (Ty.int (((mapOf R k) (((rankL ((R.getD k []))) : Nat) : Int)).getD 0))])) rfl rfl (YldM.toL (m_storeagg Try.inf42 (by decide) o63 q126 rfl q127 (by intro U hU; simp only [List.mem_cons, List.not_mem_nil, or_false] at hU; rcases hU with rfl | rfl | rfl | rfl | rfl <;> first | exact one_val rfl | exact one_sl | exact one_ref))) (fun v6 s25 hs10 r10 => ?_)
     have F26 := F25.stepL hs10 (by decide); have q128 := kpL hs10 (by decide) rfl q126; have o66 := OwnP.keepL o64 hs10 (by decide) (by decide)
     have o65 : OwnP s25 4 x1 [(Ty.nat ((List.length R) - 1)), (Ty.bool (decide ((((rankL ((R.getD ((List.length R) - 1) []))) : Nat) : Int) = (0 : Int)))), (Ty.bool false), (Ty.nat k), (Ty.int (((mapOf R k) (((rankL ((R.getD k []))) : Nat) : Int)).getD 0))] := r10
     clear r10
     refine tailL (L := []) (R := (fun v τ => Pr.has (Ty.pr (Ty.int (0 : Int))) τ v)) rfl rfl (by decide) ok20 (Yld.toL (y_assign rfl)) (fun a22 s26 hs11 ok21 r11 sm5 => ?_)
     have F27 := F26.stepL hs11 (by decide); have q130 := kpL hs11 (by decide) (sm5 6 (by decide)) q128; have o67 := OwnP.keepL o66 hs11 (by decide) (by decide); have o68 := OwnP.keepL o65 hs11 (by decide) (by decide)
     have q131 : At (Ty.int (0 : Int)) s26 a22 (.tmp 7) := r11
     clear r11; refine wpList_nil ?_; refine tn ?_; refine wp_ret ?_
     have o69 : OwnP s26 4 x1 [(Ty.nat ((List.length R) - 1)), (Ty.bool (decide ((((rankL ((R.getD ((List.length R) - 1) []))) : Nat) : Int) = (0 : Int)))), (Ty.bool false), (Ty.nat k), (Ty.int (((mapOf R k) (((rankL ((R.getD k []))) : Nat) : Int)).getD 0))] := o68
     have o70 : OwnP s26 4 x1 [(Ty.nat (if touchMay nm n l cs leads = 0 then leads.length * l.length else 0)), (Ty.bool (decide ((((rankL ((R.getD ((List.length R) - 1) []))) : Nat) : Int) = (0 : Int)))), (Ty.bool false), (Ty.nat k), (Ty.int (((mapOf R k) (((rankL ((R.getD k []))) : Nat) : Int)).getD 0))] := cvop (by rw [show (Ty.nat ((List.length R) - 1)) = (Ty.nat (if touchMay nm n l cs leads = 0 then leads.length * l.length else 0)) from by (rw [if_pos h0, show R.length - 1 = leads.length * l.length by omega])]) o69
     have o71 : OwnP s26 4 x1 [(Ty.nat (if touchMay nm n l cs leads = 0 then leads.length * l.length else 0)), (Ty.bool (if touchMay nm n l cs leads = 0 then rndB (tRows n.toNat l cs leads leads.length) else false)), (Ty.bool false), (Ty.nat k), (Ty.int (((mapOf R k) (((rankL ((R.getD k []))) : Nat) : Int)).getD 0))] := cvop (by rw [show (Ty.bool (decide ((((rankL ((R.getD ((List.length R) - 1) []))) : Nat) : Int) = (0 : Int)))) = (Ty.bool (if touchMay nm n l cs leads = 0 then rndB (tRows n.toNat l cs leads leads.length) else false)) from by (rw [if_pos h0, ← hR]; rfl)]) o70
     have o72 : OwnP s26 4 x1 [(Ty.nat (if touchMay nm n l cs leads = 0 then leads.length * l.length else 0)), (Ty.bool (if touchMay nm n l cs leads = 0 then rndB (tRows n.toNat l cs leads leads.length) else false)), (Ty.bool (if touchMay nm n l cs leads = 0 then (prO (tRows n.toNat l cs leads leads.length)).isNone else false)), (Ty.nat k), (Ty.int (((mapOf R k) (((rankL ((R.getD k []))) : Nat) : Int)).getD 0))] := cvop (by rw [show (Ty.bool false) = (Ty.bool (if touchMay nm n l cs leads = 0 then (prO (tRows n.toNat l cs leads leads.length)).isNone else false)) from by (rw [if_pos h0, ← hR]; rw [hpo]; rfl)]) o71
     have o73 : OwnP s26 4 x1 [(Ty.nat (if touchMay nm n l cs leads = 0 then leads.length * l.length else 0)), (Ty.bool (if touchMay nm n l cs leads = 0 then rndB (tRows n.toNat l cs leads leads.length) else false)), (Ty.bool (if touchMay nm n l cs leads = 0 then (prO (tRows n.toNat l cs leads leads.length)).isNone else false)), (Ty.nat (if touchMay nm n l cs leads = 0 then agnL (tRows n.toNat l cs leads leads.length) else 0)), (Ty.int (((mapOf R k) (((rankL ((R.getD k []))) : Nat) : Int)).getD 0))] := cvop (by rw [show (Ty.nat k) = (Ty.nat (if touchMay nm n l cs leads = 0 then agnL (tRows n.toNat l cs leads leads.length) else 0)) from by (rw [if_pos h0, ← hR]; unfold agnL; rw [hpo]; rfl)]) o72
     have o74 : OwnP s26 4 x1 [(Ty.nat (if touchMay nm n l cs leads = 0 then leads.length * l.length else 0)), (Ty.bool (if touchMay nm n l cs leads = 0 then rndB (tRows n.toNat l cs leads leads.length) else false)), (Ty.bool (if touchMay nm n l cs leads = 0 then (prO (tRows n.toNat l cs leads leads.length)).isNone else false)), (Ty.nat (if touchMay nm n l cs leads = 0 then agnL (tRows n.toNat l cs leads leads.length) else 0)), (Ty.int (if touchMay nm n l cs leads = 0 then befL (tRows n.toNat l cs leads leads.length) else 0))] := cvop (by rw [show (Ty.int (((mapOf R k) (((rankL ((R.getD k []))) : Nat) : Int)).getD 0)) = (Ty.int (if touchMay nm n l cs leads = 0 then befL (tRows n.toNat l cs leads leads.length) else 0)) from by (rw [if_pos h0, ← hR]; unfold befL; rw [hpo, hj]; rfl)]) o73
     exact retL2c (k := 4) (ts := [(Ty.nat (if touchMay nm n l cs leads = 0 then leads.length * l.length else 0)), (Ty.bool (if touchMay nm n l cs leads = 0 then rndB (tRows n.toNat l cs leads leads.length) else false)), (Ty.bool (if touchMay nm n l cs leads = 0 then (prO (tRows n.toNat l cs leads leads.length)).isNone else false)), (Ty.nat (if touchMay nm n l cs leads = 0 then agnL (tRows n.toNat l cs leads leads.length) else 0)), (Ty.int (if touchMay nm n l cs leads = 0 then befL (tRows n.toNat l cs leads leads.length) else 0))]) rfl ok21 F27 Try.underlying42 Try.inf42 (al (R := (Pr.ownp 4 [(Ty.nat (if touchMay nm n l cs leads = 0 then leads.length * l.length else 0)), (Ty.bool (if touchMay nm n l cs leads = 0 then rndB (tRows n.toNat l cs leads leads.length) else false)), (Ty.bool (if touchMay nm n l cs leads = 0 then (prO (tRows n.toNat l cs leads leads.length)).isNone else false)), (Ty.nat (if touchMay nm n l cs leads = 0 then agnL (tRows n.toNat l cs leads leads.length) else 0)), (Ty.int (if touchMay nm n l cs leads = 0 then befL (tRows n.toNat l cs leads leads.length) else 0))])) q130 o74) (fun v_ hv_ => (hasT2 hv_ (cvi (by (exact h0.symm)) q131)))
    ·
     have hnn := opt_nof c3; have hpx := pr_next hp (by omega) hnn
     refine wp_skip ?_
     refine tn ?_
     refine reg2 (a := a17) (σ := s17) rfl 3 (fun i_ => List.getD [(Ty.pr (Ty.val x3)), (Ty.pr (Ty.nat (rankL ((R.getD k []))))), (Ty.pr (Ty.nat k))] i_ Pr.any) ok16 rfl (by decide) rfl ⟨?_, ?_, ?_, trivial⟩ ?_
     · intro A B E G H; exact rP (y_move (kp (H 12 rfl) E q93))
     · intro A B E G H; exact rP (y_move (kp (H 15 rfl) E q97))
     · intro A B E G H; exact rP (y_move (kp (H 13 rfl) E q96))
     intro a23 s27 D16; have ok22 := D16.ok; have F28 := F18.step0 D16.stp; have q132 := D16.kt q90 rfl; have q133 := D16.kt q91 rfl; have q134 := D16.kt q92 rfl; have q135 := D16.kt q93 rfl; have q136 := D16.kt q94 rfl; have q137 := D16.kt q95 rfl; have o75 := OwnM.k0 o42 D16.stp; have o76 := OwnP.k0 o43 D16.stp; have o77 := OwnP.k0 o44 D16.stp
     have q138 : At (Ty.val x3) s27 a23 (.tmp 64) := D16.done 0 (by decide)
     have q139 := D16.dn 1 (by decide) rfl rfl; have q140 := D16.dn 2 (by decide) rfl rfl; clear D16
     refine tailL0 (L := [6]) (R := (fun _ τ => OwnM Ty.int kI τ 6 x3 (fun x_ => if x_ = (((rankL ((R.getD k []))) : Nat) : Int) then some ((k : Nat) : Int) else (mapOf R k) x_))) rfl rfl (YldM.toL (m_mapset (i := (((rankL ((R.getD k []))) : Nat) : Int)) Try.underlying86 (keyInt Try.underlying3) (by decide) o75 q138 q139 q140)) (fun v7 s28 hs12 r12 => ?_)
     have F29 := F28.stepL hs12 (by decide); have q141 := kpL hs12 (by decide) rfl q132; have q142 := kpL hs12 (by decide) rfl q133; have q143 := kpL hs12 (by decide) rfl q134; have q144 := kpL hs12 (by decide) rfl q135; have q145 := kpL hs12 (by decide) rfl q136; have q146 := kpL hs12 (by decide) rfl q137; have o79 := OwnP.keepL o76 hs12 (by decide) (by decide); have o80 := OwnP.keepL o77 hs12 (by decide) (by decide)
     have o78 : OwnM Ty.int kI s28 6 x3 (fun x_ => if x_ = (((rankL ((R.getD k []))) : Nat) : Int) then some ((k : Nat) : Int) else (mapOf R k) x_) := r12
     clear r12; refine wpList_nil ?_; refine bn ?_; refine tn ?_
     refine rg a23 s28 [(Ty.nat (k + 1)), (Ty.nat (k + 1))] ok22 ⟨?_, ?_, trivial⟩ ?_
     · intro A B E G H; exact rP ((y_add (kp (H 45 rfl) E q141) rfl (w64 (by omega) (by omega))).mono (fun τ _ h => cvi (σ := τ) (by first | omega | exact (Int.natCast_mul _ _).symm) h))
     · intro A B E G H d0; exact rP (y_move (ed d0 rfl rfl rfl))
     intro a24 s29 D17; have ok23 := D17.ok; have F30 := F29.step0 D17.stp; have q148 := D17.kt q142 rfl; have q149 := D17.kt q143 rfl; have q150 := D17.kt q144 rfl; have q151 := D17.kt q145 rfl; have q152 := D17.kt q146 rfl; have o81 := OwnP.k0 o79 D17.stp; have o82 := OwnP.k0 o80 D17.stp; have o83 := OwnM.k0 o78 D17.stp; have q153 := D17.dn 1 rfl rfl; clear D17
     exact tn ⟨(List.take ((List.length R) - 1) R).length - ((k+1)), by omega, s29, (k+1), rfl, F30, ok23, (cvi (by (first | rfl | omega | (simp_all; done) | (simp_all; omega))) q153), q148, q149, q150, q151, q152, (cvm (by (rfl)) o83), o81, o82, by omega, by rw [show R.length - 1 - (k + 1) = R.length - 1 - k - 1 by omega]; exact hpx, rfl⟩
   ·
    have hpo := pr_end hp (by omega)
    refine wp_exit ?_; refine tx ?_; refine tx ?_; refine bx ?_; refine tn ?_; refine wp_seq ?_
    refine reg2 (a := a13) (σ := s13) rfl 1 (fun i_ => List.getD [(Ty.pr (Ty.agg [(Ty.nat ((List.length R) - 1)), (Ty.bool (decide ((((rankL ((R.getD ((List.length R) - 1) []))) : Nat) : Int) = (0 : Int)))), (Ty.bool true), (Ty.int (0 : Int)), (Ty.int (0 : Int))]))] i_ Pr.any) ok12 rfl (by decide) rfl ⟨?_, trivial⟩ ?_
    · intro A B E G H; exact rP (ownp_loadagg Try.underlying42 Try.inf42 (OwnP.k0 o32 E) (kp (H 11 rfl) E q58))
    intro a25 s30 D18; have ok24 := D18.ok; have F31 := F14.step0 D18.stp; have q154 := D18.kt q57 rfl; have o84 := OwnM.k0 o30 D18.stp; have o85 := OwnP.k0 o31 D18.stp; have o86 := OwnP.k0 o32 D18.stp; have q155 := D18.dn 0 (by decide) rfl rfl; clear D18
    refine tailL0 (L := [4]) (R := (fun _ τ => OwnP τ 4 x1 [(Ty.nat ((List.length R) - 1)), (Ty.bool (decide ((((rankL ((R.getD ((List.length R) - 1) []))) : Nat) : Int) = (0 : Int)))), (Ty.bool true), (Ty.int (0 : Int)), (Ty.int (0 : Int))])) rfl rfl (YldM.toL (m_storeagg Try.inf42 (by decide) o85 q154 rfl q155 (by intro U hU; simp only [List.mem_cons, List.not_mem_nil, or_false] at hU; rcases hU with rfl | rfl | rfl | rfl | rfl <;> first | exact one_val rfl | exact one_sl | exact one_ref))) (fun v8 s31 hs13 r13 => ?_)
    have F32 := F31.stepL hs13 (by decide); have q156 := kpL hs13 (by decide) rfl q154; have o88 := OwnM.keepL o84 hs13 (by decide) (by decide); have o89 := OwnP.keepL o86 hs13 (by decide) (by decide)
    have o87 : OwnP s31 4 x1 [(Ty.nat ((List.length R) - 1)), (Ty.bool (decide ((((rankL ((R.getD ((List.length R) - 1) []))) : Nat) : Int) = (0 : Int)))), (Ty.bool true), (Ty.int (0 : Int)), (Ty.int (0 : Int))] := r13
    clear r13
    refine tailL (L := []) (R := (fun v τ => Pr.has (Ty.pr (Ty.int (0 : Int))) τ v)) rfl rfl (by decide) ok24 (Yld.toL (y_assign rfl)) (fun a26 s32 hs14 ok25 r14 sm6 => ?_)
    have F33 := F32.stepL hs14 (by decide); have q158 := kpL hs14 (by decide) (sm6 6 (by decide)) q156; have o90 := OwnM.keepL o88 hs14 (by decide) (by decide); have o91 := OwnP.keepL o89 hs14 (by decide) (by decide); have o92 := OwnP.keepL o87 hs14 (by decide) (by decide)
    have q159 : At (Ty.int (0 : Int)) s32 a26 (.tmp 7) := r14
    clear r14; refine wpList_nil ?_; refine tn ?_; refine wp_ret ?_
    have o93 : OwnP s32 4 x1 [(Ty.nat ((List.length R) - 1)), (Ty.bool (decide ((((rankL ((R.getD ((List.length R) - 1) []))) : Nat) : Int) = (0 : Int)))), (Ty.bool true), (Ty.int (0 : Int)), (Ty.int (0 : Int))] := o92
    have o94 : OwnP s32 4 x1 [(Ty.nat (if touchMay nm n l cs leads = 0 then leads.length * l.length else 0)), (Ty.bool (decide ((((rankL ((R.getD ((List.length R) - 1) []))) : Nat) : Int) = (0 : Int)))), (Ty.bool true), (Ty.int (0 : Int)), (Ty.int (0 : Int))] := cvop (by rw [show (Ty.nat ((List.length R) - 1)) = (Ty.nat (if touchMay nm n l cs leads = 0 then leads.length * l.length else 0)) from by (rw [if_pos h0, show R.length - 1 = leads.length * l.length by omega])]) o93
    have o95 : OwnP s32 4 x1 [(Ty.nat (if touchMay nm n l cs leads = 0 then leads.length * l.length else 0)), (Ty.bool (if touchMay nm n l cs leads = 0 then rndB (tRows n.toNat l cs leads leads.length) else false)), (Ty.bool true), (Ty.int (0 : Int)), (Ty.int (0 : Int))] := cvop (by rw [show (Ty.bool (decide ((((rankL ((R.getD ((List.length R) - 1) []))) : Nat) : Int) = (0 : Int)))) = (Ty.bool (if touchMay nm n l cs leads = 0 then rndB (tRows n.toNat l cs leads leads.length) else false)) from by (rw [if_pos h0, ← hR]; rfl)]) o94
    have o96 : OwnP s32 4 x1 [(Ty.nat (if touchMay nm n l cs leads = 0 then leads.length * l.length else 0)), (Ty.bool (if touchMay nm n l cs leads = 0 then rndB (tRows n.toNat l cs leads leads.length) else false)), (Ty.bool (if touchMay nm n l cs leads = 0 then (prO (tRows n.toNat l cs leads leads.length)).isNone else false)), (Ty.int (0 : Int)), (Ty.int (0 : Int))] := cvop (by rw [show (Ty.bool true) = (Ty.bool (if touchMay nm n l cs leads = 0 then (prO (tRows n.toNat l cs leads leads.length)).isNone else false)) from by (rw [if_pos h0, ← hR]; rw [hpo]; rfl)]) o95
    have o97 : OwnP s32 4 x1 [(Ty.nat (if touchMay nm n l cs leads = 0 then leads.length * l.length else 0)), (Ty.bool (if touchMay nm n l cs leads = 0 then rndB (tRows n.toNat l cs leads leads.length) else false)), (Ty.bool (if touchMay nm n l cs leads = 0 then (prO (tRows n.toNat l cs leads leads.length)).isNone else false)), (Ty.nat (if touchMay nm n l cs leads = 0 then agnL (tRows n.toNat l cs leads leads.length) else 0)), (Ty.int (0 : Int))] := cvop (by rw [show (Ty.int (0 : Int)) = (Ty.nat (if touchMay nm n l cs leads = 0 then agnL (tRows n.toNat l cs leads leads.length) else 0)) from by (rw [if_pos h0, ← hR]; unfold agnL; rw [hpo]; rfl)]) o96
    have o98 : OwnP s32 4 x1 [(Ty.nat (if touchMay nm n l cs leads = 0 then leads.length * l.length else 0)), (Ty.bool (if touchMay nm n l cs leads = 0 then rndB (tRows n.toNat l cs leads leads.length) else false)), (Ty.bool (if touchMay nm n l cs leads = 0 then (prO (tRows n.toNat l cs leads leads.length)).isNone else false)), (Ty.nat (if touchMay nm n l cs leads = 0 then agnL (tRows n.toNat l cs leads leads.length) else 0)), (Ty.int (if touchMay nm n l cs leads = 0 then befL (tRows n.toNat l cs leads leads.length) else 0))] := cvop (by rw [show (Ty.int (0 : Int)) = (Ty.int (if touchMay nm n l cs leads = 0 then befL (tRows n.toNat l cs leads leads.length) else 0)) from by (rw [if_pos h0, ← hR]; unfold befL; rw [hpo]; rfl)]) o97
    exact retL2c (k := 4) (ts := [(Ty.nat (if touchMay nm n l cs leads = 0 then leads.length * l.length else 0)), (Ty.bool (if touchMay nm n l cs leads = 0 then rndB (tRows n.toNat l cs leads leads.length) else false)), (Ty.bool (if touchMay nm n l cs leads = 0 then (prO (tRows n.toNat l cs leads leads.length)).isNone else false)), (Ty.nat (if touchMay nm n l cs leads = 0 then agnL (tRows n.toNat l cs leads leads.length) else 0)), (Ty.int (if touchMay nm n l cs leads = 0 then befL (tRows n.toNat l cs leads leads.length) else 0))]) rfl ok25 F33 Try.underlying42 Try.inf42 (al (R := (Pr.ownp 4 [(Ty.nat (if touchMay nm n l cs leads = 0 then leads.length * l.length else 0)), (Ty.bool (if touchMay nm n l cs leads = 0 then rndB (tRows n.toNat l cs leads leads.length) else false)), (Ty.bool (if touchMay nm n l cs leads = 0 then (prO (tRows n.toNat l cs leads leads.length)).isNone else false)), (Ty.nat (if touchMay nm n l cs leads = 0 then agnL (tRows n.toNat l cs leads leads.length) else 0)), (Ty.int (if touchMay nm n l cs leads = 0 then befL (tRows n.toNat l cs leads leads.length) else 0))])) q158 o98) (fun v_ hv_ => (hasT2 hv_ (cvi (by (exact h0.symm)) q159)))


set_option maxHeartbeats 4000000 in
set_option maxRecDepth 100000 in
theorem heads_fn (nm : ByteArray) (n : Int) (l : List (List Int)) (cs : List BCall) (leads : List Int) (σ : GW)  (v0 v1 v2 : Value) (hv0 : Ty.has (Ty.agg [(Ty.val (Value.string nm)), (Ty.int n), (Ty.lst Ty.ints l)]) σ v0) (hv1 : Ty.has (Ty.lstc 2 callC cs) σ v1) (hv2 : Ty.has (Ty.lst Ty.int leads) σ v2)  (hnm : nm.size ≤ 1099511627776) (hn : -9223372036854775808 ≤ n ∧ n ≤ 9223372036854775807) :
    FnC Try.prog 23 #[v0, v1, v2] σ (Ty.tup2 (Ty.lst Ty.ints (if touchMay nm n l cs leads = 0 then (tHds n.toNat l cs leads leads.length) else [])) (Ty.int (touchMay nm n l cs leads))) := by
 refine fn_intro0 Try.func23 rfl Try.ntmps23 (Nat.le_of_ble_eq_true rfl) (fun s0 a0 hle F0 ok0 hargs => ?_)
 have p0 : At (Ty.agg [(Ty.val (Value.string nm)), (Ty.int n), (Ty.lst Ty.ints l)]) s0 a0 (.tmp 0) := by have e := hargs 0 _ rfl; show Ty.has _ _ _; rw [e]; exact Ty.up _ hle hv0
 have p1 : At (Ty.lstc 2 callC cs) s0 a0 (.tmp 1) := by have e := hargs 1 _ rfl; show Ty.has _ _ _; rw [e]; exact Ty.up _ hle hv1
 have b1 := sl_le p1
 have p2 : At (Ty.lst Ty.int leads) s0 a0 (.tmp 2) := by have e := hargs 2 _ rfl; show Ty.has _ _ _; rw [e]; exact Ty.up _ hle hv2
 have b2 := sl_le p2
 clear hargs; refine wp_seq ?_
 refine rg a0 s0 [(Ty.ref [(Ty.val (Value.string nm)), (Ty.int n), (Ty.lst Ty.ints l)]), (Ty.val (Value.slice none 0 0)), (Ty.int (0 : Int))] ok0 ⟨?_, ?_, ?_, trivial⟩ ?_
 · intro A B E G H; exact rP (y_boxagg (kp (H 0 rfl) E p0))
 · intro A B E G H; exact rP (y_assign rfl)
 · intro A B E G H d0; exact rP (y_assign rfl)
 intro a1 s1 D1; have ok1 := D1.ok; have F1 := F0.step0 D1.stp; have q1 := D1.kt p1 rfl; have q2 := D1.kt p2 rfl; have q3 := D1.dn 0 rfl rfl; clear D1; refine tn ?_; refine wp_seq ?_
 refine rg a1 s1 [(Ty.agg [(Ty.val (Value.string nm)), (Ty.int n), (Ty.lst Ty.ints l)]), (Ty.lstc 2 callC cs), (Ty.lst Ty.int leads), (Ty.tup2 (Ty.lst Ty.ints (if touchMay nm n l cs leads = 0 then (tRows n.toNat l cs leads leads.length) else [])) (Ty.int (touchMay nm n l cs leads))), (Ty.tup2 (Ty.lst Ty.ints (if touchMay nm n l cs leads = 0 then (tRows n.toNat l cs leads leads.length) else [])) (Ty.int (touchMay nm n l cs leads))), (Ty.lst Ty.ints (if touchMay nm n l cs leads = 0 then (tRows n.toNat l cs leads leads.length) else [])), (Ty.int (touchMay nm n l cs leads)), (Ty.lst Ty.ints (if touchMay nm n l cs leads = 0 then (tRows n.toNat l cs leads leads.length) else [])), (Ty.int (touchMay nm n l cs leads))] ok1 ⟨?_, ?_, ?_, ?_, ?_, ?_, ?_, ?_, ?_, trivial⟩ ?_
 · intro A B E G H; exact rP (y_loadagg Try.underlying31 Try.inf31 (kp (H 3 rfl) E q3))
 · intro A B E G H; exact rP (y_move (kp (H 1 rfl) E q1))
 · intro A B E G H; exact rP (y_move (kp (H 2 rfl) E q2))
 · intro A B E G H d0 d1 d2; exact rP (y_call #[A.eval (.tmp 13), A.eval (.tmp 14), A.eval (.tmp 15)] Try.func54 rfl rfl (by simp only [List.map_toArray, List.map_cons, List.map_nil]) (callRows_fn (nm) (n) (l) (cs) (leads) _ _ _ _ (ed d0 rfl rfl rfl) (ed d1 rfl rfl rfl) (ed d2 rfl rfl rfl) (by first | omega | assumption) (by first | omega | assumption)))
 · intro A B E G H d0; exact rP (y_move (ed d0 rfl rfl rfl))
 · intro A B E G H d0; exact rP (y_ext2_0 (ed d0 rfl rfl rfl))
 · intro A B E G H d0 d1; exact rP (y_ext2_1 (ed d0 rfl rfl rfl))
 · intro A B E G H d0 d1 d2 d3 d4 d5 d6 d7 d8; exact rP (y_assign (ed d0 rfl rfl rfl))
 · intro A B E G H d0 d1 d2 d3 d4 d5 d6 d7 d8 d9; exact rP (y_assign (ed d0 rfl rfl rfl))
 intro a2 s2 D2; have ok2 := D2.ok; have F2 := F1.step0 D2.stp; have q4 := D2.kt q2 rfl; have q5 := D2.kt q3 rfl; have q6 := D2.dn 7 rfl rfl; have q7 := D2.dn 8 rfl rfl; clear D2; refine tn ?_; refine wp_seq ?_; refine wp_seq ?_
 refine rg a2 s2 [(Ty.int (touchMay nm n l cs leads)), (Ty.bool (decide ((touchMay nm n l cs leads) ≠ (0 : Int))))] ok2 ⟨?_, ?_, trivial⟩ ?_
 · intro A B E G H; exact rP (y_move (kp (H 9 rfl) E q7))
 · intro A B E G H d0; exact rP (y_neq (ed d0 rfl rfl rfl) rfl)
 intro a3 s3 D3; have ok3 := D3.ok; have F3 := F2.step0 D3.stp; have q8 := D3.kt q4 rfl; have q9 := D3.kt q5 rfl; have q10 := D3.kt q6 rfl; have q11 := D3.kt q7 rfl; have q12 := D3.dn 1 rfl rfl; clear D3; refine tn ?_
 refine cond_p (p := ((touchMay nm n l cs leads) ≠ (0 : Int))) q12 (fun c1 => ?_) (fun c1 => ?_)
 ·
  refine wp_seq ?_
  refine rg a3 s3 [(Ty.int (touchMay nm n l cs leads)), (Ty.val (Value.slice none 0 0)), (Ty.int (touchMay nm n l cs leads))] ok3 ⟨?_, ?_, ?_, trivial⟩ ?_
  · intro A B E G H d0; exact rP (y_move (kp (H 9 rfl) E q11))
  · intro A B E G H d0; exact rP (y_assign rfl)
  · intro A B E G H d0 d1 d2 d3; exact rP (y_assign (ed d0 rfl rfl rfl))
  intro a4 s4 D4; have ok4 := D4.ok; have F4 := F3.step0 D4.stp; have q13 := D4.dn 1 rfl rfl; have q14 := D4.dn 2 rfl rfl; clear D4; refine tn ?_; refine wp_ret ?_
  refine tr ?_
  exact retL2 rfl ok4 F4 (hasT2 (nil_lst (by (rw [if_neg c1])) q13) q14)
 ·
  have h0 := Classical.not_not.1 c1; obtain ⟨hok, hnn, hlo, hlh, hin, hlim⟩ := touchMay_ok h0; have hl1 := hok.meth.l1; have hl2 := hok.meth.l2; have hn1 := hok.meth.n1; have hn2 := hok.meth.n2; obtain ⟨R, hR⟩ : ∃ R, R = (tRows n.toNat l cs leads leads.length) := ⟨_, rfl⟩; have hRl : R.length = leads.length * l.length + 1 := (by rw [hR]; exact tRows_len hok hin _ (Nat.le_refl _))
  have q15 : At (Ty.lst Ty.ints R) s3 a3 (.tmp 8) := cvt (T := (Ty.lst Ty.ints (if touchMay nm n l cs leads = 0 then (tRows n.toNat l cs leads leads.length) else []))) (U := (Ty.lst Ty.ints R)) (by rw [if_pos h0, hR]) q10
  refine wp_skip ?_
  refine tn ?_; refine wp_seq ?_
  refine rg a3 s3 [(Ty.val (Value.slice none 0 0))] ok3 ⟨?_, trivial⟩ ?_
  · intro A B E G H; exact rP (y_assign rfl)
  intro a5 s5 D5; have ok5 := D5.ok; have F5 := F3.step0 D5.stp; have q16 := D5.kt q8 rfl; have q17 := D5.kt q9 rfl; have q18 := D5.kt q15 rfl; have q19 := D5.dn 0 rfl rfl; clear D5; refine tn ?_; refine wp_seq ?_; refine wp_seq ?_
  refine rg a5 s5 [(Ty.lst Ty.int leads), (Ty.nat (List.length leads)), (Ty.int (0 : Int))] ok5 ⟨?_, ?_, ?_, trivial⟩ ?_
  · intro A B E G H; exact rP (y_move (kp (H 2 rfl) E q16))
  · intro A B E G H d0; exact rP (y_len Try.underlying23 (ed d0 rfl rfl rfl))
  · intro A B E G H; exact rP (y_move rfl)
  intro a6 s6 D6; have ok6 := D6.ok; have F6 := F5.step0 D6.stp; have q20 := D6.kt q17 rfl; have q21 := D6.kt q18 rfl; have q22 := D6.kt q19 rfl; have q23 := D6.dn 1 rfl rfl; have q24 := D6.dn 2 rfl rfl; clear D6; refine tn ?_
  refine wp_block ?_
  have o1 : Own s6 5 23 1 (Value.slice none 0 0) 0 (List.map Ty.ints ([] : List (List Int))) := Own.nil _ _ _ _
  refine loop (fun n1 a7 w1 => ∃ (t1 : GW) (k : Nat) (x10_0 : Value), t1.w = w1 ∧ FromL [] s0 t1 ∧ Ok 40 a7 ∧ At (Ty.nat k) t1 a7 (.tmp 24) ∧ At (Ty.val x10_0) t1 a7 (.tmp 10) ∧ At (Ty.ref [(Ty.val (Value.string nm)), (Ty.int n), (Ty.lst Ty.ints l)]) t1 a7 (.tmp 3) ∧ At (Ty.lst Ty.ints R) t1 a7 (.tmp 8) ∧ At (Ty.nat (List.length leads)) t1 a7 (.tmp 23) ∧ Own t1 5 23 1 x10_0 (List.length (tHds n.toNat l cs leads k)) (List.map Ty.ints (tHds n.toNat l cs leads k)) ∧ (k ≤ leads.length) ∧ n1 = leads.length - k) (leads.length - (0)) ?_ ?_
  ·
   exact ⟨s6, 0, (Value.slice none 0 0), rfl, F6, ok6, (cvi (by (first | rfl | omega | (simp_all; done) | (simp_all; omega))) q24), q22, q20, q21, q23, (cvo (by (rfl)) (by (rfl)) o1), by omega, rfl⟩
  ·
   rintro n2 a8 w2 ⟨t2, k, x10_0, rfl, F7, ok7, q25, q26, q27, q28, q29, o2, hk, rfl⟩
   have hhl := tHds_len n.toNat l cs leads k
   refine wp_seq ?_
   refine reg (a := a8) (σ := t2) rfl (fun i_ => List.getD [(Ty.pr (Ty.bool (decide (((k : Nat) : Int) < (((List.length leads) : Nat) : Int)))))] i_ Pr.any) ok7 rfl ⟨?_, trivial⟩ ?_
   · intro A B E G H; exact rP (y_lss (kp (H 24 rfl) E q25) (kp (H 23 rfl) E q29))
   intro a9 s7 D7; have ok8 := D7.ok; have F8 := F7.step0 D7.stp; have q30 := D7.kt q25 rfl; have q31 := D7.kt q26 rfl; have q32 := D7.kt q27 rfl; have q33 := D7.kt q28 rfl; have q34 := D7.kt q29 rfl; have o3 := Own.k0 o2 D7.stp; have q35 := D7.dn 0 rfl rfl; clear D7; refine tn ?_; refine wp_seq ?_
   refine cond_p (p := (((k : Nat) : Int) < (((List.length leads) : Nat) : Int))) q35 (fun c2 => ?_) (fun c2 => ?_)
   ·
    have hkm : k * l.length ≤ leads.length * l.length := Nat.mul_le_mul_right _ (by omega); have hkc : ((k : Nat) : Int) * ((l.length : Nat) : Int) = ((k * l.length : Nat) : Int) := (Int.natCast_mul _ _).symm
    refine wp_skip ?_
    refine tn ?_; refine wp_seq ?_
    refine wp_block ?_
    refine wp_seq ?_
    refine rg a9 s7 [(Ty.nat k), (Ty.nat k)] ok8 ⟨?_, ?_, trivial⟩ ?_
    · intro A B E G H; exact rP (y_move (kp (H 24 rfl) E q30))
    · intro A B E G H d0 d1; exact rP (y_assign (ed d0 rfl rfl rfl))
    intro a10 s8 D8; have ok9 := D8.ok; have F9 := F8.step0 D8.stp; have q36 := D8.kt q30 rfl; have q37 := D8.kt q31 rfl; have q38 := D8.kt q32 rfl; have q39 := D8.kt q33 rfl; have q40 := D8.kt q34 rfl; have o4 := Own.k0 o3 D8.stp; have q41 := D8.dn 1 rfl rfl; clear D8; refine tn ?_
    refine reg2 (a := a10) (σ := s8) rfl 10 (fun i_ => List.getD [(Ty.pr (Ty.val x10_0)), (Ty.pr (Ty.lst Ty.ints R)), (Ty.pr (Ty.nat k)), (Ty.pr (Ty.ref [(Ty.lst Ty.ints l)])), (Ty.pr (Ty.lst Ty.ints l)), (Ty.pr (Ty.nat (List.length l))), (Ty.pr (Ty.nat (k * (List.length l)))), (Ty.pr (Ty.ref [(Ty.lst Ty.int (R.getD (k * (List.length l)) []))])), (Ty.pr (Ty.lst Ty.int (R.getD (k * (List.length l)) []))), (Ty.pr (Ty.sl 1 1 [(Ty.lst Ty.int (R.getD (k * (List.length l)) []))]))] i_ Pr.any) ok9 rfl (by decide) rfl ⟨?_, ?_, ?_, ?_, ?_, ?_, ?_, ?_, ?_, ?_, trivial⟩ ?_
    · intro A B E G H; exact rP (y_move (kp (H 10 rfl) E q37))
    · intro A B E G H; exact rP (y_move (kp (H 8 rfl) E q39))
    · intro A B E G H; exact rP (y_move (kp (H 11 rfl) E q41))
    · intro A B E G H; exact rP (y_field Try.fld31_2 Try.inf29 (by decide) (kp (H 3 rfl) E q38) rfl)
    · intro A B E G H d0; exact rP (y_load Try.underlying29 rfl (ed d0 rfl rfl rfl) rfl)
    · intro A B E G H d0; exact rP (y_len Try.underlying29 (ed d0 rfl rfl rfl))
    · intro A B E G H d0 d1; exact rP ((y_mul (ed d0 rfl rfl rfl) (ed d1 rfl rfl rfl) (w64 (by omega) (by omega))).mono (fun τ _ h => cvi (σ := τ) (by first | omega | exact (Int.natCast_mul _ _).symm) h))
    · intro A B E G H d0 d1; exact rP (y_index1 Try.underlying29 Try.inf23 (ed d0 rfl rfl rfl) (ed d1 rfl rfl rfl) (by omega) (lst_get Ty.ints R [] (k * (List.length l)) (by omega)))
    · intro A B E G H d0; exact rP (y_load Try.underlying23 rfl (ed d0 rfl rfl rfl) rfl)
    · intro A B E G H d0; exact rP (y_build1o Try.underlying29 Try.inf23 rfl (one_sl) (ed d0 rfl rfl rfl))
    intro a11 s9 D9; have ok10 := D9.ok; have F10 := F9.step0 D9.stp; have q42 := D9.kt q36 rfl; have q43 := D9.kt q37 rfl; have q44 := D9.kt q38 rfl; have q45 := D9.kt q39 rfl; have q46 := D9.kt q40 rfl; have o5 := Own.k0 o4 D9.stp
    have q47 : At (Ty.val x10_0) s9 a11 (.tmp 27) := D9.done 0 (by decide)
    have q48 := D9.dn 9 (by decide) rfl rfl
    have b3 := sl_le q48
    clear D9
    refine tailL (L := [5]) (R := (fun v τ => Own τ 5 23 1 v ((List.length (tHds n.toNat l cs leads k)) + 1) ((List.map Ty.ints (tHds n.toNat l cs leads k)) ++ [(Ty.lst Ty.int (R.getD (k * (List.length l)) []))]))) rfl rfl (by decide) ok10 (YldM.toL (m_append Try.underlying29 Try.inf23 (by decide) rfl (by decide) (al (R := (Pr.own 5 23 1 (List.length (tHds n.toNat l cs leads k)) (List.map Ty.ints (tHds n.toNat l cs leads k)))) q47 o5) q48 (by intro U hU; simp at hU; subst hU; exact one_sl) (by omega) (by omega))) (fun a12 s10 hs1 ok11 r1 sm1 => ?_)
    have F11 := F10.stepL hs1 (by decide); have q49 := kpL hs1 (by decide) (sm1 24 (by decide)) q42; have q50 := kpL hs1 (by decide) (sm1 10 (by decide)) q43; have q51 := kpL hs1 (by decide) (sm1 3 (by decide)) q44; have q52 := kpL hs1 (by decide) (sm1 8 (by decide)) q45; have q53 := kpL hs1 (by decide) (sm1 23 (by decide)) q46
    obtain ⟨x1, hx1⟩ : ∃ x, a12.eval (.tmp 37) = x := ⟨_, rfl⟩
    have q54 : At (Ty.val x1) s10 a12 (.tmp 37) := hx1
    have o6 : Own s10 5 23 1 x1 (List.length ((tHds n.toNat l cs leads k) ++ [(R.getD (k * (List.length l)) [])])) (List.map Ty.ints ((tHds n.toNat l cs leads k) ++ [(R.getD (k * (List.length l)) [])])) := al2 (R := (Pr.own 5 23 1 (List.length ((tHds n.toNat l cs leads k) ++ [(R.getD (k * (List.length l)) [])])) (List.map Ty.ints ((tHds n.toNat l cs leads k) ++ [(R.getD (k * (List.length l)) [])])))) hx1 (cvo (by simp) (by first | (rw [List.map_append]; rfl) | simp) r1)
    clear r1
    refine tailL (L := []) (R := (fun v τ => Pr.has (Ty.pr (Ty.val x1)) τ v)) rfl rfl (by decide) ok11 (Yld.toL (y_assign q54)) (fun a13 s11 hs2 ok12 r2 sm2 => ?_)
    have F12 := F11.stepL hs2 (by decide); have q55 := kpL hs2 (by decide) (sm2 24 (by decide)) q49; have q56 := kpL hs2 (by decide) (sm2 3 (by decide)) q51; have q57 := kpL hs2 (by decide) (sm2 8 (by decide)) q52; have q58 := kpL hs2 (by decide) (sm2 23 (by decide)) q53; have o7 := Own.keepL o6 hs2 (by decide) (by decide)
    have q59 : At (Ty.val x1) s11 a13 (.tmp 10) := r2
    clear r2; refine wpList_nil ?_; refine bn ?_; refine tn ?_
    refine rg a13 s11 [(Ty.nat (k + 1)), (Ty.nat (k + 1))] ok12 ⟨?_, ?_, trivial⟩ ?_
    · intro A B E G H; exact rP ((y_add (kp (H 24 rfl) E q55) rfl (w64 (by omega) (by omega))).mono (fun τ _ h => cvi (σ := τ) (by first | omega | exact (Int.natCast_mul _ _).symm) h))
    · intro A B E G H d0; exact rP (y_move (ed d0 rfl rfl rfl))
    intro a14 s12 D10; have ok13 := D10.ok; have F13 := F12.step0 D10.stp; have q60 := D10.kt q56 rfl; have q61 := D10.kt q57 rfl; have q62 := D10.kt q58 rfl; have q63 := D10.kt q59 rfl; have o8 := Own.k0 o7 D10.stp; have q64 := D10.dn 1 rfl rfl; clear D10
    exact tn ⟨leads.length - ((k+1)), by omega, s12, (k+1), x1, rfl, F13, ok13, (cvi (by (first | rfl | omega | (simp_all; done) | (simp_all; omega))) q64), q63, q60, q61, q62, (cvo (by (rw [tHds_succ, hR, tRows_head hok hin (by omega)])) (by (rw [tHds_succ, hR, tRows_head hok hin (by omega)])) o8), by omega, rfl⟩
   ·
    refine wp_exit ?_; refine tx ?_; refine tx ?_; refine bx ?_; refine tn ?_; refine wp_seq ?_
    refine rg a9 s7 [(Ty.val x10_0), (Ty.val x10_0), (Ty.int (0 : Int))] ok8 ⟨?_, ?_, ?_, trivial⟩ ?_
    · intro A B E G H; exact rP (y_move (kp (H 10 rfl) E q31))
    · intro A B E G H d0 d1; exact rP (y_assign (ed d0 rfl rfl rfl))
    · intro A B E G H d0 d1 d2; exact rP (y_assign rfl)
    intro a15 s13 D11; have ok14 := D11.ok; have F14 := F8.step0 D11.stp; have o9 := Own.k0 o3 D11.stp
    have q65 : At (Ty.val x10_0) s13 a15 (.tmp 6) := D11.done 1
    have q66 := D11.dn 2 rfl rfl; clear D11; refine tn ?_; refine wp_ret ?_
    obtain ⟨t3, e1, h1, q67⟩ := Own.seal o9 (by decide)
    rw [← e1]
    have F15 := F14.step h1 (by decide)
    have q68 : At (Ty.lst Ty.ints (tHds n.toNat l cs leads k)) t3 a15 (.tmp 6) := by have e : a15.eval (.tmp 6) = x10_0 := q65; show Ty.has _ _ _; rw [e]; exact q67
    have q69 := Ty.up (Ty.int (0 : Int)) (h1.le (by decide)) q66
    exact retL2 rfl ok14 F15 (hasT2 (cvt (by (rw [if_pos h0, show k = leads.length by omega])) q68) (cvi (by (exact h0.symm)) q69))


set_option maxRecDepth 100000 in
theorem lead_fn (nm : ByteArray) (n : Int) (l : List (List Int)) (σ : GW) (v0 : Value) (hv0 : Ty.has (Ty.agg [(Ty.val (Value.string nm)), (Ty.int n), (Ty.lst Ty.ints l)]) σ v0) (hnm : nm.size ≤ 1099511627776) (hn : -9223372036854775808 ≤ n ∧ n ≤ 9223372036854775807) :
    FnC Try.prog 58 #[v0] σ (Ty.tup2 (Ty.lst Ty.ints (if methMay nm n l = 0 then fromL (roundsL n.toNat) l else [])) (Ty.int (methMay nm n l))) := by
 refine fn_intro Try.func58 rfl Try.ntmps58 (Nat.le_of_ble_eq_true rfl) (fun s0 a0 hle F0 ok0 hargs => ?_)
 have p0 : At (Ty.agg [(Ty.val (Value.string nm)), (Ty.int n), (Ty.lst Ty.ints l)]) s0 a0 (.tmp 0) := by have e := hargs 0 _ rfl; show Ty.has _ _ _; rw [e]; exact Ty.up _ hle hv0
 clear hargs; refine wp_seq ?_
 refine rg a0 s0 [(Ty.ref [(Ty.val (Value.string nm)), (Ty.int n), (Ty.lst Ty.ints l)]), (Ty.val (Value.slice none 0 0)), (Ty.int (0 : Int))] ok0 ⟨?_, ?_, ?_, trivial⟩ ?_
 · intro A B E G H; exact rP (y_boxagg (kp (H 0 rfl) E p0))
 · intro A B E G H; exact rP (y_assign rfl)
 · intro A B E G H d0; exact rP (y_assign rfl)
 intro a1 s1 D1; have ok1 := D1.ok; have F1 := F0.step0 D1.stp; have q1 := D1.dn 0 rfl rfl; clear D1; refine tn ?_; refine wp_seq ?_; refine wp_seq ?_
 refine rg a1 s1 [(Ty.agg [(Ty.val (Value.string nm)), (Ty.int n), (Ty.lst Ty.ints l)]), (Ty.int (methMay nm n l)), (Ty.int (methMay nm n l))] ok1 ⟨?_, ?_, ?_, trivial⟩ ?_
 · intro A B E G H; exact rP (y_loadagg Try.underlying31 Try.inf31 (kp (H 1 rfl) E q1))
 · intro A B E G H d0; exact rP (y_call #[A.eval (.tmp 7)] Try.func75 rfl rfl (by simp only [List.map_toArray, List.map_cons, List.map_nil]) (mCheck_fn (nm) (n) (l) _ _ (ed d0 rfl rfl rfl) (by first | omega | assumption) (by first | omega | assumption)))
 · intro A B E G H d0 d1 d2 d3; exact rP (y_assign (ed d0 rfl rfl rfl))
 intro a2 s2 D2; have ok2 := D2.ok; have F2 := F1.step0 D2.stp; have q2 := D2.kt q1 rfl; have q3 := D2.dn 2 rfl rfl; clear D2; refine tn ?_; refine wp_seq ?_
 refine rg a2 s2 [(Ty.int (methMay nm n l)), (Ty.bool (decide ((methMay nm n l) ≠ (0 : Int))))] ok2 ⟨?_, ?_, trivial⟩ ?_
 · intro A B E G H; exact rP (y_move (kp (H 4 rfl) E q3))
 · intro A B E G H d0; exact rP (y_neq (ed d0 rfl rfl rfl) rfl)
 intro a3 s3 D3; have ok3 := D3.ok; have F3 := F2.step0 D3.stp; have q4 := D3.kt q2 rfl; have q5 := D3.kt q3 rfl; have q6 := D3.dn 1 rfl rfl; clear D3; refine tn ?_
 refine cond_p (p := ((methMay nm n l) ≠ (0 : Int))) q6 (fun c1 => ?_) (fun c1 => ?_)
 ·
  refine wp_seq ?_
  refine rg a3 s3 [(Ty.int (methMay nm n l)), (Ty.val (Value.slice none 0 0)), (Ty.int (methMay nm n l))] ok3 ⟨?_, ?_, ?_, trivial⟩ ?_
  · intro A B E G H d0; exact rP (y_move (kp (H 4 rfl) E q5))
  · intro A B E G H d0; exact rP (y_assign rfl)
  · intro A B E G H d0 d1 d2 d3; exact rP (y_assign (ed d0 rfl rfl rfl))
  intro a4 s4 D4; have ok4 := D4.ok; have F4 := F3.step0 D4.stp; have q7 := D4.dn 1 rfl rfl; have q8 := D4.dn 2 rfl rfl; clear D4; refine tn ?_; refine wp_ret ?_
  refine tr ?_
  exact ret2 rfl ok4 F4 (nil_lst (by (rw [if_neg c1])) q7) q8
 ·
  have h0 := Classical.not_not.1 c1; obtain ⟨m, hnm, hmo⟩ := methMay_ok.1 h0; have hm1 := hmo.n1; have hm2 := hmo.n2; have hml := hmo.l2; have hrl := roundsL_len n.toNat; have hok : ∀ k, k < l.length → okL 0 (l.getD k []) (roundsL n.toNat).length := (fun k hk => by rw [hrl, hnm]; exact hmo.ok k hk)
  refine wp_skip ?_
  refine tn ?_; refine wp_seq ?_
  refine rg a3 s3 [(Ty.ref [(Ty.int n), (Ty.lst Ty.ints l)]), (Ty.int n), (Ty.tup2 (Ty.lst Ty.int (roundsL ((n).toNat))) (Ty.int (0 : Int))), (Ty.tup2 (Ty.lst Ty.int (roundsL ((n).toNat))) (Ty.int (0 : Int))), (Ty.lst Ty.int (roundsL ((n).toNat))), (Ty.int (0 : Int)), (Ty.lst Ty.int (roundsL ((n).toNat))), (Ty.int (0 : Int))] ok3 ⟨?_, ?_, ?_, ?_, ?_, ?_, ?_, ?_, trivial⟩ ?_
  · intro A B E G H; exact rP (y_field Try.fld31_1 Try.inf3 (by decide) (kp (H 1 rfl) E q4) rfl)
  · intro A B E G H d0; exact rP (y_load Try.underlying3 rfl (ed d0 rfl rfl rfl) rfl)
  · intro A B E G H d0; exact rP (y_call #[A.eval (.tmp 14)] Try.func49 rfl rfl (by simp only [List.map_toArray, List.map_cons, List.map_nil]) (rounds_fn ((n).toNat) _ _ (cvi (σ := B) (by omega) (ed d0 rfl rfl rfl)) (by omega)))
  · intro A B E G H d0; exact rP (y_move (ed d0 rfl rfl rfl))
  · intro A B E G H d0; exact rP (y_ext2_0 (ed d0 rfl rfl rfl))
  · intro A B E G H d0 d1; exact rP (y_ext2_1 (ed d0 rfl rfl rfl))
  · intro A B E G H d0 d1 d2 d3 d4 d5 d6 d7; exact rP (y_assign (ed d0 rfl rfl rfl))
  · intro A B E G H d0 d1 d2 d3 d4 d5 d6 d7 d8; exact rP (y_assign (ed d0 rfl rfl rfl))
  intro a5 s5 D5; have ok5 := D5.ok; have F5 := F3.step0 D5.stp; have q9 := D5.kt q4 rfl; have q10 := D5.dn 6 rfl rfl; clear D5; refine tn ?_; refine wp_seq ?_
  refine rg a5 s5 [(Ty.lst Ty.int (roundsL ((n).toNat))), (Ty.ref [(Ty.lst Ty.ints l)]), (Ty.lst Ty.ints l), (Ty.lst Ty.ints (fromL ((roundsL ((n).toNat))) l)), (Ty.lst Ty.ints (fromL ((roundsL ((n).toNat))) l)), (Ty.int (0 : Int))] ok5 ⟨?_, ?_, ?_, ?_, ?_, ?_, trivial⟩ ?_
  · intro A B E G H; exact rP (y_move (kp (H 5 rfl) E q10))
  · intro A B E G H; exact rP (y_field Try.fld31_2 Try.inf29 (by decide) (kp (H 1 rfl) E q9) rfl)
  · intro A B E G H d0; exact rP (y_load Try.underlying29 rfl (ed d0 rfl rfl rfl) rfl)
  · intro A B E G H d0 d1; exact rP (y_call #[A.eval (.tmp 18), A.eval (.tmp 20)] Try.func83 rfl rfl (by simp only [List.map_toArray, List.map_cons, List.map_nil]) (from_fn ((roundsL ((n).toNat))) (l) _ _ _ (ed d0 rfl rfl rfl) (ed d1 rfl rfl rfl) (by first | omega | assumption) (by first | omega | assumption) (by first | omega | assumption)))
  · intro A B E G H d0 d1 d2 d3 d4 d5; exact rP (y_assign (ed d0 rfl rfl rfl))
  · intro A B E G H d0 d1 d2 d3 d4 d5; exact rP (y_assign rfl)
  intro a6 s6 D6; have ok6 := D6.ok; have F6 := F5.step0 D6.stp; have q11 := D6.dn 4 rfl rfl; have q12 := D6.dn 5 rfl rfl; clear D6; refine tn ?_; refine wp_ret ?_
  exact ret2 rfl ok6 F6 (cvt (by (rw [if_pos h0])) q11) (cvi (by (exact h0.symm)) q12)


set_option maxRecDepth 100000 in
theorem inverse_fn (r : List Int) (σ : GW) (v0 : Value) (hv0 : Ty.has (Ty.lst Ty.int r) σ v0) (hr : IsRow r) :
    FnC Try.prog 56 #[v0] σ (Ty.lst Ty.int (undoL r)) := by
 have hln := hr.le
 refine fn_intro Try.func56 rfl Try.ntmps56 (Nat.le_of_ble_eq_true rfl) (fun s0 a0 hle F0 ok0 hargs => ?_)
 have p0 : At (Ty.lst Ty.int r) s0 a0 (.tmp 0) := by have e := hargs 0 _ rfl; show Ty.has _ _ _; rw [e]; exact Ty.up _ hle hv0
 have b1 := sl_le p0
 clear hargs; refine wp_seq ?_
 refine rg a0 s0 [(Ty.val (Value.slice none 0 0))] ok0 ⟨?_, trivial⟩ ?_
 · intro A B E G H; exact rP (y_assign rfl)
 intro a1 s1 D1; have ok1 := D1.ok; have F1 := F0.step0 D1.stp; have q1 := D1.kt p0 rfl; clear D1; refine tn ?_; refine wp_seq ?_
 refine reg (a := a1) (σ := s1) rfl (fun i_ => List.getD [(Ty.pr (Ty.lst Ty.int r)), (Ty.pr (Ty.nat (List.length r))), (Pr.own 11 3 1 (List.length r) (List.map Ty.int (List.replicate (List.length r) 0))), (Pr.own 11 3 1 (List.length r) (List.map Ty.int (List.replicate (List.length r) 0)))] i_ Pr.any) ok1 rfl ⟨?_, ?_, ?_, ?_, trivial⟩ ?_
 · intro A B E G H; exact rP (y_move (kp (H 0 rfl) E q1))
 · intro A B E G H d0; exact rP (y_len Try.underlying23 (ed d0 rfl rfl rfl))
 · intro A B E G H d0 d1
   have e1 := ed d0 rfl rfl rfl
   exact rP ((y_make (k := 11) (T := Ty.int 0) (n := (List.length r)) Try.underlying23 Try.inf3 rfl (fun _ => rfl) e1 e1 (by omega) (by omega)).mono (fun _ _ h => cvo (by simp) (by simp) h))
 · intro A B E G H d0 d1 d2 d3
   have e2 : (Pr.own 11 3 1 (List.length r) (List.map Ty.int (List.replicate (List.length r) 0))).has B (A.eval (.tmp 8)) := d0 rfl
   exact rP (y_assign e2)
 intro a2 s2 D2; have ok2 := D2.ok; have F2 := F1.step0 D2.stp; have q2 := D2.kt q1 rfl
 have q3 : (Pr.own 11 3 1 (List.length r) (List.map Ty.int (List.replicate (List.length r) 0))).has s2 (a2.eval (.tmp 3)) := D2.done 3
 clear D2; refine tn ?_; refine wp_seq ?_; refine wp_seq ?_
 refine rg a2 s2 [(Ty.lst Ty.int r), (Ty.nat (List.length r)), (Ty.int (0 : Int))] ok2 ⟨?_, ?_, ?_, trivial⟩ ?_
 · intro A B E G H; exact rP (y_move (kp (H 0 rfl) E q2))
 · intro A B E G H d0; exact rP (y_len Try.underlying23 (ed d0 rfl rfl rfl))
 · intro A B E G H; exact rP (y_move rfl)
 intro a3 s3 D3; have ok3 := D3.ok; have F3 := F2.step0 D3.stp
 have q4 : (Pr.own 11 3 1 (List.length r) (List.map Ty.int (List.replicate (List.length r) 0))).has s3 (a3.eval (.tmp 3)) := D3.ko q3 rfl
 have q5 := D3.dn 0 rfl rfl; have q6 := D3.dn 1 rfl rfl; have q7 := D3.dn 2 rfl rfl; clear D3; refine tn ?_
 refine wp_block ?_
 refine loop (fun n1 a4 w1 => ∃ (t1 : GW) (k : Nat), t1.w = w1 ∧ From s0 t1 ∧ Ok 22 a4 ∧ At (Ty.nat k) t1 a4 (.tmp 11) ∧ (Pr.own 11 3 1 (List.length (undoTo r k)) (List.map Ty.int (undoTo r k))).has t1 (a4.eval (.tmp 3)) ∧ At (Ty.lst Ty.int r) t1 a4 (.tmp 9) ∧ At (Ty.nat (List.length r)) t1 a4 (.tmp 10) ∧ (k ≤ r.length) ∧ n1 = r.length - k) (r.length - (0)) ?_ ?_
 ·
  exact ⟨s3, 0, rfl, F3, ok3, (cvi (by (first | rfl | omega | (simp_all; done) | (simp_all; omega))) q7), (cvo (by (simp [undoTo_zero])) (by (simp [undoTo_zero])) q4), q5, q6, by omega, rfl⟩
 ·
  rintro n2 a5 w2 ⟨t2, k, rfl, F4, ok4, q8, q9, q10, q11, hk, rfl⟩
  have hp := undoTo_len r k
  refine wp_seq ?_
  refine reg (a := a5) (σ := t2) rfl (fun i_ => List.getD [(Ty.pr (Ty.bool (decide (((k : Nat) : Int) < (((List.length r) : Nat) : Int)))))] i_ Pr.any) ok4 rfl ⟨?_, trivial⟩ ?_
  · intro A B E G H; exact rP (y_lss (kp (H 11 rfl) E q8) (kp (H 10 rfl) E q11))
  intro a6 s4 D4; have ok5 := D4.ok; have F5 := F4.step0 D4.stp; have q12 := D4.kt q8 rfl
  have q13 : (Pr.own 11 3 1 (List.length (undoTo r k)) (List.map Ty.int (undoTo r k))).has s4 (a6.eval (.tmp 3)) := D4.ko q9 rfl
  have q14 := D4.kt q10 rfl; have q15 := D4.kt q11 rfl; have q16 := D4.dn 0 rfl rfl; clear D4; refine tn ?_; refine wp_seq ?_
  refine cond_p (p := (((k : Nat) : Int) < (((List.length r) : Nat) : Int))) q16 (fun c1 => ?_) (fun c1 => ?_)
  ·
   have hq := hr.at (i := k) (by omega)
   refine wp_skip ?_
   refine tn ?_; refine wp_seq ?_
   refine wp_block ?_
   refine wp_seq ?_
   refine rg a6 s4 [(Ty.nat k), (Ty.ref [(Ty.int (r.getD k 0))]), (Ty.int (r.getD k 0)), (Ty.nat k), (Ty.int (r.getD k 0))] ok5 ⟨?_, ?_, ?_, ?_, ?_, trivial⟩ ?_
   · intro A B E G H; exact rP (y_move (kp (H 11 rfl) E q12))
   · intro A B E G H; exact rP (y_index1 Try.underlying23 Try.inf3 (kp (H 9 rfl) E q14) (kp (H 11 rfl) E q12) (by omega) (lst_get Ty.int r 0 k (by omega)))
   · intro A B E G H d0; exact rP (y_load Try.underlying3 rfl (ed d0 rfl rfl rfl) rfl)
   · intro A B E G H d0 d1 d2 d3; exact rP (y_assign (ed d0 rfl rfl rfl))
   · intro A B E G H d0 d1 d2 d3 d4 d5; exact rP (y_assign (ed d0 rfl rfl rfl))
   intro a7 s5 D5; have ok6 := D5.ok; have F6 := F5.step0 D5.stp; have q17 := D5.kt q12 rfl
   have q18 : (Pr.own 11 3 1 (List.length (undoTo r k)) (List.map Ty.int (undoTo r k))).has s5 (a7.eval (.tmp 3)) := D5.ko q13 rfl
   have q19 := D5.kt q14 rfl; have q20 := D5.kt q15 rfl; have q21 := D5.dn 3 rfl rfl; have q22 := D5.dn 4 rfl rfl; clear D5; refine tn ?_
   refine reg2 (a := a7) (σ := s5) rfl 4 (fun i_ => List.getD [(Ty.pr (Ty.val (a7.eval (.tmp 3)))), (Ty.pr (Ty.int (r.getD k 0))), (Ty.pr (Ty.nat k)), (Ty.pr (Ty.val (cellPtr (a7.eval (.tmp 3)) ((r.getD k 0)).toNat)))] i_ Pr.any) ok6 rfl (by decide) rfl ⟨?_, ?_, ?_, ?_, trivial⟩ ?_
   · intro A B E G H; exact rP (y_move (H 3 rfl))
   · intro A B E G H; exact rP (y_move (kp (H 5 rfl) E q22))
   · intro A B E G H; exact rP (y_move (kp (H 4 rfl) E q21))
   · intro A B E G H d0 d1 d2 d3 d4; exact rP (own_index1 (i := (r.getD k 0)) Try.underlying23 Try.inf3 ((Pr.own 11 3 1 (List.length (undoTo r k)) (List.map Ty.int (undoTo r k))).up E q18) (ed d0 rfl rfl rfl) (ed d1 rfl rfl rfl) (by omega) (by omega))
   intro a8 s6 D6; have ok7 := D6.ok; have F7 := F6.step0 D6.stp; have q23 := (Pr.own 11 3 1 (List.length (undoTo r k)) (List.map Ty.int (undoTo r k))).up D6.stp q18; have q24 := D6.kt q17 rfl
   have q25 : a8.eval (.tmp 3) = a7.eval (.tmp 3) := D6.same 3 rfl
   have q26 := D6.kt q19 rfl; have q27 := D6.kt q20 rfl; have q28 := D6.dn 2 (by decide) rfl rfl; have q29 := D6.dn 3 (by decide) rfl rfl; clear D6
   refine tail_step0 (m := 11) (R := (fun _ τ => Own τ 11 3 1 (a7.eval (.tmp 3)) (List.length (undoTo r k)) ((List.map Ty.int (undoTo r k)).set ((r.getD k 0)).toNat (Ty.nat k)))) rfl rfl (m_store Try.inf3 (by decide) q23 q29 (by simp only [List.length_map, List.length_set]; omega) q28 (one_val rfl)) (fun v1 s7 hs1 r1 => ?_)
   have F8 := F7.step hs1 (by decide)
   have q30 : At (Ty.nat k) s7 a8 (.tmp 11) := kpm hs1 (by decide) rfl q24
   have q31 : At (Ty.lst Ty.int r) s7 a8 (.tmp 9) := kpm hs1 (by decide) rfl q26
   have q32 : At (Ty.nat (List.length r)) s7 a8 (.tmp 10) := kpm hs1 (by decide) rfl q27
   have q33 : At (Ty.nat k) s7 a8 (.tmp 18) := kpm hs1 (by decide) rfl q28
   have q34 : (Pr.own 11 3 1 (List.length ((undoTo r k).set ((r.getD k 0)).toNat ((k : Nat) : Int))) (List.map Ty.int ((undoTo r k).set ((r.getD k 0)).toNat ((k : Nat) : Int)))).has s7 (a7.eval (.tmp 3)) := (cvo (by simp) (by simp) r1)
   refine wpList_nil ?_
   have q35 : (Pr.own 11 3 1 (List.length ((undoTo r k).set ((r.getD k 0)).toNat ((k : Nat) : Int))) (List.map Ty.int ((undoTo r k).set ((r.getD k 0)).toNat ((k : Nat) : Int)))).has s7 (a8.eval (.tmp 3)) := al q25 q34
   refine bn ?_; refine tn ?_
   refine rg a8 s7 [(Ty.int (((k : Nat) : Int) + (1 : Int))), (Ty.int (((k : Nat) : Int) + (1 : Int)))] ok7 ⟨?_, ?_, trivial⟩ ?_
   · intro A B E G H; exact rP (y_add (kp (H 11 rfl) E q30) rfl (w64 (by omega) (by omega)))
   · intro A B E G H d0; exact rP (y_move (ed d0 rfl rfl rfl))
   intro a10 s8 D7; have ok9 := D7.ok; have F9 := F8.step0 D7.stp
   have q36 : (Pr.own 11 3 1 (List.length ((undoTo r k).set ((r.getD k 0)).toNat ((k : Nat) : Int))) (List.map Ty.int ((undoTo r k).set ((r.getD k 0)).toNat ((k : Nat) : Int)))).has s8 (a10.eval (.tmp 3)) := D7.ko q35 rfl
   have q37 := D7.kt q31 rfl; have q38 := D7.kt q32 rfl; have q39 := D7.dn 1 rfl rfl; clear D7
   exact tn ⟨r.length - ((k+1)), by omega, s8, (k+1), rfl, F9, ok9, (cvi (by (first | rfl | omega | (simp_all; done) | (simp_all; omega))) q39), (cvo (by (rw [undoTo_step r k hr (by omega)])) (by (rw [undoTo_step r k hr (by omega)])) q36), q37, q38, by omega, rfl⟩
  ·
   refine wp_exit ?_; refine tx ?_; refine tx ?_; refine bx ?_; refine tn ?_; refine wp_seq ?_
   refine rg a6 s4 [(Ty.val (a6.eval (.tmp 3))), (Ty.val (a6.eval (.tmp 3)))] ok5 ⟨?_, ?_, trivial⟩ ?_
   · intro A B E G H; exact rP (y_move (H 3 rfl))
   · intro A B E G H d0 d1; exact rP (y_assign (ed d0 rfl rfl rfl))
   intro a11 s9 D8; have ok10 := D8.ok; have F10 := F5.step0 D8.stp
   have q40 : (Pr.own 11 3 1 (List.length (undoTo r k)) (List.map Ty.int (undoTo r k))).has s9 (a11.eval (.tmp 2)) := al (show _ = _ from D8.done 1) ((Pr.own 11 3 1 (List.length (undoTo r k)) (List.map Ty.int (undoTo r k))).up D8.stp q13)
   clear D8; refine tn ?_; refine wp_ret ?_
   obtain ⟨t3, e1, h1, q41⟩ := Own.seal q40 (by decide)
   rw [← e1]
   have F11 := F10.step h1 (by decide)
   exact ret1 rfl ok10 F11 (cvt (by (obtain rfl : k = r.length := (by omega); rw [undoTo_all r hr])) q41)


set_option maxHeartbeats 4000000 in
set_option maxRecDepth 100000 in
theorem isNaN_fn (x : Int) (σ : GW)  (v0 : Value) (hv0 : Ty.has (Ty.int x) σ v0)   :
    FnC Try.prog 113 #[v0] σ (Ty.bool false) := by
 refine fn_intro0 Try.func113 rfl Try.ntmps113 (Nat.le_of_ble_eq_true rfl) (fun s0 a0 hle F0 ok0 hargs => ?_)
 have p0 : At (Ty.int x) s0 a0 (.tmp 0) := by have e := hargs 0 _ rfl; show Ty.has _ _ _; rw [e]; exact Ty.up _ hle hv0
 clear hargs; refine wp_seq ?_
 refine rg a0 s0 [(Ty.bool false)] ok0 ⟨?_, trivial⟩ ?_
 · intro A B E G H; exact rP (y_assign rfl)
 intro a1 s1 D1; have ok1 := D1.ok; have F1 := F0.step0 D1.stp; have q1 := D1.kt p0 rfl; clear D1; refine tn ?_; refine wp_seq ?_
 refine rg a1 s1 [(Ty.int x), (Ty.int x), (Ty.bool (decide (x ≠ x))), (Ty.bool (decide (x ≠ x)))] ok1 ⟨?_, ?_, ?_, ?_, trivial⟩ ?_
 · intro A B E G H; exact rP (y_move (kp (H 0 rfl) E q1))
 · intro A B E G H; exact rP (y_move (kp (H 0 rfl) E q1))
 · intro A B E G H d0 d1; exact rP (y_neq (ed d0 rfl rfl rfl) (ed d1 rfl rfl rfl))
 · intro A B E G H d0 d1 d2 d3; exact rP (y_assign (ed d0 rfl rfl rfl))
 intro a2 s2 D2; have ok2 := D2.ok; have F2 := F1.step0 D2.stp; have q2 := D2.dn 3 rfl rfl; clear D2; refine tn ?_; refine wp_ret ?_
 exact retL1 rfl ok2 F2 (cvb (by (simp)) q2)


set_option maxHeartbeats 4000000 in
set_option maxRecDepth 100000 in
theorem cmpInt_fn (x : Int) (y : Int) (σ : GW)  (v0 v1 : Value) (hv0 : Ty.has (Ty.int x) σ v0) (hv1 : Ty.has (Ty.int y) σ v1)   :
    FnC Try.prog 91 #[v0, v1] σ (Ty.int (cmpI x y)) := by
 refine fn_intro0 Try.func91 rfl Try.ntmps91 (Nat.le_of_ble_eq_true rfl) (fun s0 a0 hle F0 ok0 hargs => ?_)
 have p0 : At (Ty.int x) s0 a0 (.tmp 0) := by have e := hargs 0 _ rfl; show Ty.has _ _ _; rw [e]; exact Ty.up _ hle hv0
 have p1 : At (Ty.int y) s0 a0 (.tmp 1) := by have e := hargs 1 _ rfl; show Ty.has _ _ _; rw [e]; exact Ty.up _ hle hv1
 clear hargs; refine wp_seq ?_
 refine rg a0 s0 [(Ty.int (0 : Int))] ok0 ⟨?_, trivial⟩ ?_
 · intro A B E G H; exact rP (y_assign rfl)
 intro a1 s1 D1; have ok1 := D1.ok; have F1 := F0.step0 D1.stp; have q1 := D1.kt p0 rfl; have q2 := D1.kt p1 rfl; clear D1; refine tn ?_; refine wp_seq ?_
 refine rg a1 s1 [(Ty.int x), (Ty.bool false), (Ty.bool false)] ok1 ⟨?_, ?_, ?_, trivial⟩ ?_
 · intro A B E G H; exact rP (y_move (kp (H 0 rfl) E q1))
 · intro A B E G H d0; exact rP (y_call #[A.eval (.tmp 7)] Try.func113 rfl rfl (by simp only [List.map_toArray, List.map_cons, List.map_nil]) (isNaN_fn (x) _ _ (ed d0 rfl rfl rfl) ))
 · intro A B E G H d0 d1 d2 d3; exact rP (y_assign (ed d0 rfl rfl rfl))
 intro a2 s2 D2; have ok2 := D2.ok; have F2 := F1.step0 D2.stp; have q3 := D2.kt q1 rfl; have q4 := D2.kt q2 rfl; have q5 := D2.dn 2 rfl rfl; clear D2; refine tn ?_; refine wp_seq ?_
 refine rg a2 s2 [(Ty.int y), (Ty.bool false), (Ty.bool false)] ok2 ⟨?_, ?_, ?_, trivial⟩ ?_
 · intro A B E G H; exact rP (y_move (kp (H 1 rfl) E q4))
 · intro A B E G H d0; exact rP (y_call #[A.eval (.tmp 9)] Try.func113 rfl rfl (by simp only [List.map_toArray, List.map_cons, List.map_nil]) (isNaN_fn (y) _ _ (cvi (σ := B) (by omega) (ed d0 rfl rfl rfl)) ))
 · intro A B E G H d0 d1 d2 d3; exact rP (y_assign (ed d0 rfl rfl rfl))
 intro a3 s3 D3; have ok3 := D3.ok; have F3 := F2.step0 D3.stp; have q6 := D3.kt q3 rfl; have q7 := D3.kt q4 rfl; have q8 := D3.kt q5 rfl; have q9 := D3.dn 2 rfl rfl; clear D3; refine tn ?_; refine wp_seq ?_; refine wp_seq ?_
 refine rg a3 s3 [(Ty.bool false)] ok3 ⟨?_, trivial⟩ ?_
 · intro A B E G H; exact rP (y_move (kp (H 5 rfl) E q8))
 intro a4 s4 D4; have ok4 := D4.ok; have F4 := F3.step0 D4.stp; have q10 := D4.kt q6 rfl; have q11 := D4.kt q7 rfl; have q12 := D4.kt q9 rfl; have q13 := D4.dn 0 rfl rfl; clear D4; refine tn ?_
 refine cond_t q13 (fun c1 => (by cases c1)) (fun _ => ?_)
 refine wp_skip ?_
 refine tn ?_; refine wp_seq ?_; refine wp_seq ?_
 refine rg a4 s4 [(Ty.bool false)] ok4 ⟨?_, trivial⟩ ?_
 · intro A B E G H; exact rP (y_move (kp (H 6 rfl) E q12))
 intro a5 s5 D5; have ok5 := D5.ok; have F5 := F4.step0 D5.stp; have q14 := D5.kt q10 rfl; have q15 := D5.kt q11 rfl; have q16 := D5.dn 0 rfl rfl; clear D5; refine tn ?_
 refine cond_t q16 (fun c2 => (by cases c2)) (fun _ => ?_)
 refine wp_skip ?_
 refine tn ?_; refine wp_seq ?_; refine wp_seq ?_
 refine rg a5 s5 [(Ty.int x), (Ty.int y), (Ty.bool (decide (x < y)))] ok5 ⟨?_, ?_, ?_, trivial⟩ ?_
 · intro A B E G H; exact rP (y_move (kp (H 0 rfl) E q14))
 · intro A B E G H; exact rP (y_move (kp (H 1 rfl) E q15))
 · intro A B E G H d0 d1; exact rP (y_lss (ed d0 rfl rfl rfl) (ed d1 rfl rfl rfl))
 intro a6 s6 D6; have ok6 := D6.ok; have F6 := F5.step0 D6.stp; have q17 := D6.kt q14 rfl; have q18 := D6.kt q15 rfl; have q19 := D6.dn 2 rfl rfl; clear D6; refine tn ?_
 refine cond_p (p := (x < y)) q19 (fun c3 => ?_) (fun c3 => ?_)
 ·
  refine wp_seq ?_
  refine rg a6 s6 [(Ty.int (-1 : Int))] ok6 ⟨?_, trivial⟩ ?_
  · intro A B E G H; exact rP (y_assign rfl)
  intro a7 s7 D7; have ok7 := D7.ok; have F7 := F6.step0 D7.stp; have q20 := D7.dn 0 rfl rfl; clear D7; refine tn ?_; refine wp_ret ?_
  refine tr ?_
  exact retL1 rfl ok7 F7 (cvi (by (unfold cmpI; split <;> (try split) <;> omega)) q20)
 ·
  refine wp_skip ?_
  refine tn ?_; refine wp_seq ?_; refine wp_seq ?_
  refine rg a6 s6 [(Ty.int x), (Ty.int y), (Ty.bool (decide (y < x)))] ok6 ⟨?_, ?_, ?_, trivial⟩ ?_
  · intro A B E G H; exact rP (y_move (kp (H 0 rfl) E q17))
  · intro A B E G H; exact rP (y_move (kp (H 1 rfl) E q18))
  · intro A B E G H d0 d1; exact rP (y_gtr (ed d0 rfl rfl rfl) (ed d1 rfl rfl rfl))
  intro a8 s8 D8; have ok8 := D8.ok; have F8 := F6.step0 D8.stp; have q21 := D8.dn 2 rfl rfl; clear D8; refine tn ?_
  refine cond_p (p := (y < x)) q21 (fun c4 => ?_) (fun c4 => ?_)
  ·
   refine wp_seq ?_
   refine rg a8 s8 [(Ty.int (1 : Int))] ok8 ⟨?_, trivial⟩ ?_
   · intro A B E G H; exact rP (y_assign rfl)
   intro a9 s9 D9; have ok9 := D9.ok; have F9 := F8.step0 D9.stp; have q22 := D9.dn 0 rfl rfl; clear D9; refine tn ?_; refine wp_ret ?_
   refine tr ?_
   exact retL1 rfl ok9 F9 (cvi (by (unfold cmpI; split <;> (try split) <;> omega)) q22)
  ·
   refine wp_skip ?_
   refine tn ?_; refine wp_seq ?_
   refine rg a8 s8 [(Ty.int (0 : Int))] ok8 ⟨?_, trivial⟩ ?_
   · intro A B E G H; exact rP (y_assign rfl)
   intro a10 s10 D10; have ok10 := D10.ok; have F10 := F8.step0 D10.stp; have q23 := D10.dn 0 rfl rfl; clear D10; refine tn ?_; refine wp_ret ?_
   exact retL1 rfl ok10 F10 (cvi (by (unfold cmpI; split <;> (try split) <;> omega)) q23)


set_option maxHeartbeats 4000000 in
set_option maxRecDepth 100000 in
theorem slCompare_fn (xs : List Int) (ys : List Int) (σ : GW)  (v0 v1 : Value) (hv0 : Ty.has (Ty.lst Ty.int xs) σ v0) (hv1 : Ty.has (Ty.lst Ty.int ys) σ v1)   :
    FnC Try.prog 60 #[v0, v1] σ (Ty.int (cmpL xs ys)) := by
 refine fn_intro0 Try.func60 rfl Try.ntmps60 (Nat.le_of_ble_eq_true rfl) (fun s0 a0 hle F0 ok0 hargs => ?_)
 have p0 : At (Ty.lst Ty.int xs) s0 a0 (.tmp 0) := by have e := hargs 0 _ rfl; show Ty.has _ _ _; rw [e]; exact Ty.up _ hle hv0
 have b1 := sl_le p0
 have p1 : At (Ty.lst Ty.int ys) s0 a0 (.tmp 1) := by have e := hargs 1 _ rfl; show Ty.has _ _ _; rw [e]; exact Ty.up _ hle hv1
 have b2 := sl_le p1
 clear hargs; refine wp_seq ?_
 refine rg a0 s0 [(Ty.int (0 : Int))] ok0 ⟨?_, trivial⟩ ?_
 · intro A B E G H; exact rP (y_assign rfl)
 intro a1 s1 D1; have ok1 := D1.ok; have F1 := F0.step0 D1.stp; have q1 := D1.kt p0 rfl; have q2 := D1.kt p1 rfl; clear D1; refine tn ?_; refine wp_seq ?_; refine wp_seq ?_
 refine rg a1 s1 [(Ty.lst Ty.int xs), (Ty.nat (List.length xs)), (Ty.int (0 : Int))] ok1 ⟨?_, ?_, ?_, trivial⟩ ?_
 · intro A B E G H; exact rP (y_move (kp (H 0 rfl) E q1))
 · intro A B E G H d0; exact rP (y_len Try.underlying23 (ed d0 rfl rfl rfl))
 · intro A B E G H; exact rP (y_move rfl)
 intro a2 s2 D2; have ok2 := D2.ok; have F2 := F1.step0 D2.stp; have q3 := D2.kt q1 rfl; have q4 := D2.kt q2 rfl; have q5 := D2.dn 0 rfl rfl; have q6 := D2.dn 1 rfl rfl; have q7 := D2.dn 2 rfl rfl; clear D2; refine tn ?_
 refine wp_block ?_
 refine loop (fun n1 a3 w1 => ∃ (t1 : GW) (i : Nat), t1.w = w1 ∧ FromL [] s0 t1 ∧ Ok 36 a3 ∧ At (Ty.nat i) t1 a3 (.tmp 11) ∧ At (Ty.lst Ty.int xs) t1 a3 (.tmp 0) ∧ At (Ty.lst Ty.int ys) t1 a3 (.tmp 1) ∧ At (Ty.lst Ty.int xs) t1 a3 (.tmp 9) ∧ At (Ty.nat (List.length xs)) t1 a3 (.tmp 10) ∧ (i ≤ xs.length) ∧ (cmpL (xs.drop i) (ys.drop i) = cmpL xs ys) ∧ n1 = xs.length - i) (xs.length - (0)) ?_ ?_
 ·
  exact ⟨s2, 0, rfl, F2, ok2, (cvi (by (first | rfl | omega | (simp_all; done) | (simp_all; omega))) q7), q3, q4, q5, q6, by omega, rfl, rfl⟩
 ·
  rintro n2 a4 w2 ⟨t2, i, rfl, F3, ok3, q8, q9, q10, q11, q12, hi, hc, rfl⟩
  refine wp_seq ?_
  refine reg (a := a4) (σ := t2) rfl (fun i_ => List.getD [(Ty.pr (Ty.bool (decide (((i : Nat) : Int) < (((List.length xs) : Nat) : Int)))))] i_ Pr.any) ok3 rfl ⟨?_, trivial⟩ ?_
  · intro A B E G H; exact rP (y_lss (kp (H 11 rfl) E q8) (kp (H 10 rfl) E q12))
  intro a5 s3 D3; have ok4 := D3.ok; have F4 := F3.step0 D3.stp; have q13 := D3.kt q8 rfl; have q14 := D3.kt q9 rfl; have q15 := D3.kt q10 rfl; have q16 := D3.kt q11 rfl; have q17 := D3.kt q12 rfl; have q18 := D3.dn 0 rfl rfl; clear D3; refine tn ?_; refine wp_seq ?_
  refine cond_p (p := (((i : Nat) : Int) < (((List.length xs) : Nat) : Int))) q18 (fun c1 => ?_) (fun c1 => ?_)
  ·
   refine wp_skip ?_
   refine tn ?_; refine wp_seq ?_
   refine wp_block ?_
   refine wp_seq ?_
   refine rg a5 s3 [(Ty.nat i), (Ty.ref [(Ty.int (xs.getD i 0))]), (Ty.int (xs.getD i 0)), (Ty.nat i), (Ty.int (xs.getD i 0))] ok4 ⟨?_, ?_, ?_, ?_, ?_, trivial⟩ ?_
   · intro A B E G H; exact rP (y_move (kp (H 11 rfl) E q13))
   · intro A B E G H; exact rP (y_index1 Try.underlying23 Try.inf3 (kp (H 9 rfl) E q16) (kp (H 11 rfl) E q13) (by omega) (lst_get Ty.int xs 0 i (by omega)))
   · intro A B E G H d0; exact rP (y_load Try.underlying3 rfl (ed d0 rfl rfl rfl) rfl)
   · intro A B E G H d0 d1 d2 d3; exact rP (y_assign (ed d0 rfl rfl rfl))
   · intro A B E G H d0 d1 d2 d3 d4 d5; exact rP (y_assign (ed d0 rfl rfl rfl))
   intro a6 s4 D4; have ok5 := D4.ok; have F5 := F4.step0 D4.stp; have q19 := D4.kt q13 rfl; have q20 := D4.kt q14 rfl; have q21 := D4.kt q15 rfl; have q22 := D4.kt q16 rfl; have q23 := D4.kt q17 rfl; have q24 := D4.dn 3 rfl rfl; have q25 := D4.dn 4 rfl rfl; clear D4; refine tn ?_; refine wp_seq ?_; refine wp_seq ?_
   refine rg a6 s4 [(Ty.nat i), (Ty.lst Ty.int ys), (Ty.nat (List.length ys)), (Ty.bool (decide ((((List.length ys) : Nat) : Int) ≤ ((i : Nat) : Int))))] ok5 ⟨?_, ?_, ?_, ?_, trivial⟩ ?_
   · intro A B E G H; exact rP (y_move (kp (H 5 rfl) E q24))
   · intro A B E G H; exact rP (y_move (kp (H 1 rfl) E q21))
   · intro A B E G H d0; exact rP (y_len Try.underlying23 (ed d0 rfl rfl rfl))
   · intro A B E G H d0 d1; exact rP (y_geq (ed d0 rfl rfl rfl) (ed d1 rfl rfl rfl))
   intro a7 s5 D5; have ok6 := D5.ok; have F6 := F5.step0 D5.stp; have q26 := D5.kt q19 rfl; have q27 := D5.kt q20 rfl; have q28 := D5.kt q21 rfl; have q29 := D5.kt q22 rfl; have q30 := D5.kt q23 rfl; have q31 := D5.kt q24 rfl; have q32 := D5.kt q25 rfl; have q33 := D5.dn 3 rfl rfl; clear D5; refine tn ?_
   refine cond_p (p := ((((List.length ys) : Nat) : Int) ≤ ((i : Nat) : Int))) q33 (fun c2 => ?_) (fun c2 => ?_)
   ·
    refine wp_seq ?_
    refine rg a7 s5 [(Ty.int (1 : Int))] ok6 ⟨?_, trivial⟩ ?_
    · intro A B E G H; exact rP (y_assign rfl)
    intro a8 s6 D6; have ok7 := D6.ok; have F7 := F6.step0 D6.stp; have q34 := D6.dn 0 rfl rfl; clear D6; refine tn ?_; refine wp_ret ?_
    refine tr ?_
    refine br ?_
    refine tr ?_
    refine tr ?_
    refine br ?_
    refine tr ?_
    exact retL1 rfl ok7 F7 (cvi (by (exact (cmp_long hc (by omega) (by omega)).symm)) q34)
   ·
    refine wp_skip ?_
    refine tn ?_; refine wp_seq ?_
    refine rg a7 s5 [(Ty.lst Ty.int ys), (Ty.nat i), (Ty.ref [(Ty.int (ys.getD i 0))]), (Ty.int (ys.getD i 0)), (Ty.int (ys.getD i 0))] ok6 ⟨?_, ?_, ?_, ?_, ?_, trivial⟩ ?_
    · intro A B E G H; exact rP (y_move (kp (H 1 rfl) E q28))
    · intro A B E G H; exact rP (y_move (kp (H 5 rfl) E q31))
    · intro A B E G H d0 d1; exact rP (y_index1 Try.underlying23 Try.inf3 (ed d0 rfl rfl rfl) (ed d1 rfl rfl rfl) (by omega) (lst_get Ty.int ys 0 i (by omega)))
    · intro A B E G H d0; exact rP (y_load Try.underlying3 rfl (ed d0 rfl rfl rfl) rfl)
    · intro A B E G H d0 d1 d2 d3 d4; exact rP (y_assign (ed d0 rfl rfl rfl))
    intro a9 s7 D7; have ok8 := D7.ok; have F8 := F6.step0 D7.stp; have q35 := D7.kt q26 rfl; have q36 := D7.kt q27 rfl; have q37 := D7.kt q28 rfl; have q38 := D7.kt q29 rfl; have q39 := D7.kt q30 rfl; have q40 := D7.kt q32 rfl; have q41 := D7.dn 4 rfl rfl; clear D7; refine tn ?_; refine wp_seq ?_
    refine rg a9 s7 [(Ty.int (xs.getD i 0)), (Ty.int (ys.getD i 0)), (Ty.int (cmpI ((xs.getD i 0)) ((ys.getD i 0)))), (Ty.int (cmpI ((xs.getD i 0)) ((ys.getD i 0))))] ok8 ⟨?_, ?_, ?_, ?_, trivial⟩ ?_
    · intro A B E G H; exact rP (y_move (kp (H 6 rfl) E q40))
    · intro A B E G H; exact rP (y_move (kp (H 7 rfl) E q41))
    · intro A B E G H d0 d1; exact rP (y_call #[A.eval (.tmp 24), A.eval (.tmp 25)] Try.func91 rfl rfl (by simp only [List.map_toArray, List.map_cons, List.map_nil]) (cmpInt_fn ((xs.getD i 0)) ((ys.getD i 0)) _ _ _ (cvi (σ := B) (by omega) (ed d0 rfl rfl rfl)) (cvi (σ := B) (by omega) (ed d1 rfl rfl rfl)) ))
    · intro A B E G H d0 d1 d2 d3 d4; exact rP (y_assign (ed d0 rfl rfl rfl))
    intro a10 s8 D8; have ok9 := D8.ok; have F9 := F8.step0 D8.stp; have q42 := D8.kt q35 rfl; have q43 := D8.kt q36 rfl; have q44 := D8.kt q37 rfl; have q45 := D8.kt q38 rfl; have q46 := D8.kt q39 rfl; have q47 := D8.dn 3 rfl rfl; clear D8; refine tn ?_; refine wp_seq ?_
    refine rg a10 s8 [(Ty.int (cmpI ((xs.getD i 0)) ((ys.getD i 0)))), (Ty.bool (decide ((cmpI ((xs.getD i 0)) ((ys.getD i 0))) ≠ (0 : Int))))] ok9 ⟨?_, ?_, trivial⟩ ?_
    · intro A B E G H; exact rP (y_move (kp (H 8 rfl) E q47))
    · intro A B E G H d0; exact rP (y_neq (ed d0 rfl rfl rfl) rfl)
    intro a11 s9 D9; have ok10 := D9.ok; have F10 := F9.step0 D9.stp; have q48 := D9.kt q42 rfl; have q49 := D9.kt q43 rfl; have q50 := D9.kt q44 rfl; have q51 := D9.kt q45 rfl; have q52 := D9.kt q46 rfl; have q53 := D9.kt q47 rfl; have q54 := D9.dn 1 rfl rfl; clear D9; refine tn ?_
    refine cond_p (p := ((cmpI ((xs.getD i 0)) ((ys.getD i 0))) ≠ (0 : Int))) q54 (fun c3 => ?_) (fun c3 => ?_)
    ·
     refine wp_seq ?_
     refine rg a11 s9 [(Ty.int (cmpI ((xs.getD i 0)) ((ys.getD i 0)))), (Ty.int (cmpI ((xs.getD i 0)) ((ys.getD i 0))))] ok10 ⟨?_, ?_, trivial⟩ ?_
     · intro A B E G H; exact rP (y_move (kp (H 8 rfl) E q53))
     · intro A B E G H d0 d1; exact rP (y_assign (ed d0 rfl rfl rfl))
     intro a12 s10 D10; have ok11 := D10.ok; have F11 := F10.step0 D10.stp; have q55 := D10.dn 1 rfl rfl; clear D10; refine tn ?_; refine wp_ret ?_
     refine br ?_
     refine tr ?_
     refine tr ?_
     refine br ?_
     refine tr ?_
     exact retL1 rfl ok11 F11 (cvi (by (exact cmp_ne hc (by omega) (by omega) c3)) q55)
    ·
     refine wp_skip ?_
     refine bn ?_; refine tn ?_
     refine rg a11 s9 [(Ty.int (((i : Nat) : Int) + (1 : Int))), (Ty.int (((i : Nat) : Int) + (1 : Int)))] ok10 ⟨?_, ?_, trivial⟩ ?_
     · intro A B E G H; exact rP (y_add (kp (H 11 rfl) E q48) rfl (w64 (by omega) (by omega)))
     · intro A B E G H d0; exact rP (y_move (ed d0 rfl rfl rfl))
     intro a13 s11 D11; have ok12 := D11.ok; have F12 := F10.step0 D11.stp; have q56 := D11.kt q49 rfl; have q57 := D11.kt q50 rfl; have q58 := D11.kt q51 rfl; have q59 := D11.kt q52 rfl; have q60 := D11.dn 1 rfl rfl; clear D11
     exact tn ⟨xs.length - ((i+1)), by omega, s11, (i+1), rfl, F12, ok12, (cvi (by (first | rfl | omega | (simp_all; done) | (simp_all; omega))) q60), q56, q57, q58, q59, by omega, cmp_step hc (by omega) (by omega) c3, rfl⟩
  ·
   refine wp_exit ?_; refine tx ?_; refine tx ?_; refine bx ?_; refine tn ?_; refine wp_seq ?_; refine wp_seq ?_
   refine rg a5 s3 [(Ty.lst Ty.int xs), (Ty.nat (List.length xs)), (Ty.lst Ty.int ys), (Ty.nat (List.length ys)), (Ty.bool (decide ((((List.length xs) : Nat) : Int) < (((List.length ys) : Nat) : Int))))] ok4 ⟨?_, ?_, ?_, ?_, ?_, trivial⟩ ?_
   · intro A B E G H; exact rP (y_move (kp (H 0 rfl) E q14))
   · intro A B E G H d0; exact rP (y_len Try.underlying23 (ed d0 rfl rfl rfl))
   · intro A B E G H; exact rP (y_move (kp (H 1 rfl) E q15))
   · intro A B E G H d0; exact rP (y_len Try.underlying23 (ed d0 rfl rfl rfl))
   · intro A B E G H d0 d1; exact rP (y_lss (ed d0 rfl rfl rfl) (ed d1 rfl rfl rfl))
   intro a14 s12 D12; have ok13 := D12.ok; have F13 := F4.step0 D12.stp; have q61 := D12.dn 4 rfl rfl; clear D12; refine tn ?_
   refine cond_p (p := ((((List.length xs) : Nat) : Int) < (((List.length ys) : Nat) : Int))) q61 (fun c4 => ?_) (fun c4 => ?_)
   ·
    refine wp_seq ?_
    refine rg a14 s12 [(Ty.int (-1 : Int))] ok13 ⟨?_, trivial⟩ ?_
    · intro A B E G H; exact rP (y_assign rfl)
    intro a15 s13 D13; have ok14 := D13.ok; have F14 := F13.step0 D13.stp; have q62 := D13.dn 0 rfl rfl; clear D13; refine tn ?_; refine wp_ret ?_
    refine tr ?_
    exact retL1 rfl ok14 F14 (cvi (by (exact (cmp_short hc (by omega) (by omega)).symm)) q62)
   ·
    refine wp_skip ?_
    refine tn ?_; refine wp_seq ?_
    refine rg a14 s12 [(Ty.int (0 : Int))] ok13 ⟨?_, trivial⟩ ?_
    · intro A B E G H; exact rP (y_assign rfl)
    intro a16 s14 D14; have ok15 := D14.ok; have F15 := F13.step0 D14.stp; have q63 := D14.dn 0 rfl rfl; clear D14; refine tn ?_; refine wp_ret ?_
    exact retL1 rfl ok15 F15 (cvi (by (exact (cmp_same hc (by omega) (by omega)).symm)) q63)


end Go.Proofs.Ytbilebfnanlgfaa
