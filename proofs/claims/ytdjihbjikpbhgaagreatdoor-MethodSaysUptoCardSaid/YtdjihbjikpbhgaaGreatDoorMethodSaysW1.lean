/- The functions that the law MethodSays reaches, each by its contract. Part 1. -/
import Derived.Test.YtdjihbjikpbhgaaGreatDoorMethodSaysK1
import Derived.Test.YtdjihbjikpbhgaaGreatDoorMethodSaysK2
import Derived.Test.YtdjihbjikpbhgaaGreatDoorMethodSaysK3
import Derived.Test.YtdjihbjikpbhgaaGreatDoorLayPZD
import Derived.Test.YtdjihbjikpbhgaaGreatDoorProg
namespace Go.Proofs.YtdjihbjikpbhgaaGreatDoor
open Go.KL

set_option maxRecDepth 100000 in
theorem letter_fn (c : Int) (σ : GW) (v0 : Value) (hv0 : Ty.has (Ty.val (Value.int .i32 c)) σ v0)  :
    FnC Tryz.prog 27 #[v0] σ (Ty.bool (letterB c)) := by
 refine fn_intro Tryz.func27 rfl Tryz.ntmps27 (Nat.le_of_ble_eq_true rfl) (fun s0 a0 hle F0 ok0 hargs => ?_)
 have p0 := pA hle (hargs 0 _ rfl) hv0
 clear hargs; refine wp_seq ?_
 refine gI a0 s0 ok0 (gC (Ty.bool false) (gE ok0 fun a1 s1 ok1 D1 => ?_)); have q1 := D1.kt p0 rfl; refine tn (wp_seq ?_)
 refine gI a1 s1 ok1 (gM q1 (gS rfl (fun A B E G H d0 => rP (y_geq (ed d0 rfl rfl rfl) rfl)) (gS rfl (fun A B E G H d0 => rP (y_move (ed d0 rfl rfl rfl))) (gS rfl (fun A B E G H d0 => gu G (ed d0 rfl rfl rfl) fun hg => y_move (kp (H 0 rfl) E q1)) (gS rfl (fun A B E G H d0 d1 => gu G (ed d1 rfl rfl rfl) fun hg => y_leq ((ed d0 rfl rfl rfl).1 hg) rfl) (gS rfl (fun A B E G H d0 d1 => rP (y_pick_and (ed d0 rfl rfl rfl) (ed d1 rfl rfl rfl) rfl)) (gS rfl (fun A B E G H d0 d1 => rP (y_move (ed d0 rfl rfl rfl))) (gS rfl (fun A B E G H d0 => gu G (ed d0 rfl rfl rfl) fun hg => y_move (kp (H 0 rfl) E q1)) (gS rfl (fun A B E G H d0 d1 => gu G (ed d1 rfl rfl rfl) fun hg => y_geq ((ed d0 rfl rfl rfl).1 hg) rfl) (gS rfl (fun A B E G H d0 d1 d2 => gu G (ed d1 rfl rfl rfl) fun hg => y_mv ((ed d0 rfl rfl rfl).1 hg)) (gS rfl (fun A B E G H d0 => gu2 G (ed d0 rfl rfl rfl) fun hg => y_move (kp (H 0 rfl) E q1)) (gS rfl (fun A B E G H d0 d1 => gu2 G (ed d1 rfl rfl rfl) fun hg => y_leq ((ed d0 rfl rfl rfl).1 hg) rfl) (gS rfl (fun A B E G H d0 d1 d2 => gu G (ed d2 rfl rfl rfl) fun hg => y_pick_and ((ed d0 rfl rfl rfl).1 hg) (grd_part hg (ed d1 rfl rfl rfl)) rfl) (gS rfl (fun A B E G H d0 d1 => rP (y_pick_or (ed d0 rfl rfl rfl) rfl (ed d1 rfl rfl rfl))) (gS rfl (fun A B E G H d0 d1 => rP (y_move (ed d0 rfl rfl rfl))) (gT (Ty.grd ((((decide ((65 : Int) ≤ c)) && (decide (c ≤ (90 : Int)))) || ((decide ((97 : Int) ≤ c)) && (decide (c ≤ (122 : Int))))) = false) (Ty.val (Value.int .i32 c))) rfl (by intro A B E G H d0; refine run_guard G rfl rfl (by decide) (ed d0 rfl rfl rfl) (fun hg => ?_); obtain ⟨d1, d2⟩ := Bool.or_eq_false_iff.mp hg; exact y_move (kp (H 0 rfl) E q1)) ?_))))))))))))))))
 refine gT (Ty.grd ((((decide ((65 : Int) ≤ c)) && (decide (c ≤ (90 : Int)))) || ((decide ((97 : Int) ≤ c)) && (decide (c ≤ (122 : Int))))) = false) (Ty.bool (decide ((48 : Int) ≤ c)))) rfl (by intro A B E G H d0 d1; refine run_guard G rfl rfl (by decide) (ed d1 rfl rfl rfl) (fun hg => ?_); obtain ⟨d3, d4⟩ := Bool.or_eq_false_iff.mp hg; exact y_geq ((ed d0 rfl rfl rfl).1 hg) rfl) (gT (Ty.grd ((((decide ((65 : Int) ≤ c)) && (decide (c ≤ (90 : Int)))) || ((decide ((97 : Int) ≤ c)) && (decide (c ≤ (122 : Int))))) = false) (Ty.bool (decide ((48 : Int) ≤ c)))) rfl (by intro A B E G H d0 d1 d2; refine run_guard G rfl rfl (by decide) (ed d1 rfl rfl rfl) (fun hg => ?_); obtain ⟨d5, d6⟩ := Bool.or_eq_false_iff.mp hg; exact y_move ((ed d0 rfl rfl rfl).1 hg)) (gS rfl (fun A B E G H d0 => gu2 G (ed d0 rfl rfl rfl) fun hg => y_move (kp (H 0 rfl) E q1)) (gS rfl (fun A B E G H d0 d1 => gu2 G (ed d1 rfl rfl rfl) fun hg => y_leq ((ed d0 rfl rfl rfl).1 hg) rfl) (gT (Ty.grd ((((decide ((65 : Int) ≤ c)) && (decide (c ≤ (90 : Int)))) || ((decide ((97 : Int) ≤ c)) && (decide (c ≤ (122 : Int))))) = false) (Ty.bool ((decide ((48 : Int) ≤ c)) && (decide (c ≤ (57 : Int)))))) rfl (by intro A B E G H d0 d1 d2; refine run_guard G rfl rfl (by decide) (ed d2 rfl rfl rfl) (fun hg => ?_); obtain ⟨d7, d8⟩ := Bool.or_eq_false_iff.mp hg; exact y_pick_and ((ed d0 rfl rfl rfl).1 hg) (grd_part hg (ed d1 rfl rfl rfl)) rfl) (gS rfl (fun A B E G H d0 d1 => rP (y_pick_or (ed d0 rfl rfl rfl) rfl (ed d1 rfl rfl rfl))) (gS rfl (fun A B E G H d0 d1 => rP (y_move (ed d0 rfl rfl rfl))) ?_))))))
 refine gT (Ty.grd (((((decide ((65 : Int) ≤ c)) && (decide (c ≤ (90 : Int)))) || ((decide ((97 : Int) ≤ c)) && (decide (c ≤ (122 : Int))))) || ((decide ((48 : Int) ≤ c)) && (decide (c ≤ (57 : Int))))) = false) (Ty.val (Value.int .i32 c))) rfl (by intro A B E G H d0; refine run_guard G rfl rfl (by decide) (ed d0 rfl rfl rfl) (fun hg => ?_); obtain ⟨d9, d10⟩ := Bool.or_eq_false_iff.mp hg; obtain ⟨d11, d12⟩ := Bool.or_eq_false_iff.mp d9; exact y_move (kp (H 0 rfl) E q1)) (gT (Ty.grd (((((decide ((65 : Int) ≤ c)) && (decide (c ≤ (90 : Int)))) || ((decide ((97 : Int) ≤ c)) && (decide (c ≤ (122 : Int))))) || ((decide ((48 : Int) ≤ c)) && (decide (c ≤ (57 : Int))))) = false) (Ty.bool (decide (c = (32 : Int))))) rfl (by intro A B E G H d0 d1; refine run_guard G rfl rfl (by decide) (ed d1 rfl rfl rfl) (fun hg => ?_); obtain ⟨d13, d14⟩ := Bool.or_eq_false_iff.mp hg; obtain ⟨d15, d16⟩ := Bool.or_eq_false_iff.mp d13; exact y_eql ((ed d0 rfl rfl rfl).1 hg) rfl) (gS rfl (fun A B E G H d0 d1 => rP (y_pick_or (ed d0 rfl rfl rfl) rfl (ed d1 rfl rfl rfl))) (gS rfl (fun A B E G H d0 d1 => rP (y_move (ed d0 rfl rfl rfl))) (gT (Ty.grd ((((((decide ((65 : Int) ≤ c)) && (decide (c ≤ (90 : Int)))) || ((decide ((97 : Int) ≤ c)) && (decide (c ≤ (122 : Int))))) || ((decide ((48 : Int) ≤ c)) && (decide (c ≤ (57 : Int))))) || (decide (c = (32 : Int)))) = false) (Ty.val (Value.int .i32 c))) rfl (by intro A B E G H d0; refine run_guard G rfl rfl (by decide) (ed d0 rfl rfl rfl) (fun hg => ?_); obtain ⟨d17, d18⟩ := Bool.or_eq_false_iff.mp hg; obtain ⟨d19, d20⟩ := Bool.or_eq_false_iff.mp d17; obtain ⟨d21, d22⟩ := Bool.or_eq_false_iff.mp d19; have d18 := of_decide_eq_false d18; exact y_move (kp (H 0 rfl) E q1)) ?_))))
 refine gT (Ty.grd ((((((decide ((65 : Int) ≤ c)) && (decide (c ≤ (90 : Int)))) || ((decide ((97 : Int) ≤ c)) && (decide (c ≤ (122 : Int))))) || ((decide ((48 : Int) ≤ c)) && (decide (c ≤ (57 : Int))))) || (decide (c = (32 : Int)))) = false) (Ty.bool (decide ((192 : Int) ≤ c)))) rfl (by intro A B E G H d0 d1; refine run_guard G rfl rfl (by decide) (ed d1 rfl rfl rfl) (fun hg => ?_); obtain ⟨d23, d24⟩ := Bool.or_eq_false_iff.mp hg; obtain ⟨d25, d26⟩ := Bool.or_eq_false_iff.mp d23; obtain ⟨d27, d28⟩ := Bool.or_eq_false_iff.mp d25; have d24 := of_decide_eq_false d24; exact y_geq ((ed d0 rfl rfl rfl).1 hg) rfl) (gT (Ty.grd ((((((decide ((65 : Int) ≤ c)) && (decide (c ≤ (90 : Int)))) || ((decide ((97 : Int) ≤ c)) && (decide (c ≤ (122 : Int))))) || ((decide ((48 : Int) ≤ c)) && (decide (c ≤ (57 : Int))))) || (decide (c = (32 : Int)))) = false) (Ty.bool (decide ((192 : Int) ≤ c)))) rfl (by intro A B E G H d0 d1 d2; refine run_guard G rfl rfl (by decide) (ed d1 rfl rfl rfl) (fun hg => ?_); obtain ⟨d29, d30⟩ := Bool.or_eq_false_iff.mp hg; obtain ⟨d31, d32⟩ := Bool.or_eq_false_iff.mp d29; obtain ⟨d33, d34⟩ := Bool.or_eq_false_iff.mp d31; have d30 := of_decide_eq_false d30; exact y_move ((ed d0 rfl rfl rfl).1 hg)) (gS rfl (fun A B E G H d0 => gu2 G (ed d0 rfl rfl rfl) fun hg => y_move (kp (H 0 rfl) E q1)) (gS rfl (fun A B E G H d0 d1 => gu2 G (ed d1 rfl rfl rfl) fun hg => y_leq ((ed d0 rfl rfl rfl).1 hg) rfl) ?_)))
 refine gT (Ty.grd ((((((decide ((65 : Int) ≤ c)) && (decide (c ≤ (90 : Int)))) || ((decide ((97 : Int) ≤ c)) && (decide (c ≤ (122 : Int))))) || ((decide ((48 : Int) ≤ c)) && (decide (c ≤ (57 : Int))))) || (decide (c = (32 : Int)))) = false) (Ty.bool ((decide ((192 : Int) ≤ c)) && (decide (c ≤ (382 : Int)))))) rfl (by intro A B E G H d0 d1 d2; refine run_guard G rfl rfl (by decide) (ed d2 rfl rfl rfl) (fun hg => ?_); obtain ⟨d35, d36⟩ := Bool.or_eq_false_iff.mp hg; obtain ⟨d37, d38⟩ := Bool.or_eq_false_iff.mp d35; obtain ⟨d39, d40⟩ := Bool.or_eq_false_iff.mp d37; have d36 := of_decide_eq_false d36; exact y_pick_and ((ed d0 rfl rfl rfl).1 hg) (grd_part hg (ed d1 rfl rfl rfl)) rfl) (gT (Ty.grd ((((((decide ((65 : Int) ≤ c)) && (decide (c ≤ (90 : Int)))) || ((decide ((97 : Int) ≤ c)) && (decide (c ≤ (122 : Int))))) || ((decide ((48 : Int) ≤ c)) && (decide (c ≤ (57 : Int))))) || (decide (c = (32 : Int)))) = false) (Ty.bool ((decide ((192 : Int) ≤ c)) && (decide (c ≤ (382 : Int)))))) rfl (by intro A B E G H d0 d1 d2; refine run_guard G rfl rfl (by decide) (ed d2 rfl rfl rfl) (fun hg => ?_); obtain ⟨d41, d42⟩ := Bool.or_eq_false_iff.mp hg; obtain ⟨d43, d44⟩ := Bool.or_eq_false_iff.mp d41; obtain ⟨d45, d46⟩ := Bool.or_eq_false_iff.mp d43; have d42 := of_decide_eq_false d42; exact y_move ((ed d0 rfl rfl rfl).1 hg)) (gT (Ty.grd (((((((decide ((65 : Int) ≤ c)) && (decide (c ≤ (90 : Int)))) || ((decide ((97 : Int) ≤ c)) && (decide (c ≤ (122 : Int))))) || ((decide ((48 : Int) ≤ c)) && (decide (c ≤ (57 : Int))))) || (decide (c = (32 : Int)))) = false) ∧ ((decide ((192 : Int) ≤ c)) && (decide (c ≤ (382 : Int)))) = true) (Ty.val (Value.int .i32 c))) rfl (by intro A B E G H d0; refine run_guard2 G rfl rfl (by decide) (ed d0 rfl rfl rfl) (fun hg => ?_); obtain ⟨d47, d48⟩ := Bool.and_eq_true_iff.mp hg.2; have d47 := of_decide_eq_true d47; have d48 := of_decide_eq_true d48; exact y_move (kp (H 0 rfl) E q1)) ?_))
 refine gT (Ty.grd (((((((decide ((65 : Int) ≤ c)) && (decide (c ≤ (90 : Int)))) || ((decide ((97 : Int) ≤ c)) && (decide (c ≤ (122 : Int))))) || ((decide ((48 : Int) ≤ c)) && (decide (c ≤ (57 : Int))))) || (decide (c = (32 : Int)))) = false) ∧ ((decide ((192 : Int) ≤ c)) && (decide (c ≤ (382 : Int)))) = true) (Ty.bool (decide (c ≠ (215 : Int))))) rfl (by intro A B E G H d0 d1; refine run_guard2 G rfl rfl (by decide) (ed d1 rfl rfl rfl) (fun hg => ?_); obtain ⟨d49, d50⟩ := Bool.and_eq_true_iff.mp hg.2; have d49 := of_decide_eq_true d49; have d50 := of_decide_eq_true d50; exact y_neq ((ed d0 rfl rfl rfl).1 hg) rfl) (gT (Ty.grd ((((((decide ((65 : Int) ≤ c)) && (decide (c ≤ (90 : Int)))) || ((decide ((97 : Int) ≤ c)) && (decide (c ≤ (122 : Int))))) || ((decide ((48 : Int) ≤ c)) && (decide (c ≤ (57 : Int))))) || (decide (c = (32 : Int)))) = false) (Ty.bool (((decide ((192 : Int) ≤ c)) && (decide (c ≤ (382 : Int)))) && (decide (c ≠ (215 : Int)))))) rfl (by intro A B E G H d0 d1 d2; refine run_guard G rfl rfl (by decide) (ed d2 rfl rfl rfl) (fun hg => ?_); obtain ⟨d51, d52⟩ := Bool.or_eq_false_iff.mp hg; obtain ⟨d53, d54⟩ := Bool.or_eq_false_iff.mp d51; obtain ⟨d55, d56⟩ := Bool.or_eq_false_iff.mp d53; have d52 := of_decide_eq_false d52; exact y_pick_and ((ed d0 rfl rfl rfl).1 hg) (grd_part hg (ed d1 rfl rfl rfl)) rfl) ?_)
 refine gT (Ty.grd ((((((decide ((65 : Int) ≤ c)) && (decide (c ≤ (90 : Int)))) || ((decide ((97 : Int) ≤ c)) && (decide (c ≤ (122 : Int))))) || ((decide ((48 : Int) ≤ c)) && (decide (c ≤ (57 : Int))))) || (decide (c = (32 : Int)))) = false) (Ty.bool (((decide ((192 : Int) ≤ c)) && (decide (c ≤ (382 : Int)))) && (decide (c ≠ (215 : Int)))))) rfl (by intro A B E G H d0 d1 d2; refine run_guard G rfl rfl (by decide) (ed d2 rfl rfl rfl) (fun hg => ?_); obtain ⟨d57, d58⟩ := Bool.or_eq_false_iff.mp hg; obtain ⟨d59, d60⟩ := Bool.or_eq_false_iff.mp d57; obtain ⟨d61, d62⟩ := Bool.or_eq_false_iff.mp d59; have d58 := of_decide_eq_false d58; exact y_move ((ed d0 rfl rfl rfl).1 hg)) (gT (Ty.grd (((((((decide ((65 : Int) ≤ c)) && (decide (c ≤ (90 : Int)))) || ((decide ((97 : Int) ≤ c)) && (decide (c ≤ (122 : Int))))) || ((decide ((48 : Int) ≤ c)) && (decide (c ≤ (57 : Int))))) || (decide (c = (32 : Int)))) = false) ∧ (((decide ((192 : Int) ≤ c)) && (decide (c ≤ (382 : Int)))) && (decide (c ≠ (215 : Int)))) = true) (Ty.val (Value.int .i32 c))) rfl (by intro A B E G H d0; refine run_guard2 G rfl rfl (by decide) (ed d0 rfl rfl rfl) (fun hg => ?_); obtain ⟨d63, d64⟩ := Bool.and_eq_true_iff.mp hg.2; obtain ⟨d65, d66⟩ := Bool.and_eq_true_iff.mp d63; have d65 := of_decide_eq_true d65; have d66 := of_decide_eq_true d66; have d64 := of_decide_eq_true d64; exact y_move (kp (H 0 rfl) E q1)) ?_)
 refine gT (Ty.grd (((((((decide ((65 : Int) ≤ c)) && (decide (c ≤ (90 : Int)))) || ((decide ((97 : Int) ≤ c)) && (decide (c ≤ (122 : Int))))) || ((decide ((48 : Int) ≤ c)) && (decide (c ≤ (57 : Int))))) || (decide (c = (32 : Int)))) = false) ∧ (((decide ((192 : Int) ≤ c)) && (decide (c ≤ (382 : Int)))) && (decide (c ≠ (215 : Int)))) = true) (Ty.bool (decide (c ≠ (247 : Int))))) rfl (by intro A B E G H d0 d1; refine run_guard2 G rfl rfl (by decide) (ed d1 rfl rfl rfl) (fun hg => ?_); obtain ⟨d67, d68⟩ := Bool.and_eq_true_iff.mp hg.2; obtain ⟨d69, d70⟩ := Bool.and_eq_true_iff.mp d67; have d69 := of_decide_eq_true d69; have d70 := of_decide_eq_true d70; have d68 := of_decide_eq_true d68; exact y_neq ((ed d0 rfl rfl rfl).1 hg) rfl) (gT (Ty.grd ((((((decide ((65 : Int) ≤ c)) && (decide (c ≤ (90 : Int)))) || ((decide ((97 : Int) ≤ c)) && (decide (c ≤ (122 : Int))))) || ((decide ((48 : Int) ≤ c)) && (decide (c ≤ (57 : Int))))) || (decide (c = (32 : Int)))) = false) (Ty.bool ((((decide ((192 : Int) ≤ c)) && (decide (c ≤ (382 : Int)))) && (decide (c ≠ (215 : Int)))) && (decide (c ≠ (247 : Int)))))) rfl (by intro A B E G H d0 d1 d2; refine run_guard G rfl rfl (by decide) (ed d2 rfl rfl rfl) (fun hg => ?_); obtain ⟨d71, d72⟩ := Bool.or_eq_false_iff.mp hg; obtain ⟨d73, d74⟩ := Bool.or_eq_false_iff.mp d71; obtain ⟨d75, d76⟩ := Bool.or_eq_false_iff.mp d73; have d72 := of_decide_eq_false d72; exact y_pick_and ((ed d0 rfl rfl rfl).1 hg) (grd_part hg (ed d1 rfl rfl rfl)) rfl) (gS rfl (fun A B E G H d0 d1 => rP (y_pick_or (ed d0 rfl rfl rfl) rfl (ed d1 rfl rfl rfl))) (gB 0 (gE ok1 fun a2 s2 ok2 D2 => ?_)))); refine tn (wp_ret ?_)
 exact ret1 rfl ok2 ((F0.step0 D1.stp).step0 D2.stp) (cvb (by (rfl)) (D2.dn 42 rfl rfl))


set_option maxRecDepth 100000 in
theorem mName_fn (s : ByteArray) (σ : GW) (v0 : Value) (hv0 : Ty.has (Ty.val (Value.string s)) σ v0) (E : s.size ≤ 1099511627776) :
    FnC Tryz.prog 5 #[v0] σ (Ty.bool (nameL s)) := by
 refine fn_intro Tryz.func5 rfl Tryz.ntmps5 (Nat.le_of_ble_eq_true rfl) (fun s0 a0 hle F0 ok0 hargs => ?_)
 have p0 := pA hle (hargs 0 _ rfl) hv0
 clear hargs; refine wp_seq ?_
 refine gI a0 s0 ok0 (gC (Ty.bool false) (gE ok0 fun a1 s1 ok1 D1 => ?_)); refine tn (wp_seq ?_)
 refine gI a1 s1 ok1 (gC (Ty.int (0 : Int)) (gE ok1 fun a2 s2 ok2 D2 => ?_)); have q2 := D2.kt (D1.kt p0 rfl) rfl; refine tn (wp_seq (wp_seq ?_))
 refine gI a2 s2 ok2 (gM q2 (gR (Pr.iter 7 s 0) rfl (by intro A B E G H d0; exact rP (y_range 7 Tryz.underlying9 (ed d0 rfl rfl rfl))) (gE ok2 fun a3 s3 ok3 D3 => ?_)))
 have q6 : (Pr.iter 7 s 0).has s3 (a3.eval (.tmp 7)) := D3.done 1
 refine tn (wp_block ?_)
 refine loop (fun n1 a4 w1 => ∃ (t1 : GW) (xs : List Nat) (p : Nat) (f : Nat), t1.w = w1 ∧ From s0 t1 ∧ Ok 35 [] a4 ∧ (Pr.iter 7 s p).has t1 (a4.eval (.tmp 7)) ∧ At (Ty.nat xs.length) t1 a4 (.tmp 3) ∧ At (Ty.val (Value.string s)) t1 a4 (.tmp 0) ∧ (∀ c ∈ xs, letterB ((c : Nat) : Int) = true) ∧ (xs ++ runesF s f p = runesL s) ∧ (s.size ≤ f + p) ∧ (p ≤ s.size + 4) ∧ (xs.length ≤ p) ∧ (xs.length = 0 ∨ 0 < s.size) ∧ n1 = s.size + 8 - p) (s.size + 8 - (0)) ?_ ?_
 ·
  exact ⟨s3, ([] : List Nat), 0, s.size, rfl, (((F0.step0 D1.stp).step0 D2.stp).step0 D3.stp), ok3, (cvit (by omega) q6), (cvi (by (first | rfl | omega | (simp_all; done) | (simp_all; omega))) (D3.kt (D2.dn 0 rfl rfl) rfl)), (D3.kt q2 rfl), fun c hc => by simp at hc, rfl, by omega, by omega, by simp, .inl rfl, rfl⟩
 ·
  rintro n2 a5 w2 ⟨t2, xs, p, f, rfl, F4, ok4, q7, q8, q9, hall, heq, hf, hp, hx, hz, rfl⟩
  have hw := wid_pos s p
  have hw2 := wid_le s p
  refine wp_seq ?_
  refine gI a5 t2 ok4 (gE2 ok4 fun a6 s4 ok5 D4 => ?_); have q10 := (Pr.iter 7 s p).up D4.stp q7
  have q11 : a6.eval (.tmp 7) = a5.eval (.tmp 7) := D4.same 7 rfl
  refine tail_step (m := 7) (R := (fun v τ => (Ty.nxt (decide (p < s.size)) p (run1 s p)).has τ v ∧ Iter τ 7 (a5.eval (.tmp 7)) s (stepTo s p))) rfl rfl (by decide) ok5 (m_next (by decide) q10 q11) (fun a7 s5 hs1 ok6 r1 sm1 => ?_)
  have F6 := (F4.step0 D4.stp).step hs1 (by decide)
  have q14 : (Pr.iter 7 s (stepTo s p)).has s5 (a5.eval (.tmp 7)) := (r1).2
  have q15 := (sm1 7 (by decide)).trans q11
  have q16 : At (Ty.nat xs.length) s5 a7 (.tmp 3) := kpm hs1 (by decide) (sm1 3 (by decide)) (D4.kt q8 rfl)
  have q17 : At (Ty.val (Value.string s)) s5 a7 (.tmp 0) := kpm hs1 (by decide) (sm1 0 (by decide)) (D4.kt q9 rfl)
  have q18 : At (Ty.nxt (decide (p < s.size)) p (run1 s p)) s5 a7 (.tmp 8) := (r1).1
  refine tail_step (m := 0) (R := (fun v τ => Pr.has (Ty.pr (Ty.bool (decide (p < s.size)))) τ v)) rfl rfl (by decide) ok6 (Yld.toM (y_ext_n0 q18)) (fun a8 s6 hs2 ok7 r2 sm2 => ?_)
  have F7 := F6.step hs2 (by decide); have q19 := Iter.keep q14 hs2 (by decide) (.inl rfl); have q20 := (sm2 7 (by decide)).trans q15
  have q21 : At (Ty.nat xs.length) s6 a8 (.tmp 3) := kpm hs2 (by decide) (sm2 3 (by decide)) q16
  have q22 : At (Ty.val (Value.string s)) s6 a8 (.tmp 0) := kpm hs2 (by decide) (sm2 0 (by decide)) q17
  have q23 : At (Ty.nxt (decide (p < s.size)) p (run1 s p)) s6 a8 (.tmp 8) := kpm hs2 (by decide) (sm2 8 (by decide)) q18
  have q24 : At (Ty.bool (decide (p < s.size))) s6 a8 (.tmp 9) := r2
  refine wpList_nil ?_
  have q25 : (Pr.iter 7 s (stepTo s p)).has s6 (a8.eval (.tmp 7)) := al q20 q19
  refine tn (wp_seq ?_)
  refine cond_p (p := (p < s.size)) q24 (fun c1 => ?_) (fun c1 => ?_)
  ·
   refine wp_skip (tn (wp_block (wp_seq ?_)))
   refine gI a8 s6 ok7 (gT (Ty.val (Value.int .i32 ((run1 s p : Nat) : Int))) rfl (fun A B E G H => rP (y_ext_n2 (kp (H 8 rfl) E q23) (decide_eq_true (by omega)))) (gB 0 (gE ok7 fun a9 s7 ok8 D5 => ?_)))
   have q26 : (Pr.iter 7 s (stepTo s p)).has s7 (a9.eval (.tmp 7)) := D5.ko q25 rfl
   refine tn (wp_seq (wp_seq ?_))
   refine gI a9 s7 ok8 (gM (D5.dn 1 rfl rfl) (gS rfl (fun A B E G H d0 => rP (y_call _ Tryz.func27 rfl rfl my1 (letter_fn (((run1 s p : Nat) : Int)) _ _ (ed d0 rfl rfl rfl) ))) (gS rfl (fun A B E G H d0 => rP (y_not (ed d0 rfl rfl rfl))) (gE ok8 fun a10 s8 ok9 D6 => ?_)))); have F9 := (F7.step0 D5.stp).step0 D6.stp
   have q30 : (Pr.iter 7 s (stepTo s p)).has s8 (a10.eval (.tmp 7)) := D6.ko q26 rfl
   refine tn ?_
   refine cond_t (D6.dn 2 rfl rfl) (fun c2 => ?_) (fun c2 => ?_)
   ·
    have hlet : letterB (run1 s p : Nat) = false := (by simpa using c2)
    refine wp_seq ?_
    refine gI a10 s8 ok9 (gC (Ty.bool false) (gE ok9 fun a11 s9 ok10 D7 => ?_)); refine tn (wp_ret (tr (br (tr (br (tr ?_))))))
    exact ret1 rfl ok10 (F9.step0 D7.stp) (cvb (by (exact (nameL_no heq (by omega) (by omega) hlet).symm)) (D7.dn 0 rfl rfl))
   ·
    have hlet : letterB (run1 s p : Nat) = true := (by simpa using c2)
    refine wp_skip (tn ?_)
    refine gI a10 s8 ok9 (gM (D6.kt (D5.kt q21 rfl) rfl) (gT (Ty.int (((xs.length : Nat) : Int) + (1 : Int))) rfl (fun A B E G H d0 => rP (y_add (ed d0 rfl rfl rfl) rfl (w64 (by omega) (by omega)))) (gB 0 (gE ok9 fun a12 s10 ok11 D8 => ?_))))
    have q35 : (Pr.iter 7 s (stepTo s p)).has s10 (a12.eval (.tmp 7)) := D8.ko q30 rfl
    refine bn ?_
    exact tn ⟨s.size + 8 - ((p + wid s p)), by omega, s10, (xs ++ [run1 s p]), (p + wid s p), (f - 1), rfl, (F9.step0 D8.stp), ok11, (cvit (by unfold stepTo; rw [if_pos (by omega)]) q35), (cvi (by (simp)) (D8.dn 2 rfl rfl)), (D8.kt (D6.kt (D5.kt q22 rfl) rfl) rfl), fun c hc => by (rcases List.mem_append.1 hc with h | h; exact hall c h; simp at h; subst h; exact hlet), runesF_step heq (by omega) (by omega), by omega, by omega, by simp; omega, .inr (by omega), rfl⟩
  ·
   refine wp_exit (tx (tx (bx (tn (wp_seq ?_)))))
   refine gI a8 s6 ok7 (gM q21 (gS rfl (fun A B E G H d0 => rP (y_geq (ed d0 rfl rfl rfl) rfl)) (gS rfl (fun A B E G H d0 => rP (y_move (ed d0 rfl rfl rfl))) (gS rfl (fun A B E G H d0 => gu G (ed d0 rfl rfl rfl) fun hg => y_move (kp (H 3 rfl) E q21)) (gS rfl (fun A B E G H d0 d1 => gu G (ed d1 rfl rfl rfl) fun hg => y_leq ((ed d0 rfl rfl rfl).1 hg) rfl) (gS rfl (fun A B E G H d0 d1 => rP (y_pick_and (ed d0 rfl rfl rfl) (ed d1 rfl rfl rfl) rfl)) (gS rfl (fun A B E G H d0 d1 => rP (y_move (ed d0 rfl rfl rfl))) (gT (Ty.grd (((decide ((1 : Int) ≤ ((xs.length : Nat) : Int))) && (decide (((xs.length : Nat) : Int) ≤ (20 : Int)))) = true) (Ty.val (Value.string s))) rfl (by intro A B E G H d0; refine run_guard G rfl rfl (by decide) (ed d0 rfl rfl rfl) (fun hg => ?_); obtain ⟨d1, d2⟩ := Bool.and_eq_true_iff.mp hg; have d1 := of_decide_eq_true d1; have d2 := of_decide_eq_true d2; exact y_move (kp (H 0 rfl) E q22)) (gT (Ty.grd (((decide ((1 : Int) ≤ ((xs.length : Nat) : Int))) && (decide (((xs.length : Nat) : Int) ≤ (20 : Int)))) = true) (Ty.val (Value.int .u8 (((s.get! ((0 : Int)).toNat).toNat : Nat) : Int)))) rfl (by intro A B E G H d0 d1; refine run_guard G rfl rfl (by decide) (ed d1 rfl rfl rfl) (fun hg => ?_); obtain ⟨d3, d4⟩ := Bool.and_eq_true_iff.mp hg; have d3 := of_decide_eq_true d3; have d4 := of_decide_eq_true d4; exact y_sindex Tryz.underlying9 ((ed d0 rfl rfl rfl).1 hg) rfl (by omega) (by omega)) (gT (Ty.grd (((decide ((1 : Int) ≤ ((xs.length : Nat) : Int))) && (decide (((xs.length : Nat) : Int) ≤ (20 : Int)))) = true) (Ty.bool (decide ((((s.get! ((0 : Int)).toNat).toNat : Nat) : Int) ≠ (32 : Int))))) rfl (by intro A B E G H d0 d1; refine run_guard G rfl rfl (by decide) (ed d1 rfl rfl rfl) (fun hg => ?_); obtain ⟨d5, d6⟩ := Bool.and_eq_true_iff.mp hg; have d5 := of_decide_eq_true d5; have d6 := of_decide_eq_true d6; exact y_neq ((ed d0 rfl rfl rfl).1 hg) rfl) ?_))))))))))
   refine gS rfl (fun A B E G H d0 d1 => rP (y_pick_and (ed d0 rfl rfl rfl) (ed d1 rfl rfl rfl) rfl)) (gS rfl (fun A B E G H d0 d1 => rP (y_move (ed d0 rfl rfl rfl))) (gT (Ty.grd ((((decide ((1 : Int) ≤ ((xs.length : Nat) : Int))) && (decide (((xs.length : Nat) : Int) ≤ (20 : Int)))) && (decide ((((s.get! ((0 : Int)).toNat).toNat : Nat) : Int) ≠ (32 : Int)))) = true) (Ty.val (Value.string s))) rfl (by intro A B E G H d0; refine run_guard G rfl rfl (by decide) (ed d0 rfl rfl rfl) (fun hg => ?_); obtain ⟨d7, d8⟩ := Bool.and_eq_true_iff.mp hg; obtain ⟨d9, d10⟩ := Bool.and_eq_true_iff.mp d7; have d9 := of_decide_eq_true d9; have d10 := of_decide_eq_true d10; have d8 := of_decide_eq_true d8; exact y_move (kp (H 0 rfl) E q22)) (gT (Ty.grd ((((decide ((1 : Int) ≤ ((xs.length : Nat) : Int))) && (decide (((xs.length : Nat) : Int) ≤ (20 : Int)))) && (decide ((((s.get! ((0 : Int)).toNat).toNat : Nat) : Int) ≠ (32 : Int)))) = true) (Ty.val (Value.string s))) rfl (by intro A B E G H d0; refine run_guard G rfl rfl (by decide) (ed d0 rfl rfl rfl) (fun hg => ?_); obtain ⟨d11, d12⟩ := Bool.and_eq_true_iff.mp hg; obtain ⟨d13, d14⟩ := Bool.and_eq_true_iff.mp d11; have d13 := of_decide_eq_true d13; have d14 := of_decide_eq_true d14; have d12 := of_decide_eq_true d12; exact y_move (kp (H 0 rfl) E q22)) (gT (Ty.grd ((((decide ((1 : Int) ≤ ((xs.length : Nat) : Int))) && (decide (((xs.length : Nat) : Int) ≤ (20 : Int)))) && (decide ((((s.get! ((0 : Int)).toNat).toNat : Nat) : Int) ≠ (32 : Int)))) = true) (Ty.nat (ByteArray.size s))) rfl (by intro A B E G H d0 d1; refine run_guard G rfl rfl (by decide) (ed d1 rfl rfl rfl) (fun hg => ?_); obtain ⟨d15, d16⟩ := Bool.and_eq_true_iff.mp hg; obtain ⟨d17, d18⟩ := Bool.and_eq_true_iff.mp d15; have d17 := of_decide_eq_true d17; have d18 := of_decide_eq_true d18; have d16 := of_decide_eq_true d16; exact y_len_str Tryz.underlying9 ((ed d0 rfl rfl rfl).1 hg)) ?_))))
   refine gT (Ty.grd ((((decide ((1 : Int) ≤ ((xs.length : Nat) : Int))) && (decide (((xs.length : Nat) : Int) ≤ (20 : Int)))) && (decide ((((s.get! ((0 : Int)).toNat).toNat : Nat) : Int) ≠ (32 : Int)))) = true) (Ty.int ((((ByteArray.size s) : Nat) : Int) - (1 : Int)))) rfl (by intro A B E G H d0 d1; refine run_guard G rfl rfl (by decide) (ed d1 rfl rfl rfl) (fun hg => ?_); obtain ⟨d19, d20⟩ := Bool.and_eq_true_iff.mp hg; obtain ⟨d21, d22⟩ := Bool.and_eq_true_iff.mp d19; have d21 := of_decide_eq_true d21; have d22 := of_decide_eq_true d22; have d20 := of_decide_eq_true d20; exact y_sub ((ed d0 rfl rfl rfl).1 hg) rfl (w64 (by omega) (by omega))) (gT (Ty.grd ((((decide ((1 : Int) ≤ ((xs.length : Nat) : Int))) && (decide (((xs.length : Nat) : Int) ≤ (20 : Int)))) && (decide ((((s.get! ((0 : Int)).toNat).toNat : Nat) : Int) ≠ (32 : Int)))) = true) (Ty.val (Value.int .u8 (((s.get! (((((ByteArray.size s) : Nat) : Int) - (1 : Int))).toNat).toNat : Nat) : Int)))) rfl (by intro A B E G H d0 d1 d2; refine run_guard G rfl rfl (by decide) (ed d2 rfl rfl rfl) (fun hg => ?_); obtain ⟨d23, d24⟩ := Bool.and_eq_true_iff.mp hg; obtain ⟨d25, d26⟩ := Bool.and_eq_true_iff.mp d23; have d25 := of_decide_eq_true d25; have d26 := of_decide_eq_true d26; have d24 := of_decide_eq_true d24; exact y_sindex Tryz.underlying9 ((ed d0 rfl rfl rfl).1 hg) ((ed d1 rfl rfl rfl).1 hg) (by omega) (by omega)) ?_)
   refine gT (Ty.grd ((((decide ((1 : Int) ≤ ((xs.length : Nat) : Int))) && (decide (((xs.length : Nat) : Int) ≤ (20 : Int)))) && (decide ((((s.get! ((0 : Int)).toNat).toNat : Nat) : Int) ≠ (32 : Int)))) = true) (Ty.bool (decide ((((s.get! (((((ByteArray.size s) : Nat) : Int) - (1 : Int))).toNat).toNat : Nat) : Int) ≠ (32 : Int))))) rfl (by intro A B E G H d0 d1; refine run_guard G rfl rfl (by decide) (ed d1 rfl rfl rfl) (fun hg => ?_); obtain ⟨d27, d28⟩ := Bool.and_eq_true_iff.mp hg; obtain ⟨d29, d30⟩ := Bool.and_eq_true_iff.mp d27; have d29 := of_decide_eq_true d29; have d30 := of_decide_eq_true d30; have d28 := of_decide_eq_true d28; exact y_neq ((ed d0 rfl rfl rfl).1 hg) rfl) (gS rfl (fun A B E G H d0 d1 => rP (y_pick_and (ed d0 rfl rfl rfl) (ed d1 rfl rfl rfl) rfl)) (gB 0 (gE ok7 fun a13 s11 ok12 D9 => ?_))); refine tn (wp_ret ?_)
   exact ret1 rfl ok12 (F7.step0 D9.stp) (cvb (by (rw [runesF_end (by omega), List.append_nil] at heq; rw [nameL_all (by rw [← heq]; exact hall), heq]; simp)) (D9.dn 19 rfl rfl))


set_option maxHeartbeats 4000000 in
set_option maxRecDepth 100000 in
theorem rRuneAt_fn (s : ByteArray) (σ : GW)  (v0 : Value) (hv0 : Ty.has (Ty.val (Value.string s)) σ v0)  (E : 1 ≤ s.size) :
    FnC Tryz.prog 47 #[v0] σ (Ty.tup2 (Ty.int (runM s 0)) (Ty.nat (wid s 0))) := by
 have hb256 := UInt8.toNat_lt (s.get! 0)
 have hb257 := UInt8.toNat_lt (s.get! ((0 : Int)).toNat)
 have hnb := nb_bd ((s.get! 0).toNat)
 refine fn_intro0 Tryz.func47 rfl Tryz.ntmps47 (Nat.le_of_ble_eq_true rfl) (fun s0 a0 hle F0 ok0 hargs => ?_)
 have p0 := pA hle (hargs 0 _ rfl) hv0
 clear hargs; refine wp_seq ?_
 refine gI a0 s0 ok0 (gC (Ty.int (0 : Int)) (gC (Ty.int (0 : Int)) (gE ok0 fun a1 s1 ok1 D1 => ?_))); have q1 := D1.kt p0 rfl; refine tn (wp_seq ?_)
 refine gI a1 s1 ok1 (gM q1 (gT (Ty.val (Value.int .u8 (((s.get! ((0 : Int)).toNat).toNat : Nat) : Int))) rfl (fun A B E G H d0 => rP (y_sindex Tryz.underlying9 (ed d0 rfl rfl rfl) rfl (by omega) (by omega))) (gT (Ty.nat (s.get! ((0 : Int)).toNat).toNat) rfl (fun A B E G H d0 => rP (y_conv Tryz.underlying3 (ed d0 rfl rfl rfl) (by exact w64 (by omega) (by omega)) (by rw [Tryz.underlying5]; rfl))) (gB 0 (gE ok1 fun a2 s2 ok2 D2 => ?_)))))
 have q4 : At (Ty.nat ((s.get! 0).toNat)) s2 a2 (.tmp 4) := (cvi (by (rfl)) (D2.dn 3 rfl rfl))
 refine tn (wp_seq (wp_seq ?_))
 refine gI a2 s2 ok2 (gM q4 (gS rfl (fun A B E G H d0 => rP (y_lss (ed d0 rfl rfl rfl) rfl)) (gE ok2 fun a3 s3 ok3 D3 => ?_))); have F3 := ((F0.step0 D1.stp).step0 D2.stp).step0 D3.stp; have q6 := D3.kt q4 rfl; refine tn ?_
 refine cond_p (p := (((((s.get! 0).toNat) : Nat) : Int) < (128 : Int))) (D3.dn 1 rfl rfl) (fun c1 => ?_) (fun c1 => ?_)
 ·
  refine wp_seq ?_
  refine gI a3 s3 ok3 (gM q6 (gB 0 (gC (Ty.int (1 : Int)) (gE ok3 fun a4 s4 ok4 D4 => ?_)))); refine tn (wp_ret (tr ?_))
  exact retL2 rfl ok4 (F3.step0 D4.stp) (hasT2 (cvi (by (exact (rn_low (by omega)).1.symm)) (D4.dn 1 rfl rfl)) (cvi (by (have := (rn_low (s := s) (by omega)).2; omega)) (D4.dn 2 rfl rfl)))
 ·
  refine wp_skip (tn (wp_seq ?_))
  refine gI a3 s3 ok3 (gC (Ty.int (0 : Int)) (gE ok3 fun a5 s5 ok5 D5 => ?_)); refine tn (wp_seq ?_)
  refine gI a5 s5 ok5 (gC (Ty.int (0 : Int)) (gE ok5 fun a6 s6 ok6 D6 => ?_)); have q14 := D6.kt (D5.kt q6 rfl) rfl; refine tn (wp_seq (wp_seq ?_))
  refine gI a6 s6 ok6 (gM q14 (gS rfl (fun A B E G H d0 => rP (y_geq (ed d0 rfl rfl rfl) rfl)) (gS rfl (fun A B E G H d0 => rP (y_move (ed d0 rfl rfl rfl))) (gS rfl (fun A B E G H d0 => gu G (ed d0 rfl rfl rfl) fun hg => y_move (kp (H 4 rfl) E q14)) (gS rfl (fun A B E G H d0 d1 => gu G (ed d1 rfl rfl rfl) fun hg => y_lss ((ed d0 rfl rfl rfl).1 hg) rfl) (gS rfl (fun A B E G H d0 d1 => rP (y_pick_and (ed d0 rfl rfl rfl) (ed d1 rfl rfl rfl) rfl)) (gE ok6 fun a7 s7 ok7 D7 => ?_))))))); have F7 := ((F3.step0 D5.stp).step0 D6.stp).step0 D7.stp; have q17 := D7.kt (D6.kt (D5.kt (D3.kt (D2.kt q1 rfl) rfl) rfl) rfl) rfl; have q18 := D7.kt q14 rfl; refine tn ?_
  refine Go.KL.join_then (Q' := fun a8 w1 => ∃ (t1 : GW), t1.w = w1 ∧ FromL [] s0 t1 ∧ Ok 86 [] a8 ∧ At (Ty.nat (nB ((s.get! 0).toNat))) t1 a8 (.tmp 5) ∧ At (Ty.nat (cB ((s.get! 0).toNat))) t1 a8 (.tmp 4) ∧ At (Ty.nat (lowB ((s.get! 0).toNat))) t1 a8 (.tmp 6) ∧ At (Ty.val (Value.string s)) t1 a8 (.tmp 0) ∧ True) ?_ ?_
  ·
   refine cond_t (D7.dn 5 rfl rfl) (fun c2 => ?_) (fun c2 => ?_)
   ·
    obtain ⟨d1, d2⟩ := Bool.and_eq_true_iff.mp c2
    replace d1 := of_decide_eq_true d1
    replace d2 := of_decide_eq_true d2
    simp only [Bool.and_eq_true, decide_eq_true_eq] at c2; obtain ⟨n1, n2, n3⟩ := nb2 (b := ((s.get! 0).toNat)) (by omega)
    refine wp_seq ?_
    refine gI a7 s7 ok7 (gC (Ty.int (2 : Int)) (gE ok7 fun a9 s8 ok8 D8 => ?_)); refine tn (wp_seq ?_)
    refine gI a9 s8 ok8 (gM (D8.kt q18 rfl) (gT (Ty.int (((((s.get! 0).toNat) : Nat) : Int) - (192 : Int))) rfl (fun A B E G H d0 => rP (y_sub (ed d0 rfl rfl rfl) rfl (w64 (by omega) (by omega)))) (gB 0 (gE ok8 fun a10 s9 ok9 D9 => ?_)))); refine tn ?_
    refine gI a10 s9 ok9 (gC (Ty.int (128 : Int)) (gE ok9 fun a11 s10 ok10 D10 => ?_))
    exact tn ⟨s10, rfl, (((F7.step0 D8.stp).step0 D9.stp).step0 D10.stp), ok10, (cvi (by (first | rfl | omega | (simp_all; done) | (simp_all; omega))) (D10.kt (D9.kt (D8.dn 0 rfl rfl) rfl) rfl)), (cvi (by (first | rfl | omega | (simp_all; done) | (simp_all; omega))) (D10.kt (D9.dn 2 rfl rfl) rfl)), (cvi (by (first | rfl | omega | (simp_all; done) | (simp_all; omega))) (D10.dn 0 rfl rfl)), (D10.kt (D9.kt (D8.kt q17 rfl) rfl) rfl), trivial⟩
   ·
    simp only [Bool.and_eq_false_iff, decide_eq_false_iff_not] at c2; have k1 : ¬ (194 ≤ ((s.get! 0).toNat) ∧ ((s.get! 0).toNat) < 224) := (by omega)
    refine wp_seq ?_
    refine gI a7 s7 ok7 (gM q18 (gS rfl (fun A B E G H d0 => rP (y_geq (ed d0 rfl rfl rfl) rfl)) (gS rfl (fun A B E G H d0 => rP (y_move (ed d0 rfl rfl rfl))) (gS rfl (fun A B E G H d0 => gu G (ed d0 rfl rfl rfl) fun hg => y_move (kp (H 4 rfl) E q18)) (gS rfl (fun A B E G H d0 d1 => gu G (ed d1 rfl rfl rfl) fun hg => y_lss ((ed d0 rfl rfl rfl).1 hg) rfl) (gS rfl (fun A B E G H d0 d1 => rP (y_pick_and (ed d0 rfl rfl rfl) (ed d1 rfl rfl rfl) rfl)) (gE ok7 fun a12 s11 ok11 D11 => ?_))))))); have F11 := F7.step0 D11.stp; have q32 := D11.kt q17 rfl; have q33 := D11.kt q18 rfl; refine tn ?_
    refine cond_t (D11.dn 5 rfl rfl) (fun c3 => ?_) (fun c3 => ?_)
    ·
     obtain ⟨d3, d4⟩ := Bool.and_eq_true_iff.mp c3
     replace d3 := of_decide_eq_true d3
     replace d4 := of_decide_eq_true d4
     simp only [Bool.and_eq_true, decide_eq_true_eq] at c3; obtain ⟨n1, n2, n3⟩ := nb3 (b := ((s.get! 0).toNat)) (by omega)
     refine wp_seq ?_
     refine gI a12 s11 ok11 (gC (Ty.int (3 : Int)) (gE ok11 fun a13 s12 ok12 D12 => ?_)); refine tn (wp_seq ?_)
     refine gI a13 s12 ok12 (gM (D12.kt q33 rfl) (gT (Ty.int (((((s.get! 0).toNat) : Nat) : Int) - (224 : Int))) rfl (fun A B E G H d0 => rP (y_sub (ed d0 rfl rfl rfl) rfl (w64 (by omega) (by omega)))) (gB 0 (gE ok12 fun a14 s13 ok13 D13 => ?_)))); refine tn ?_
     refine gI a14 s13 ok13 (gC (Ty.int (2048 : Int)) (gE ok13 fun a15 s14 ok14 D14 => ?_))
     exact tn ⟨s14, rfl, (((F11.step0 D12.stp).step0 D13.stp).step0 D14.stp), ok14, (cvi (by (first | rfl | omega | (simp_all; done) | (simp_all; omega))) (D14.kt (D13.kt (D12.dn 0 rfl rfl) rfl) rfl)), (cvi (by (first | rfl | omega | (simp_all; done) | (simp_all; omega))) (D14.kt (D13.dn 2 rfl rfl) rfl)), (cvi (by (first | rfl | omega | (simp_all; done) | (simp_all; omega))) (D14.dn 0 rfl rfl)), (D14.kt (D13.kt (D12.kt q32 rfl) rfl) rfl), trivial⟩
    ·
     simp only [Bool.and_eq_false_iff, decide_eq_false_iff_not] at c3; have k2 : ¬ (224 ≤ ((s.get! 0).toNat) ∧ ((s.get! 0).toNat) < 240) := (by omega)
     refine wp_seq ?_
     refine gI a12 s11 ok11 (gM q33 (gS rfl (fun A B E G H d0 => rP (y_geq (ed d0 rfl rfl rfl) rfl)) (gS rfl (fun A B E G H d0 => rP (y_move (ed d0 rfl rfl rfl))) (gS rfl (fun A B E G H d0 => gu G (ed d0 rfl rfl rfl) fun hg => y_move (kp (H 4 rfl) E q33)) (gS rfl (fun A B E G H d0 d1 => gu G (ed d1 rfl rfl rfl) fun hg => y_lss ((ed d0 rfl rfl rfl).1 hg) rfl) (gS rfl (fun A B E G H d0 d1 => rP (y_pick_and (ed d0 rfl rfl rfl) (ed d1 rfl rfl rfl) rfl)) (gE ok11 fun a16 s15 ok15 D15 => ?_))))))); have F15 := F11.step0 D15.stp; have q47 := D15.kt q32 rfl; have q48 := D15.kt q33 rfl; refine tn ?_
     refine cond_t (D15.dn 5 rfl rfl) (fun c4 => ?_) (fun c4 => ?_)
     ·
      obtain ⟨d5, d6⟩ := Bool.and_eq_true_iff.mp c4
      replace d5 := of_decide_eq_true d5
      replace d6 := of_decide_eq_true d6
      simp only [Bool.and_eq_true, decide_eq_true_eq] at c4; obtain ⟨n1, n2, n3⟩ := nb4 (b := ((s.get! 0).toNat)) (by omega)
      refine wp_seq ?_
      refine gI a16 s15 ok15 (gC (Ty.int (4 : Int)) (gE ok15 fun a17 s16 ok16 D16 => ?_)); refine tn (wp_seq ?_)
      refine gI a17 s16 ok16 (gM (D16.kt q48 rfl) (gT (Ty.int (((((s.get! 0).toNat) : Nat) : Int) - (240 : Int))) rfl (fun A B E G H d0 => rP (y_sub (ed d0 rfl rfl rfl) rfl (w64 (by omega) (by omega)))) (gB 0 (gE ok16 fun a18 s17 ok17 D17 => ?_)))); refine tn ?_
      refine gI a18 s17 ok17 (gC (Ty.int (65536 : Int)) (gE ok17 fun a19 s18 ok18 D18 => ?_))
      exact tn ⟨s18, rfl, (((F15.step0 D16.stp).step0 D17.stp).step0 D18.stp), ok18, (cvi (by (first | rfl | omega | (simp_all; done) | (simp_all; omega))) (D18.kt (D17.kt (D16.dn 0 rfl rfl) rfl) rfl)), (cvi (by (first | rfl | omega | (simp_all; done) | (simp_all; omega))) (D18.kt (D17.dn 2 rfl rfl) rfl)), (cvi (by (first | rfl | omega | (simp_all; done) | (simp_all; omega))) (D18.dn 0 rfl rfl)), (D18.kt (D17.kt (D16.kt q47 rfl) rfl) rfl), trivial⟩
     ·
      simp only [Bool.and_eq_false_iff, decide_eq_false_iff_not] at c4; have k3 : ¬ (240 ≤ ((s.get! 0).toNat) ∧ ((s.get! 0).toNat) < 245) := (by omega); obtain ⟨n1, n2, n3⟩ := nb0 k1 k2 k3
      refine wp_skip ?_
      exact tn ⟨s15, rfl, F15, ok15, (cvi (by (first | rfl | omega | (simp_all; done) | (simp_all; omega))) (D15.kt (D11.kt (D7.kt (D6.kt (D5.dn 0 rfl rfl) rfl) rfl) rfl) rfl)), (cvi (by (first | rfl | omega | (simp_all; done) | (simp_all; omega))) q48), (cvi (by (first | rfl | omega | (simp_all; done) | (simp_all; omega))) (D15.kt (D11.kt (D7.kt (D6.dn 0 rfl rfl) rfl) rfl) rfl)), q47, trivial⟩
  ·
   rintro a20 w2 ⟨t2, rfl, F19, ok19, q62, q63, q64, q65, -⟩
   refine wp_seq (wp_seq ?_)
   refine gI a20 t2 ok19 (gM q62 (gS rfl (fun A B E G H d0 => rP (y_eql (ed d0 rfl rfl rfl) rfl)) (gS rfl (fun A B E G H d0 => rP (y_move (ed d0 rfl rfl rfl))) (gS rfl (fun A B E G H d0 => gu G (ed d0 rfl rfl rfl) fun hg => y_move (kp (H 0 rfl) E q65)) (gT (Ty.grd ((decide ((((nB ((s.get! 0).toNat)) : Nat) : Int) = (0 : Int))) = false) (Ty.nat (ByteArray.size s))) rfl (fun A B E G H d0 d1 => gu G (ed d1 rfl rfl rfl) fun hg => y_len_str Tryz.underlying9 ((ed d0 rfl rfl rfl).1 hg)) (gS rfl (fun A B E G H d0 => gu G (ed d0 rfl rfl rfl) fun hg => y_move (kp (H 5 rfl) E q62)) (gS rfl (fun A B E G H d0 d1 d2 => gu G (ed d2 rfl rfl rfl) fun hg => y_lss ((ed d0 rfl rfl rfl).1 hg) ((ed d1 rfl rfl rfl).1 hg)) (gS rfl (fun A B E G H d0 d1 => rP (y_pick_or (ed d0 rfl rfl rfl) rfl (ed d1 rfl rfl rfl))) (gE ok19 fun a21 s19 ok20 D19 => ?_))))))))); have F20 := F19.step0 D19.stp; refine tn ?_
   refine cond_t (D19.dn 7 rfl rfl) (fun c5 => ?_) (fun c5 => ?_)
   ·
    simp only [Bool.or_eq_true, decide_eq_true_eq] at c5
    refine wp_seq ?_
    refine gI a21 s19 ok20 (gC (Ty.int (-1 : Int)) (gC (Ty.int (1 : Int)) (gE ok20 fun a22 s20 ok21 D20 => ?_))); refine tn (wp_ret (tr ?_))
    exact retL2 rfl ok21 (F20.step0 D20.stp) (hasT2 (cvi (by (exact (rn_short (by omega) (by omega) E).1.symm)) (D20.dn 0 rfl rfl)) (cvi (by (have := (rn_short (s := s) (by omega) (by omega) E).2; omega)) (D20.dn 1 rfl rfl)))
   ·
    obtain ⟨d7, d8⟩ := Bool.or_eq_false_iff.mp c5
    replace d7 := of_decide_eq_false d7
    replace d8 := of_decide_eq_false d8
    simp only [Bool.or_eq_false_iff, decide_eq_false_iff_not] at c5; have h0 : nB ((s.get! 0).toNat) ≠ 0 := (by omega); have hsz : nB ((s.get! 0).toNat) ≤ s.size := (by omega); have hcb := hnb.2 h0
    refine wp_skip (tn (wp_seq (wp_seq ?_)))
    refine gI a21 s19 ok20 (gC (Ty.int (1 : Int)) (gE ok20 fun a23 s21 ok22 D21 => ?_)); refine tn (wp_block ?_)
    refine loop (fun n1 a24 w3 => ∃ (t3 : GW) (j : Nat), t3.w = w3 ∧ FromL [] s0 t3 ∧ Ok 86 [] a24 ∧ At (Ty.nat (j + 1)) t3 a24 (.tmp 7) ∧ At (Ty.nat (accR s (cB ((s.get! 0).toNat)) j)) t3 a24 (.tmp 4) ∧ At (Ty.nat (nB ((s.get! 0).toNat))) t3 a24 (.tmp 5) ∧ At (Ty.nat (lowB ((s.get! 0).toNat))) t3 a24 (.tmp 6) ∧ At (Ty.val (Value.string s)) t3 a24 (.tmp 0) ∧ (j + 1 ≤ nB ((s.get! 0).toNat)) ∧ (∀ i, i < j → 128 ≤ (s.get! (i + 1)).toNat ∧ (s.get! (i + 1)).toNat < 192) ∧ n1 = nB ((s.get! 0).toNat) - j) (nB ((s.get! 0).toNat) - (0)) ?_ ?_
    ·
     exact ⟨s21, 0, rfl, (F20.step0 D21.stp), ok22, (cvi (by (rfl)) (D21.dn 0 rfl rfl)), (cvi (by (rfl)) (D21.kt (D19.kt q63 rfl) rfl)), (D21.kt (D19.kt q62 rfl) rfl), (D21.kt (D19.kt q64 rfl) rfl), (D21.kt (D19.kt q65 rfl) rfl), by omega, fun j hj => absurd hj (Nat.not_lt_zero j), rfl⟩
    ·
     rintro n2 a25 w4 ⟨t4, j, rfl, F23, ok23, q78, q79, q80, q81, q82, hj, hc, rfl⟩
     have hab := acc_bd (s := s) (c := cB ((s.get! 0).toNat)) (by omega) hc (by omega)
     have hbk := UInt8.toNat_lt (s.get! (j + 1))
     refine wp_seq (wp_seq ?_)
     refine gI a25 t4 ok23 (gM q78 (gM q80 (gS rfl (fun A B E G H d0 d1 => rP (y_lss (ed d0 rfl rfl rfl) (ed d1 rfl rfl rfl))) (gE ok23 fun a26 s22 ok24 D22 => ?_)))); have F24 := F23.step0 D22.stp; have q83 := D22.kt q78 rfl; have q84 := D22.kt q79 rfl; have q85 := D22.kt q80 rfl; have q86 := D22.kt q81 rfl; have q87 := D22.kt q82 rfl; refine tn ?_
     refine cond_p (p := ((((j + 1) : Nat) : Int) < (((nB ((s.get! 0).toNat)) : Nat) : Int))) (D22.dn 2 rfl rfl) (fun c6 => ?_) (fun c6 => ?_)
     ·
      refine wp_skip (tn (wp_seq (wp_block (wp_seq (wp_seq ?_)))))
      refine gI a26 s22 ok24 (gM q87 (gM q83 (gT (Ty.val (Value.int .u8 (((s.get! (j + 1)).toNat : Nat) : Int))) rfl (fun A B E G H d0 d1 => rP (y_sindex Tryz.underlying9 (ed d0 rfl rfl rfl) (ed d1 rfl rfl rfl) (by omega) (by omega))) (gS rfl (fun A B E G H d0 => rP (y_lss (ed d0 rfl rfl rfl) rfl)) (gS rfl (fun A B E G H d0 => rP (y_move (ed d0 rfl rfl rfl))) (gS rfl (fun A B E G H d0 => gu G (ed d0 rfl rfl rfl) fun hg => y_move (kp (H 0 rfl) E q87)) (gS rfl (fun A B E G H d0 => gu G (ed d0 rfl rfl rfl) fun hg => y_move (kp (H 7 rfl) E q83)) (gT (Ty.grd ((decide ((((s.get! (j + 1)).toNat : Nat) : Int) < (128 : Int))) = false) (Ty.val (Value.int .u8 (((s.get! (j + 1)).toNat : Nat) : Int)))) rfl (fun A B E G H d0 d1 d2 => guf G (ed d2 rfl rfl rfl) fun hg hp => y_sindex Tryz.underlying9 ((ed d0 rfl rfl rfl).1 hg) ((ed d1 rfl rfl rfl).1 hg) (by omega) (by omega)) (gS rfl (fun A B E G H d0 d1 => gu G (ed d1 rfl rfl rfl) fun hg => y_geq ((ed d0 rfl rfl rfl).1 hg) rfl) (gS rfl (fun A B E G H d0 d1 => rP (y_pick_or (ed d0 rfl rfl rfl) rfl (ed d1 rfl rfl rfl))) (gE ok24 fun a27 s23 ok25 D23 => ?_))))))))))); have F25 := F24.step0 D23.stp; have q89 := D23.kt q83 rfl; have q93 := D23.kt q87 rfl; refine tn ?_
      refine cond_t (D23.dn 9 rfl rfl) (fun c7 => ?_) (fun c7 => ?_)
      ·
       simp only [Bool.or_eq_true, decide_eq_true_eq] at c7
       refine wp_seq ?_
       refine gI a27 s23 ok25 (gC (Ty.int (-1 : Int)) (gC (Ty.int (1 : Int)) (gE ok25 fun a28 s24 ok26 D24 => ?_))); refine tn (wp_ret (tr (br (tr (tr (br (tr ?_)))))))
       exact retL2 rfl ok26 (F25.step0 D24.stp) (hasT2 (cvi (by (exact (rn_cont (j := j) (by omega) (by omega)).1.symm)) (D24.dn 0 rfl rfl)) (cvi (by (have := (rn_cont (s := s) (j := j) (by omega) (by omega)).2; omega)) (D24.dn 1 rfl rfl)))
      ·
       obtain ⟨d9, d10⟩ := Bool.or_eq_false_iff.mp c7
       replace d9 := of_decide_eq_false d9
       replace d10 := of_decide_eq_false d10
       simp only [Bool.or_eq_false_iff, decide_eq_false_iff_not] at c7
       refine wp_skip (tn ?_)
       refine gI a27 s23 ok25 (gM (D23.kt q84 rfl) (gT (Ty.nat ((accR s (cB ((s.get! 0).toNat)) j) * 64)) rfl (fun A B E G H d0 => rP ((y_mul (ed d0 rfl rfl rfl) rfl (w64 (by omega) (by omega))).mono (fun τ _ h => cvi (σ := τ) (by first | omega | exact (Int.natCast_mul _ _).symm) h))) (gM q93 (gM q89 (gT (Ty.val (Value.int .u8 (((s.get! (j + 1)).toNat : Nat) : Int))) rfl (fun A B E G H d0 d1 => rP (y_sindex Tryz.underlying9 (ed d0 rfl rfl rfl) (ed d1 rfl rfl rfl) (by omega) (by omega))) (gT (Ty.nat (s.get! (j + 1)).toNat) rfl (fun A B E G H d0 => rP (y_conv Tryz.underlying3 (ed d0 rfl rfl rfl) (by exact w64 (by omega) (by omega)) (by rw [Tryz.underlying5]; rfl))) (gT (Ty.nat (((accR s (cB ((s.get! 0).toNat)) j) * 64) + (s.get! (j + 1)).toNat)) rfl (fun A B E G H d0 d1 => rP ((y_add (ed d0 rfl rfl rfl) (ed d1 rfl rfl rfl) (w64 (by omega) (by omega))).mono (fun τ _ h => cvi (σ := τ) (by first | omega | exact (Int.natCast_mul _ _).symm) h))) (gT (Ty.int ((((((accR s (cB ((s.get! 0).toNat)) j) * 64) + (s.get! (j + 1)).toNat) : Nat) : Int) - (128 : Int))) rfl (fun A B E G H d0 => rP (y_sub (ed d0 rfl rfl rfl) rfl (w64 (by omega) (by omega)))) (gB 0 (gE ok25 fun a29 s25 ok27 D25 => ?_)))))))))); refine bn (tn ?_)
       refine gI a29 s25 ok27 (gM (D25.kt q89 rfl) (gT (Ty.nat ((j + 1) + 1)) rfl (fun A B E G H d0 => rP ((y_add (ed d0 rfl rfl rfl) rfl (w64 (by omega) (by omega))).mono (fun τ _ h => cvi (σ := τ) (by first | omega | exact (Int.natCast_mul _ _).symm) h))) (gB 0 (gE ok27 fun a30 s26 ok28 D26 => ?_))))
       have hac : accR s (cB ((s.get! 0).toNat)) (j + 1) = accR s (cB ((s.get! 0).toNat)) j * 64 + ((s.get! (j + 1)).toNat - 128) := rfl
       exact tn ⟨nB ((s.get! 0).toNat) - ((j + 1)), by omega, s26, (j + 1), rfl, ((F25.step0 D25.stp).step0 D26.stp), ok28, (cvi (by (first | rfl | omega | (simp_all; done) | (simp_all; omega))) (D26.dn 2 rfl rfl)), (cvi (by (first | rfl | omega | (simp_all; done) | (simp_all; omega))) (D26.kt (D25.dn 8 rfl rfl) rfl)), (D26.kt (D25.kt (D23.kt q85 rfl) rfl) rfl), (D26.kt (D25.kt (D23.kt q86 rfl) rfl) rfl), (D26.kt (D25.kt q93 rfl) rfl), by omega, acc_snoc hc (by omega) (by omega), rfl⟩
     ·
      have hje : j + 1 = nB ((s.get! 0).toNat) := (by omega)
      refine wp_exit (tx (tx (bx (tn (wp_seq (wp_seq ?_))))))
      refine gI a26 s22 ok24 (gM q84 (gM q86 (gS rfl (fun A B E G H d0 d1 => rP (y_lss (ed d0 rfl rfl rfl) (ed d1 rfl rfl rfl))) (gS rfl (fun A B E G H d0 => rP (y_move (ed d0 rfl rfl rfl))) (gS rfl (fun A B E G H d0 => gu G (ed d0 rfl rfl rfl) fun hg => y_move (kp (H 4 rfl) E q84)) (gS rfl (fun A B E G H d0 d1 => gu G (ed d1 rfl rfl rfl) fun hg => y_gtr ((ed d0 rfl rfl rfl).1 hg) rfl) (gS rfl (fun A B E G H d0 d1 => rP (y_pick_or (ed d0 rfl rfl rfl) rfl (ed d1 rfl rfl rfl))) (gS rfl (fun A B E G H d0 d1 => rP (y_move (ed d0 rfl rfl rfl))) (gT (Ty.grd (((decide ((((accR s (cB ((s.get! 0).toNat)) j) : Nat) : Int) < (((lowB ((s.get! 0).toNat)) : Nat) : Int))) || (decide ((1114111 : Int) < (((accR s (cB ((s.get! 0).toNat)) j) : Nat) : Int)))) = false) (Ty.nat (accR s (cB ((s.get! 0).toNat)) j))) rfl (by intro A B E G H d0; refine run_guard G rfl rfl (by decide) (ed d0 rfl rfl rfl) (fun hg => ?_); obtain ⟨d11, d12⟩ := Bool.or_eq_false_iff.mp hg; have d11 := of_decide_eq_false d11; have d12 := of_decide_eq_false d12; exact y_move (kp (H 4 rfl) E q84)) (gT (Ty.grd (((decide ((((accR s (cB ((s.get! 0).toNat)) j) : Nat) : Int) < (((lowB ((s.get! 0).toNat)) : Nat) : Int))) || (decide ((1114111 : Int) < (((accR s (cB ((s.get! 0).toNat)) j) : Nat) : Int)))) = false) (Ty.bool (decide ((55296 : Int) ≤ (((accR s (cB ((s.get! 0).toNat)) j) : Nat) : Int))))) rfl (by intro A B E G H d0 d1; refine run_guard G rfl rfl (by decide) (ed d1 rfl rfl rfl) (fun hg => ?_); obtain ⟨d13, d14⟩ := Bool.or_eq_false_iff.mp hg; have d13 := of_decide_eq_false d13; have d14 := of_decide_eq_false d14; exact y_geq ((ed d0 rfl rfl rfl).1 hg) rfl) ?_))))))))))
      refine gT (Ty.grd (((decide ((((accR s (cB ((s.get! 0).toNat)) j) : Nat) : Int) < (((lowB ((s.get! 0).toNat)) : Nat) : Int))) || (decide ((1114111 : Int) < (((accR s (cB ((s.get! 0).toNat)) j) : Nat) : Int)))) = false) (Ty.bool (decide ((55296 : Int) ≤ (((accR s (cB ((s.get! 0).toNat)) j) : Nat) : Int))))) rfl (by intro A B E G H d0 d1 d2; refine run_guard G rfl rfl (by decide) (ed d1 rfl rfl rfl) (fun hg => ?_); obtain ⟨d15, d16⟩ := Bool.or_eq_false_iff.mp hg; have d15 := of_decide_eq_false d15; have d16 := of_decide_eq_false d16; exact y_move ((ed d0 rfl rfl rfl).1 hg)) (gS rfl (fun A B E G H d0 => gu2 G (ed d0 rfl rfl rfl) fun hg => y_move (kp (H 4 rfl) E q84)) (gS rfl (fun A B E G H d0 d1 => gu2 G (ed d1 rfl rfl rfl) fun hg => y_lss ((ed d0 rfl rfl rfl).1 hg) rfl) (gT (Ty.grd (((decide ((((accR s (cB ((s.get! 0).toNat)) j) : Nat) : Int) < (((lowB ((s.get! 0).toNat)) : Nat) : Int))) || (decide ((1114111 : Int) < (((accR s (cB ((s.get! 0).toNat)) j) : Nat) : Int)))) = false) (Ty.bool ((decide ((55296 : Int) ≤ (((accR s (cB ((s.get! 0).toNat)) j) : Nat) : Int))) && (decide ((((accR s (cB ((s.get! 0).toNat)) j) : Nat) : Int) < (57344 : Int)))))) rfl (by intro A B E G H d0 d1 d2; refine run_guard G rfl rfl (by decide) (ed d2 rfl rfl rfl) (fun hg => ?_); obtain ⟨d17, d18⟩ := Bool.or_eq_false_iff.mp hg; have d17 := of_decide_eq_false d17; have d18 := of_decide_eq_false d18; exact y_pick_and ((ed d0 rfl rfl rfl).1 hg) (grd_part hg (ed d1 rfl rfl rfl)) rfl) (gS rfl (fun A B E G H d0 d1 => rP (y_pick_or (ed d0 rfl rfl rfl) rfl (ed d1 rfl rfl rfl))) (gE ok24 fun a31 s27 ok29 D27 => ?_))))); have F29 := F24.step0 D27.stp; refine tn ?_
      refine cond_t (D27.dn 14 rfl rfl) (fun c8 => ?_) (fun c8 => ?_)
      ·
       simp only [Bool.or_eq_true, Bool.and_eq_true, decide_eq_true_eq] at c8
       refine wp_seq ?_
       refine gI a31 s27 ok29 (gC (Ty.int (-1 : Int)) (gC (Ty.int (1 : Int)) (gE ok29 fun a32 s28 ok30 D28 => ?_))); refine tn (wp_ret (tr ?_))
       exact retL2 rfl ok30 (F29.step0 D28.stp) (hasT2 (cvi (by (exact (rn_bad h0 hsz hje hc (by omega)).1.symm)) (D28.dn 0 rfl rfl)) (cvi (by (have := (rn_bad h0 hsz hje hc (by omega)).2; omega)) (D28.dn 1 rfl rfl)))
      ·
       obtain ⟨d19, d20⟩ := Bool.or_eq_false_iff.mp c8
       obtain ⟨d21, d22⟩ := Bool.or_eq_false_iff.mp d19
       replace d21 := of_decide_eq_false d21
       replace d22 := of_decide_eq_false d22
       simp only [Bool.or_eq_false_iff, Bool.and_eq_false_iff, decide_eq_false_iff_not] at c8
       refine wp_skip (tn (wp_seq ?_))
       refine gI a31 s27 ok29 (gM (D27.kt q84 rfl) (gM (D27.kt q85 rfl) (gB 0 (gB 0 (gE ok29 fun a33 s29 ok31 D29 => ?_))))); refine tn (wp_ret ?_)
       exact retL2 rfl ok31 (F29.step0 D29.stp) (hasT2 (cvi (by (exact (rn_ok h0 hsz hje hc (by omega)).1.symm)) (D29.dn 2 rfl rfl)) (cvi (by (have := (rn_ok h0 hsz hje hc (by omega)).2; omega)) (D29.dn 3 rfl rfl)))

theorem Tryz.inf3 : Info Tryz.prog 3 (.int .i64 0) 1 8 := by unfold Info; kernel_rfl
set_option maxHeartbeats 4000000 in
set_option maxRecDepth 100000 in
theorem rRunes_fn (s : ByteArray) (σ : GW)  (v0 : Value) (hv0 : Ty.has (Ty.val (Value.string s)) σ v0)  (E : s.size ≤ 17592186044416) :
    FnC Tryz.prog 28 #[v0] σ (Ty.lst Ty.int (runsL s)) := by
 refine fn_intro0 Tryz.func28 rfl Tryz.ntmps28 (Nat.le_of_ble_eq_true rfl) (fun s0 a0 hle F0 ok0 hargs => ?_)
 have p0 := pA hle (hargs 0 _ rfl) hv0
 clear hargs; refine wp_seq ?_
 refine gI a0 s0 ok0 (gC (Ty.val (Value.slice none 0 0)) (gE ok0 fun a1 s1 ok1 D1 => ?_)); refine tn (wp_seq ?_)
 refine gI a1 s1 ok1 (gC (Ty.val (Value.slice none 0 0)) (gE ok1 fun a2 s2 ok2 D2 => ?_)); refine tn (wp_seq (wp_block ?_))
 have o1 : Own s2 5 3 1 (Value.slice none 0 0) 0 (List.map Ty.int ([] : List Int)) := Own.nil _ _ _ _
 refine loop (fun n1 a3 w1 => ∃ (t1 : GW) (p : Nat) (f : Nat) (xs : List Int) (x3_0 : Value), t1.w = w1 ∧ FromL [] s0 t1 ∧ Ok 22 [] a3 ∧ At (Ty.val (Value.string (ByteArray.extract s p (ByteArray.size s)))) t1 a3 (.tmp 0) ∧ At (Ty.val x3_0) t1 a3 (.tmp 3) ∧ Own t1 5 3 1 x3_0 (List.length xs) (List.map Ty.int xs) ∧ (xs ++ runsF s f p = runsL s) ∧ (s.size ≤ f + p) ∧ (p ≤ s.size) ∧ (xs.length ≤ p) ∧ n1 = s.size + 1 - p) (s.size + 1 - (0)) ?_ ?_
 ·
  exact ⟨s2, 0, s.size, ([] : List Int), (Value.slice none 0 0), rfl, ((F0.step0 D1.stp).step0 D2.stp), ok2, (cvt (by (rw [ByteArray.extract_zero_size])) (D2.kt (D1.kt p0 rfl) rfl)), (D2.dn 0 rfl rfl), (cvo (by (simp)) (by (simp)) o1), rfl, by omega, by omega, by simp, rfl⟩
 ·
  rintro n2 a4 w2 ⟨t2, p, f, xs, x3_0, rfl, F3, ok3, q4, q5, o2, heq, hf, hp, hx, rfl⟩
  have hez : (ByteArray.extract s p (ByteArray.size s)).size = s.size - p := by rw [ByteArray.size_extract]; omega
  have hw := wid_pos s p
  have her := ext_run s p
  refine wp_seq (wp_seq ?_)
  refine gI a4 t2 ok3 (gM q4 (gT (Ty.nat (ByteArray.size (ByteArray.extract s p (ByteArray.size s)))) rfl (fun A B E G H d0 => rP (y_len_str Tryz.underlying9 (ed d0 rfl rfl rfl))) (gS rfl (fun A B E G H d0 => rP (y_gtr (ed d0 rfl rfl rfl) rfl)) (gE ok3 fun a5 s3 ok4 D3 => ?_)))); have F4 := F3.step0 D3.stp; have q6 := D3.kt q4 rfl; have q7 := D3.kt q5 rfl; have o3 := Own.k0 o2 D3.stp; refine tn ?_
  refine cond_p (p := ((0 : Int) < (((ByteArray.size (ByteArray.extract s p (ByteArray.size s))) : Nat) : Int))) (D3.dn 2 rfl rfl) (fun c1 => ?_) (fun c1 => ?_)
  ·
   have hwi := wid_in (s := s) (p := p) (by omega)
   refine wp_skip (tn (wp_block (wp_seq ?_)))
   refine gI a5 s3 ok4 (gM q6 (gT (Ty.tup2 (Ty.int (runM s p)) (Ty.nat (wid s p))) rfl (fun A B E G H d0 => rP ((y_call _ Tryz.func47 rfl rfl my1 (rRuneAt_fn ((ByteArray.extract s p (ByteArray.size s))) _ _ (ed d0 rfl rfl rfl) (by omega))).mono (fun τ _ h => cvt (σ := τ) (T := (Ty.tup2 (Ty.int (runM ((ByteArray.extract s p (ByteArray.size s))) 0)) (Ty.nat (wid ((ByteArray.extract s p (ByteArray.size s))) 0)))) (U := (Ty.tup2 (Ty.int (runM s p)) (Ty.nat (wid s p)))) (by rw [her.1, her.2]) h))) (gS rfl (fun A B E G H d0 => rP (y_move (ed d0 rfl rfl rfl))) (gT (Ty.int (runM s p)) rfl (fun A B E G H d0 => rP (y_ext2_0 (ed d0 rfl rfl rfl))) (gT (Ty.nat (wid s p)) rfl (fun A B E G H d0 d1 => rP (y_ext2_1 (ed d0 rfl rfl rfl))) (gB 0 (gB 0 (gE ok4 fun a6 s4 ok5 D4 => ?_)))))))); have q10 := D4.kt q7 rfl; have o4 := Own.k0 o3 D4.stp; refine tn (wp_seq ?_)
   refine gI a6 s4 ok5 (gM q10 (gM (D4.dn 5 rfl rfl) (gT (Ty.sl 1 1 [(Ty.int (runM s p))]) rfl (fun A B E G H d0 => rP (y_build1o Tryz.underlying30 Tryz.inf3 rfl (one_val rfl) (ed d0 rfl rfl rfl))) (gE2 ok5 fun a7 s5 ok6 D5 => ?_)))); have o5 := Own.k0 o4 D5.stp
   have q16 : At (Ty.val x3_0) s5 a7 (.tmp 14) := D5.done 0 (by decide)
   have q17 := D5.dn 2 (by decide) rfl rfl
   have b1 := sl_le q17
   refine tL ok6 (YldM.toL (m_append Tryz.underlying30 Tryz.inf3 (by decide) rfl (by decide) (al (R := (Pr.own 5 3 1 (List.length xs) (List.map Ty.int xs))) q16 o5) q17 (by intro U hU; simp at hU; subst hU; exact one_val rfl) (by omega) (by omega))) fun a8 s6 hs1 ok7 r1 sm1 => ?_
   have F7 := ((F4.step0 D4.stp).step0 D5.stp).stepL hs1 (by decide); have q18 := kpL hs1 (by decide) (sm1 0 (by decide)) (D5.kt (D4.kt q6 rfl) rfl); have q19 := kpL hs1 (by decide) (sm1 3 (by decide)) (D5.kt q10 rfl); have q20 := kpL hs1 (by decide) (sm1 5 (by decide)) (D5.kt (D4.dn 6 rfl rfl) rfl)
   obtain ⟨x1, hx1⟩ : ∃ x, a8.eval (.tmp 17) = x := ⟨_, rfl⟩
   have q21 : At (Ty.val x1) s6 a8 (.tmp 17) := hx1
   have o6 := al2 (R := (Pr.own 5 3 1 (List.length (xs ++ [(runM s p)])) (List.map Ty.int (xs ++ [(runM s p)])))) hx1 (cvo (by simp) (by first | (rw [List.map_append]; rfl) | simp) r1)
   clear r1
   refine tL ok7 (Yld.toL (y_as q21)) fun a9 s7 hs2 ok8 r2 sm2 => ?_
   have F8 := F7.stepL hs2 (by decide); have q22 := kpL hs2 (by decide) (sm2 0 (by decide)) q18; have q23 := kpL hs2 (by decide) (sm2 5 (by decide)) q20; have o7 := Own.keepL o6 hs2 (by decide) (by decide)
   have q24 : At (Ty.val x1) s7 a9 (.tmp 3) := r2
   clear r2; refine wpList_nil (tn ?_)
   refine gI a9 s7 ok8 (gM q22 (gM q23 (gT (Ty.val (Value.string (ByteArray.extract (ByteArray.extract s p (ByteArray.size s)) (wid s p) (ByteArray.size (ByteArray.extract s p (ByteArray.size s)))))) rfl (fun A B E G H d0 d1 => rP (y_sfrom (l := (wid s p)) Tryz.underlying9 (ed d0 rfl rfl rfl) (ed d1 rfl rfl rfl) (by omega))) (gB 0 (gE ok8 fun a10 s8 ok9 D6 => ?_))))); have o8 := Own.k0 o7 D6.stp; refine bn ?_
   exact tn ⟨s.size + 1 - ((p + wid s p)), by omega, s8, (p + wid s p), (f - 1), (xs ++ [runM s p]), x1, rfl, (F8.step0 D6.stp), ok9, (cvt (by (rw [ext_ext hwi])) (D6.dn 3 rfl rfl)), (D6.kt q24 rfl), (cvo (by (simp)) (by (simp)) o8), runsF_step heq (by omega) (by omega), by omega, by omega, by simp; omega, rfl⟩
  ·
   refine wp_exit (tx (tx (bx (tn (wp_seq ?_)))))
   refine gI a5 s3 ok4 (gM q7 (gB 0 (gE ok4 fun a11 s9 ok10 D7 => ?_))); have o9 := Own.k0 o3 D7.stp
   have q27 : At (Ty.val x3_0) s9 a11 (.tmp 2) := D7.done 1
   refine tn (wp_ret ?_)
   obtain ⟨t3, e1, h1, q28⟩ := Own.seal o9 (by decide)
   rw [← e1]
   have F11 := (F4.step0 D7.stp).step h1 (by decide)
   have q29 : At (Ty.lst Ty.int xs) t3 a11 (.tmp 2) := by have e : a11.eval (.tmp 2) = x3_0 := q27; show Ty.has _ _ _; rw [e]; exact q28
   exact retL1 rfl ok10 F11 (cvt (by (rw [runsF_end (by omega), List.append_nil] at heq; rw [heq])) q29)


end Go.Proofs.YtdjihbjikpbhgaaGreatDoor
