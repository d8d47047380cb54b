/- The functions that the law TopFalse reaches, each by its contract. Part 1. -/
import Derived.Test.YtbilebfnanlgfaaTopFalseK1
import Derived.Test.YtbilebfnanlgfaaTopFalseK2
import Derived.Test.YtbilebfnanlgfaaTopFalseSortLD
import Derived.Test.YtbilebfnanlgfaaProg
namespace Go.Proofs.Ytbilebfnanlgfaa
open Go.KL
theorem Try.inf3 : Info Try.prog 3 (.int .i64 0) 1 8 := by unfold Info; kernel_rfl
theorem Try.inf23 : Info Try.prog 23 (.slice none 0 0) 1 24 := by unfold Info; kernel_rfl
theorem Try.inf31 : Info Try.prog 31 (.agg #[.string ByteArray.empty, .int .i64 0, .slice none 0 0]) 3 48 := by unfold Info; kernel_rfl
set_option maxHeartbeats 4000000 in
set_option maxRecDepth 100000 in
theorem hunt_fn  (σ : GW)      :
    FnC Try.prog 38 #[] σ (Ty.agg [(Ty.val (Value.string bHunt)), (Ty.int (4 : Int)), (Ty.lst Ty.ints lHunt)]) := by
 refine fn_intro0 Try.func38 rfl Try.ntmps38 (Nat.le_of_ble_eq_true rfl) (fun s0 a0 hle F0 ok0 hargs => ?_)
 clear hargs; refine wp_seq ?_
 refine reg (a := a0) (σ := s0) rfl (fun i_ => List.getD [(Pr.ownp 5 [(Ty.val (Value.string ByteArray.empty)), (Ty.int (0 : Int)), (Ty.val (Value.slice none 0 0))])] i_ Pr.any) ok0 rfl ⟨?_, trivial⟩ ?_
 · intro A B E G H; exact rP (y_alloc Try.inf31 rfl (alloc_vals (vs := [.string ByteArray.empty, .int .i64 0, .slice none 0 0]) rfl))
 intro a1 s1 D1; have ok1 := D1.ok; have F1 := F0.step0 D1.stp
 obtain ⟨x1, hx1⟩ : ∃ x, a1.eval (.tmp 0) = x := ⟨_, rfl⟩
 have q1 : At (Ty.val x1) s1 a1 (.tmp 0) := hx1
 have o1 : OwnP s1 5 x1 [(Ty.val (Value.string ByteArray.empty)), (Ty.int (0 : Int)), (Ty.val (Value.slice none 0 0))] := al2 (R := (Pr.ownp 5 [(Ty.val (Value.string ByteArray.empty)), (Ty.int (0 : Int)), (Ty.val (Value.slice none 0 0))])) hx1 (D1.done 0)
 clear D1; refine tn ?_; refine wp_seq ?_
 refine reg2 (a := a1) (σ := s1) rfl 3 (fun i_ => List.getD [(Ty.pr (Ty.sl 1 2 [(Ty.int (1 : Int)), (Ty.int (4 : Int))])), (Ty.pr (Ty.sl 1 2 [(Ty.lst Ty.int ([] : (List Int))), (Ty.sl 1 2 [(Ty.int (1 : Int)), (Ty.int (4 : Int))])])), (Ty.pr (Ty.agg [(Ty.val (Value.string (ByteArray.mk #[80, 108, 97, 105, 110, 32, 72, 117, 110, 116]))), (Ty.int (4 : Int)), (Ty.sl 1 2 [(Ty.lst Ty.int ([] : (List Int))), (Ty.sl 1 2 [(Ty.int (1 : Int)), (Ty.int (4 : Int))])])]))] i_ Pr.any) ok1 rfl (by decide) rfl ⟨?_, ?_, ?_, trivial⟩ ?_
 · intro A B E G H; exact rP (y_build2 Try.underlying23 Try.inf3 rfl (one_val rfl) (one_val rfl) rfl rfl)
 · intro A B E G H d0; exact rP (y_build2 Try.underlying29 Try.inf23 rfl (one_sl) (one_sl) (nil_lst rfl rfl) (ed d0 rfl rfl rfl))
 · intro A B E G H d0; exact rP (y_bld [(0, ((Operand.const (Value.string (ByteArray.mk #[80, 108, 97, 105, 110, 32, 72, 117, 110, 116])))), (Ty.val (Value.string (ByteArray.mk #[80, 108, 97, 105, 110, 32, 72, 117, 110, 116])))), (1, ((Operand.const (Value.int IntKind.i64 4))), (Ty.int (4 : Int))), (2, (.tmp 2), (Ty.sl 1 2 [(Ty.lst Ty.int ([] : (List Int))), (Ty.sl 1 2 [(Ty.int (1 : Int)), (Ty.int (4 : Int))])]))] [(Ty.val (Value.string ByteArray.empty)), (Ty.int (0 : Int)), (Ty.val (Value.slice none 0 0))] (l := [(0, 1), (1, 1), (2, 1)]) rfl Try.inf31 rfl (alloc_vals (vs := [.string ByteArray.empty, .int .i64 0, .slice none 0 0]) rfl) rfl (by intro p hp; simp only [List.mem_cons, List.not_mem_nil, or_false] at hp; rcases hp with rfl | rfl | rfl; exact ⟨one_val rfl, rfl⟩; exact ⟨one_val rfl, rfl⟩; exact ⟨one_sl, (ed d0 rfl rfl rfl)⟩))
 intro a2 s2 D2; have ok2 := D2.ok; have F2 := F1.step0 D2.stp; have q2 := D2.kt q1 rfl; have o2 := OwnP.k0 o1 D2.stp; have q3 := D2.dn 2 (by decide) rfl rfl; clear D2
 refine tailL0 (L := [5]) (R := (fun _ τ => OwnP τ 5 x1 [(Ty.val (Value.string (ByteArray.mk #[80, 108, 97, 105, 110, 32, 72, 117, 110, 116]))), (Ty.int (4 : Int)), (Ty.sl 1 2 [(Ty.lst Ty.int ([] : (List Int))), (Ty.sl 1 2 [(Ty.int (1 : Int)), (Ty.int (4 : Int))])])])) rfl rfl (YldM.toL (m_storeagg Try.inf31 (by decide) o2 q2 rfl q3 (by intro U hU; simp only [List.mem_cons, List.not_mem_nil, or_false] at hU; rcases hU with rfl | rfl | rfl <;> first | exact one_val rfl | exact one_sl | exact one_ref))) (fun v1 s3 hs1 r1 => ?_)
 have F3 := F2.stepL hs1 (by decide); have q4 := kpL hs1 (by decide) rfl q2
 have o3 : OwnP s3 5 x1 [(Ty.val (Value.string (ByteArray.mk #[80, 108, 97, 105, 110, 32, 72, 117, 110, 116]))), (Ty.int (4 : Int)), (Ty.sl 1 2 [(Ty.lst Ty.int ([] : (List Int))), (Ty.sl 1 2 [(Ty.int (1 : Int)), (Ty.int (4 : Int))])])] := r1
 clear r1; refine wpList_nil ?_; refine tn ?_; refine wp_ret ?_
 have o4 : OwnP s3 5 x1 [(Ty.val (Value.string (ByteArray.mk #[80, 108, 97, 105, 110, 32, 72, 117, 110, 116]))), (Ty.int (4 : Int)), (Ty.sl 1 2 [(Ty.lst Ty.int ([] : (List Int))), (Ty.sl 1 2 [(Ty.int (1 : Int)), (Ty.int (4 : Int))])])] := o3
 have o5 : OwnP s3 5 x1 [(Ty.val (Value.string bHunt)), (Ty.int (4 : Int)), (Ty.sl 1 2 [(Ty.lst Ty.int ([] : (List Int))), (Ty.sl 1 2 [(Ty.int (1 : Int)), (Ty.int (4 : Int))])])] := cvop (by rw [show (Ty.val (Value.string (ByteArray.mk #[80, 108, 97, 105, 110, 32, 72, 117, 110, 116]))) = (Ty.val (Value.string bHunt)) from by (first | rfl | omega | (simp_all; done))]) o4
 have o6 : OwnP s3 5 x1 [(Ty.val (Value.string bHunt)), (Ty.int (4 : Int)), (Ty.lst Ty.ints lHunt)] := cvop (by rw [show (Ty.sl 1 2 [(Ty.lst Ty.int ([] : (List Int))), (Ty.sl 1 2 [(Ty.int (1 : Int)), (Ty.int (4 : Int))])]) = (Ty.lst Ty.ints lHunt) from by (first | rfl | omega | (simp_all; done))]) o5
 exact retL1c (k := 5) (ts := [(Ty.val (Value.string bHunt)), (Ty.int (4 : Int)), (Ty.lst Ty.ints lHunt)]) rfl ok2 F3 Try.underlying31 Try.inf31 (al (R := (Pr.ownp 5 [(Ty.val (Value.string bHunt)), (Ty.int (4 : Int)), (Ty.lst Ty.ints lHunt)])) q4 o6) (fun v_ hv_ => hv_)


set_option maxRecDepth 100000 in
theorem letter_fn (c : Int) (σ : GW) (v0 : Value) (hv0 : Ty.has (Ty.val (Value.int .i32 c)) σ v0)  :
    FnC Try.prog 117 #[v0] σ (Ty.bool (letterB c)) := by
 refine fn_intro Try.func117 rfl Try.ntmps117 (Nat.le_of_ble_eq_true rfl) (fun s0 a0 hle F0 ok0 hargs => ?_)
 have p0 : At (Ty.val (Value.int .i32 c)) s0 a0 (.tmp 0) := by have e := hargs 0 _ rfl; show Ty.has _ _ _; rw [e]; exact Ty.up _ hle hv0
 clear hargs; refine wp_seq ?_
 refine rg a0 s0 [(Ty.bool false)] ok0 ⟨?_, trivial⟩ ?_
 · intro A B E G H; exact rP (y_assign rfl)
 intro a1 s1 D1; have ok1 := D1.ok; have F1 := F0.step0 D1.stp; have q1 := D1.kt p0 rfl; clear D1; refine tn ?_; refine wp_seq ?_
 refine rg a1 s1 [(Ty.val (Value.int .i32 c)), (Ty.bool (decide ((65 : Int) ≤ c))), (Ty.bool (decide ((65 : Int) ≤ c))), (Ty.grd ((decide ((65 : Int) ≤ c)) = true) (Ty.val (Value.int .i32 c))), (Ty.grd ((decide ((65 : Int) ≤ c)) = true) (Ty.bool (decide (c ≤ (90 : Int))))), (Ty.bool ((decide ((65 : Int) ≤ c)) && (decide (c ≤ (90 : Int))))), (Ty.bool ((decide ((65 : Int) ≤ c)) && (decide (c ≤ (90 : Int))))), (Ty.grd (((decide ((65 : Int) ≤ c)) && (decide (c ≤ (90 : Int)))) = false) (Ty.val (Value.int .i32 c))), (Ty.grd (((decide ((65 : Int) ≤ c)) && (decide (c ≤ (90 : Int)))) = false) (Ty.bool (decide ((97 : Int) ≤ c)))), (Ty.grd (((decide ((65 : Int) ≤ c)) && (decide (c ≤ (90 : Int)))) = false) (Ty.bool (decide ((97 : Int) ≤ c)))), (Ty.grd ((((decide ((65 : Int) ≤ c)) && (decide (c ≤ (90 : Int)))) = false) ∧ (decide ((97 : Int) ≤ c)) = true) (Ty.val (Value.int .i32 c))), (Ty.grd ((((decide ((65 : Int) ≤ c)) && (decide (c ≤ (90 : Int)))) = false) ∧ (decide ((97 : Int) ≤ c)) = true) (Ty.bool (decide (c ≤ (122 : Int))))), (Ty.grd (((decide ((65 : Int) ≤ c)) && (decide (c ≤ (90 : Int)))) = false) (Ty.bool ((decide ((97 : Int) ≤ c)) && (decide (c ≤ (122 : Int)))))), (Ty.bool (((decide ((65 : Int) ≤ c)) && (decide (c ≤ (90 : Int)))) || ((decide ((97 : Int) ≤ c)) && (decide (c ≤ (122 : Int)))))), (Ty.bool (((decide ((65 : Int) ≤ c)) && (decide (c ≤ (90 : Int)))) || ((decide ((97 : Int) ≤ c)) && (decide (c ≤ (122 : Int)))))), (Ty.grd ((((decide ((65 : Int) ≤ c)) && (decide (c ≤ (90 : Int)))) || ((decide ((97 : Int) ≤ c)) && (decide (c ≤ (122 : Int))))) = false) (Ty.val (Value.int .i32 c))), (Ty.grd ((((decide ((65 : Int) ≤ c)) && (decide (c ≤ (90 : Int)))) || ((decide ((97 : Int) ≤ c)) && (decide (c ≤ (122 : Int))))) = false) (Ty.bool (decide ((48 : Int) ≤ c)))), (Ty.grd ((((decide ((65 : Int) ≤ c)) && (decide (c ≤ (90 : Int)))) || ((decide ((97 : Int) ≤ c)) && (decide (c ≤ (122 : Int))))) = false) (Ty.bool (decide ((48 : Int) ≤ c)))), (Ty.grd (((((decide ((65 : Int) ≤ c)) && (decide (c ≤ (90 : Int)))) || ((decide ((97 : Int) ≤ c)) && (decide (c ≤ (122 : Int))))) = false) ∧ (decide ((48 : Int) ≤ c)) = true) (Ty.val (Value.int .i32 c))), (Ty.grd (((((decide ((65 : Int) ≤ c)) && (decide (c ≤ (90 : Int)))) || ((decide ((97 : Int) ≤ c)) && (decide (c ≤ (122 : Int))))) = false) ∧ (decide ((48 : Int) ≤ c)) = true) (Ty.bool (decide (c ≤ (57 : Int))))), (Ty.grd ((((decide ((65 : Int) ≤ c)) && (decide (c ≤ (90 : Int)))) || ((decide ((97 : Int) ≤ c)) && (decide (c ≤ (122 : Int))))) = false) (Ty.bool ((decide ((48 : Int) ≤ c)) && (decide (c ≤ (57 : Int)))))), (Ty.bool ((((decide ((65 : Int) ≤ c)) && (decide (c ≤ (90 : Int)))) || ((decide ((97 : Int) ≤ c)) && (decide (c ≤ (122 : Int))))) || ((decide ((48 : Int) ≤ c)) && (decide (c ≤ (57 : Int)))))), (Ty.bool ((((decide ((65 : Int) ≤ c)) && (decide (c ≤ (90 : Int)))) || ((decide ((97 : Int) ≤ c)) && (decide (c ≤ (122 : Int))))) || ((decide ((48 : Int) ≤ c)) && (decide (c ≤ (57 : Int)))))), (Ty.grd (((((decide ((65 : Int) ≤ c)) && (decide (c ≤ (90 : Int)))) || ((decide ((97 : Int) ≤ c)) && (decide (c ≤ (122 : Int))))) || ((decide ((48 : Int) ≤ c)) && (decide (c ≤ (57 : Int))))) = false) (Ty.val (Value.int .i32 c))), (Ty.grd (((((decide ((65 : Int) ≤ c)) && (decide (c ≤ (90 : Int)))) || ((decide ((97 : Int) ≤ c)) && (decide (c ≤ (122 : Int))))) || ((decide ((48 : Int) ≤ c)) && (decide (c ≤ (57 : Int))))) = false) (Ty.bool (decide (c = (32 : Int))))), (Ty.bool (((((decide ((65 : Int) ≤ c)) && (decide (c ≤ (90 : Int)))) || ((decide ((97 : Int) ≤ c)) && (decide (c ≤ (122 : Int))))) || ((decide ((48 : Int) ≤ c)) && (decide (c ≤ (57 : Int))))) || (decide (c = (32 : Int))))), (Ty.bool (((((decide ((65 : Int) ≤ c)) && (decide (c ≤ (90 : Int)))) || ((decide ((97 : Int) ≤ c)) && (decide (c ≤ (122 : Int))))) || ((decide ((48 : Int) ≤ c)) && (decide (c ≤ (57 : Int))))) || (decide (c = (32 : Int))))), (Ty.grd ((((((decide ((65 : Int) ≤ c)) && (decide (c ≤ (90 : Int)))) || ((decide ((97 : Int) ≤ c)) && (decide (c ≤ (122 : Int))))) || ((decide ((48 : Int) ≤ c)) && (decide (c ≤ (57 : Int))))) || (decide (c = (32 : Int)))) = false) (Ty.val (Value.int .i32 c))), (Ty.grd ((((((decide ((65 : Int) ≤ c)) && (decide (c ≤ (90 : Int)))) || ((decide ((97 : Int) ≤ c)) && (decide (c ≤ (122 : Int))))) || ((decide ((48 : Int) ≤ c)) && (decide (c ≤ (57 : Int))))) || (decide (c = (32 : Int)))) = false) (Ty.bool (decide ((192 : Int) ≤ c)))), (Ty.grd ((((((decide ((65 : Int) ≤ c)) && (decide (c ≤ (90 : Int)))) || ((decide ((97 : Int) ≤ c)) && (decide (c ≤ (122 : Int))))) || ((decide ((48 : Int) ≤ c)) && (decide (c ≤ (57 : Int))))) || (decide (c = (32 : Int)))) = false) (Ty.bool (decide ((192 : Int) ≤ c)))), (Ty.grd (((((((decide ((65 : Int) ≤ c)) && (decide (c ≤ (90 : Int)))) || ((decide ((97 : Int) ≤ c)) && (decide (c ≤ (122 : Int))))) || ((decide ((48 : Int) ≤ c)) && (decide (c ≤ (57 : Int))))) || (decide (c = (32 : Int)))) = false) ∧ (decide ((192 : Int) ≤ c)) = true) (Ty.val (Value.int .i32 c))), (Ty.grd (((((((decide ((65 : Int) ≤ c)) && (decide (c ≤ (90 : Int)))) || ((decide ((97 : Int) ≤ c)) && (decide (c ≤ (122 : Int))))) || ((decide ((48 : Int) ≤ c)) && (decide (c ≤ (57 : Int))))) || (decide (c = (32 : Int)))) = false) ∧ (decide ((192 : Int) ≤ c)) = true) (Ty.bool (decide (c ≤ (382 : Int))))), (Ty.grd ((((((decide ((65 : Int) ≤ c)) && (decide (c ≤ (90 : Int)))) || ((decide ((97 : Int) ≤ c)) && (decide (c ≤ (122 : Int))))) || ((decide ((48 : Int) ≤ c)) && (decide (c ≤ (57 : Int))))) || (decide (c = (32 : Int)))) = false) (Ty.bool ((decide ((192 : Int) ≤ c)) && (decide (c ≤ (382 : Int)))))), (Ty.grd ((((((decide ((65 : Int) ≤ c)) && (decide (c ≤ (90 : Int)))) || ((decide ((97 : Int) ≤ c)) && (decide (c ≤ (122 : Int))))) || ((decide ((48 : Int) ≤ c)) && (decide (c ≤ (57 : Int))))) || (decide (c = (32 : Int)))) = false) (Ty.bool ((decide ((192 : Int) ≤ c)) && (decide (c ≤ (382 : Int)))))), (Ty.grd (((((((decide ((65 : Int) ≤ c)) && (decide (c ≤ (90 : Int)))) || ((decide ((97 : Int) ≤ c)) && (decide (c ≤ (122 : Int))))) || ((decide ((48 : Int) ≤ c)) && (decide (c ≤ (57 : Int))))) || (decide (c = (32 : Int)))) = false) ∧ ((decide ((192 : Int) ≤ c)) && (decide (c ≤ (382 : Int)))) = true) (Ty.val (Value.int .i32 c))), (Ty.grd (((((((decide ((65 : Int) ≤ c)) && (decide (c ≤ (90 : Int)))) || ((decide ((97 : Int) ≤ c)) && (decide (c ≤ (122 : Int))))) || ((decide ((48 : Int) ≤ c)) && (decide (c ≤ (57 : Int))))) || (decide (c = (32 : Int)))) = false) ∧ ((decide ((192 : Int) ≤ c)) && (decide (c ≤ (382 : Int)))) = true) (Ty.bool (decide (c ≠ (215 : Int))))), (Ty.grd ((((((decide ((65 : Int) ≤ c)) && (decide (c ≤ (90 : Int)))) || ((decide ((97 : Int) ≤ c)) && (decide (c ≤ (122 : Int))))) || ((decide ((48 : Int) ≤ c)) && (decide (c ≤ (57 : Int))))) || (decide (c = (32 : Int)))) = false) (Ty.bool (((decide ((192 : Int) ≤ c)) && (decide (c ≤ (382 : Int)))) && (decide (c ≠ (215 : Int)))))), (Ty.grd ((((((decide ((65 : Int) ≤ c)) && (decide (c ≤ (90 : Int)))) || ((decide ((97 : Int) ≤ c)) && (decide (c ≤ (122 : Int))))) || ((decide ((48 : Int) ≤ c)) && (decide (c ≤ (57 : Int))))) || (decide (c = (32 : Int)))) = false) (Ty.bool (((decide ((192 : Int) ≤ c)) && (decide (c ≤ (382 : Int)))) && (decide (c ≠ (215 : Int)))))), (Ty.grd (((((((decide ((65 : Int) ≤ c)) && (decide (c ≤ (90 : Int)))) || ((decide ((97 : Int) ≤ c)) && (decide (c ≤ (122 : Int))))) || ((decide ((48 : Int) ≤ c)) && (decide (c ≤ (57 : Int))))) || (decide (c = (32 : Int)))) = false) ∧ (((decide ((192 : Int) ≤ c)) && (decide (c ≤ (382 : Int)))) && (decide (c ≠ (215 : Int)))) = true) (Ty.val (Value.int .i32 c))), (Ty.grd (((((((decide ((65 : Int) ≤ c)) && (decide (c ≤ (90 : Int)))) || ((decide ((97 : Int) ≤ c)) && (decide (c ≤ (122 : Int))))) || ((decide ((48 : Int) ≤ c)) && (decide (c ≤ (57 : Int))))) || (decide (c = (32 : Int)))) = false) ∧ (((decide ((192 : Int) ≤ c)) && (decide (c ≤ (382 : Int)))) && (decide (c ≠ (215 : Int)))) = true) (Ty.bool (decide (c ≠ (247 : Int))))), (Ty.grd ((((((decide ((65 : Int) ≤ c)) && (decide (c ≤ (90 : Int)))) || ((decide ((97 : Int) ≤ c)) && (decide (c ≤ (122 : Int))))) || ((decide ((48 : Int) ≤ c)) && (decide (c ≤ (57 : Int))))) || (decide (c = (32 : Int)))) = false) (Ty.bool ((((decide ((192 : Int) ≤ c)) && (decide (c ≤ (382 : Int)))) && (decide (c ≠ (215 : Int)))) && (decide (c ≠ (247 : Int)))))), (Ty.bool ((((((decide ((65 : Int) ≤ c)) && (decide (c ≤ (90 : Int)))) || ((decide ((97 : Int) ≤ c)) && (decide (c ≤ (122 : Int))))) || ((decide ((48 : Int) ≤ c)) && (decide (c ≤ (57 : Int))))) || (decide (c = (32 : Int)))) || ((((decide ((192 : Int) ≤ c)) && (decide (c ≤ (382 : Int)))) && (decide (c ≠ (215 : Int)))) && (decide (c ≠ (247 : Int)))))), (Ty.bool ((((((decide ((65 : Int) ≤ c)) && (decide (c ≤ (90 : Int)))) || ((decide ((97 : Int) ≤ c)) && (decide (c ≤ (122 : Int))))) || ((decide ((48 : Int) ≤ c)) && (decide (c ≤ (57 : Int))))) || (decide (c = (32 : Int)))) || ((((decide ((192 : Int) ≤ c)) && (decide (c ≤ (382 : Int)))) && (decide (c ≠ (215 : Int)))) && (decide (c ≠ (247 : Int))))))] ok1 ⟨?_, ?_, ?_, ?_, ?_, ?_, ?_, ?_, ?_, ?_, ?_, ?_, ?_, ?_, ?_, ?_, ?_, ?_, ?_, ?_, ?_, ?_, ?_, ?_, ?_, ?_, ?_, ?_, ?_, ?_, ?_, ?_, ?_, ?_, ?_, ?_, ?_, ?_, ?_, ?_, ?_, ?_, ?_, trivial⟩ ?_
 · intro A B E G H; exact rP (y_move (kp (H 0 rfl) E q1))
 · intro A B E G H d0; exact rP (y_geq (ed d0 rfl rfl rfl) rfl)
 · intro A B E G H d0; exact rP (y_move (ed d0 rfl rfl rfl))
 · intro A B E G H d0
   refine run_guard G rfl rfl (by decide) (ed d0 rfl rfl rfl) (fun hg => ?_)
   have hp := of_decide_eq_true hg
   exact y_move (kp (H 0 rfl) E q1)
 · intro A B E G H d0 d1
   refine run_guard G rfl rfl (by decide) (ed d1 rfl rfl rfl) (fun hg => ?_)
   have hp := of_decide_eq_true hg
   exact y_leq ((ed d0 rfl rfl rfl).1 hg) rfl
 · intro A B E G H d0 d1; exact rP (y_pick_and (ed d0 rfl rfl rfl) (ed d1 rfl rfl rfl) rfl)
 · intro A B E G H d0 d1; exact rP (y_move (ed d0 rfl rfl rfl))
 · intro A B E G H d0
   refine run_guard G rfl rfl (by decide) (ed d0 rfl rfl rfl) (fun hg => ?_)
   exact y_move (kp (H 0 rfl) E q1)
 · intro A B E G H d0 d1
   refine run_guard G rfl rfl (by decide) (ed d1 rfl rfl rfl) (fun hg => ?_)
   exact y_geq ((ed d0 rfl rfl rfl).1 hg) rfl
 · intro A B E G H d0 d1 d2
   refine run_guard G rfl rfl (by decide) (ed d1 rfl rfl rfl) (fun hg => ?_)
   exact y_move ((ed d0 rfl rfl rfl).1 hg)
 · intro A B E G H d0
   refine run_guard2 G rfl rfl (by decide) (ed d0 rfl rfl rfl) (fun hg => ?_)
   have hp := of_decide_eq_true hg.2
   exact y_move (kp (H 0 rfl) E q1)
 · intro A B E G H d0 d1
   refine run_guard2 G rfl rfl (by decide) (ed d1 rfl rfl rfl) (fun hg => ?_)
   have hp := of_decide_eq_true hg.2
   exact y_leq ((ed d0 rfl rfl rfl).1 hg) rfl
 · intro A B E G H d0 d1 d2
   refine run_guard G rfl rfl (by decide) (ed d2 rfl rfl rfl) (fun hg => ?_)
   exact y_pick_and ((ed d0 rfl rfl rfl).1 hg) (grd_part hg (ed d1 rfl rfl rfl)) rfl
 · intro A B E G H d0 d1; exact rP (y_pick_or (ed d0 rfl rfl rfl) rfl (ed d1 rfl rfl rfl))
 · intro A B E G H d0 d1; exact rP (y_move (ed d0 rfl rfl rfl))
 · intro A B E G H d0
   refine run_guard G rfl rfl (by decide) (ed d0 rfl rfl rfl) (fun hg => ?_)
   obtain ⟨d1, d2⟩ := Bool.or_eq_false_iff.mp hg
   exact y_move (kp (H 0 rfl) E q1)
 · intro A B E G H d0 d1
   refine run_guard G rfl rfl (by decide) (ed d1 rfl rfl rfl) (fun hg => ?_)
   obtain ⟨d3, d4⟩ := Bool.or_eq_false_iff.mp hg
   exact y_geq ((ed d0 rfl rfl rfl).1 hg) rfl
 · intro A B E G H d0 d1 d2
   refine run_guard G rfl rfl (by decide) (ed d1 rfl rfl rfl) (fun hg => ?_)
   obtain ⟨d5, d6⟩ := Bool.or_eq_false_iff.mp hg
   exact y_move ((ed d0 rfl rfl rfl).1 hg)
 · intro A B E G H d0
   refine run_guard2 G rfl rfl (by decide) (ed d0 rfl rfl rfl) (fun hg => ?_)
   have hp := of_decide_eq_true hg.2
   exact y_move (kp (H 0 rfl) E q1)
 · intro A B E G H d0 d1
   refine run_guard2 G rfl rfl (by decide) (ed d1 rfl rfl rfl) (fun hg => ?_)
   have hp := of_decide_eq_true hg.2
   exact y_leq ((ed d0 rfl rfl rfl).1 hg) rfl
 · intro A B E G H d0 d1 d2
   refine run_guard G rfl rfl (by decide) (ed d2 rfl rfl rfl) (fun hg => ?_)
   obtain ⟨d7, d8⟩ := Bool.or_eq_false_iff.mp hg
   exact y_pick_and ((ed d0 rfl rfl rfl).1 hg) (grd_part hg (ed d1 rfl rfl rfl)) rfl
 · intro A B E G H d0 d1; exact rP (y_pick_or (ed d0 rfl rfl rfl) rfl (ed d1 rfl rfl rfl))
 · intro A B E G H d0 d1; exact rP (y_move (ed d0 rfl rfl rfl))
 · intro A B E G H d0
   refine run_guard G rfl rfl (by decide) (ed d0 rfl rfl rfl) (fun hg => ?_)
   obtain ⟨d9, d10⟩ := Bool.or_eq_false_iff.mp hg
   obtain ⟨d11, d12⟩ := Bool.or_eq_false_iff.mp d9
   exact y_move (kp (H 0 rfl) E q1)
 · intro A B E G H d0 d1
   refine run_guard G rfl rfl (by decide) (ed d1 rfl rfl rfl) (fun hg => ?_)
   obtain ⟨d13, d14⟩ := Bool.or_eq_false_iff.mp hg
   obtain ⟨d15, d16⟩ := Bool.or_eq_false_iff.mp d13
   exact y_eql ((ed d0 rfl rfl rfl).1 hg) rfl
 · intro A B E G H d0 d1; exact rP (y_pick_or (ed d0 rfl rfl rfl) rfl (ed d1 rfl rfl rfl))
 · intro A B E G H d0 d1; exact rP (y_move (ed d0 rfl rfl rfl))
 · intro A B E G H d0
   refine run_guard G rfl rfl (by decide) (ed d0 rfl rfl rfl) (fun hg => ?_)
   obtain ⟨d17, d18⟩ := Bool.or_eq_false_iff.mp hg
   obtain ⟨d19, d20⟩ := Bool.or_eq_false_iff.mp d17
   obtain ⟨d21, d22⟩ := Bool.or_eq_false_iff.mp d19
   have d18 := of_decide_eq_false d18
   exact y_move (kp (H 0 rfl) E q1)
 · intro A B E G H d0 d1
   refine run_guard G rfl rfl (by decide) (ed d1 rfl rfl rfl) (fun hg => ?_)
   obtain ⟨d23, d24⟩ := Bool.or_eq_false_iff.mp hg
   obtain ⟨d25, d26⟩ := Bool.or_eq_false_iff.mp d23
   obtain ⟨d27, d28⟩ := Bool.or_eq_false_iff.mp d25
   have d24 := of_decide_eq_false d24
   exact y_geq ((ed d0 rfl rfl rfl).1 hg) rfl
 · intro A B E G H d0 d1 d2
   refine run_guard G rfl rfl (by decide) (ed d1 rfl rfl rfl) (fun hg => ?_)
   obtain ⟨d29, d30⟩ := Bool.or_eq_false_iff.mp hg
   obtain ⟨d31, d32⟩ := Bool.or_eq_false_iff.mp d29
   obtain ⟨d33, d34⟩ := Bool.or_eq_false_iff.mp d31
   have d30 := of_decide_eq_false d30
   exact y_move ((ed d0 rfl rfl rfl).1 hg)
 · intro A B E G H d0
   refine run_guard2 G rfl rfl (by decide) (ed d0 rfl rfl rfl) (fun hg => ?_)
   have hp := of_decide_eq_true hg.2
   exact y_move (kp (H 0 rfl) E q1)
 · intro A B E G H d0 d1
   refine run_guard2 G rfl rfl (by decide) (ed d1 rfl rfl rfl) (fun hg => ?_)
   have hp := of_decide_eq_true hg.2
   exact y_leq ((ed d0 rfl rfl rfl).1 hg) rfl
 · intro A B E G H d0 d1 d2
   refine run_guard G rfl rfl (by decide) (ed d2 rfl rfl rfl) (fun hg => ?_)
   obtain ⟨d35, d36⟩ := Bool.or_eq_false_iff.mp hg
   obtain ⟨d37, d38⟩ := Bool.or_eq_false_iff.mp d35
   obtain ⟨d39, d40⟩ := Bool.or_eq_false_iff.mp d37
   have d36 := of_decide_eq_false d36
   exact y_pick_and ((ed d0 rfl rfl rfl).1 hg) (grd_part hg (ed d1 rfl rfl rfl)) rfl
 · intro A B E G H d0 d1 d2
   refine run_guard G rfl rfl (by decide) (ed d2 rfl rfl rfl) (fun hg => ?_)
   obtain ⟨d41, d42⟩ := Bool.or_eq_false_iff.mp hg
   obtain ⟨d43, d44⟩ := Bool.or_eq_false_iff.mp d41
   obtain ⟨d45, d46⟩ := Bool.or_eq_false_iff.mp d43
   have d42 := of_decide_eq_false d42
   exact y_move ((ed d0 rfl rfl rfl).1 hg)
 · intro A B E G H d0
   refine run_guard2 G rfl rfl (by decide) (ed d0 rfl rfl rfl) (fun hg => ?_)
   obtain ⟨d47, d48⟩ := Bool.and_eq_true_iff.mp hg.2
   have d47 := of_decide_eq_true d47
   have d48 := of_decide_eq_true d48
   exact y_move (kp (H 0 rfl) E q1)
 · intro A B E G H d0 d1
   refine run_guard2 G rfl rfl (by decide) (ed d1 rfl rfl rfl) (fun hg => ?_)
   obtain ⟨d49, d50⟩ := Bool.and_eq_true_iff.mp hg.2
   have d49 := of_decide_eq_true d49
   have d50 := of_decide_eq_true d50
   exact y_neq ((ed d0 rfl rfl rfl).1 hg) rfl
 · intro A B E G H d0 d1 d2
   refine run_guard G rfl rfl (by decide) (ed d2 rfl rfl rfl) (fun hg => ?_)
   obtain ⟨d51, d52⟩ := Bool.or_eq_false_iff.mp hg
   obtain ⟨d53, d54⟩ := Bool.or_eq_false_iff.mp d51
   obtain ⟨d55, d56⟩ := Bool.or_eq_false_iff.mp d53
   have d52 := of_decide_eq_false d52
   exact y_pick_and ((ed d0 rfl rfl rfl).1 hg) (grd_part hg (ed d1 rfl rfl rfl)) rfl
 · intro A B E G H d0 d1 d2
   refine run_guard G rfl rfl (by decide) (ed d2 rfl rfl rfl) (fun hg => ?_)
   obtain ⟨d57, d58⟩ := Bool.or_eq_false_iff.mp hg
   obtain ⟨d59, d60⟩ := Bool.or_eq_false_iff.mp d57
   obtain ⟨d61, d62⟩ := Bool.or_eq_false_iff.mp d59
   have d58 := of_decide_eq_false d58
   exact y_move ((ed d0 rfl rfl rfl).1 hg)
 · intro A B E G H d0
   refine run_guard2 G rfl rfl (by decide) (ed d0 rfl rfl rfl) (fun hg => ?_)
   obtain ⟨d63, d64⟩ := Bool.and_eq_true_iff.mp hg.2
   obtain ⟨d65, d66⟩ := Bool.and_eq_true_iff.mp d63
   have d65 := of_decide_eq_true d65
   have d66 := of_decide_eq_true d66
   have d64 := of_decide_eq_true d64
   exact y_move (kp (H 0 rfl) E q1)
 · intro A B E G H d0 d1
   refine run_guard2 G rfl rfl (by decide) (ed d1 rfl rfl rfl) (fun hg => ?_)
   obtain ⟨d67, d68⟩ := Bool.and_eq_true_iff.mp hg.2
   obtain ⟨d69, d70⟩ := Bool.and_eq_true_iff.mp d67
   have d69 := of_decide_eq_true d69
   have d70 := of_decide_eq_true d70
   have d68 := of_decide_eq_true d68
   exact y_neq ((ed d0 rfl rfl rfl).1 hg) rfl
 · intro A B E G H d0 d1 d2
   refine run_guard G rfl rfl (by decide) (ed d2 rfl rfl rfl) (fun hg => ?_)
   obtain ⟨d71, d72⟩ := Bool.or_eq_false_iff.mp hg
   obtain ⟨d73, d74⟩ := Bool.or_eq_false_iff.mp d71
   obtain ⟨d75, d76⟩ := Bool.or_eq_false_iff.mp d73
   have d72 := of_decide_eq_false d72
   exact y_pick_and ((ed d0 rfl rfl rfl).1 hg) (grd_part hg (ed d1 rfl rfl rfl)) rfl
 · intro A B E G H d0 d1; exact rP (y_pick_or (ed d0 rfl rfl rfl) rfl (ed d1 rfl rfl rfl))
 · intro A B E G H d0 d1 d2 d3 d4 d5 d6 d7 d8 d9 d10 d11 d12 d13 d14 d15 d16 d17 d18 d19 d20 d21 d22 d23 d24 d25 d26 d27 d28 d29 d30 d31 d32 d33 d34 d35 d36 d37 d38 d39 d40 d41 d42 d43; exact rP (y_assign (ed d0 rfl rfl rfl))
 intro a2 s2 D2; have ok2 := D2.ok; have F2 := F1.step0 D2.stp; have q2 := D2.dn 42 rfl rfl; clear D2; refine tn ?_; refine wp_ret ?_
 exact ret1 rfl ok2 F2 (cvb (by (rfl)) q2)


set_option maxRecDepth 100000 in
theorem mName_fn (s : ByteArray) (σ : GW) (v0 : Value) (hv0 : Ty.has (Ty.val (Value.string s)) σ v0) (E : s.size ≤ 1099511627776) :
    FnC Try.prog 99 #[v0] σ (Ty.bool (nameL s)) := by
 refine fn_intro Try.func99 rfl Try.ntmps99 (Nat.le_of_ble_eq_true rfl) (fun s0 a0 hle F0 ok0 hargs => ?_)
 have p0 : At (Ty.val (Value.string s)) s0 a0 (.tmp 0) := by have e := hargs 0 _ rfl; show Ty.has _ _ _; rw [e]; exact Ty.up _ hle hv0
 clear hargs; refine wp_seq ?_
 refine rg a0 s0 [(Ty.bool false)] ok0 ⟨?_, trivial⟩ ?_
 · intro A B E G H; exact rP (y_assign rfl)
 intro a1 s1 D1; have ok1 := D1.ok; have F1 := F0.step0 D1.stp; have q1 := D1.kt p0 rfl; clear D1; refine tn ?_; refine wp_seq ?_
 refine rg a1 s1 [(Ty.int (0 : Int))] ok1 ⟨?_, trivial⟩ ?_
 · intro A B E G H; exact rP (y_assign rfl)
 intro a2 s2 D2; have ok2 := D2.ok; have F2 := F1.step0 D2.stp; have q2 := D2.kt q1 rfl; have q3 := D2.dn 0 rfl rfl; clear D2; refine tn ?_; refine wp_seq ?_; refine wp_seq ?_
 refine reg (a := a2) (σ := s2) rfl (fun i_ => List.getD [(Ty.pr (Ty.val (Value.string s))), (Pr.iter 7 s 0)] i_ Pr.any) ok2 rfl ⟨?_, ?_, trivial⟩ ?_
 · intro A B E G H; exact rP (y_move (kp (H 0 rfl) E q2))
 · intro A B E G H d0; exact rP (y_range 7 Try.underlying9 (ed d0 rfl rfl rfl))
 intro a3 s3 D3; have ok3 := D3.ok; have F3 := F2.step0 D3.stp; have q4 := D3.kt q2 rfl; have q5 := D3.kt q3 rfl
 have q6 : (Pr.iter 7 s 0).has s3 (a3.eval (.tmp 7)) := D3.done 1
 clear D3; refine tn ?_
 refine wp_block ?_
 refine loop (fun n1 a4 w1 => ∃ (t1 : GW) (xs : List Nat) (p : Nat) (f : Nat), t1.w = w1 ∧ From s0 t1 ∧ Ok 35 a4 ∧ (Pr.iter 7 s p).has t1 (a4.eval (.tmp 7)) ∧ At (Ty.nat xs.length) t1 a4 (.tmp 3) ∧ At (Ty.val (Value.string s)) t1 a4 (.tmp 0) ∧ (∀ c ∈ xs, letterB ((c : Nat) : Int) = true) ∧ (xs ++ runesF s f p = runesL s) ∧ (s.size ≤ f + p) ∧ (p ≤ s.size + 4) ∧ (xs.length ≤ p) ∧ (xs.length = 0 ∨ 0 < s.size) ∧ n1 = s.size + 8 - p) (s.size + 8 - (0)) ?_ ?_
 ·
  exact ⟨s3, ([] : List Nat), 0, s.size, rfl, F3, ok3, (cvit (by omega) q6), (cvi (by (first | rfl | omega | (simp_all; done) | (simp_all; omega))) q5), q4, fun c hc => by simp at hc, rfl, by omega, by omega, by simp, .inl rfl, rfl⟩
 ·
  rintro n2 a5 w2 ⟨t2, xs, p, f, rfl, F4, ok4, q7, q8, q9, hall, heq, hf, hp, hx, hz, rfl⟩
  have hw := wid_pos s p
  have hw2 := wid_le s p
  refine wp_seq ?_
  refine reg2 (a := a5) (σ := t2) rfl 0 (fun i_ => List.getD [] i_ Pr.any) ok4 rfl (by decide) rfl trivial ?_
  intro a6 s4 D4; have ok5 := D4.ok; have F5 := F4.step0 D4.stp; have q10 := (Pr.iter 7 s p).up D4.stp q7
  have q11 : a6.eval (.tmp 7) = a5.eval (.tmp 7) := D4.same 7 rfl
  have q12 := D4.kt q8 rfl; have q13 := D4.kt q9 rfl; clear D4
  refine tail_step (m := 7) (R := (fun v τ => (Ty.nxt (decide (p < s.size)) p (run1 s p)).has τ v ∧ Iter τ 7 (a5.eval (.tmp 7)) s (stepTo s p))) rfl rfl (by decide) ok5 (m_next (by decide) q10 q11) (fun a7 s5 hs1 ok6 r1 sm1 => ?_)
  have F6 := F5.step hs1 (by decide)
  have q14 : (Pr.iter 7 s (stepTo s p)).has s5 (a5.eval (.tmp 7)) := (r1).2
  have q15 := (sm1 7 (by decide)).trans q11
  have q16 : At (Ty.nat xs.length) s5 a7 (.tmp 3) := kpm hs1 (by decide) (sm1 3 (by decide)) q12
  have q17 : At (Ty.val (Value.string s)) s5 a7 (.tmp 0) := kpm hs1 (by decide) (sm1 0 (by decide)) q13
  have q18 : At (Ty.nxt (decide (p < s.size)) p (run1 s p)) s5 a7 (.tmp 8) := (r1).1
  refine tail_step (m := 0) (R := (fun v τ => Pr.has (Ty.pr (Ty.bool (decide (p < s.size)))) τ v)) rfl rfl (by decide) ok6 (Yld.toM (y_ext_n0 q18)) (fun a8 s6 hs2 ok7 r2 sm2 => ?_)
  have F7 := F6.step hs2 (by decide); have q19 := Iter.keep q14 hs2 (by decide) (.inl rfl); have q20 := (sm2 7 (by decide)).trans q15
  have q21 : At (Ty.nat xs.length) s6 a8 (.tmp 3) := kpm hs2 (by decide) (sm2 3 (by decide)) q16
  have q22 : At (Ty.val (Value.string s)) s6 a8 (.tmp 0) := kpm hs2 (by decide) (sm2 0 (by decide)) q17
  have q23 : At (Ty.nxt (decide (p < s.size)) p (run1 s p)) s6 a8 (.tmp 8) := kpm hs2 (by decide) (sm2 8 (by decide)) q18
  have q24 : At (Ty.bool (decide (p < s.size))) s6 a8 (.tmp 9) := r2
  refine wpList_nil ?_
  have q25 : (Pr.iter 7 s (stepTo s p)).has s6 (a8.eval (.tmp 7)) := al q20 q19
  refine tn ?_; refine wp_seq ?_
  refine cond_p (p := (p < s.size)) q24 (fun c1 => ?_) (fun c1 => ?_)
  ·
   refine wp_skip ?_
   refine tn ?_
   refine wp_block ?_
   refine wp_seq ?_
   refine rg a8 s6 [(Ty.val (Value.int .i32 ((run1 s p : Nat) : Int))), (Ty.val (Value.int .i32 ((run1 s p : Nat) : Int)))] ok7 ⟨?_, ?_, trivial⟩ ?_
   · intro A B E G H; exact rP (y_ext_n2 (kp (H 8 rfl) E q23) (decide_eq_true (by omega)))
   · intro A B E G H d0 d1; exact rP (y_assign (ed d0 rfl rfl rfl))
   intro a9 s7 D5; have ok8 := D5.ok; have F8 := F7.step0 D5.stp
   have q26 : (Pr.iter 7 s (stepTo s p)).has s7 (a9.eval (.tmp 7)) := D5.ko q25 rfl
   have q27 := D5.kt q21 rfl; have q28 := D5.kt q22 rfl; have q29 := D5.dn 1 rfl rfl; clear D5; refine tn ?_; refine wp_seq ?_; refine wp_seq ?_
   refine rg a9 s7 [(Ty.val (Value.int .i32 ((run1 s p : Nat) : Int))), (Ty.bool (letterB (((run1 s p : Nat) : Int)))), (Ty.bool (!(letterB (((run1 s p : Nat) : Int)))))] ok8 ⟨?_, ?_, ?_, trivial⟩ ?_
   · intro A B E G H; exact rP (y_move (kp (H 5 rfl) E q29))
   · intro A B E G H d0; exact rP (y_call #[A.eval (.tmp 11)] Try.func117 rfl rfl (by simp only [List.map_toArray, List.map_cons, List.map_nil]) (letter_fn (((run1 s p : Nat) : Int)) _ _ (ed d0 rfl rfl rfl) ))
   · intro A B E G H d0; exact rP (y_not (ed d0 rfl rfl rfl))
   intro a10 s8 D6; have ok9 := D6.ok; have F9 := F8.step0 D6.stp
   have q30 : (Pr.iter 7 s (stepTo s p)).has s8 (a10.eval (.tmp 7)) := D6.ko q26 rfl
   have q31 := D6.kt q27 rfl; have q32 := D6.kt q28 rfl; have q33 := D6.dn 2 rfl rfl; clear D6; refine tn ?_
   refine cond_t q33 (fun c2 => ?_) (fun c2 => ?_)
   ·
    have hlet : letterB (run1 s p : Nat) = false := (by simpa using c2)
    refine wp_seq ?_
    refine rg a10 s8 [(Ty.bool false)] ok9 ⟨?_, trivial⟩ ?_
    · intro A B E G H; exact rP (y_assign rfl)
    intro a11 s9 D7; have ok10 := D7.ok; have F10 := F9.step0 D7.stp; have q34 := D7.dn 0 rfl rfl; clear D7; refine tn ?_; refine wp_ret ?_
    refine tr ?_
    refine br ?_
    refine tr ?_
    refine br ?_
    refine tr ?_
    exact ret1 rfl ok10 F10 (cvb (by (exact (nameL_no heq (by omega) (by omega) hlet).symm)) q34)
   ·
    have hlet : letterB (run1 s p : Nat) = true := (by simpa using c2)
    refine wp_skip ?_
    refine tn ?_
    refine rg a10 s8 [(Ty.nat xs.length), (Ty.int (((xs.length : Nat) : Int) + (1 : Int))), (Ty.int (((xs.length : Nat) : Int) + (1 : Int)))] ok9 ⟨?_, ?_, ?_, trivial⟩ ?_
    · intro A B E G H; exact rP (y_move (kp (H 3 rfl) E q31))
    · intro A B E G H d0; exact rP (y_add (ed d0 rfl rfl rfl) rfl (w64 (by omega) (by omega)))
    · intro A B E G H d0 d1 d2; exact rP (y_assign (ed d0 rfl rfl rfl))
    intro a12 s10 D8; have ok11 := D8.ok; have F11 := F9.step0 D8.stp
    have q35 : (Pr.iter 7 s (stepTo s p)).has s10 (a12.eval (.tmp 7)) := D8.ko q30 rfl
    have q36 := D8.kt q32 rfl; have q37 := D8.dn 2 rfl rfl; clear D8; refine bn ?_
    exact tn ⟨s.size + 8 - ((p + wid s p)), by omega, s10, (xs ++ [run1 s p]), (p + wid s p), (f - 1), rfl, F11, ok11, (cvit (by unfold stepTo; rw [if_pos (by omega)]) q35), (cvi (by (simp)) q37), q36, fun c hc => by (rcases List.mem_append.1 hc with h | h; exact hall c h; simp at h; subst h; exact hlet), runesF_step heq (by omega) (by omega), by omega, by omega, by simp; omega, .inr (by omega), rfl⟩
  ·
   refine wp_exit ?_; refine tx ?_; refine tx ?_; refine bx ?_; refine tn ?_; refine wp_seq ?_
   refine rg a8 s6 [(Ty.nat xs.length), (Ty.bool (decide ((1 : Int) ≤ ((xs.length : Nat) : Int)))), (Ty.bool (decide ((1 : Int) ≤ ((xs.length : Nat) : Int)))), (Ty.grd ((decide ((1 : Int) ≤ ((xs.length : Nat) : Int))) = true) (Ty.nat xs.length)), (Ty.grd ((decide ((1 : Int) ≤ ((xs.length : Nat) : Int))) = true) (Ty.bool (decide (((xs.length : Nat) : Int) ≤ (20 : Int))))), (Ty.bool ((decide ((1 : Int) ≤ ((xs.length : Nat) : Int))) && (decide (((xs.length : Nat) : Int) ≤ (20 : Int))))), (Ty.bool ((decide ((1 : Int) ≤ ((xs.length : Nat) : Int))) && (decide (((xs.length : Nat) : Int) ≤ (20 : Int))))), (Ty.grd (((decide ((1 : Int) ≤ ((xs.length : Nat) : Int))) && (decide (((xs.length : Nat) : Int) ≤ (20 : Int)))) = true) (Ty.val (Value.string s))), (Ty.grd (((decide ((1 : Int) ≤ ((xs.length : Nat) : Int))) && (decide (((xs.length : Nat) : Int) ≤ (20 : Int)))) = true) (Ty.val (Value.int .u8 (((s.get! ((0 : Int)).toNat).toNat : Nat) : Int)))), (Ty.grd (((decide ((1 : Int) ≤ ((xs.length : Nat) : Int))) && (decide (((xs.length : Nat) : Int) ≤ (20 : Int)))) = true) (Ty.bool (decide ((((s.get! ((0 : Int)).toNat).toNat : Nat) : Int) ≠ (32 : Int))))), (Ty.bool (((decide ((1 : Int) ≤ ((xs.length : Nat) : Int))) && (decide (((xs.length : Nat) : Int) ≤ (20 : Int)))) && (decide ((((s.get! ((0 : Int)).toNat).toNat : Nat) : Int) ≠ (32 : Int))))), (Ty.bool (((decide ((1 : Int) ≤ ((xs.length : Nat) : Int))) && (decide (((xs.length : Nat) : Int) ≤ (20 : Int)))) && (decide ((((s.get! ((0 : Int)).toNat).toNat : Nat) : Int) ≠ (32 : Int))))), (Ty.grd ((((decide ((1 : Int) ≤ ((xs.length : Nat) : Int))) && (decide (((xs.length : Nat) : Int) ≤ (20 : Int)))) && (decide ((((s.get! ((0 : Int)).toNat).toNat : Nat) : Int) ≠ (32 : Int)))) = true) (Ty.val (Value.string s))), (Ty.grd ((((decide ((1 : Int) ≤ ((xs.length : Nat) : Int))) && (decide (((xs.length : Nat) : Int) ≤ (20 : Int)))) && (decide ((((s.get! ((0 : Int)).toNat).toNat : Nat) : Int) ≠ (32 : Int)))) = true) (Ty.val (Value.string s))), (Ty.grd ((((decide ((1 : Int) ≤ ((xs.length : Nat) : Int))) && (decide (((xs.length : Nat) : Int) ≤ (20 : Int)))) && (decide ((((s.get! ((0 : Int)).toNat).toNat : Nat) : Int) ≠ (32 : Int)))) = true) (Ty.nat (ByteArray.size s))), (Ty.grd ((((decide ((1 : Int) ≤ ((xs.length : Nat) : Int))) && (decide (((xs.length : Nat) : Int) ≤ (20 : Int)))) && (decide ((((s.get! ((0 : Int)).toNat).toNat : Nat) : Int) ≠ (32 : Int)))) = true) (Ty.int ((((ByteArray.size s) : Nat) : Int) - (1 : Int)))), (Ty.grd ((((decide ((1 : Int) ≤ ((xs.length : Nat) : Int))) && (decide (((xs.length : Nat) : Int) ≤ (20 : Int)))) && (decide ((((s.get! ((0 : Int)).toNat).toNat : Nat) : Int) ≠ (32 : Int)))) = true) (Ty.val (Value.int .u8 (((s.get! (((((ByteArray.size s) : Nat) : Int) - (1 : Int))).toNat).toNat : Nat) : Int)))), (Ty.grd ((((decide ((1 : Int) ≤ ((xs.length : Nat) : Int))) && (decide (((xs.length : Nat) : Int) ≤ (20 : Int)))) && (decide ((((s.get! ((0 : Int)).toNat).toNat : Nat) : Int) ≠ (32 : Int)))) = true) (Ty.bool (decide ((((s.get! (((((ByteArray.size s) : Nat) : Int) - (1 : Int))).toNat).toNat : Nat) : Int) ≠ (32 : Int))))), (Ty.bool ((((decide ((1 : Int) ≤ ((xs.length : Nat) : Int))) && (decide (((xs.length : Nat) : Int) ≤ (20 : Int)))) && (decide ((((s.get! ((0 : Int)).toNat).toNat : Nat) : Int) ≠ (32 : Int)))) && (decide ((((s.get! (((((ByteArray.size s) : Nat) : Int) - (1 : Int))).toNat).toNat : Nat) : Int) ≠ (32 : Int))))), (Ty.bool ((((decide ((1 : Int) ≤ ((xs.length : Nat) : Int))) && (decide (((xs.length : Nat) : Int) ≤ (20 : Int)))) && (decide ((((s.get! ((0 : Int)).toNat).toNat : Nat) : Int) ≠ (32 : Int)))) && (decide ((((s.get! (((((ByteArray.size s) : Nat) : Int) - (1 : Int))).toNat).toNat : Nat) : Int) ≠ (32 : Int)))))] ok7 ⟨?_, ?_, ?_, ?_, ?_, ?_, ?_, ?_, ?_, ?_, ?_, ?_, ?_, ?_, ?_, ?_, ?_, ?_, ?_, ?_, trivial⟩ ?_
   · intro A B E G H; exact rP (y_move (kp (H 3 rfl) E q21))
   · intro A B E G H d0; exact rP (y_geq (ed d0 rfl rfl rfl) rfl)
   · intro A B E G H d0; exact rP (y_move (ed d0 rfl rfl rfl))
   · intro A B E G H d0
     refine run_guard G rfl rfl (by decide) (ed d0 rfl rfl rfl) (fun hg => ?_)
     have hp := of_decide_eq_true hg
     exact y_move (kp (H 3 rfl) E q21)
   · intro A B E G H d0 d1
     refine run_guard G rfl rfl (by decide) (ed d1 rfl rfl rfl) (fun hg => ?_)
     have hp := of_decide_eq_true hg
     exact y_leq ((ed d0 rfl rfl rfl).1 hg) rfl
   · intro A B E G H d0 d1; exact rP (y_pick_and (ed d0 rfl rfl rfl) (ed d1 rfl rfl rfl) rfl)
   · intro A B E G H d0 d1; exact rP (y_move (ed d0 rfl rfl rfl))
   · intro A B E G H d0
     refine run_guard G rfl rfl (by decide) (ed d0 rfl rfl rfl) (fun hg => ?_)
     obtain ⟨d1, d2⟩ := Bool.and_eq_true_iff.mp hg
     have d1 := of_decide_eq_true d1
     have d2 := of_decide_eq_true d2
     exact y_move (kp (H 0 rfl) E q22)
   · intro A B E G H d0 d1
     refine run_guard G rfl rfl (by decide) (ed d1 rfl rfl rfl) (fun hg => ?_)
     obtain ⟨d3, d4⟩ := Bool.and_eq_true_iff.mp hg
     have d3 := of_decide_eq_true d3
     have d4 := of_decide_eq_true d4
     exact y_sindex Try.underlying9 ((ed d0 rfl rfl rfl).1 hg) rfl (by omega) (by omega)
   · intro A B E G H d0 d1
     refine run_guard G rfl rfl (by decide) (ed d1 rfl rfl rfl) (fun hg => ?_)
     obtain ⟨d5, d6⟩ := Bool.and_eq_true_iff.mp hg
     have d5 := of_decide_eq_true d5
     have d6 := of_decide_eq_true d6
     exact y_neq ((ed d0 rfl rfl rfl).1 hg) rfl
   · intro A B E G H d0 d1; exact rP (y_pick_and (ed d0 rfl rfl rfl) (ed d1 rfl rfl rfl) rfl)
   · intro A B E G H d0 d1; exact rP (y_move (ed d0 rfl rfl rfl))
   · intro A B E G H d0
     refine run_guard G rfl rfl (by decide) (ed d0 rfl rfl rfl) (fun hg => ?_)
     obtain ⟨d7, d8⟩ := Bool.and_eq_true_iff.mp hg
     obtain ⟨d9, d10⟩ := Bool.and_eq_true_iff.mp d7
     have d9 := of_decide_eq_true d9
     have d10 := of_decide_eq_true d10
     have d8 := of_decide_eq_true d8
     exact y_move (kp (H 0 rfl) E q22)
   · intro A B E G H d0
     refine run_guard G rfl rfl (by decide) (ed d0 rfl rfl rfl) (fun hg => ?_)
     obtain ⟨d11, d12⟩ := Bool.and_eq_true_iff.mp hg
     obtain ⟨d13, d14⟩ := Bool.and_eq_true_iff.mp d11
     have d13 := of_decide_eq_true d13
     have d14 := of_decide_eq_true d14
     have d12 := of_decide_eq_true d12
     exact y_move (kp (H 0 rfl) E q22)
   · intro A B E G H d0 d1
     refine run_guard G rfl rfl (by decide) (ed d1 rfl rfl rfl) (fun hg => ?_)
     obtain ⟨d15, d16⟩ := Bool.and_eq_true_iff.mp hg
     obtain ⟨d17, d18⟩ := Bool.and_eq_true_iff.mp d15
     have d17 := of_decide_eq_true d17
     have d18 := of_decide_eq_true d18
     have d16 := of_decide_eq_true d16
     exact y_len_str Try.underlying9 ((ed d0 rfl rfl rfl).1 hg)
   · intro A B E G H d0 d1
     refine run_guard G rfl rfl (by decide) (ed d1 rfl rfl rfl) (fun hg => ?_)
     obtain ⟨d19, d20⟩ := Bool.and_eq_true_iff.mp hg
     obtain ⟨d21, d22⟩ := Bool.and_eq_true_iff.mp d19
     have d21 := of_decide_eq_true d21
     have d22 := of_decide_eq_true d22
     have d20 := of_decide_eq_true d20
     exact y_sub ((ed d0 rfl rfl rfl).1 hg) rfl (w64 (by omega) (by omega))
   · intro A B E G H d0 d1 d2
     refine run_guard G rfl rfl (by decide) (ed d2 rfl rfl rfl) (fun hg => ?_)
     obtain ⟨d23, d24⟩ := Bool.and_eq_true_iff.mp hg
     obtain ⟨d25, d26⟩ := Bool.and_eq_true_iff.mp d23
     have d25 := of_decide_eq_true d25
     have d26 := of_decide_eq_true d26
     have d24 := of_decide_eq_true d24
     exact y_sindex Try.underlying9 ((ed d0 rfl rfl rfl).1 hg) ((ed d1 rfl rfl rfl).1 hg) (by omega) (by omega)
   · intro A B E G H d0 d1
     refine run_guard G rfl rfl (by decide) (ed d1 rfl rfl rfl) (fun hg => ?_)
     obtain ⟨d27, d28⟩ := Bool.and_eq_true_iff.mp hg
     obtain ⟨d29, d30⟩ := Bool.and_eq_true_iff.mp d27
     have d29 := of_decide_eq_true d29
     have d30 := of_decide_eq_true d30
     have d28 := of_decide_eq_true d28
     exact y_neq ((ed d0 rfl rfl rfl).1 hg) rfl
   · intro A B E G H d0 d1; exact rP (y_pick_and (ed d0 rfl rfl rfl) (ed d1 rfl rfl rfl) rfl)
   · intro A B E G H d0 d1 d2 d3 d4 d5 d6 d7 d8 d9 d10 d11 d12 d13 d14 d15 d16 d17 d18 d19 d20; exact rP (y_assign (ed d0 rfl rfl rfl))
   intro a13 s11 D9; have ok12 := D9.ok; have F12 := F7.step0 D9.stp; have q38 := D9.dn 19 rfl rfl; clear D9; refine tn ?_; refine wp_ret ?_
   exact ret1 rfl ok12 F12 (cvb (by (rw [runesF_end (by omega), List.append_nil] at heq; rw [nameL_all (by rw [← heq]; exact hall), heq]; simp)) q38)


set_option maxRecDepth 100000 in
theorem pCheck_fn (n : Int) (l : List Int) (σ : GW) (v0 v1 : Value) (hv0 : Ty.has (Ty.int n) σ v0) (hv1 : Ty.has (Ty.lst Ty.int l) σ v1) (hn : -9223372036854775808 ≤ n ∧ n ≤ 9223372036854775807) :
    FnC Try.prog 79 #[v0, v1] σ (Ty.int (chgMay n l)) := by
 refine fn_intro Try.func79 rfl Try.ntmps79 (Nat.le_of_ble_eq_true rfl) (fun s0 a0 hle F0 ok0 hargs => ?_)
 have p0 : At (Ty.int n) s0 a0 (.tmp 0) := by have e := hargs 0 _ rfl; show Ty.has _ _ _; rw [e]; exact Ty.up _ hle hv0
 have p1 : At (Ty.lst Ty.int l) s0 a0 (.tmp 1) := by have e := hargs 1 _ rfl; show Ty.has _ _ _; rw [e]; exact Ty.up _ hle hv1
 have b1 := sl_le p1
 clear hargs; refine wp_seq ?_
 refine rg a0 s0 [(Ty.int (0 : Int))] ok0 ⟨?_, trivial⟩ ?_
 · intro A B E G H; exact rP (y_assign rfl)
 intro a1 s1 D1; have ok1 := D1.ok; have F1 := F0.step0 D1.stp; have q1 := D1.kt p0 rfl; have q2 := D1.kt p1 rfl; clear D1; refine tn ?_; refine wp_seq ?_; refine wp_seq ?_
 refine rg a1 s1 [(Ty.int n), (Ty.bool (decide (n < (1 : Int)))), (Ty.bool (decide (n < (1 : Int)))), (Ty.grd ((decide (n < (1 : Int))) = false) (Ty.int n)), (Ty.grd ((decide (n < (1 : Int))) = false) (Ty.bool (decide ((12 : Int) < n)))), (Ty.bool ((decide (n < (1 : Int))) || (decide ((12 : Int) < n))))] ok1 ⟨?_, ?_, ?_, ?_, ?_, ?_, trivial⟩ ?_
 · intro A B E G H; exact rP (y_move (kp (H 0 rfl) E q1))
 · intro A B E G H d0; exact rP (y_lss (ed d0 rfl rfl rfl) rfl)
 · intro A B E G H d0; exact rP (y_move (ed d0 rfl rfl rfl))
 · intro A B E G H d0
   refine run_guard G rfl rfl (by decide) (ed d0 rfl rfl rfl) (fun hg => ?_)
   have hp := of_decide_eq_false hg
   exact y_move (kp (H 0 rfl) E q1)
 · intro A B E G H d0 d1
   refine run_guard G rfl rfl (by decide) (ed d1 rfl rfl rfl) (fun hg => ?_)
   have hp := of_decide_eq_false hg
   exact y_gtr ((ed d0 rfl rfl rfl).1 hg) rfl
 · intro A B E G H d0 d1; exact rP (y_pick_or (ed d0 rfl rfl rfl) rfl (ed d1 rfl rfl rfl))
 intro a2 s2 D2; have ok2 := D2.ok; have F2 := F1.step0 D2.stp; have q3 := D2.kt q1 rfl; have q4 := D2.kt q2 rfl; have q5 := D2.dn 5 rfl rfl; clear D2; refine tn ?_
 refine cond_t q5 (fun c1 => ?_) (fun c1 => ?_)
 ·
  simp only [Bool.or_eq_true, decide_eq_true_eq] at c1
  refine wp_seq ?_
  refine rg a2 s2 [(Ty.int (1 : Int))] ok2 ⟨?_, trivial⟩ ?_
  · intro A B E G H; exact rP (y_assign rfl)
  intro a3 s3 D3; have ok3 := D3.ok; have F3 := F2.step0 D3.stp; have q6 := D3.dn 0 rfl rfl; clear D3; refine tn ?_; refine wp_ret ?_
  refine tr ?_
  exact ret1 rfl ok3 F3 (cvi (by (exact (chgMay_cnt (by omega)).symm)) q6)
 ·
  obtain ⟨d1, d2⟩ := Bool.or_eq_false_iff.mp c1
  replace d1 := of_decide_eq_false d1
  replace d2 := of_decide_eq_false d2
  refine wp_skip ?_
  refine tn ?_; refine wp_seq ?_
  refine rg a2 s2 [(Ty.int (0 : Int))] ok2 ⟨?_, trivial⟩ ?_
  · intro A B E G H; exact rP (y_assign rfl)
  intro a4 s4 D4; have ok4 := D4.ok; have F4 := F2.step0 D4.stp; have q7 := D4.kt q3 rfl; have q8 := D4.kt q4 rfl; have q9 := D4.dn 0 rfl rfl; clear D4; refine tn ?_; refine wp_seq ?_; refine wp_seq ?_
  refine rg a4 s4 [(Ty.lst Ty.int l), (Ty.nat (List.length l)), (Ty.int (0 : Int))] ok4 ⟨?_, ?_, ?_, trivial⟩ ?_
  · intro A B E G H; exact rP (y_move (kp (H 1 rfl) E q8))
  · intro A B E G H d0; exact rP (y_len Try.underlying23 (ed d0 rfl rfl rfl))
  · intro A B E G H; exact rP (y_move rfl)
  intro a5 s5 D5; have ok5 := D5.ok; have F5 := F4.step0 D5.stp; have q10 := D5.kt q7 rfl; have q11 := D5.kt q9 rfl; have q12 := D5.dn 0 rfl rfl; have q13 := D5.dn 1 rfl rfl; have q14 := D5.dn 2 rfl rfl; clear D5; refine tn ?_
  refine wp_block ?_
  refine loop (fun n1 a6 w1 => ∃ (t1 : GW) (k : Nat) (z : Int), t1.w = w1 ∧ From s0 t1 ∧ Ok 42 a6 ∧ At (Ty.nat k) t1 a6 (.tmp 16) ∧ At (Ty.int z) t1 a6 (.tmp 5) ∧ At (Ty.int n) t1 a6 (.tmp 0) ∧ At (Ty.lst Ty.int l) t1 a6 (.tmp 14) ∧ At (Ty.nat (List.length l)) t1 a6 (.tmp 15) ∧ (k ≤ l.length) ∧ (scanTo n l k = some z) ∧ (0 ≤ z ∧ z ≤ n) ∧ n1 = l.length - k) (l.length - (0)) ?_ ?_
  ·
   exact ⟨s5, 0, 0, rfl, F5, ok5, (cvi (by (first | rfl | omega | (simp_all; done) | (simp_all; omega))) q14), (cvi (by (first | rfl | omega | (simp_all; done) | (simp_all; omega))) q11), q10, q12, q13, by omega, rfl, by omega, rfl⟩
  ·
   rintro n2 a7 w2 ⟨t2, k, z, rfl, F6, ok6, q15, q16, q17, q18, q19, hk, E, hz, rfl⟩
   refine wp_seq ?_
   refine reg (a := a7) (σ := t2) rfl (fun i_ => List.getD [(Ty.pr (Ty.bool (decide (((k : Nat) : Int) < (((List.length l) : Nat) : Int)))))] i_ Pr.any) ok6 rfl ⟨?_, trivial⟩ ?_
   · intro A B E G H; exact rP (y_lss (kp (H 16 rfl) E q15) (kp (H 15 rfl) E q19))
   intro a8 s6 D6; have ok7 := D6.ok; have F7 := F6.step0 D6.stp; have q20 := D6.kt q15 rfl; have q21 := D6.kt q16 rfl; have q22 := D6.kt q17 rfl; have q23 := D6.kt q18 rfl; have q24 := D6.kt q19 rfl; have q25 := D6.dn 0 rfl rfl; clear D6; refine tn ?_; refine wp_seq ?_
   refine cond_p (p := (((k : Nat) : Int) < (((List.length l) : Nat) : Int))) q25 (fun c2 => ?_) (fun c2 => ?_)
   ·
    refine wp_skip ?_
    refine tn ?_; refine wp_seq ?_
    refine wp_block ?_
    refine wp_seq ?_
    refine rg a8 s6 [(Ty.ref [(Ty.int (l.getD k 0))]), (Ty.int (l.getD k 0)), (Ty.int (l.getD k 0))] ok7 ⟨?_, ?_, ?_, trivial⟩ ?_
    · intro A B E G H; exact rP (y_index1 Try.underlying23 Try.inf3 (kp (H 14 rfl) E q23) (kp (H 16 rfl) E q20) (by omega) (lst_get Ty.int l 0 k (by omega)))
    · intro A B E G H d0; exact rP (y_load Try.underlying3 rfl (ed d0 rfl rfl rfl) rfl)
    · intro A B E G H d0 d1 d2; exact rP (y_assign (ed d0 rfl rfl rfl))
    intro a9 s7 D7; have ok8 := D7.ok; have F8 := F7.step0 D7.stp; have q26 := D7.kt q20 rfl; have q27 := D7.kt q21 rfl; have q28 := D7.kt q22 rfl; have q29 := D7.kt q23 rfl; have q30 := D7.kt q24 rfl; have q31 := D7.dn 2 rfl rfl; clear D7; refine tn ?_; refine wp_seq ?_; refine wp_seq ?_
    refine rg a9 s7 [(Ty.int (l.getD k 0)), (Ty.int z), (Ty.bool (decide ((l.getD k 0) ≤ z))), (Ty.bool (decide ((l.getD k 0) ≤ z))), (Ty.grd ((decide ((l.getD k 0) ≤ z)) = false) (Ty.int (l.getD k 0))), (Ty.grd ((decide ((l.getD k 0) ≤ z)) = false) (Ty.int n)), (Ty.grd ((decide ((l.getD k 0) ≤ z)) = false) (Ty.bool (decide (n < (l.getD k 0))))), (Ty.bool ((decide ((l.getD k 0) ≤ z)) || (decide (n < (l.getD k 0))))), (Ty.bool ((decide ((l.getD k 0) ≤ z)) || (decide (n < (l.getD k 0))))), (Ty.grd (((decide ((l.getD k 0) ≤ z)) || (decide (n < (l.getD k 0)))) = false) (Ty.int (l.getD k 0))), (Ty.grd (((decide ((l.getD k 0) ≤ z)) || (decide (n < (l.getD k 0)))) = false) (Ty.int z)), (Ty.grd (((decide ((l.getD k 0) ≤ z)) || (decide (n < (l.getD k 0)))) = false) (Ty.int ((l.getD k 0) - z))), (Ty.grd (((decide ((l.getD k 0) ≤ z)) || (decide (n < (l.getD k 0)))) = false) (Ty.nat ((((l.getD k 0) - z)).toNat % 2))), (Ty.grd (((decide ((l.getD k 0) ≤ z)) || (decide (n < (l.getD k 0)))) = false) (Ty.bool (decide (((((((l.getD k 0) - z)).toNat % 2) : Nat) : Int) = (0 : Int))))), (Ty.bool (((decide ((l.getD k 0) ≤ z)) || (decide (n < (l.getD k 0)))) || (decide (((((((l.getD k 0) - z)).toNat % 2) : Nat) : Int) = (0 : Int)))))] ok8 ⟨?_, ?_, ?_, ?_, ?_, ?_, ?_, ?_, ?_, ?_, ?_, ?_, ?_, ?_, ?_, trivial⟩ ?_
    · intro A B E G H; exact rP (y_move (kp (H 7 rfl) E q31))
    · intro A B E G H; exact rP (y_move (kp (H 5 rfl) E q27))
    · intro A B E G H d0 d1; exact rP (y_leq (ed d0 rfl rfl rfl) (ed d1 rfl rfl rfl))
    · intro A B E G H d0; exact rP (y_move (ed d0 rfl rfl rfl))
    · intro A B E G H d0
      refine run_guard G rfl rfl (by decide) (ed d0 rfl rfl rfl) (fun hg => ?_)
      have hp := of_decide_eq_false hg
      exact y_move (kp (H 7 rfl) E q31)
    · intro A B E G H d0
      refine run_guard G rfl rfl (by decide) (ed d0 rfl rfl rfl) (fun hg => ?_)
      have hp := of_decide_eq_false hg
      exact y_move (kp (H 0 rfl) E q28)
    · intro A B E G H d0 d1 d2
      refine run_guard G rfl rfl (by decide) (ed d2 rfl rfl rfl) (fun hg => ?_)
      have hp := of_decide_eq_false hg
      exact y_gtr ((ed d0 rfl rfl rfl).1 hg) ((ed d1 rfl rfl rfl).1 hg)
    · intro A B E G H d0 d1; exact rP (y_pick_or (ed d0 rfl rfl rfl) rfl (ed d1 rfl rfl rfl))
    · intro A B E G H d0 d1; exact rP (y_move (ed d0 rfl rfl rfl))
    · intro A B E G H d0
      refine run_guard G rfl rfl (by decide) (ed d0 rfl rfl rfl) (fun hg => ?_)
      obtain ⟨d3, d4⟩ := Bool.or_eq_false_iff.mp hg
      have d3 := of_decide_eq_false d3
      have d4 := of_decide_eq_false d4
      exact y_move (kp (H 7 rfl) E q31)
    · intro A B E G H d0
      refine run_guard G rfl rfl (by decide) (ed d0 rfl rfl rfl) (fun hg => ?_)
      obtain ⟨d5, d6⟩ := Bool.or_eq_false_iff.mp hg
      have d5 := of_decide_eq_false d5
      have d6 := of_decide_eq_false d6
      exact y_move (kp (H 5 rfl) E q27)
    · intro A B E G H d0 d1 d2
      refine run_guard G rfl rfl (by decide) (ed d2 rfl rfl rfl) (fun hg => ?_)
      obtain ⟨d7, d8⟩ := Bool.or_eq_false_iff.mp hg
      have d7 := of_decide_eq_false d7
      have d8 := of_decide_eq_false d8
      exact y_sub ((ed d0 rfl rfl rfl).1 hg) ((ed d1 rfl rfl rfl).1 hg) (w64 (by omega) (by omega))
    · intro A B E G H d0 d1
      refine run_guard G rfl rfl (by decide) (ed d1 rfl rfl rfl) (fun hg => ?_)
      obtain ⟨d9, d10⟩ := Bool.or_eq_false_iff.mp hg
      have d9 := of_decide_eq_false d9
      have d10 := of_decide_eq_false d10
      exact y_remN (toN (σ := B) ((ed d0 rfl rfl rfl).1 hg) (by omega)) (toN (σ := B) rfl (by omega)) (by omega)
    · intro A B E G H d0 d1
      refine run_guard G rfl rfl (by decide) (ed d1 rfl rfl rfl) (fun hg => ?_)
      obtain ⟨d11, d12⟩ := Bool.or_eq_false_iff.mp hg
      have d11 := of_decide_eq_false d11
      have d12 := of_decide_eq_false d12
      exact y_eql ((ed d0 rfl rfl rfl).1 hg) rfl
    · intro A B E G H d0 d1; exact rP (y_pick_or (ed d0 rfl rfl rfl) rfl (ed d1 rfl rfl rfl))
    intro a10 s8 D8; have ok9 := D8.ok; have F9 := F8.step0 D8.stp; have q32 := D8.kt q26 rfl; have q33 := D8.kt q28 rfl; have q34 := D8.kt q29 rfl; have q35 := D8.kt q30 rfl; have q36 := D8.kt q31 rfl; have q37 := D8.dn 14 rfl rfl; clear D8; refine tn ?_
    refine cond_t q37 (fun c3 => ?_) (fun c3 => ?_)
    ·
     simp only [Bool.or_eq_true, decide_eq_true_eq] at c3
     refine wp_seq ?_
     refine rg a10 s8 [(Ty.int (6 : Int))] ok9 ⟨?_, trivial⟩ ?_
     · intro A B E G H; exact rP (y_assign rfl)
     intro a11 s9 D9; have ok10 := D9.ok; have F10 := F9.step0 D9.stp; have q38 := D9.dn 0 rfl rfl; clear D9; refine tn ?_; refine wp_ret ?_
     refine tr ?_
     refine br ?_
     refine tr ?_
     refine tr ?_
     refine br ?_
     refine tr ?_
     exact ret1 rfl ok10 F10 (cvi (by (exact (chgMay_scan (by omega) E (by omega) (by omega)).symm)) q38)
    ·
     obtain ⟨d13, d14⟩ := Bool.or_eq_false_iff.mp c3
     obtain ⟨d15, d16⟩ := Bool.or_eq_false_iff.mp d13
     replace d15 := of_decide_eq_false d15
     replace d16 := of_decide_eq_false d16
     replace d14 := of_decide_eq_false d14
     refine wp_skip ?_
     refine tn ?_
     refine rg a10 s8 [(Ty.int (l.getD k 0)), (Ty.int (l.getD k 0))] ok9 ⟨?_, ?_, trivial⟩ ?_
     · intro A B E G H; exact rP (y_move (kp (H 7 rfl) E q36))
     · intro A B E G H d0 d1; exact rP (y_assign (ed d0 rfl rfl rfl))
     intro a12 s10 D10; have ok11 := D10.ok; have F11 := F9.step0 D10.stp; have q39 := D10.kt q32 rfl; have q40 := D10.kt q33 rfl; have q41 := D10.kt q34 rfl; have q42 := D10.kt q35 rfl; have q43 := D10.dn 1 rfl rfl; clear D10; refine bn ?_; refine tn ?_
     refine rg a12 s10 [(Ty.int (((k : Nat) : Int) + (1 : Int))), (Ty.int (((k : Nat) : Int) + (1 : Int)))] ok11 ⟨?_, ?_, trivial⟩ ?_
     · intro A B E G H; exact rP (y_add (kp (H 16 rfl) E q39) rfl (w64 (by omega) (by omega)))
     · intro A B E G H d0; exact rP (y_move (ed d0 rfl rfl rfl))
     intro a13 s11 D11; have ok12 := D11.ok; have F12 := F11.step0 D11.stp; have q44 := D11.kt q40 rfl; have q45 := D11.kt q41 rfl; have q46 := D11.kt q42 rfl; have q47 := D11.kt q43 rfl; have q48 := D11.dn 1 rfl rfl; clear D11
     have d1_ := (of_decide_eq_false (Bool.or_eq_false_iff.1 c3).2)
     have d2_ := of_decide_eq_false (Bool.or_eq_false_iff.1 (Bool.or_eq_false_iff.1 c3).1).1
     have d3_ := of_decide_eq_false (Bool.or_eq_false_iff.1 (Bool.or_eq_false_iff.1 c3).1).2
     exact tn ⟨l.length - ((k+1)), by omega, s11, (k+1), (l.getD k 0), rfl, F12, ok12, (cvi (by (first | rfl | omega | (simp_all; done) | (simp_all; omega))) q48), (cvi (by (first | rfl | omega | (simp_all; done) | (simp_all; omega))) q47), q44, q45, q46, by omega, scan_step E (by omega) (by omega) (by omega) d1_, by omega, rfl⟩
   ·
    have hk2 : k = l.length := (by omega)
    refine wp_exit ?_; refine tx ?_; refine tx ?_; refine bx ?_; refine tn ?_; refine wp_seq ?_; refine wp_seq ?_
    refine rg a8 s6 [(Ty.int n), (Ty.int z), (Ty.int (n - z)), (Ty.nat (((n - z)).toNat % 2)), (Ty.bool (decide ((((((n - z)).toNat % 2) : Nat) : Int) = (1 : Int))))] ok7 ⟨?_, ?_, ?_, ?_, ?_, trivial⟩ ?_
    · intro A B E G H; exact rP (y_move (kp (H 0 rfl) E q22))
    · intro A B E G H; exact rP (y_move (kp (H 5 rfl) E q21))
    · intro A B E G H d0 d1; exact rP (y_sub (ed d0 rfl rfl rfl) (ed d1 rfl rfl rfl) (w64 (by omega) (by omega)))
    · intro A B E G H d0; exact rP (y_remN (toN (σ := B) (ed d0 rfl rfl rfl) (by omega)) (toN (σ := B) rfl (by omega)) (by omega))
    · intro A B E G H d0; exact rP (y_eql (ed d0 rfl rfl rfl) rfl)
    intro a14 s12 D12; have ok13 := D12.ok; have F13 := F7.step0 D12.stp; have q49 := D12.dn 4 rfl rfl; clear D12; refine tn ?_
    refine cond_p (p := ((((((n - z)).toNat % 2) : Nat) : Int) = (1 : Int))) q49 (fun c4 => ?_) (fun c4 => ?_)
    ·
     refine wp_seq ?_
     refine rg a14 s12 [(Ty.int (6 : Int))] ok13 ⟨?_, trivial⟩ ?_
     · intro A B E G H; exact rP (y_assign rfl)
     intro a15 s13 D13; have ok14 := D13.ok; have F14 := F13.step0 D13.stp; have q50 := D13.dn 0 rfl rfl; clear D13; refine tn ?_; refine wp_ret ?_
     refine tr ?_
     exact ret1 rfl ok14 F14 (cvi (by (exact (chgMay_odd (by omega) (by rw [← hk2]; exact E) (by omega)).symm)) q50)
    ·
     refine wp_skip ?_
     refine tn ?_; refine wp_seq ?_
     refine rg a14 s12 [(Ty.int (0 : Int))] ok13 ⟨?_, trivial⟩ ?_
     · intro A B E G H; exact rP (y_assign rfl)
     intro a16 s14 D14; have ok15 := D14.ok; have F15 := F13.step0 D14.stp; have q51 := D14.dn 0 rfl rfl; clear D14; refine tn ?_; refine wp_ret ?_
     exact ret1 rfl ok15 F15 (cvi (by (exact (chgMay_ok (by omega) (by rw [← hk2]; exact E) (by omega)).symm)) q51)

theorem Try.inf9 : Info Try.prog 9 (.string ByteArray.empty) 1 16 := by unfold Info; kernel_rfl
theorem Try.inf29 : Info Try.prog 29 (.slice none 0 0) 1 24 := by unfold Info; kernel_rfl
theorem Try.fld31_0 : fieldOf Try.prog 31 0 = some (9, 0) := by kernel_rfl
theorem Try.fld31_1 : fieldOf Try.prog 31 1 = some (3, 1) := by kernel_rfl
theorem Try.fld31_2 : fieldOf Try.prog 31 2 = some (29, 2) := by kernel_rfl
set_option maxRecDepth 100000 in
theorem mCheck_fn (nm : ByteArray) (n : Int) (l : List (List Int)) (σ : GW) (v0 : Value) (hv0 : Ty.has (Ty.agg [(Ty.val (Value.string nm)), (Ty.int n), (Ty.lst Ty.ints l)]) σ v0) (hnm : nm.size ≤ 1099511627776) (hn : -9223372036854775808 ≤ n ∧ n ≤ 9223372036854775807) :
    FnC Try.prog 75 #[v0] σ (Ty.int (methMay nm n l)) := by
 refine fn_intro Try.func75 rfl Try.ntmps75 (Nat.le_of_ble_eq_true rfl) (fun s0 a0 hle F0 ok0 hargs => ?_)
 have p0 : At (Ty.agg [(Ty.val (Value.string nm)), (Ty.int n), (Ty.lst Ty.ints l)]) s0 a0 (.tmp 0) := by have e := hargs 0 _ rfl; show Ty.has _ _ _; rw [e]; exact Ty.up _ hle hv0
 clear hargs; refine wp_seq ?_
 refine rg a0 s0 [(Ty.ref [(Ty.val (Value.string nm)), (Ty.int n), (Ty.lst Ty.ints l)]), (Ty.int (0 : Int))] ok0 ⟨?_, ?_, trivial⟩ ?_
 · intro A B E G H; exact rP (y_boxagg (kp (H 0 rfl) E p0))
 · intro A B E G H; exact rP (y_assign rfl)
 intro a1 s1 D1; have ok1 := D1.ok; have F1 := F0.step0 D1.stp; have q1 := D1.dn 0 rfl rfl; clear D1; refine tn ?_; refine wp_seq ?_
 refine wp_block ?_
 refine wp_seq ?_
 refine rg a1 s1 [(Ty.ref [(Ty.val (Value.string nm)), (Ty.int n), (Ty.lst Ty.ints l)]), (Ty.val (Value.string nm)), (Ty.bool (nameL (nm))), (Ty.bool (!(nameL (nm)))), (Ty.bool (!(nameL (nm))))] ok1 ⟨?_, ?_, ?_, ?_, ?_, trivial⟩ ?_
 · intro A B E G H; exact rP (y_field Try.fld31_0 Try.inf9 (by decide) (kp (H 1 rfl) E q1) rfl)
 · intro A B E G H d0; exact rP (y_load Try.underlying9 rfl (ed d0 rfl rfl rfl) rfl)
 · intro A B E G H d0; exact rP (y_call #[A.eval (.tmp 8)] Try.func99 rfl rfl (by simp only [List.map_toArray, List.map_cons, List.map_nil]) (mName_fn (nm) _ _ (ed d0 rfl rfl rfl) (by first | omega | assumption)))
 · intro A B E G H d0; exact rP (y_not (ed d0 rfl rfl rfl))
 · intro A B E G H d0 d1; exact rP (y_assign (ed d0 rfl rfl rfl))
 intro a2 s2 D2; have ok2 := D2.ok; have F2 := F1.step0 D2.stp; have q2 := D2.kt q1 rfl; have q3 := D2.dn 4 rfl rfl; clear D2; refine tn ?_
 refine cond_t q3 (fun c1 => ?_) (fun c1 => ?_)
 ·
  have hnn : nameL nm = false := (by simpa using c1)
  refine wp_seq ?_
  refine rg a2 s2 [(Ty.int (7 : Int))] ok2 ⟨?_, trivial⟩ ?_
  · intro A B E G H; exact rP (y_assign rfl)
  intro a3 s3 D3; have ok3 := D3.ok; have F3 := F2.step0 D3.stp; have q4 := D3.dn 0 rfl rfl; clear D3; refine tn ?_; refine wp_ret ?_
  refine br ?_
  refine tr ?_
  exact ret1 rfl ok3 F3 (cvi (by (unfold methMay; rw [if_pos hnn])) q4)
 ·
  have hnn : ¬ nameL nm = false := (by simpa using c1)
  refine wp_seq ?_
  refine rg a2 s2 [(Ty.ref [(Ty.int n), (Ty.lst Ty.ints l)]), (Ty.int n), (Ty.bool (decide (n < (2 : Int)))), (Ty.bool (decide (n < (2 : Int)))), (Ty.grd ((decide (n < (2 : Int))) = false) (Ty.ref [(Ty.int n), (Ty.lst Ty.ints l)])), (Ty.grd ((decide (n < (2 : Int))) = false) (Ty.int n)), (Ty.grd ((decide (n < (2 : Int))) = false) (Ty.bool (decide ((12 : Int) < n)))), (Ty.bool ((decide (n < (2 : Int))) || (decide ((12 : Int) < n)))), (Ty.bool ((decide (n < (2 : Int))) || (decide ((12 : Int) < n)))), (Ty.grd (((decide (n < (2 : Int))) || (decide ((12 : Int) < n))) = false) (Ty.ref [(Ty.lst Ty.ints l)])), (Ty.grd (((decide (n < (2 : Int))) || (decide ((12 : Int) < n))) = false) (Ty.lst Ty.ints l)), (Ty.grd (((decide (n < (2 : Int))) || (decide ((12 : Int) < n))) = false) (Ty.nat (List.length l))), (Ty.grd (((decide (n < (2 : Int))) || (decide ((12 : Int) < n))) = false) (Ty.bool (decide ((((List.length l) : Nat) : Int) < (1 : Int))))), (Ty.bool (((decide (n < (2 : Int))) || (decide ((12 : Int) < n))) || (decide ((((List.length l) : Nat) : Int) < (1 : Int))))), (Ty.bool (((decide (n < (2 : Int))) || (decide ((12 : Int) < n))) || (decide ((((List.length l) : Nat) : Int) < (1 : Int))))), (Ty.grd ((((decide (n < (2 : Int))) || (decide ((12 : Int) < n))) || (decide ((((List.length l) : Nat) : Int) < (1 : Int)))) = false) (Ty.ref [(Ty.lst Ty.ints l)])), (Ty.grd ((((decide (n < (2 : Int))) || (decide ((12 : Int) < n))) || (decide ((((List.length l) : Nat) : Int) < (1 : Int)))) = false) (Ty.lst Ty.ints l)), (Ty.grd ((((decide (n < (2 : Int))) || (decide ((12 : Int) < n))) || (decide ((((List.length l) : Nat) : Int) < (1 : Int)))) = false) (Ty.nat (List.length l))), (Ty.grd ((((decide (n < (2 : Int))) || (decide ((12 : Int) < n))) || (decide ((((List.length l) : Nat) : Int) < (1 : Int)))) = false) (Ty.bool (decide ((200 : Int) < (((List.length l) : Nat) : Int))))), (Ty.bool ((((decide (n < (2 : Int))) || (decide ((12 : Int) < n))) || (decide ((((List.length l) : Nat) : Int) < (1 : Int)))) || (decide ((200 : Int) < (((List.length l) : Nat) : Int))))), (Ty.bool ((((decide (n < (2 : Int))) || (decide ((12 : Int) < n))) || (decide ((((List.length l) : Nat) : Int) < (1 : Int)))) || (decide ((200 : Int) < (((List.length l) : Nat) : Int)))))] ok2 ⟨?_, ?_, ?_, ?_, ?_, ?_, ?_, ?_, ?_, ?_, ?_, ?_, ?_, ?_, ?_, ?_, ?_, ?_, ?_, ?_, ?_, trivial⟩ ?_
  · intro A B E G H; exact rP (y_field Try.fld31_1 Try.inf3 (by decide) (kp (H 1 rfl) E q2) rfl)
  · intro A B E G H d0; exact rP (y_load Try.underlying3 rfl (ed d0 rfl rfl rfl) rfl)
  · intro A B E G H d0; exact rP (y_lss (ed d0 rfl rfl rfl) rfl)
  · intro A B E G H d0; exact rP (y_move (ed d0 rfl rfl rfl))
  · intro A B E G H d0
    refine run_guard G rfl rfl (by decide) (ed d0 rfl rfl rfl) (fun hg => ?_)
    have hp := of_decide_eq_false hg
    exact y_field Try.fld31_1 Try.inf3 (by decide) (kp (H 1 rfl) E q2) rfl
  · intro A B E G H d0 d1
    refine run_guard G rfl rfl (by decide) (ed d1 rfl rfl rfl) (fun hg => ?_)
    have hp := of_decide_eq_false hg
    exact y_load Try.underlying3 rfl ((ed d0 rfl rfl rfl).1 hg) rfl
  · intro A B E G H d0 d1
    refine run_guard G rfl rfl (by decide) (ed d1 rfl rfl rfl) (fun hg => ?_)
    have hp := of_decide_eq_false hg
    exact y_gtr ((ed d0 rfl rfl rfl).1 hg) rfl
  · intro A B E G H d0 d1; exact rP (y_pick_or (ed d0 rfl rfl rfl) rfl (ed d1 rfl rfl rfl))
  · intro A B E G H d0 d1; exact rP (y_move (ed d0 rfl rfl rfl))
  · intro A B E G H d0
    refine run_guard G rfl rfl (by decide) (ed d0 rfl rfl rfl) (fun hg => ?_)
    obtain ⟨d1, d2⟩ := Bool.or_eq_false_iff.mp hg
    have d1 := of_decide_eq_false d1
    have d2 := of_decide_eq_false d2
    exact y_field Try.fld31_2 Try.inf29 (by decide) (kp (H 1 rfl) E q2) rfl
  · intro A B E G H d0 d1
    refine run_guard G rfl rfl (by decide) (ed d1 rfl rfl rfl) (fun hg => ?_)
    obtain ⟨d3, d4⟩ := Bool.or_eq_false_iff.mp hg
    have d3 := of_decide_eq_false d3
    have d4 := of_decide_eq_false d4
    exact y_load Try.underlying29 rfl ((ed d0 rfl rfl rfl).1 hg) rfl
  · intro A B E G H d0 d1
    refine run_guard G rfl rfl (by decide) (ed d1 rfl rfl rfl) (fun hg => ?_)
    obtain ⟨d5, d6⟩ := Bool.or_eq_false_iff.mp hg
    have d5 := of_decide_eq_false d5
    have d6 := of_decide_eq_false d6
    exact y_len Try.underlying29 ((ed d0 rfl rfl rfl).1 hg)
  · intro A B E G H d0 d1
    refine run_guard G rfl rfl (by decide) (ed d1 rfl rfl rfl) (fun hg => ?_)
    obtain ⟨d7, d8⟩ := Bool.or_eq_false_iff.mp hg
    have d7 := of_decide_eq_false d7
    have d8 := of_decide_eq_false d8
    exact y_lss ((ed d0 rfl rfl rfl).1 hg) rfl
  · intro A B E G H d0 d1; exact rP (y_pick_or (ed d0 rfl rfl rfl) rfl (ed d1 rfl rfl rfl))
  · intro A B E G H d0 d1; exact rP (y_move (ed d0 rfl rfl rfl))
  · intro A B E G H d0
    refine run_guard G rfl rfl (by decide) (ed d0 rfl rfl rfl) (fun hg => ?_)
    obtain ⟨d9, d10⟩ := Bool.or_eq_false_iff.mp hg
    obtain ⟨d11, d12⟩ := Bool.or_eq_false_iff.mp d9
    have d11 := of_decide_eq_false d11
    have d12 := of_decide_eq_false d12
    have d10 := of_decide_eq_false d10
    exact y_field Try.fld31_2 Try.inf29 (by decide) (kp (H 1 rfl) E q2) rfl
  · intro A B E G H d0 d1
    refine run_guard G rfl rfl (by decide) (ed d1 rfl rfl rfl) (fun hg => ?_)
    obtain ⟨d13, d14⟩ := Bool.or_eq_false_iff.mp hg
    obtain ⟨d15, d16⟩ := Bool.or_eq_false_iff.mp d13
    have d15 := of_decide_eq_false d15
    have d16 := of_decide_eq_false d16
    have d14 := of_decide_eq_false d14
    exact y_load Try.underlying29 rfl ((ed d0 rfl rfl rfl).1 hg) rfl
  · intro A B E G H d0 d1
    refine run_guard G rfl rfl (by decide) (ed d1 rfl rfl rfl) (fun hg => ?_)
    obtain ⟨d17, d18⟩ := Bool.or_eq_false_iff.mp hg
    obtain ⟨d19, d20⟩ := Bool.or_eq_false_iff.mp d17
    have d19 := of_decide_eq_false d19
    have d20 := of_decide_eq_false d20
    have d18 := of_decide_eq_false d18
    exact y_len Try.underlying29 ((ed d0 rfl rfl rfl).1 hg)
  · intro A B E G H d0 d1
    refine run_guard G rfl rfl (by decide) (ed d1 rfl rfl rfl) (fun hg => ?_)
    obtain ⟨d21, d22⟩ := Bool.or_eq_false_iff.mp hg
    obtain ⟨d23, d24⟩ := Bool.or_eq_false_iff.mp d21
    have d23 := of_decide_eq_false d23
    have d24 := of_decide_eq_false d24
    have d22 := of_decide_eq_false d22
    exact y_gtr ((ed d0 rfl rfl rfl).1 hg) rfl
  · intro A B E G H d0 d1; exact rP (y_pick_or (ed d0 rfl rfl rfl) rfl (ed d1 rfl rfl rfl))
  · intro A B E G H d0 d1; exact rP (y_assign (ed d0 rfl rfl rfl))
  intro a4 s4 D4; have ok4 := D4.ok; have F4 := F2.step0 D4.stp; have q5 := D4.kt q2 rfl; have q6 := D4.dn 20 rfl rfl; clear D4; refine tn ?_
  refine cond_t q6 (fun c2 => ?_) (fun c2 => ?_)
  ·
   simp only [Bool.or_eq_true, decide_eq_true_eq] at c2; have h4 : n < 2 ∨ 12 < n ∨ l.length < 1 ∨ 200 < l.length := (by omega)
   refine wp_seq ?_
   refine rg a4 s4 [(Ty.int (1 : Int))] ok4 ⟨?_, trivial⟩ ?_
   · intro A B E G H; exact rP (y_assign rfl)
   intro a5 s5 D5; have ok5 := D5.ok; have F5 := F4.step0 D5.stp; have q7 := D5.dn 0 rfl rfl; clear D5; refine tn ?_; refine wp_ret ?_
   refine br ?_
   refine tr ?_
   exact ret1 rfl ok5 F5 (cvi (by (unfold methMay; rw [if_neg hnn, if_pos h4])) q7)
  ·
   obtain ⟨d25, d26⟩ := Bool.or_eq_false_iff.mp c2
   obtain ⟨d27, d28⟩ := Bool.or_eq_false_iff.mp d25
   obtain ⟨d29, d30⟩ := Bool.or_eq_false_iff.mp d27
   replace d29 := of_decide_eq_false d29
   replace d30 := of_decide_eq_false d30
   replace d28 := of_decide_eq_false d28
   replace d26 := of_decide_eq_false d26
   have h4 : ¬ (n < 2 ∨ 12 < n ∨ l.length < 1 ∨ 200 < l.length) := (by simp only [Bool.or_eq_false_iff, decide_eq_false_iff_not] at c2; omega); have hmm : methMay nm n l = allMay n l := (by unfold methMay; rw [if_neg hnn, if_neg h4])
   refine wp_skip ?_
   refine bn ?_; refine tn ?_; refine wp_seq ?_; refine wp_seq ?_
   refine rg a4 s4 [(Ty.ref [(Ty.lst Ty.ints l)]), (Ty.lst Ty.ints l), (Ty.nat (List.length l)), (Ty.int (0 : Int))] ok4 ⟨?_, ?_, ?_, ?_, trivial⟩ ?_
   · intro A B E G H; exact rP (y_field Try.fld31_2 Try.inf29 (by decide) (kp (H 1 rfl) E q5) rfl)
   · intro A B E G H d0; exact rP (y_load Try.underlying29 rfl (ed d0 rfl rfl rfl) rfl)
   · intro A B E G H d0; exact rP (y_len Try.underlying29 (ed d0 rfl rfl rfl))
   · intro A B E G H; exact rP (y_move rfl)
   intro a6 s6 D6; have ok6 := D6.ok; have F6 := F4.step0 D6.stp; have q8 := D6.kt q5 rfl; have q9 := D6.dn 1 rfl rfl
   have b1 := sl_le q9
   have q10 := D6.dn 2 rfl rfl; have q11 := D6.dn 3 rfl rfl; clear D6; refine tn ?_
   refine wp_block ?_
   refine loop (fun n1 a7 w1 => ∃ (t1 : GW) (k : Nat), t1.w = w1 ∧ From s0 t1 ∧ Ok 47 a7 ∧ At (Ty.nat k) t1 a7 (.tmp 35) ∧ At (Ty.ref [(Ty.val (Value.string nm)), (Ty.int n), (Ty.lst Ty.ints l)]) t1 a7 (.tmp 1) ∧ At (Ty.lst Ty.ints l) t1 a7 (.tmp 33) ∧ At (Ty.nat (List.length l)) t1 a7 (.tmp 34) ∧ (k ≤ l.length) ∧ (allMay n (l.drop k) = allMay n l) ∧ n1 = l.length - k) (l.length - (0)) ?_ ?_
   ·
    exact ⟨s6, 0, rfl, F6, ok6, (cvi (by (first | rfl | omega | (simp_all; done) | (simp_all; omega))) q11), q8, q9, q10, by omega, rfl, rfl⟩
   ·
    rintro n2 a8 w2 ⟨t2, k, rfl, F7, ok7, q12, q13, q14, q15, hk, ha, rfl⟩
    refine wp_seq ?_
    refine reg (a := a8) (σ := t2) rfl (fun i_ => List.getD [(Ty.pr (Ty.bool (decide (((k : Nat) : Int) < (((List.length l) : Nat) : Int)))))] i_ Pr.any) ok7 rfl ⟨?_, trivial⟩ ?_
    · intro A B E G H; exact rP (y_lss (kp (H 35 rfl) E q12) (kp (H 34 rfl) E q15))
    intro a9 s7 D7; have ok8 := D7.ok; have F8 := F7.step0 D7.stp; have q16 := D7.kt q12 rfl; have q17 := D7.kt q13 rfl; have q18 := D7.kt q14 rfl; have q19 := D7.kt q15 rfl; have q20 := D7.dn 0 rfl rfl; clear D7; refine tn ?_; refine wp_seq ?_
    refine cond_p (p := (((k : Nat) : Int) < (((List.length l) : Nat) : Int))) q20 (fun c3 => ?_) (fun c3 => ?_)
    ·
     refine wp_skip ?_
     refine tn ?_; refine wp_seq ?_
     refine wp_block ?_
     refine wp_seq ?_
     refine rg a9 s7 [(Ty.ref [(Ty.lst Ty.int (l.getD k []))]), (Ty.lst Ty.int (l.getD k [])), (Ty.lst Ty.int (l.getD k []))] ok8 ⟨?_, ?_, ?_, trivial⟩ ?_
     · intro A B E G H; exact rP (y_index1 Try.underlying29 Try.inf23 (kp (H 33 rfl) E q18) (kp (H 35 rfl) E q16) (by omega) (lst_get Ty.ints l [] k (by omega)))
     · intro A B E G H d0; exact rP (y_load Try.underlying23 rfl (ed d0 rfl rfl rfl) rfl)
     · intro A B E G H d0 d1 d2; exact rP (y_assign (ed d0 rfl rfl rfl))
     intro a10 s8 D8; have ok9 := D8.ok; have F9 := F8.step0 D8.stp; have q21 := D8.kt q16 rfl; have q22 := D8.kt q17 rfl; have q23 := D8.kt q18 rfl; have q24 := D8.kt q19 rfl; have q25 := D8.dn 2 rfl rfl; clear D8; refine tn ?_; refine wp_seq ?_
     refine rg a10 s8 [(Ty.ref [(Ty.int n), (Ty.lst Ty.ints l)]), (Ty.int n), (Ty.lst Ty.int (l.getD k [])), (Ty.int (chgMay n ((l.getD k [])))), (Ty.int (chgMay n ((l.getD k []))))] ok9 ⟨?_, ?_, ?_, ?_, ?_, trivial⟩ ?_
     · intro A B E G H; exact rP (y_field Try.fld31_1 Try.inf3 (by decide) (kp (H 1 rfl) E q22) rfl)
     · intro A B E G H d0; exact rP (y_load Try.underlying3 rfl (ed d0 rfl rfl rfl) rfl)
     · intro A B E G H; exact rP (y_move (kp (H 4 rfl) E q25))
     · intro A B E G H d0 d1; exact rP (y_call #[A.eval (.tmp 40), A.eval (.tmp 41)] Try.func79 rfl rfl (by simp only [List.map_toArray, List.map_cons, List.map_nil]) (pCheck_fn (n) ((l.getD k [])) _ _ _ (ed d0 rfl rfl rfl) (ed d1 rfl rfl rfl) (by omega)))
     · intro A B E G H d0 d1 d2 d3 d4 d5; exact rP (y_assign (ed d0 rfl rfl rfl))
     intro a11 s9 D9; have ok10 := D9.ok; have F10 := F9.step0 D9.stp; have q26 := D9.kt q21 rfl; have q27 := D9.kt q22 rfl; have q28 := D9.kt q23 rfl; have q29 := D9.kt q24 rfl; have q30 := D9.dn 4 rfl rfl; clear D9; refine tn ?_; refine wp_seq ?_
     refine rg a11 s9 [(Ty.int (chgMay n ((l.getD k [])))), (Ty.bool (decide ((chgMay n ((l.getD k []))) ≠ (0 : Int))))] ok10 ⟨?_, ?_, trivial⟩ ?_
     · intro A B E G H; exact rP (y_move (kp (H 5 rfl) E q30))
     · intro A B E G H d0; exact rP (y_neq (ed d0 rfl rfl rfl) rfl)
     intro a12 s10 D10; have ok11 := D10.ok; have F11 := F10.step0 D10.stp; have q31 := D10.kt q26 rfl; have q32 := D10.kt q27 rfl; have q33 := D10.kt q28 rfl; have q34 := D10.kt q29 rfl; have q35 := D10.kt q30 rfl; have q36 := D10.dn 1 rfl rfl; clear D10; refine tn ?_
     refine cond_p (p := ((chgMay n ((l.getD k []))) ≠ (0 : Int))) q36 (fun c4 => ?_) (fun c4 => ?_)
     ·
      refine wp_seq ?_
      refine rg a12 s10 [(Ty.int (chgMay n ((l.getD k [])))), (Ty.int (chgMay n ((l.getD k []))))] ok11 ⟨?_, ?_, trivial⟩ ?_
      · intro A B E G H; exact rP (y_move (kp (H 5 rfl) E q35))
      · intro A B E G H d0 d1; exact rP (y_assign (ed d0 rfl rfl rfl))
      intro a13 s11 D11; have ok12 := D11.ok; have F12 := F11.step0 D11.stp; have q37 := D11.dn 1 rfl rfl; clear D11; refine tn ?_; refine wp_ret ?_
      refine br ?_
      refine tr ?_
      refine tr ?_
      refine br ?_
      refine tr ?_
      exact ret1 rfl ok12 F12 (cvi (by (rw [hmm]; exact (allMay_stop ha (by omega) c4).symm)) q37)
     ·
      refine wp_skip ?_
      refine bn ?_; refine tn ?_
      refine rg a12 s10 [(Ty.int (((k : Nat) : Int) + (1 : Int))), (Ty.int (((k : Nat) : Int) + (1 : Int)))] ok11 ⟨?_, ?_, trivial⟩ ?_
      · intro A B E G H; exact rP (y_add (kp (H 35 rfl) E q31) rfl (w64 (by omega) (by omega)))
      · intro A B E G H d0; exact rP (y_move (ed d0 rfl rfl rfl))
      intro a14 s12 D12; have ok13 := D12.ok; have F13 := F11.step0 D12.stp; have q38 := D12.kt q32 rfl; have q39 := D12.kt q33 rfl; have q40 := D12.kt q34 rfl; have q41 := D12.dn 1 rfl rfl; clear D12
      exact tn ⟨l.length - ((k+1)), by omega, s12, (k+1), rfl, F13, ok13, (cvi (by (first | rfl | omega | (simp_all; done) | (simp_all; omega))) q41), q38, q39, q40, by omega, allMay_step ha (by omega) c4, rfl⟩
    ·
     refine wp_exit ?_; refine tx ?_; refine tx ?_; refine bx ?_; refine tn ?_; refine wp_seq ?_
     refine rg a9 s7 [(Ty.int (0 : Int))] ok8 ⟨?_, trivial⟩ ?_
     · intro A B E G H; exact rP (y_assign rfl)
     intro a15 s13 D13; have ok14 := D13.ok; have F14 := F8.step0 D13.stp; have q42 := D13.dn 0 rfl rfl; clear D13; refine tn ?_; refine wp_ret ?_
     exact ret1 rfl ok14 F14 (cvi (by (rw [hmm]; exact (allMay_end ha (by omega)).symm)) q42)


set_option maxRecDepth 100000 in
theorem first_fn (n : Nat) (σ : GW) (v0 : Value) (hv0 : Ty.has (Ty.nat n) σ v0) (hn : n ≤ 1000000) :
    FnC Try.prog 81 #[v0] σ (Ty.lst Ty.int (roundsL n)) := by
 refine fn_intro Try.func81 rfl Try.ntmps81 (Nat.le_of_ble_eq_true rfl) (fun s0 a0 hle F0 ok0 hargs => ?_)
 have p0 : At (Ty.nat n) s0 a0 (.tmp 0) := by have e := hargs 0 _ rfl; show Ty.has _ _ _; rw [e]; exact Ty.up _ hle hv0
 clear hargs; refine wp_seq ?_
 refine rg a0 s0 [(Ty.val (Value.slice none 0 0))] ok0 ⟨?_, trivial⟩ ?_
 · intro A B E G H; exact rP (y_assign rfl)
 intro a1 s1 D1; have ok1 := D1.ok; have F1 := F0.step0 D1.stp; have q1 := D1.kt p0 rfl; clear D1; refine tn ?_; refine wp_seq ?_
 refine reg (a := a1) (σ := s1) rfl (fun i_ => List.getD [(Ty.pr (Ty.nat n)), (Pr.own 11 3 1 n (List.map Ty.int (List.replicate n 0))), (Pr.own 11 3 1 n (List.map Ty.int (List.replicate n 0)))] i_ Pr.any) ok1 rfl ⟨?_, ?_, ?_, trivial⟩ ?_
 · intro A B E G H; exact rP (y_move (kp (H 0 rfl) E q1))
 · intro A B E G H d0 d1
   have e0 := ed d0 rfl rfl rfl
   exact rP ((y_make (k := 11) (T := Ty.int 0) (n := n) Try.underlying23 Try.inf3 rfl (fun _ => rfl) e0 e0 (by omega) (by omega)).mono (fun _ _ h => cvo (by simp) (by simp) h))
 · intro A B E G H d0 d1 d2
   have e1 : (Pr.own 11 3 1 n (List.map Ty.int (List.replicate n 0))).has B (A.eval (.tmp 6)) := d0 rfl
   exact rP (y_assign e1)
 intro a2 s2 D2; have ok2 := D2.ok; have F2 := F1.step0 D2.stp
 have q2 : (Pr.own 11 3 1 n (List.map Ty.int (List.replicate n 0))).has s2 (a2.eval (.tmp 3)) := D2.done 2
 clear D2; refine tn ?_; refine wp_seq ?_; refine wp_seq ?_
 refine rg a2 s2 [(Ty.val (a2.eval (.tmp 3))), (Ty.nat n), (Ty.int (0 : Int))] ok2 ⟨?_, ?_, ?_, trivial⟩ ?_
 · intro A B E G H; exact rP (y_move (H 3 rfl))
 · intro A B E G H d0; exact rP (own_len Try.underlying23 (al (ed d0 rfl rfl rfl) ((Pr.own 11 3 1 n (List.map Ty.int (List.replicate n 0))).up E q2)))
 · intro A B E G H; exact rP (y_move rfl)
 intro a3 s3 D3; have ok3 := D3.ok; have F3 := F2.step0 D3.stp
 have q3 : (Pr.own 11 3 1 n (List.map Ty.int (List.replicate n 0))).has s3 (a3.eval (.tmp 3)) := D3.ko q2 rfl
 have q4 := D3.dn 1 rfl rfl; have q5 := D3.dn 2 rfl rfl; clear D3; refine tn ?_
 refine wp_block ?_
 refine loop (fun n1 a4 w1 => ∃ (t1 : GW) (k : Nat), t1.w = w1 ∧ From s0 t1 ∧ Ok 18 a4 ∧ At (Ty.nat k) t1 a4 (.tmp 9) ∧ (Pr.own 11 3 1 (List.length (firstTo n k)) (List.map Ty.int (firstTo n k))).has t1 (a4.eval (.tmp 3)) ∧ At (Ty.nat n) t1 a4 (.tmp 8) ∧ (k ≤ n) ∧ n1 = n - k) (n - (0)) ?_ ?_
 ·
  exact ⟨s3, 0, rfl, F3, ok3, (cvi (by (first | rfl | omega | (simp_all; done) | (simp_all; omega))) q5), (cvo (by (simp [firstTo_zero])) (by (simp [firstTo_zero])) q3), q4, by omega, rfl⟩
 ·
  rintro n2 a5 w2 ⟨t2, k, rfl, F4, ok4, q6, q7, q8, hk, rfl⟩
  have hp := firstTo_len n k
  refine wp_seq ?_
  refine reg (a := a5) (σ := t2) rfl (fun i_ => List.getD [(Ty.pr (Ty.bool (decide (((k : Nat) : Int) < ((n : Nat) : Int)))))] i_ Pr.any) ok4 rfl ⟨?_, trivial⟩ ?_
  · intro A B E G H; exact rP (y_lss (kp (H 9 rfl) E q6) (kp (H 8 rfl) E q8))
  intro a6 s4 D4; have ok5 := D4.ok; have F5 := F4.step0 D4.stp; have q9 := D4.kt q6 rfl
  have q10 : (Pr.own 11 3 1 (List.length (firstTo n k)) (List.map Ty.int (firstTo n k))).has s4 (a6.eval (.tmp 3)) := D4.ko q7 rfl
  have q11 := D4.kt q8 rfl; have q12 := D4.dn 0 rfl rfl; clear D4; refine tn ?_; refine wp_seq ?_
  refine cond_p (p := (((k : Nat) : Int) < ((n : Nat) : Int))) q12 (fun c1 => ?_) (fun c1 => ?_)
  ·
   refine wp_skip ?_
   refine tn ?_; refine wp_seq ?_
   refine wp_block ?_
   refine wp_seq ?_
   refine rg a6 s4 [(Ty.nat k), (Ty.nat k)] ok5 ⟨?_, ?_, trivial⟩ ?_
   · intro A B E G H; exact rP (y_move (kp (H 9 rfl) E q9))
   · intro A B E G H d0 d1; exact rP (y_assign (ed d0 rfl rfl rfl))
   intro a7 s5 D5; have ok6 := D5.ok; have F6 := F5.step0 D5.stp; have q13 := D5.kt q9 rfl
   have q14 : (Pr.own 11 3 1 (List.length (firstTo n k)) (List.map Ty.int (firstTo n k))).has s5 (a7.eval (.tmp 3)) := D5.ko q10 rfl
   have q15 := D5.kt q11 rfl; have q16 := D5.dn 1 rfl rfl; clear D5; refine tn ?_
   refine reg2 (a := a7) (σ := s5) rfl 4 (fun i_ => List.getD [(Ty.pr (Ty.val (a7.eval (.tmp 3)))), (Ty.pr (Ty.nat k)), (Ty.pr (Ty.nat k)), (Ty.pr (Ty.val (cellPtr (a7.eval (.tmp 3)) k)))] i_ Pr.any) ok6 rfl (by decide) rfl ⟨?_, ?_, ?_, ?_, trivial⟩ ?_
   · intro A B E G H; exact rP (y_move (H 3 rfl))
   · intro A B E G H; exact rP (y_move (kp (H 4 rfl) E q16))
   · intro A B E G H; exact rP (y_move (kp (H 4 rfl) E q16))
   · intro A B E G H d0 d1 d2 d3 d4; exact rP (own_index1 (i := ((k : Nat) : Int)) Try.underlying23 Try.inf3 ((Pr.own 11 3 1 (List.length (firstTo n k)) (List.map Ty.int (firstTo n k))).up E q14) (ed d0 rfl rfl rfl) (ed d1 rfl rfl rfl) (by omega) (by omega))
   intro a8 s6 D6; have ok7 := D6.ok; have F7 := F6.step0 D6.stp; have q17 := (Pr.own 11 3 1 (List.length (firstTo n k)) (List.map Ty.int (firstTo n k))).up D6.stp q14; have q18 := D6.kt q13 rfl
   have q19 : a8.eval (.tmp 3) = a7.eval (.tmp 3) := D6.same 3 rfl
   have q20 := D6.kt q15 rfl; have q21 := D6.dn 2 (by decide) rfl rfl; have q22 := D6.dn 3 (by decide) rfl rfl; clear D6
   refine tail_step0 (m := 11) (R := (fun _ τ => Own τ 11 3 1 (a7.eval (.tmp 3)) (List.length (firstTo n k)) ((List.map Ty.int (firstTo n k)).set k (Ty.nat k)))) rfl rfl (m_store Try.inf3 (by decide) q17 q22 (by simp only [List.length_map, List.length_set]; omega) q21 (one_val rfl)) (fun v1 s7 hs1 r1 => ?_)
   have F8 := F7.step hs1 (by decide)
   have q23 : At (Ty.nat k) s7 a8 (.tmp 9) := kpm hs1 (by decide) rfl q18
   have q24 : At (Ty.nat n) s7 a8 (.tmp 8) := kpm hs1 (by decide) rfl q20
   have q25 : At (Ty.nat k) s7 a8 (.tmp 14) := kpm hs1 (by decide) rfl q21
   have q26 : (Pr.own 11 3 1 (List.length ((firstTo n k).set k ((k : Nat) : Int))) (List.map Ty.int ((firstTo n k).set k ((k : Nat) : Int)))).has s7 (a7.eval (.tmp 3)) := (cvo (by simp) (by simp) r1)
   refine wpList_nil ?_
   have q27 : (Pr.own 11 3 1 (List.length ((firstTo n k).set k ((k : Nat) : Int))) (List.map Ty.int ((firstTo n k).set k ((k : Nat) : Int)))).has s7 (a8.eval (.tmp 3)) := al q19 q26
   refine bn ?_; refine tn ?_
   refine rg a8 s7 [(Ty.int (((k : Nat) : Int) + (1 : Int))), (Ty.int (((k : Nat) : Int) + (1 : Int)))] ok7 ⟨?_, ?_, trivial⟩ ?_
   · intro A B E G H; exact rP (y_add (kp (H 9 rfl) E q23) rfl (w64 (by omega) (by omega)))
   · intro A B E G H d0; exact rP (y_move (ed d0 rfl rfl rfl))
   intro a10 s8 D7; have ok9 := D7.ok; have F9 := F8.step0 D7.stp
   have q28 : (Pr.own 11 3 1 (List.length ((firstTo n k).set k ((k : Nat) : Int))) (List.map Ty.int ((firstTo n k).set k ((k : Nat) : Int)))).has s8 (a10.eval (.tmp 3)) := D7.ko q27 rfl
   have q29 := D7.kt q24 rfl; have q30 := D7.dn 1 rfl rfl; clear D7
   exact tn ⟨n - ((k+1)), by omega, s8, (k+1), rfl, F9, ok9, (cvi (by (first | rfl | omega | (simp_all; done) | (simp_all; omega))) q30), (cvo (by (rw [firstTo_step n k])) (by (rw [firstTo_step n k])) q28), q29, by omega, rfl⟩
  ·
   refine wp_exit ?_; refine tx ?_; refine tx ?_; refine bx ?_; refine tn ?_; refine wp_seq ?_
   refine rg a6 s4 [(Ty.val (a6.eval (.tmp 3))), (Ty.val (a6.eval (.tmp 3)))] ok5 ⟨?_, ?_, trivial⟩ ?_
   · intro A B E G H; exact rP (y_move (H 3 rfl))
   · intro A B E G H d0 d1; exact rP (y_assign (ed d0 rfl rfl rfl))
   intro a11 s9 D8; have ok10 := D8.ok; have F10 := F5.step0 D8.stp
   have q31 : (Pr.own 11 3 1 (List.length (firstTo n k)) (List.map Ty.int (firstTo n k))).has s9 (a11.eval (.tmp 2)) := al (show _ = _ from D8.done 1) ((Pr.own 11 3 1 (List.length (firstTo n k)) (List.map Ty.int (firstTo n k))).up D8.stp q10)
   clear D8; refine tn ?_; refine wp_ret ?_
   obtain ⟨t3, e1, h1, q32⟩ := Own.seal q31 (by decide)
   rw [← e1]
   have F11 := F10.step h1 (by decide)
   exact ret1 rfl ok10 F11 (cvt (by (obtain rfl : k = n := (by omega); rw [firstTo_all])) q32)


set_option maxRecDepth 100000 in
theorem rounds_fn (n : Nat) (σ : GW) (v0 : Value) (hv0 : Ty.has (Ty.nat n) σ v0) (hn : 1 ≤ n ∧ n ≤ 12) :
    FnC Try.prog 49 #[v0] σ (Ty.tup2 (Ty.lst Ty.int (roundsL n)) (Ty.int (0 : Int))) := by
 refine fn_intro Try.func49 rfl Try.ntmps49 (Nat.le_of_ble_eq_true rfl) (fun s0 a0 hle F0 ok0 hargs => ?_)
 have p0 : At (Ty.nat n) s0 a0 (.tmp 0) := by have e := hargs 0 _ rfl; show Ty.has _ _ _; rw [e]; exact Ty.up _ hle hv0
 clear hargs; refine wp_seq ?_
 refine rg a0 s0 [(Ty.val (Value.slice none 0 0)), (Ty.int (0 : Int))] ok0 ⟨?_, ?_, trivial⟩ ?_
 · intro A B E G H; exact rP (y_assign rfl)
 · intro A B E G H d0; exact rP (y_assign rfl)
 intro a1 s1 D1; have ok1 := D1.ok; have F1 := F0.step0 D1.stp; have q1 := D1.kt p0 rfl; clear D1; refine tn ?_; refine wp_seq ?_; refine wp_seq ?_
 refine rg a1 s1 [(Ty.nat n), (Ty.bool (decide (((n : Nat) : Int) < (1 : Int)))), (Ty.bool (decide (((n : Nat) : Int) < (1 : Int)))), (Ty.grd ((decide (((n : Nat) : Int) < (1 : Int))) = false) (Ty.nat n)), (Ty.grd ((decide (((n : Nat) : Int) < (1 : Int))) = false) (Ty.bool (decide ((12 : Int) < ((n : Nat) : Int))))), (Ty.bool ((decide (((n : Nat) : Int) < (1 : Int))) || (decide ((12 : Int) < ((n : Nat) : Int)))))] ok1 ⟨?_, ?_, ?_, ?_, ?_, ?_, trivial⟩ ?_
 · intro A B E G H; exact rP (y_move (kp (H 0 rfl) E q1))
 · intro A B E G H d0; exact rP (y_lss (ed d0 rfl rfl rfl) rfl)
 · intro A B E G H d0; exact rP (y_move (ed d0 rfl rfl rfl))
 · intro A B E G H d0
   refine run_guard G rfl rfl (by decide) (ed d0 rfl rfl rfl) (fun hg => ?_)
   have hp := of_decide_eq_false hg
   exact y_move (kp (H 0 rfl) E q1)
 · intro A B E G H d0 d1
   refine run_guard G rfl rfl (by decide) (ed d1 rfl rfl rfl) (fun hg => ?_)
   have hp := of_decide_eq_false hg
   exact y_gtr ((ed d0 rfl rfl rfl).1 hg) rfl
 · intro A B E G H d0 d1; exact rP (y_pick_or (ed d0 rfl rfl rfl) rfl (ed d1 rfl rfl rfl))
 intro a2 s2 D2; have ok2 := D2.ok; have F2 := F1.step0 D2.stp; have q2 := D2.kt q1 rfl; have q3 := D2.dn 5 rfl rfl; clear D2; refine tn ?_
 refine cond_t q3 (fun c1 => ?_) (fun c1 => ?_)
 ·
  exfalso
  simp only [Bool.or_eq_true, decide_eq_true_eq] at c1; omega
 ·
  obtain ⟨d1, d2⟩ := Bool.or_eq_false_iff.mp c1
  replace d1 := of_decide_eq_false d1
  replace d2 := of_decide_eq_false d2
  refine wp_skip ?_
  refine tn ?_; refine wp_seq ?_
  refine rg a2 s2 [(Ty.nat n), (Ty.lst Ty.int (roundsL n)), (Ty.lst Ty.int (roundsL n)), (Ty.int (0 : Int))] ok2 ⟨?_, ?_, ?_, ?_, trivial⟩ ?_
  · intro A B E G H; exact rP (y_move (kp (H 0 rfl) E q2))
  · intro A B E G H d0; exact rP (y_call #[A.eval (.tmp 10)] Try.func81 rfl rfl (by simp only [List.map_toArray, List.map_cons, List.map_nil]) (first_fn (n) _ _ (ed d0 rfl rfl rfl) (by omega)))
  · intro A B E G H d0 d1 d2 d3; exact rP (y_assign (ed d0 rfl rfl rfl))
  · intro A B E G H d0 d1 d2 d3; exact rP (y_assign rfl)
  intro a3 s3 D3; have ok3 := D3.ok; have F3 := F2.step0 D3.stp; have q4 := D3.dn 2 rfl rfl; have q5 := D3.dn 3 rfl rfl; clear D3; refine tn ?_; refine wp_ret ?_
  exact ret2 rfl ok3 F3 q4 q5


set_option maxRecDepth 100000 in
theorem index_fn (xs : List Int) (x : Int) (σ : GW) (v0 v1 : Value) (hv0 : Ty.has (Ty.lst Ty.int xs) σ v0) (hv1 : Ty.has (Ty.int x) σ v1)  :
    FnC Try.prog 130 #[v0, v1] σ (Ty.int (indexL xs x)) := by
 refine fn_intro Try.func130 rfl Try.ntmps130 (Nat.le_of_ble_eq_true rfl) (fun s0 a0 hle F0 ok0 hargs => ?_)
 have p0 : At (Ty.lst Ty.int xs) s0 a0 (.tmp 0) := by have e := hargs 0 _ rfl; show Ty.has _ _ _; rw [e]; exact Ty.up _ hle hv0
 have b1 := sl_le p0
 have p1 : At (Ty.int x) s0 a0 (.tmp 1) := by have e := hargs 1 _ rfl; show Ty.has _ _ _; rw [e]; exact Ty.up _ hle hv1
 clear hargs; refine wp_seq ?_
 refine rg a0 s0 [(Ty.int (0 : Int))] ok0 ⟨?_, trivial⟩ ?_
 · intro A B E G H; exact rP (y_assign rfl)
 intro a1 s1 D1; have ok1 := D1.ok; have F1 := F0.step0 D1.stp; have q1 := D1.kt p0 rfl; have q2 := D1.kt p1 rfl; clear D1; refine tn ?_; refine wp_seq ?_; refine wp_seq ?_
 refine rg a1 s1 [(Ty.lst Ty.int xs), (Ty.nat (List.length xs)), (Ty.int (0 : Int))] ok1 ⟨?_, ?_, ?_, trivial⟩ ?_
 · intro A B E G H; exact rP (y_move (kp (H 0 rfl) E q1))
 · intro A B E G H d0; exact rP (y_len Try.underlying23 (ed d0 rfl rfl rfl))
 · intro A B E G H; exact rP (y_move rfl)
 intro a2 s2 D2; have ok2 := D2.ok; have F2 := F1.step0 D2.stp; have q3 := D2.kt q1 rfl; have q4 := D2.kt q2 rfl; have q5 := D2.dn 1 rfl rfl; have q6 := D2.dn 2 rfl rfl; clear D2; refine tn ?_
 refine wp_block ?_
 refine loop (fun n1 a3 w1 => ∃ (t1 : GW) (k : Nat), t1.w = w1 ∧ From s0 t1 ∧ Ok 19 a3 ∧ At (Ty.nat k) t1 a3 (.tmp 8) ∧ At (Ty.lst Ty.int xs) t1 a3 (.tmp 0) ∧ At (Ty.int x) t1 a3 (.tmp 1) ∧ At (Ty.nat (List.length xs)) t1 a3 (.tmp 7) ∧ (k ≤ xs.length) ∧ (∀ j, j < k → xs.getD j 0 ≠ x) ∧ n1 = xs.length - k) (xs.length - (0)) ?_ ?_
 ·
  exact ⟨s2, 0, rfl, F2, ok2, (cvi (by (first | rfl | omega | (simp_all; done) | (simp_all; omega))) q6), q3, q4, q5, by omega, fun j hj => absurd hj (Nat.not_lt_zero j), rfl⟩
 ·
  rintro n2 a4 w2 ⟨t2, k, rfl, F3, ok3, q7, q8, q9, q10, hk, hno, rfl⟩
  refine wp_seq ?_
  refine reg (a := a4) (σ := t2) rfl (fun i_ => List.getD [(Ty.pr (Ty.bool (decide (((k : Nat) : Int) < (((List.length xs) : Nat) : Int)))))] i_ Pr.any) ok3 rfl ⟨?_, trivial⟩ ?_
  · intro A B E G H; exact rP (y_lss (kp (H 8 rfl) E q7) (kp (H 7 rfl) E q10))
  intro a5 s3 D3; have ok4 := D3.ok; have F4 := F3.step0 D3.stp; have q11 := D3.kt q7 rfl; have q12 := D3.kt q8 rfl; have q13 := D3.kt q9 rfl; have q14 := D3.kt q10 rfl; have q15 := D3.dn 0 rfl rfl; clear D3; refine tn ?_; refine wp_seq ?_
  refine cond_p (p := (((k : Nat) : Int) < (((List.length xs) : Nat) : Int))) q15 (fun c1 => ?_) (fun c1 => ?_)
  ·
   refine wp_skip ?_
   refine tn ?_; refine wp_seq ?_
   refine wp_block ?_
   refine wp_seq ?_
   refine rg a5 s3 [(Ty.nat k), (Ty.nat k)] ok4 ⟨?_, ?_, trivial⟩ ?_
   · intro A B E G H; exact rP (y_move (kp (H 8 rfl) E q11))
   · intro A B E G H d0 d1; exact rP (y_assign (ed d0 rfl rfl rfl))
   intro a6 s4 D4; have ok5 := D4.ok; have F5 := F4.step0 D4.stp; have q16 := D4.kt q11 rfl; have q17 := D4.kt q12 rfl; have q18 := D4.kt q13 rfl; have q19 := D4.kt q14 rfl; have q20 := D4.dn 1 rfl rfl; clear D4; refine tn ?_; refine wp_seq ?_
   refine rg a6 s4 [(Ty.int x), (Ty.lst Ty.int xs), (Ty.nat k), (Ty.ref [(Ty.int (xs.getD k 0))]), (Ty.int (xs.getD k 0)), (Ty.bool (decide (x = (xs.getD k 0))))] ok5 ⟨?_, ?_, ?_, ?_, ?_, ?_, trivial⟩ ?_
   · intro A B E G H; exact rP (y_move (kp (H 1 rfl) E q18))
   · intro A B E G H; exact rP (y_move (kp (H 0 rfl) E q17))
   · intro A B E G H; exact rP (y_move (kp (H 5 rfl) E q20))
   · intro A B E G H d0 d1; exact rP (y_index1 Try.underlying23 Try.inf3 (ed d0 rfl rfl rfl) (ed d1 rfl rfl rfl) (by omega) (lst_get Ty.int xs 0 k (by omega)))
   · intro A B E G H d0; exact rP (y_load Try.underlying3 rfl (ed d0 rfl rfl rfl) rfl)
   · intro A B E G H d0 d1; exact rP (y_eql (ed d0 rfl rfl rfl) (ed d1 rfl rfl rfl))
   intro a7 s5 D5; have ok6 := D5.ok; have F6 := F5.step0 D5.stp; have q21 := D5.kt q16 rfl; have q22 := D5.kt q17 rfl; have q23 := D5.kt q18 rfl; have q24 := D5.kt q19 rfl; have q25 := D5.kt q20 rfl; have q26 := D5.dn 5 rfl rfl; clear D5; refine tn ?_
   refine cond_p (p := (x = (xs.getD k 0))) q26 (fun c2 => ?_) (fun c2 => ?_)
   ·
    refine wp_seq ?_
    refine rg a7 s5 [(Ty.nat k), (Ty.nat k)] ok6 ⟨?_, ?_, trivial⟩ ?_
    · intro A B E G H; exact rP (y_move (kp (H 5 rfl) E q25))
    · intro A B E G H d0 d1; exact rP (y_assign (ed d0 rfl rfl rfl))
    intro a8 s6 D6; have ok7 := D6.ok; have F7 := F6.step0 D6.stp; have q27 := D6.dn 1 rfl rfl; clear D6; refine tn ?_; refine wp_ret ?_
    refine br ?_
    refine tr ?_
    refine tr ?_
    refine br ?_
    refine tr ?_
    exact ret1 rfl ok7 F7 (cvi (by (exact (indexL_yes (by omega) (by assumption) hno).symm)) q27)
   ·
    refine wp_skip ?_
    refine bn ?_; refine tn ?_
    refine rg a7 s5 [(Ty.int (((k : Nat) : Int) + (1 : Int))), (Ty.int (((k : Nat) : Int) + (1 : Int)))] ok6 ⟨?_, ?_, trivial⟩ ?_
    · intro A B E G H; exact rP (y_add (kp (H 8 rfl) E q21) rfl (w64 (by omega) (by omega)))
    · intro A B E G H d0; exact rP (y_move (ed d0 rfl rfl rfl))
    intro a9 s7 D7; have ok8 := D7.ok; have F8 := F6.step0 D7.stp; have q28 := D7.kt q22 rfl; have q29 := D7.kt q23 rfl; have q30 := D7.kt q24 rfl; have q31 := D7.dn 1 rfl rfl; clear D7
    exact tn ⟨xs.length - ((k+1)), by omega, s7, (k+1), rfl, F8, ok8, (cvi (by (first | rfl | omega | (simp_all; done) | (simp_all; omega))) q31), q28, q29, q30, by omega, fun j hj => by (by_cases e : j = k; subst e; exact fun h => c2 h.symm; exact hno j (by omega)), rfl⟩
  ·
   refine wp_exit ?_; refine tx ?_; refine tx ?_; refine bx ?_; refine tn ?_; refine wp_seq ?_
   refine rg a5 s3 [(Ty.int (-1 : Int))] ok4 ⟨?_, trivial⟩ ?_
   · intro A B E G H; exact rP (y_assign rfl)
   intro a10 s8 D8; have ok9 := D8.ok; have F9 := F4.step0 D8.stp; have q32 := D8.dn 0 rfl rfl; clear D8; refine tn ?_; refine wp_ret ?_
   exact ret1 rfl ok9 F9 (cvi (by (exact (indexL_no (fun j hj => hno j (by omega))).symm)) q32)


set_option maxRecDepth 100000 in
theorem contains_fn (xs : List Int) (x : Int) (σ : GW) (v0 v1 : Value) (hv0 : Ty.has (Ty.lst Ty.int xs) σ v0) (hv1 : Ty.has (Ty.int x) σ v1)  :
    FnC Try.prog 118 #[v0, v1] σ (Ty.bool (decide (x ∈ xs))) := by
 refine fn_intro Try.func118 rfl Try.ntmps118 (Nat.le_of_ble_eq_true rfl) (fun s0 a0 hle F0 ok0 hargs => ?_)
 have p0 : At (Ty.lst Ty.int xs) s0 a0 (.tmp 0) := by have e := hargs 0 _ rfl; show Ty.has _ _ _; rw [e]; exact Ty.up _ hle hv0
 have b1 := sl_le p0
 have p1 : At (Ty.int x) s0 a0 (.tmp 1) := by have e := hargs 1 _ rfl; show Ty.has _ _ _; rw [e]; exact Ty.up _ hle hv1
 clear hargs; refine wp_seq ?_
 refine rg a0 s0 [(Ty.bool false)] ok0 ⟨?_, trivial⟩ ?_
 · intro A B E G H; exact rP (y_assign rfl)
 intro a1 s1 D1; have ok1 := D1.ok; have F1 := F0.step0 D1.stp; have q1 := D1.kt p0 rfl; have q2 := D1.kt p1 rfl; clear D1; refine tn ?_; refine wp_seq ?_
 refine rg a1 s1 [(Ty.lst Ty.int xs), (Ty.int x), (Ty.int (indexL xs x)), (Ty.bool (decide ((0 : Int) ≤ (indexL xs x)))), (Ty.bool (decide ((0 : Int) ≤ (indexL xs x))))] ok1 ⟨?_, ?_, ?_, ?_, ?_, trivial⟩ ?_
 · intro A B E G H; exact rP (y_move (kp (H 0 rfl) E q1))
 · intro A B E G H; exact rP (y_move (kp (H 1 rfl) E q2))
 · intro A B E G H d0 d1; exact rP (y_call #[A.eval (.tmp 5), A.eval (.tmp 6)] Try.func130 rfl rfl (by simp only [List.map_toArray, List.map_cons, List.map_nil]) (index_fn (xs) (x) _ _ _ (ed d0 rfl rfl rfl) (ed d1 rfl rfl rfl) ))
 · intro A B E G H d0; exact rP (y_geq (ed d0 rfl rfl rfl) rfl)
 · intro A B E G H d0 d1 d2 d3 d4 d5; exact rP (y_assign (ed d0 rfl rfl rfl))
 intro a2 s2 D2; have ok2 := D2.ok; have F2 := F1.step0 D2.stp; have q3 := D2.dn 4 rfl rfl; clear D2; refine tn ?_; refine wp_ret ?_
 exact ret1 rfl ok2 F2 (cvb (by (rw [decide_eq_decide]; exact indexL_iff)) q3)


set_option maxRecDepth 100000 in
theorem pChange_fn (n : Nat) (l : List Int) (σ : GW) (v0 v1 : Value) (hv0 : Ty.has (Ty.nat n) σ v0) (hv1 : Ty.has (Ty.lst Ty.int l) σ v1) (hn : n ≤ 12) (ho : okL 0 l n) :
    FnC Try.prog 101 #[v0, v1] σ (Ty.lst Ty.int (chgRow n l)) := by
 refine fn_intro Try.func101 rfl Try.ntmps101 (Nat.le_of_ble_eq_true rfl) (fun s0 a0 hle F0 ok0 hargs => ?_)
 have p0 : At (Ty.nat n) s0 a0 (.tmp 0) := by have e := hargs 0 _ rfl; show Ty.has _ _ _; rw [e]; exact Ty.up _ hle hv0
 have p1 : At (Ty.lst Ty.int l) s0 a0 (.tmp 1) := by have e := hargs 1 _ rfl; show Ty.has _ _ _; rw [e]; exact Ty.up _ hle hv1
 have b1 := sl_le p1
 clear hargs; refine wp_seq ?_
 refine rg a0 s0 [(Ty.val (Value.slice none 0 0))] ok0 ⟨?_, trivial⟩ ?_
 · intro A B E G H; exact rP (y_assign rfl)
 intro a1 s1 D1; have ok1 := D1.ok; have F1 := F0.step0 D1.stp; have q1 := D1.kt p0 rfl; have q2 := D1.kt p1 rfl; clear D1; refine tn ?_; refine wp_seq ?_
 refine reg (a := a1) (σ := s1) rfl (fun i_ => List.getD [(Ty.pr (Ty.nat n)), (Pr.own 11 3 1 n (List.map Ty.int (List.replicate n 0))), (Pr.own 11 3 1 n (List.map Ty.int (List.replicate n 0)))] i_ Pr.any) ok1 rfl ⟨?_, ?_, ?_, trivial⟩ ?_
 · intro A B E G H; exact rP (y_move (kp (H 0 rfl) E q1))
 · intro A B E G H d0 d1
   have e0 := ed d0 rfl rfl rfl
   exact rP ((y_make (k := 11) (T := Ty.int 0) (n := n) Try.underlying23 Try.inf3 rfl (fun _ => rfl) e0 e0 (by omega) (by omega)).mono (fun _ _ h => cvo (by simp) (by simp) h))
 · intro A B E G H d0 d1 d2
   have e1 : (Pr.own 11 3 1 n (List.map Ty.int (List.replicate n 0))).has B (A.eval (.tmp 8)) := d0 rfl
   exact rP (y_assign e1)
 intro a2 s2 D2; have ok2 := D2.ok; have F2 := F1.step0 D2.stp; have q3 := D2.kt q1 rfl; have q4 := D2.kt q2 rfl
 have q5 : (Pr.own 11 3 1 n (List.map Ty.int (List.replicate n 0))).has s2 (a2.eval (.tmp 5)) := D2.done 2
 clear D2; refine tn ?_; refine wp_seq ?_; refine wp_seq ?_
 refine rg a2 s2 [(Ty.int (0 : Int))] ok2 ⟨?_, trivial⟩ ?_
 · intro A B E G H; exact rP (y_assign rfl)
 intro a3 s3 D3; have ok3 := D3.ok; have F3 := F2.step0 D3.stp; have q6 := D3.kt q3 rfl; have q7 := D3.kt q4 rfl
 have q8 : (Pr.own 11 3 1 n (List.map Ty.int (List.replicate n 0))).has s3 (a3.eval (.tmp 5)) := D3.ko q5 rfl
 have q9 := D3.dn 0 rfl rfl; clear D3; refine tn ?_
 refine wp_block ?_
 refine loop (fun n1 a4 w1 => ∃ (t1 : GW) (xs : List Int) (f : Nat), t1.w = w1 ∧ From s0 t1 ∧ Ok 35 a4 ∧ (Pr.own 11 3 1 (List.length (padTo n xs)) (List.map Ty.int (padTo n xs))).has t1 (a4.eval (.tmp 5)) ∧ At (Ty.nat xs.length) t1 a4 (.tmp 6) ∧ At (Ty.nat n) t1 a4 (.tmp 0) ∧ At (Ty.lst Ty.int l) t1 a4 (.tmp 1) ∧ (AtC n l xs.length) ∧ (n ≤ f + xs.length) ∧ (xs ++ rowF l n f xs.length = chgRow n l) ∧ n1 = n + 1 - xs.length) (n + 1 - (([] : List Int)).length) ?_ ?_
 ·
  exact ⟨s3, ([] : List Int), n, rfl, F3, ok3, (cvo (by (simp [padTo_nil])) (by (simp [padTo_nil])) q8), (cvi (by (first | rfl | omega | (simp_all; done) | (simp_all; omega))) q9), q6, q7, AtC.zero ho, by simp, rfl, rfl⟩
 ·
  rintro n2 a5 w2 ⟨t2, xs, f, rfl, F4, ok4, q10, q11, q12, q13, ha, hf, heq, rfl⟩
  have hal := ha.le
  have hpl := padTo_len hal
  refine wp_seq ?_; refine wp_seq ?_
  refine reg (a := a5) (σ := t2) rfl (fun i_ => List.getD [(Ty.pr (Ty.nat xs.length)), (Ty.pr (Ty.nat n)), (Ty.pr (Ty.bool (decide (((xs.length : Nat) : Int) < ((n : Nat) : Int)))))] i_ Pr.any) ok4 rfl ⟨?_, ?_, ?_, trivial⟩ ?_
  · intro A B E G H; exact rP (y_move (kp (H 6 rfl) E q11))
  · intro A B E G H; exact rP (y_move (kp (H 0 rfl) E q12))
  · intro A B E G H d0 d1; exact rP (y_lss (ed d0 rfl rfl rfl) (ed d1 rfl rfl rfl))
  intro a6 s4 D4; have ok5 := D4.ok; have F5 := F4.step0 D4.stp
  have q14 : (Pr.own 11 3 1 (List.length (padTo n xs)) (List.map Ty.int (padTo n xs))).has s4 (a6.eval (.tmp 5)) := D4.ko q10 rfl
  have q15 := D4.kt q11 rfl; have q16 := D4.kt q12 rfl; have q17 := D4.kt q13 rfl; have q18 := D4.dn 2 rfl rfl; clear D4; refine tn ?_
  refine cond_p (p := (((xs.length : Nat) : Int) < ((n : Nat) : Int))) q18 (fun c1 => ?_) (fun c1 => ?_)
  ·
   refine wp_skip ?_
   refine tn ?_; refine wp_seq ?_
   refine wp_block ?_
   refine wp_seq ?_; refine wp_seq ?_
   refine rg a6 s4 [(Ty.lst Ty.int l), (Ty.nat xs.length), (Ty.int (((xs.length : Nat) : Int) + (1 : Int))), (Ty.bool (decide (((((xs.length : Nat) : Int) + (1 : Int))) ∈ (l))))] ok5 ⟨?_, ?_, ?_, ?_, trivial⟩ ?_
   · intro A B E G H; exact rP (y_move (kp (H 1 rfl) E q17))
   · intro A B E G H; exact rP (y_move (kp (H 6 rfl) E q15))
   · intro A B E G H d0; exact rP (y_add (ed d0 rfl rfl rfl) rfl (w64 (by omega) (by omega)))
   · intro A B E G H d0 d1; exact rP (y_call #[A.eval (.tmp 14), A.eval (.tmp 16)] Try.func118 rfl rfl (by simp only [List.map_toArray, List.map_cons, List.map_nil]) (contains_fn (l) ((((xs.length : Nat) : Int) + (1 : Int))) _ _ _ (ed d0 rfl rfl rfl) (ed d1 rfl rfl rfl) ))
   intro a7 s5 D5; have ok6 := D5.ok; have F6 := F5.step0 D5.stp
   have q19 : (Pr.own 11 3 1 (List.length (padTo n xs)) (List.map Ty.int (padTo n xs))).has s5 (a7.eval (.tmp 5)) := D5.ko q14 rfl
   have q20 := D5.kt q15 rfl; have q21 := D5.kt q16 rfl; have q22 := D5.kt q17 rfl; have q23 := D5.dn 3 rfl rfl; clear D5; refine tn ?_
   refine cond_t q23 (fun c2 => ?_) (fun c2 => ?_)
   ·
    have c2 := of_decide_eq_true c2
    refine wp_seq ?_
    refine reg2 (a := a7) (σ := s5) rfl 4 (fun i_ => List.getD [(Ty.pr (Ty.val (a7.eval (.tmp 5)))), (Ty.pr (Ty.nat xs.length)), (Ty.pr (Ty.nat xs.length)), (Ty.pr (Ty.val (cellPtr (a7.eval (.tmp 5)) xs.length)))] i_ Pr.any) ok6 rfl (by decide) rfl ⟨?_, ?_, ?_, ?_, trivial⟩ ?_
    · intro A B E G H; exact rP (y_move (H 5 rfl))
    · intro A B E G H; exact rP (y_move (kp (H 6 rfl) E q20))
    · intro A B E G H; exact rP (y_move (kp (H 6 rfl) E q20))
    · intro A B E G H d0 d1 d2 d3 d4; exact rP (own_index1 (i := ((xs.length : Nat) : Int)) Try.underlying23 Try.inf3 ((Pr.own 11 3 1 (List.length (padTo n xs)) (List.map Ty.int (padTo n xs))).up E q19) (ed d0 rfl rfl rfl) (ed d1 rfl rfl rfl) (by omega) (by omega))
    intro a8 s6 D6; have ok7 := D6.ok; have F7 := F6.step0 D6.stp; have q24 := (Pr.own 11 3 1 (List.length (padTo n xs)) (List.map Ty.int (padTo n xs))).up D6.stp q19
    have q25 : a8.eval (.tmp 5) = a7.eval (.tmp 5) := D6.same 5 rfl
    have q26 := D6.kt q20 rfl; have q27 := D6.kt q21 rfl; have q28 := D6.kt q22 rfl; have q29 := D6.dn 2 (by decide) rfl rfl; have q30 := D6.dn 3 (by decide) rfl rfl; clear D6
    refine tail_step0 (m := 11) (R := (fun _ τ => Own τ 11 3 1 (a7.eval (.tmp 5)) (List.length (padTo n xs)) ((List.map Ty.int (padTo n xs)).set xs.length (Ty.nat xs.length)))) rfl rfl (m_store Try.inf3 (by decide) q24 q30 (by simp only [List.length_map, List.length_set]; omega) q29 (one_val rfl)) (fun v1 s7 hs1 r1 => ?_)
    have F8 := F7.step hs1 (by decide)
    have q31 : At (Ty.nat xs.length) s7 a8 (.tmp 6) := kpm hs1 (by decide) rfl q26
    have q32 : At (Ty.nat n) s7 a8 (.tmp 0) := kpm hs1 (by decide) rfl q27
    have q33 : At (Ty.lst Ty.int l) s7 a8 (.tmp 1) := kpm hs1 (by decide) rfl q28
    have q34 : At (Ty.nat xs.length) s7 a8 (.tmp 20) := kpm hs1 (by decide) rfl q29
    have q35 : (Pr.own 11 3 1 (List.length ((padTo n xs).set xs.length ((xs.length : Nat) : Int))) (List.map Ty.int ((padTo n xs).set xs.length ((xs.length : Nat) : Int)))).has s7 (a7.eval (.tmp 5)) := (cvo (by simp) (by simp) r1)
    refine wpList_nil ?_
    have q36 : (Pr.own 11 3 1 (List.length ((padTo n xs).set xs.length ((xs.length : Nat) : Int))) (List.map Ty.int ((padTo n xs).set xs.length ((xs.length : Nat) : Int)))).has s7 (a8.eval (.tmp 5)) := al q25 q35
    refine tn ?_; refine wp_exit ?_; refine tx ?_; refine bx ?_; refine tn ?_
    refine rg a8 s7 [(Ty.nat xs.length), (Ty.int (((xs.length : Nat) : Int) + (1 : Int))), (Ty.int (((xs.length : Nat) : Int) + (1 : Int)))] ok7 ⟨?_, ?_, ?_, trivial⟩ ?_
    · intro A B E G H; exact rP (y_move (kp (H 6 rfl) E q31))
    · intro A B E G H d0; exact rP (y_add (ed d0 rfl rfl rfl) rfl (w64 (by omega) (by omega)))
    · intro A B E G H d0 d1 d2; exact rP (y_assign (ed d0 rfl rfl rfl))
    intro a10 s8 D7; have ok9 := D7.ok; have F9 := F8.step0 D7.stp
    have q37 : (Pr.own 11 3 1 (List.length ((padTo n xs).set xs.length ((xs.length : Nat) : Int))) (List.map Ty.int ((padTo n xs).set xs.length ((xs.length : Nat) : Int)))).has s8 (a10.eval (.tmp 5)) := D7.ko q36 rfl
    have q38 := D7.kt q32 rfl; have q39 := D7.kt q33 rfl; have q40 := D7.dn 2 rfl rfl; clear D7
    exact tn ⟨n + 1 - ((xs ++ [((xs.length : Nat) : Int)])).length, by simp; omega, s8, (xs ++ [((xs.length : Nat) : Int)]), (f-1), rfl, F9, ok9, (cvo (by (rw [padTo_set (by omega) _ (by first | rfl | omega)])) (by (rw [padTo_set (by omega) _ (by first | rfl | omega)])) q37), (cvi (by (simp)) q40), q38, q39, by rw [List.length_append]; exact ha.yes c2, by simp; omega, by rw [List.length_append]; exact rowF_yes heq (by omega) hf c2, rfl⟩
   ·
    have c2 := of_decide_eq_false c2; have han := ha.no (by omega) c2
    refine wp_skip ?_
    refine tn ?_; refine wp_seq ?_
    refine reg2 (a := a7) (σ := s5) rfl 9 (fun i_ => List.getD [(Ty.pr (Ty.val (a7.eval (.tmp 5)))), (Ty.pr (Ty.nat xs.length)), (Ty.pr (Ty.val (a7.eval (.tmp 5)))), (Ty.pr (Ty.nat xs.length)), (Ty.pr (Ty.int (((xs.length : Nat) : Int) + (1 : Int)))), (Ty.pr (Ty.nat xs.length)), (Ty.pr (Ty.int (((xs.length : Nat) : Int) + (1 : Int)))), (Ty.pr (Ty.nat xs.length)), (Ty.pr (Ty.val (cellPtr (a7.eval (.tmp 5)) xs.length)))] i_ Pr.any) ok6 rfl (by decide) rfl ⟨?_, ?_, ?_, ?_, ?_, ?_, ?_, ?_, ?_, trivial⟩ ?_
    · intro A B E G H; exact rP (y_move (H 5 rfl))
    · intro A B E G H; exact rP (y_move (kp (H 6 rfl) E q20))
    · intro A B E G H d0; exact rP (y_move (H 5 rfl))
    · intro A B E G H d0; exact rP (y_move (kp (H 6 rfl) E q20))
    · intro A B E G H d0 d1; exact rP (y_add (ed d0 rfl rfl rfl) rfl (w64 (by omega) (by omega)))
    · intro A B E G H; exact rP (y_move (kp (H 6 rfl) E q20))
    · intro A B E G H d0; exact rP (y_add (ed d0 rfl rfl rfl) rfl (w64 (by omega) (by omega)))
    · intro A B E G H d0; exact rP (y_move (kp (H 6 rfl) E q20))
    · intro A B E G H d0 d1 d2 d3 d4 d5 d6 d7 d8 d9; exact rP (own_index1 (i := ((xs.length : Nat) : Int)) Try.underlying23 Try.inf3 ((Pr.own 11 3 1 (List.length (padTo n xs)) (List.map Ty.int (padTo n xs))).up E q19) (ed d0 rfl rfl rfl) (ed d1 rfl rfl rfl) (by omega) (by omega))
    intro a11 s9 D8; have ok10 := D8.ok; have F10 := F6.step0 D8.stp; have q41 := (Pr.own 11 3 1 (List.length (padTo n xs)) (List.map Ty.int (padTo n xs))).up D8.stp q19
    have q42 : a11.eval (.tmp 5) = a7.eval (.tmp 5) := D8.same 5 rfl
    have q43 := D8.kt q20 rfl; have q44 := D8.kt q21 rfl; have q45 := D8.kt q22 rfl; have q46 := D8.dn 2 (by decide) rfl rfl; have q47 := D8.dn 4 (by decide) rfl rfl; have q48 := D8.dn 6 (by decide) rfl rfl; have q49 := D8.dn 7 (by decide) rfl rfl; have q50 := D8.dn 8 (by decide) rfl rfl; clear D8
    refine tail_step0 (m := 11) (R := (fun _ τ => Own τ 11 3 1 (a7.eval (.tmp 5)) (List.length (padTo n xs)) ((List.map Ty.int (padTo n xs)).set xs.length (Ty.int (((xs.length : Nat) : Int) + (1 : Int)))))) rfl rfl (m_store Try.inf3 (by decide) q41 q50 (by simp only [List.length_map, List.length_set]; omega) q48 (one_val rfl)) (fun v2 s10 hs2 r2 => ?_)
    have F11 := F10.step hs2 (by decide)
    have q51 : At (Ty.nat xs.length) s10 a11 (.tmp 6) := kpm hs2 (by decide) rfl q43
    have q52 : At (Ty.nat n) s10 a11 (.tmp 0) := kpm hs2 (by decide) rfl q44
    have q53 : At (Ty.lst Ty.int l) s10 a11 (.tmp 1) := kpm hs2 (by decide) rfl q45
    have q54 : At (Ty.int (((xs.length : Nat) : Int) + (1 : Int))) s10 a11 (.tmp 26) := kpm hs2 (by decide) rfl q47
    have q55 : At (Ty.int (((xs.length : Nat) : Int) + (1 : Int))) s10 a11 (.tmp 28) := kpm hs2 (by decide) rfl q48
    have q56 : At (Ty.nat xs.length) s10 a11 (.tmp 29) := kpm hs2 (by decide) rfl q49
    have q57 : (Pr.own 11 3 1 (List.length ((padTo n xs).set xs.length (((xs.length : Nat) : Int) + (1 : Int)))) (List.map Ty.int ((padTo n xs).set xs.length (((xs.length : Nat) : Int) + (1 : Int))))).has s10 (a7.eval (.tmp 5)) := (cvo (by simp) (by simp) r2)
    refine tail_step (m := 0) (R := (fun v τ => Pr.has (Ty.pr (Ty.val (cellPtr (a7.eval (.tmp 5)) ((((xs.length : Nat) : Int) + (1 : Int))).toNat))) τ v)) rfl rfl (by decide) ok10 (Yld.toM (own_index1 (i := (((xs.length : Nat) : Int) + (1 : Int))) Try.underlying23 Try.inf3 q57 q46 q54 (by omega) (by simp only [List.length_set]; omega))) (fun a13 s11 hs3 ok12 r3 sm3 => ?_)
    have F12 := F11.step hs3 (by decide); have q58 := Own.keep q57 hs3 (by decide) (.inl rfl); have q59 := (sm3 5 (by decide)).trans q42
    have q60 : At (Ty.nat xs.length) s11 a13 (.tmp 6) := kpm hs3 (by decide) (sm3 6 (by decide)) q51
    have q61 : At (Ty.nat n) s11 a13 (.tmp 0) := kpm hs3 (by decide) (sm3 0 (by decide)) q52
    have q62 : At (Ty.lst Ty.int l) s11 a13 (.tmp 1) := kpm hs3 (by decide) (sm3 1 (by decide)) q53
    have q63 := (sm3 24 (by decide)).trans q46
    have q64 : At (Ty.int (((xs.length : Nat) : Int) + (1 : Int))) s11 a13 (.tmp 26) := kpm hs3 (by decide) (sm3 26 (by decide)) q54
    have q65 : At (Ty.int (((xs.length : Nat) : Int) + (1 : Int))) s11 a13 (.tmp 28) := kpm hs3 (by decide) (sm3 28 (by decide)) q55
    have q66 : At (Ty.nat xs.length) s11 a13 (.tmp 29) := kpm hs3 (by decide) (sm3 29 (by decide)) q56
    have q67 := (sm3 30 (by decide)).trans q50
    have q68 : At (Ty.val (cellPtr (a7.eval (.tmp 5)) ((((xs.length : Nat) : Int) + (1 : Int))).toNat)) s11 a13 (.tmp 31) := r3
    refine tail_step0 (m := 11) (R := (fun _ τ => Own τ 11 3 1 (a7.eval (.tmp 5)) (List.length ((padTo n xs).set xs.length (((xs.length : Nat) : Int) + (1 : Int)))) ((List.map Ty.int ((padTo n xs).set xs.length (((xs.length : Nat) : Int) + (1 : Int)))).set ((((xs.length : Nat) : Int) + (1 : Int))).toNat (Ty.nat xs.length)))) rfl rfl (m_store Try.inf3 (by decide) q58 q68 (by simp only [List.length_map, List.length_set]; omega) q66 (one_val rfl)) (fun v3 s12 hs4 r4 => ?_)
    have F13 := F12.step hs4 (by decide)
    have q69 : At (Ty.nat xs.length) s12 a13 (.tmp 6) := kpm hs4 (by decide) rfl q60
    have q70 : At (Ty.nat n) s12 a13 (.tmp 0) := kpm hs4 (by decide) rfl q61
    have q71 : At (Ty.lst Ty.int l) s12 a13 (.tmp 1) := kpm hs4 (by decide) rfl q62
    have q72 : At (Ty.int (((xs.length : Nat) : Int) + (1 : Int))) s12 a13 (.tmp 26) := kpm hs4 (by decide) rfl q64
    have q73 : At (Ty.int (((xs.length : Nat) : Int) + (1 : Int))) s12 a13 (.tmp 28) := kpm hs4 (by decide) rfl q65
    have q74 : At (Ty.nat xs.length) s12 a13 (.tmp 29) := kpm hs4 (by decide) rfl q66
    have q75 : (Pr.own 11 3 1 (List.length (((padTo n xs).set xs.length (((xs.length : Nat) : Int) + (1 : Int))).set ((((xs.length : Nat) : Int) + (1 : Int))).toNat ((xs.length : Nat) : Int))) (List.map Ty.int (((padTo n xs).set xs.length (((xs.length : Nat) : Int) + (1 : Int))).set ((((xs.length : Nat) : Int) + (1 : Int))).toNat ((xs.length : Nat) : Int)))).has s12 (a7.eval (.tmp 5)) := (cvo (by simp) (by simp) r4)
    refine wpList_nil ?_
    have q76 : (Pr.own 11 3 1 (List.length (((padTo n xs).set xs.length (((xs.length : Nat) : Int) + (1 : Int))).set ((((xs.length : Nat) : Int) + (1 : Int))).toNat ((xs.length : Nat) : Int))) (List.map Ty.int (((padTo n xs).set xs.length (((xs.length : Nat) : Int) + (1 : Int))).set ((((xs.length : Nat) : Int) + (1 : Int))).toNat ((xs.length : Nat) : Int)))).has s12 (a13.eval (.tmp 5)) := al q59 q75
    refine tn ?_
    refine rg a13 s12 [(Ty.nat xs.length), (Ty.int (((xs.length : Nat) : Int) + (1 : Int))), (Ty.int (((xs.length : Nat) : Int) + (1 : Int)))] ok12 ⟨?_, ?_, ?_, trivial⟩ ?_
    · intro A B E G H; exact rP (y_move (kp (H 6 rfl) E q69))
    · intro A B E G H d0; exact rP (y_add (ed d0 rfl rfl rfl) rfl (w64 (by omega) (by omega)))
    · intro A B E G H d0 d1 d2; exact rP (y_assign (ed d0 rfl rfl rfl))
    intro a15 s13 D9; have ok14 := D9.ok; have F14 := F13.step0 D9.stp
    have q77 : (Pr.own 11 3 1 (List.length (((padTo n xs).set xs.length (((xs.length : Nat) : Int) + (1 : Int))).set ((((xs.length : Nat) : Int) + (1 : Int))).toNat ((xs.length : Nat) : Int))) (List.map Ty.int (((padTo n xs).set xs.length (((xs.length : Nat) : Int) + (1 : Int))).set ((((xs.length : Nat) : Int) + (1 : Int))).toNat ((xs.length : Nat) : Int)))).has s13 (a15.eval (.tmp 5)) := D9.ko q76 rfl
    have q78 := D9.kt q70 rfl; have q79 := D9.kt q71 rfl; have q80 := D9.dn 2 rfl rfl; clear D9; refine bn ?_; refine tn ?_
    refine rg a15 s13 [(Ty.int (((xs.length : Nat) : Int) + (1 : Int))), (Ty.int ((((xs.length : Nat) : Int) + (1 : Int)) + (1 : Int))), (Ty.int ((((xs.length : Nat) : Int) + (1 : Int)) + (1 : Int)))] ok14 ⟨?_, ?_, ?_, trivial⟩ ?_
    · intro A B E G H; exact rP (y_move (kp (H 6 rfl) E q80))
    · intro A B E G H d0; exact rP (y_add (ed d0 rfl rfl rfl) rfl (w64 (by omega) (by omega)))
    · intro A B E G H d0 d1 d2; exact rP (y_assign (ed d0 rfl rfl rfl))
    intro a16 s14 D10; have ok15 := D10.ok; have F15 := F14.step0 D10.stp
    have q81 : (Pr.own 11 3 1 (List.length (((padTo n xs).set xs.length (((xs.length : Nat) : Int) + (1 : Int))).set ((((xs.length : Nat) : Int) + (1 : Int))).toNat ((xs.length : Nat) : Int))) (List.map Ty.int (((padTo n xs).set xs.length (((xs.length : Nat) : Int) + (1 : Int))).set ((((xs.length : Nat) : Int) + (1 : Int))).toNat ((xs.length : Nat) : Int)))).has s14 (a16.eval (.tmp 5)) := D10.ko q77 rfl
    have q82 := D10.kt q78 rfl; have q83 := D10.kt q79 rfl; have q84 := D10.dn 2 rfl rfl; clear D10
    exact tn ⟨n + 1 - ((xs ++ [((xs.length : Nat) : Int) + 1, ((xs.length : Nat) : Int)])).length, by simp; omega, s14, (xs ++ [((xs.length : Nat) : Int) + 1, ((xs.length : Nat) : Int)]), (f-1), rfl, F15, ok15, (cvo (by (rw [padTo_set (by omega) _ (by omega), padTo_set (by simp; omega) _ (by simp)]; simp)) (by (rw [padTo_set (by omega) _ (by omega), padTo_set (by simp; omega) _ (by simp)]; simp)) q81), (cvi (by (simp; omega)) q84), q82, q83, by rw [List.length_append]; exact han.2, by simp; omega, by rw [List.length_append]; exact rowF_no heq (by omega) hf c2, rfl⟩
  ·
   refine wp_exit ?_; refine tx ?_; refine tx ?_; refine bx ?_; refine tn ?_; refine wp_seq ?_
   refine rg a6 s4 [(Ty.val (a6.eval (.tmp 5))), (Ty.val (a6.eval (.tmp 5)))] ok5 ⟨?_, ?_, trivial⟩ ?_
   · intro A B E G H; exact rP (y_move (H 5 rfl))
   · intro A B E G H d0 d1; exact rP (y_assign (ed d0 rfl rfl rfl))
   intro a17 s15 D11; have ok16 := D11.ok; have F16 := F5.step0 D11.stp
   have q85 : (Pr.own 11 3 1 (List.length (padTo n xs)) (List.map Ty.int (padTo n xs))).has s15 (a17.eval (.tmp 4)) := al (show _ = _ from D11.done 1) ((Pr.own 11 3 1 (List.length (padTo n xs)) (List.map Ty.int (padTo n xs))).up D11.stp q14)
   clear D11; refine tn ?_; refine wp_ret ?_
   obtain ⟨t3, e1, h1, q86⟩ := Own.seal q85 (by decide)
   rw [← e1]
   have F17 := F16.step h1 (by decide)
   exact ret1 rfl ok16 F17 (cvt (by (rw [rowF_end (by omega), List.append_nil] at heq; rw [heq, padTo_full (chgRow_len ho)])) q86)


set_option maxRecDepth 100000 in
theorem product_fn (a : List Int) (b : List Int) (σ : GW) (v0 v1 : Value) (hv0 : Ty.has (Ty.lst Ty.int a) σ v0) (hv1 : Ty.has (Ty.lst Ty.int b) σ v1) (hl : a.length = b.length) (hbd : ∀ i, i < b.length → 0 ≤ b.getD i 0 ∧ b.getD i 0 < a.length) (E : a.length ≤ 1000000) :
    FnC Try.prog 57 #[v0, v1] σ (Ty.lst Ty.int (byL a b)) := by
 refine fn_intro Try.func57 rfl Try.ntmps57 (Nat.le_of_ble_eq_true rfl) (fun s0 a0 hle F0 ok0 hargs => ?_)
 have p0 : At (Ty.lst Ty.int a) s0 a0 (.tmp 0) := by have e := hargs 0 _ rfl; show Ty.has _ _ _; rw [e]; exact Ty.up _ hle hv0
 have b1 := sl_le p0
 have p1 : At (Ty.lst Ty.int b) s0 a0 (.tmp 1) := by have e := hargs 1 _ rfl; show Ty.has _ _ _; rw [e]; exact Ty.up _ hle hv1
 have b2 := sl_le p1
 clear hargs; refine wp_seq ?_
 refine rg a0 s0 [(Ty.val (Value.slice none 0 0))] ok0 ⟨?_, trivial⟩ ?_
 · intro A B E G H; exact rP (y_assign rfl)
 intro a1 s1 D1; have ok1 := D1.ok; have F1 := F0.step0 D1.stp; have q1 := D1.kt p0 rfl; have q2 := D1.kt p1 rfl; clear D1; refine tn ?_; refine wp_seq ?_
 refine reg (a := a1) (σ := s1) rfl (fun i_ => List.getD [(Ty.pr (Ty.lst Ty.int a)), (Ty.pr (Ty.nat (List.length a))), (Pr.own 11 3 1 (List.length a) (List.map Ty.int (List.replicate (List.length a) 0))), (Pr.own 11 3 1 (List.length a) (List.map Ty.int (List.replicate (List.length a) 0)))] i_ Pr.any) ok1 rfl ⟨?_, ?_, ?_, ?_, trivial⟩ ?_
 · intro A B E G H; exact rP (y_move (kp (H 0 rfl) E q1))
 · intro A B E G H d0; exact rP (y_len Try.underlying23 (ed d0 rfl rfl rfl))
 · intro A B E G H d0 d1
   have e1 := ed d0 rfl rfl rfl
   exact rP ((y_make (k := 11) (T := Ty.int 0) (n := (List.length a)) Try.underlying23 Try.inf3 rfl (fun _ => rfl) e1 e1 (by omega) (by omega)).mono (fun _ _ h => cvo (by simp) (by simp) h))
 · intro A B E G H d0 d1 d2 d3
   have e2 : (Pr.own 11 3 1 (List.length a) (List.map Ty.int (List.replicate (List.length a) 0))).has B (A.eval (.tmp 10)) := d0 rfl
   exact rP (y_assign e2)
 intro a2 s2 D2; have ok2 := D2.ok; have F2 := F1.step0 D2.stp; have q3 := D2.kt q1 rfl; have q4 := D2.kt q2 rfl
 have q5 : (Pr.own 11 3 1 (List.length a) (List.map Ty.int (List.replicate (List.length a) 0))).has s2 (a2.eval (.tmp 5)) := D2.done 3
 clear D2; refine tn ?_; refine wp_seq ?_; refine wp_seq ?_
 refine rg a2 s2 [(Ty.lst Ty.int b), (Ty.nat (List.length b)), (Ty.int (0 : Int))] ok2 ⟨?_, ?_, ?_, trivial⟩ ?_
 · intro A B E G H; exact rP (y_move (kp (H 1 rfl) E q4))
 · intro A B E G H d0; exact rP (y_len Try.underlying23 (ed d0 rfl rfl rfl))
 · intro A B E G H; exact rP (y_move rfl)
 intro a3 s3 D3; have ok3 := D3.ok; have F3 := F2.step0 D3.stp; have q6 := D3.kt q3 rfl
 have q7 : (Pr.own 11 3 1 (List.length a) (List.map Ty.int (List.replicate (List.length a) 0))).has s3 (a3.eval (.tmp 5)) := D3.ko q5 rfl
 have q8 := D3.dn 0 rfl rfl; have q9 := D3.dn 1 rfl rfl; have q10 := D3.dn 2 rfl rfl; clear D3; refine tn ?_
 refine wp_block ?_
 refine loop (fun n1 a4 w1 => ∃ (t1 : GW) (k : Nat), t1.w = w1 ∧ From s0 t1 ∧ Ok 27 a4 ∧ At (Ty.nat k) t1 a4 (.tmp 13) ∧ (Pr.own 11 3 1 (List.length (byTo a b k)) (List.map Ty.int (byTo a b k))).has t1 (a4.eval (.tmp 5)) ∧ At (Ty.lst Ty.int a) t1 a4 (.tmp 0) ∧ At (Ty.lst Ty.int b) t1 a4 (.tmp 11) ∧ At (Ty.nat (List.length b)) t1 a4 (.tmp 12) ∧ (k ≤ b.length) ∧ n1 = b.length - k) (b.length - (0)) ?_ ?_
 ·
  exact ⟨s3, 0, rfl, F3, ok3, (cvi (by (first | rfl | omega | (simp_all; done) | (simp_all; omega))) q10), (cvo (by (simp [byTo_zero])) (by (simp [byTo_zero])) q7), q6, q8, q9, by omega, rfl⟩
 ·
  rintro n2 a5 w2 ⟨t2, k, rfl, F4, ok4, q11, q12, q13, q14, q15, hk, rfl⟩
  have hp := byTo_len a b k
  refine wp_seq ?_
  refine reg (a := a5) (σ := t2) rfl (fun i_ => List.getD [(Ty.pr (Ty.bool (decide (((k : Nat) : Int) < (((List.length b) : Nat) : Int)))))] i_ Pr.any) ok4 rfl ⟨?_, trivial⟩ ?_
  · intro A B E G H; exact rP (y_lss (kp (H 13 rfl) E q11) (kp (H 12 rfl) E q15))
  intro a6 s4 D4; have ok5 := D4.ok; have F5 := F4.step0 D4.stp; have q16 := D4.kt q11 rfl
  have q17 : (Pr.own 11 3 1 (List.length (byTo a b k)) (List.map Ty.int (byTo a b k))).has s4 (a6.eval (.tmp 5)) := D4.ko q12 rfl
  have q18 := D4.kt q13 rfl; have q19 := D4.kt q14 rfl; have q20 := D4.kt q15 rfl; have q21 := D4.dn 0 rfl rfl; clear D4; refine tn ?_; refine wp_seq ?_
  refine cond_p (p := (((k : Nat) : Int) < (((List.length b) : Nat) : Int))) q21 (fun c1 => ?_) (fun c1 => ?_)
  ·
   have hq := hbd k (by omega)
   refine wp_skip ?_
   refine tn ?_; refine wp_seq ?_
   refine wp_block ?_
   refine wp_seq ?_
   refine rg a6 s4 [(Ty.nat k), (Ty.ref [(Ty.int (b.getD k 0))]), (Ty.int (b.getD k 0)), (Ty.nat k), (Ty.int (b.getD k 0))] ok5 ⟨?_, ?_, ?_, ?_, ?_, trivial⟩ ?_
   · intro A B E G H; exact rP (y_move (kp (H 13 rfl) E q16))
   · intro A B E G H; exact rP (y_index1 Try.underlying23 Try.inf3 (kp (H 11 rfl) E q19) (kp (H 13 rfl) E q16) (by omega) (lst_get Ty.int b 0 k (by omega)))
   · intro A B E G H d0; exact rP (y_load Try.underlying3 rfl (ed d0 rfl rfl rfl) rfl)
   · intro A B E G H d0 d1 d2 d3; exact rP (y_assign (ed d0 rfl rfl rfl))
   · intro A B E G H d0 d1 d2 d3 d4 d5; exact rP (y_assign (ed d0 rfl rfl rfl))
   intro a7 s5 D5; have ok6 := D5.ok; have F6 := F5.step0 D5.stp; have q22 := D5.kt q16 rfl
   have q23 : (Pr.own 11 3 1 (List.length (byTo a b k)) (List.map Ty.int (byTo a b k))).has s5 (a7.eval (.tmp 5)) := D5.ko q17 rfl
   have q24 := D5.kt q18 rfl; have q25 := D5.kt q19 rfl; have q26 := D5.kt q20 rfl; have q27 := D5.dn 3 rfl rfl; have q28 := D5.dn 4 rfl rfl; clear D5; refine tn ?_
   refine reg2 (a := a7) (σ := s5) rfl 7 (fun i_ => List.getD [(Ty.pr (Ty.val (a7.eval (.tmp 5)))), (Ty.pr (Ty.nat k)), (Ty.pr (Ty.lst Ty.int a)), (Ty.pr (Ty.int (b.getD k 0))), (Ty.pr (Ty.ref [(Ty.int (a.getD ((b.getD k 0)).toNat 0))])), (Ty.pr (Ty.int (a.getD ((b.getD k 0)).toNat 0))), (Ty.pr (Ty.val (cellPtr (a7.eval (.tmp 5)) k)))] i_ Pr.any) ok6 rfl (by decide) rfl ⟨?_, ?_, ?_, ?_, ?_, ?_, ?_, trivial⟩ ?_
   · intro A B E G H; exact rP (y_move (H 5 rfl))
   · intro A B E G H; exact rP (y_move (kp (H 6 rfl) E q27))
   · intro A B E G H; exact rP (y_move (kp (H 0 rfl) E q24))
   · intro A B E G H; exact rP (y_move (kp (H 7 rfl) E q28))
   · intro A B E G H d0 d1; exact rP (y_index1 Try.underlying23 Try.inf3 (ed d0 rfl rfl rfl) (ed d1 rfl rfl rfl) (by omega) (lst_get Ty.int a 0 ((b.getD k 0)).toNat (by omega)))
   · intro A B E G H d0; exact rP (y_load Try.underlying3 rfl (ed d0 rfl rfl rfl) rfl)
   · intro A B E G H d0 d1 d2 d3 d4 d5 d6 d7; exact rP (own_index1 (i := ((k : Nat) : Int)) Try.underlying23 Try.inf3 ((Pr.own 11 3 1 (List.length (byTo a b k)) (List.map Ty.int (byTo a b k))).up E q23) (ed d0 rfl rfl rfl) (ed d1 rfl rfl rfl) (by omega) (by omega))
   intro a8 s6 D6; have ok7 := D6.ok; have F7 := F6.step0 D6.stp; have q29 := (Pr.own 11 3 1 (List.length (byTo a b k)) (List.map Ty.int (byTo a b k))).up D6.stp q23; have q30 := D6.kt q22 rfl
   have q31 : a8.eval (.tmp 5) = a7.eval (.tmp 5) := D6.same 5 rfl
   have q32 := D6.kt q24 rfl; have q33 := D6.kt q25 rfl; have q34 := D6.kt q26 rfl; have q35 := D6.dn 5 (by decide) rfl rfl; have q36 := D6.dn 6 (by decide) rfl rfl; clear D6
   refine tail_step0 (m := 11) (R := (fun _ τ => Own τ 11 3 1 (a7.eval (.tmp 5)) (List.length (byTo a b k)) ((List.map Ty.int (byTo a b k)).set k (Ty.int (a.getD ((b.getD k 0)).toNat 0))))) rfl rfl (m_store Try.inf3 (by decide) q29 q36 (by simp only [List.length_map, List.length_set]; omega) q35 (one_val rfl)) (fun v1 s7 hs1 r1 => ?_)
   have F8 := F7.step hs1 (by decide)
   have q37 : At (Ty.nat k) s7 a8 (.tmp 13) := kpm hs1 (by decide) rfl q30
   have q38 : At (Ty.lst Ty.int a) s7 a8 (.tmp 0) := kpm hs1 (by decide) rfl q32
   have q39 : At (Ty.lst Ty.int b) s7 a8 (.tmp 11) := kpm hs1 (by decide) rfl q33
   have q40 : At (Ty.nat (List.length b)) s7 a8 (.tmp 12) := kpm hs1 (by decide) rfl q34
   have q41 : At (Ty.int (a.getD ((b.getD k 0)).toNat 0)) s7 a8 (.tmp 23) := kpm hs1 (by decide) rfl q35
   have q42 : (Pr.own 11 3 1 (List.length ((byTo a b k).set k (a.getD ((b.getD k 0)).toNat 0))) (List.map Ty.int ((byTo a b k).set k (a.getD ((b.getD k 0)).toNat 0)))).has s7 (a7.eval (.tmp 5)) := (cvo (by simp) (by simp) r1)
   refine wpList_nil ?_
   have q43 : (Pr.own 11 3 1 (List.length ((byTo a b k).set k (a.getD ((b.getD k 0)).toNat 0))) (List.map Ty.int ((byTo a b k).set k (a.getD ((b.getD k 0)).toNat 0)))).has s7 (a8.eval (.tmp 5)) := al q31 q42
   refine bn ?_; refine tn ?_
   refine rg a8 s7 [(Ty.int (((k : Nat) : Int) + (1 : Int))), (Ty.int (((k : Nat) : Int) + (1 : Int)))] ok7 ⟨?_, ?_, trivial⟩ ?_
   · intro A B E G H; exact rP (y_add (kp (H 13 rfl) E q37) rfl (w64 (by omega) (by omega)))
   · intro A B E G H d0; exact rP (y_move (ed d0 rfl rfl rfl))
   intro a10 s8 D7; have ok9 := D7.ok; have F9 := F8.step0 D7.stp
   have q44 : (Pr.own 11 3 1 (List.length ((byTo a b k).set k (a.getD ((b.getD k 0)).toNat 0))) (List.map Ty.int ((byTo a b k).set k (a.getD ((b.getD k 0)).toNat 0)))).has s8 (a10.eval (.tmp 5)) := D7.ko q43 rfl
   have q45 := D7.kt q38 rfl; have q46 := D7.kt q39 rfl; have q47 := D7.kt q40 rfl; have q48 := D7.dn 1 rfl rfl; clear D7
   exact tn ⟨b.length - ((k+1)), by omega, s8, (k+1), rfl, F9, ok9, (cvi (by (first | rfl | omega | (simp_all; done) | (simp_all; omega))) q48), (cvo (by (rw [byTo_step a b k])) (by (rw [byTo_step a b k])) q44), q45, q46, q47, by omega, rfl⟩
  ·
   refine wp_exit ?_; refine tx ?_; refine tx ?_; refine bx ?_; refine tn ?_; refine wp_seq ?_
   refine rg a6 s4 [(Ty.val (a6.eval (.tmp 5))), (Ty.val (a6.eval (.tmp 5)))] ok5 ⟨?_, ?_, trivial⟩ ?_
   · intro A B E G H; exact rP (y_move (H 5 rfl))
   · intro A B E G H d0 d1; exact rP (y_assign (ed d0 rfl rfl rfl))
   intro a11 s9 D8; have ok10 := D8.ok; have F10 := F5.step0 D8.stp
   have q49 : (Pr.own 11 3 1 (List.length (byTo a b k)) (List.map Ty.int (byTo a b k))).has s9 (a11.eval (.tmp 4)) := al (show _ = _ from D8.done 1) ((Pr.own 11 3 1 (List.length (byTo a b k)) (List.map Ty.int (byTo a b k))).up D8.stp q17)
   clear D8; refine tn ?_; refine wp_ret ?_
   obtain ⟨t3, e1, h1, q50⟩ := Own.seal q49 (by decide)
   rw [← e1]
   have F11 := F10.step h1 (by decide)
   exact ret1 rfl ok10 F11 (cvt (by (obtain rfl : k = b.length := (by omega); rw [byTo_all a b hl])) q50)


end Go.Proofs.Ytbilebfnanlgfaa
