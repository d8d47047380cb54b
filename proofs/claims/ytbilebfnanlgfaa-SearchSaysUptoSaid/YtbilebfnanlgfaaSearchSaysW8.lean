/- The functions that the law SearchSays reaches, each by its contract. Part 8. -/
import Derived.Test.YtbilebfnanlgfaaSearchSaysW7
namespace Go.Proofs.Ytbilebfnanlgfaa
open Go.KL

set_option maxHeartbeats 4000000 in
set_option maxRecDepth 100000 in
theorem searchSays_fn (nm : ByteArray) (n : Int) (l : List (List Int)) (cs : List BCall) (leads : Int) (many : Int) (σ : GW)  (v0 v1 v2 v3 : Value) (hv0 : Ty.has (Ty.agg [(Ty.val (Value.string nm)), (Ty.int n), (Ty.lst Ty.ints l)]) σ v0) (hv1 : Ty.has (Ty.lstc 2 callC cs) σ v1) (hv2 : Ty.has (Ty.int leads) σ v2) (hv3 : Ty.has (Ty.int many) σ v3)  (hnm : nm.size ≤ 1099511627776) (hn : -9223372036854775808 ≤ n ∧ n ≤ 9223372036854775807) :
    FnC Try.prog 4 #[v0, v1, v2, v3] σ (Ty.bool true) := by
 refine fn_intro0 Try.func4 rfl Try.ntmps4 (Nat.le_of_ble_eq_true rfl) (fun s0 a0 hle F0 ok0 hargs => ?_)
 have p0 : At (Ty.agg [(Ty.val (Value.string nm)), (Ty.int n), (Ty.lst Ty.ints l)]) s0 a0 (.tmp 0) := by have e := hargs 0 _ rfl; show Ty.has _ _ _; rw [e]; exact Ty.up _ hle hv0
 have p1 : At (Ty.lstc 2 callC cs) s0 a0 (.tmp 1) := by have e := hargs 1 _ rfl; show Ty.has _ _ _; rw [e]; exact Ty.up _ hle hv1
 have b1 := sl_le p1
 have p2 : At (Ty.int leads) s0 a0 (.tmp 2) := by have e := hargs 2 _ rfl; show Ty.has _ _ _; rw [e]; exact Ty.up _ hle hv2
 have p3 : At (Ty.int many) s0 a0 (.tmp 3) := by have e := hargs 3 _ rfl; show Ty.has _ _ _; rw [e]; exact Ty.up _ hle hv3
 clear hargs
 refine wp_seq ?_
 refine reg (a := a0) (σ := s0) rfl (fun i_ => List.getD [(Ty.pr (Ty.ref [(Ty.val (Value.string nm)), (Ty.int n), (Ty.lst Ty.ints l)])), (Ty.pr (Ty.bool false))] i_ Pr.any) ok0 rfl ⟨?_, ?_, trivial⟩ ?_
 · intro ax tx hs okx sm
   exact run_plain rfl (y_boxagg (kp (sm 0 rfl) hs p0))
 · intro ax tx hs okx sm
   exact run_plain rfl (y_assign rfl)
 intro a1 s1 D1
 have ok1 := D1.ok
 have F1 := F0.step0 D1.stp
 have q1 := D1.kt p1 rfl
 have q2 := D1.kt p2 rfl
 have q3 := D1.kt p3 rfl
 have q4 : At (Ty.ref [(Ty.val (Value.string nm)), (Ty.int n), (Ty.lst Ty.ints l)]) s1 a1 (.tmp 4) := D1.done 0
 clear D1
 refine tn ?_
 refine wp_seq ?_
 refine wp_seq ?_
 refine reg (a := a1) (σ := s1) rfl (fun i_ => List.getD [(Ty.pr (Ty.ref [(Ty.lst Ty.ints l)])), (Ty.pr (Ty.lst Ty.ints l)), (Ty.pr (Ty.nat (List.length l))), (Ty.pr (Ty.bool (decide ((40 : Int) < (((List.length l) : Nat) : Int))))), (Ty.pr (Ty.bool (decide ((40 : Int) < (((List.length l) : Nat) : Int))))), (Ty.pr (Ty.grd ((decide ((40 : Int) < (((List.length l) : Nat) : Int))) = true) (Ty.ref [(Ty.lst Ty.ints l)]))), (Ty.pr (Ty.grd ((decide ((40 : Int) < (((List.length l) : Nat) : Int))) = true) (Ty.lst Ty.ints l))), (Ty.pr (Ty.grd ((decide ((40 : Int) < (((List.length l) : Nat) : Int))) = true) (Ty.nat (List.length l)))), (Ty.pr (Ty.grd ((decide ((40 : Int) < (((List.length l) : Nat) : Int))) = true) (Ty.bool (decide ((((List.length l) : Nat) : Int) < (201 : Int)))))), (Ty.pr (Ty.bool ((decide ((40 : Int) < (((List.length l) : Nat) : Int))) && (decide ((((List.length l) : Nat) : Int) < (201 : Int)))))), (Ty.pr (Ty.bool ((decide ((40 : Int) < (((List.length l) : Nat) : Int))) && (decide ((((List.length l) : Nat) : Int) < (201 : Int)))))), (Ty.pr (Ty.grd (((decide ((40 : Int) < (((List.length l) : Nat) : Int))) && (decide ((((List.length l) : Nat) : Int) < (201 : Int)))) = false) (Ty.int leads))), (Ty.pr (Ty.grd (((decide ((40 : Int) < (((List.length l) : Nat) : Int))) && (decide ((((List.length l) : Nat) : Int) < (201 : Int)))) = false) (Ty.bool (decide ((5 : Int) < leads))))), (Ty.pr (Ty.grd (((decide ((40 : Int) < (((List.length l) : Nat) : Int))) && (decide ((((List.length l) : Nat) : Int) < (201 : Int)))) = false) (Ty.bool (decide ((5 : Int) < leads))))), (Ty.pr (Ty.grd ((((decide ((40 : Int) < (((List.length l) : Nat) : Int))) && (decide ((((List.length l) : Nat) : Int) < (201 : Int)))) = false) ∧ (decide ((5 : Int) < leads)) = true) (Ty.int leads))), (Ty.pr (Ty.grd ((((decide ((40 : Int) < (((List.length l) : Nat) : Int))) && (decide ((((List.length l) : Nat) : Int) < (201 : Int)))) = false) ∧ (decide ((5 : Int) < leads)) = true) (Ty.bool (decide (leads < (25 : Int)))))), (Ty.pr (Ty.grd (((decide ((40 : Int) < (((List.length l) : Nat) : Int))) && (decide ((((List.length l) : Nat) : Int) < (201 : Int)))) = false) (Ty.bool ((decide ((5 : Int) < leads)) && (decide (leads < (25 : Int))))))), (Ty.pr (Ty.bool (((decide ((40 : Int) < (((List.length l) : Nat) : Int))) && (decide ((((List.length l) : Nat) : Int) < (201 : Int)))) || ((decide ((5 : Int) < leads)) && (decide (leads < (25 : Int))))))), (Ty.pr (Ty.bool (((decide ((40 : Int) < (((List.length l) : Nat) : Int))) && (decide ((((List.length l) : Nat) : Int) < (201 : Int)))) || ((decide ((5 : Int) < leads)) && (decide (leads < (25 : Int))))))), (Ty.pr (Ty.grd ((((decide ((40 : Int) < (((List.length l) : Nat) : Int))) && (decide ((((List.length l) : Nat) : Int) < (201 : Int)))) || ((decide ((5 : Int) < leads)) && (decide (leads < (25 : Int))))) = false) (Ty.lstc 2 callC cs))), (Ty.pr (Ty.grd ((((decide ((40 : Int) < (((List.length l) : Nat) : Int))) && (decide ((((List.length l) : Nat) : Int) < (201 : Int)))) || ((decide ((5 : Int) < leads)) && (decide (leads < (25 : Int))))) = false) (Ty.nat (List.length cs)))), (Ty.pr (Ty.grd ((((decide ((40 : Int) < (((List.length l) : Nat) : Int))) && (decide ((((List.length l) : Nat) : Int) < (201 : Int)))) || ((decide ((5 : Int) < leads)) && (decide (leads < (25 : Int))))) = false) (Ty.bool (decide ((3 : Int) < (((List.length cs) : Nat) : Int)))))), (Ty.pr (Ty.grd ((((decide ((40 : Int) < (((List.length l) : Nat) : Int))) && (decide ((((List.length l) : Nat) : Int) < (201 : Int)))) || ((decide ((5 : Int) < leads)) && (decide (leads < (25 : Int))))) = false) (Ty.bool (decide ((3 : Int) < (((List.length cs) : Nat) : Int)))))), (Ty.pr (Ty.grd (((((decide ((40 : Int) < (((List.length l) : Nat) : Int))) && (decide ((((List.length l) : Nat) : Int) < (201 : Int)))) || ((decide ((5 : Int) < leads)) && (decide (leads < (25 : Int))))) = false) ∧ (decide ((3 : Int) < (((List.length cs) : Nat) : Int))) = true) (Ty.lstc 2 callC cs))), (Ty.pr (Ty.grd (((((decide ((40 : Int) < (((List.length l) : Nat) : Int))) && (decide ((((List.length l) : Nat) : Int) < (201 : Int)))) || ((decide ((5 : Int) < leads)) && (decide (leads < (25 : Int))))) = false) ∧ (decide ((3 : Int) < (((List.length cs) : Nat) : Int))) = true) (Ty.nat (List.length cs)))), (Ty.pr (Ty.grd (((((decide ((40 : Int) < (((List.length l) : Nat) : Int))) && (decide ((((List.length l) : Nat) : Int) < (201 : Int)))) || ((decide ((5 : Int) < leads)) && (decide (leads < (25 : Int))))) = false) ∧ (decide ((3 : Int) < (((List.length cs) : Nat) : Int))) = true) (Ty.bool (decide ((((List.length cs) : Nat) : Int) < (9 : Int)))))), (Ty.pr (Ty.grd ((((decide ((40 : Int) < (((List.length l) : Nat) : Int))) && (decide ((((List.length l) : Nat) : Int) < (201 : Int)))) || ((decide ((5 : Int) < leads)) && (decide (leads < (25 : Int))))) = false) (Ty.bool ((decide ((3 : Int) < (((List.length cs) : Nat) : Int))) && (decide ((((List.length cs) : Nat) : Int) < (9 : Int))))))), (Ty.pr (Ty.bool ((((decide ((40 : Int) < (((List.length l) : Nat) : Int))) && (decide ((((List.length l) : Nat) : Int) < (201 : Int)))) || ((decide ((5 : Int) < leads)) && (decide (leads < (25 : Int))))) || ((decide ((3 : Int) < (((List.length cs) : Nat) : Int))) && (decide ((((List.length cs) : Nat) : Int) < (9 : Int)))))))] i_ Pr.any) ok1 rfl ⟨?_, ?_, ?_, ?_, ?_, ?_, ?_, ?_, ?_, ?_, ?_, ?_, ?_, ?_, ?_, ?_, ?_, ?_, ?_, ?_, ?_, ?_, ?_, ?_, ?_, ?_, ?_, ?_, trivial⟩ ?_
 · intro ax tx hs okx sm
   exact run_plain rfl (y_field Try.fld31_2 Try.inf29 (by decide) (kp (sm 4 rfl) hs q4) rfl)
 · intro ax tx hs okx sm d0
   have e0 := ed d0 rfl rfl rfl
   exact run_plain rfl (y_load Try.underlying29 rfl e0 rfl)
 · intro ax tx hs okx sm d0
   have e1 := ed d0 rfl rfl rfl
   exact run_plain rfl (y_len Try.underlying29 e1)
 · intro ax tx hs okx sm d0
   have e2 := ed d0 rfl rfl rfl
   exact run_plain rfl (y_gtr e2 rfl)
 · intro ax tx hs okx sm d0
   have e3 := ed d0 rfl rfl rfl
   exact run_plain rfl (y_move e3)
 · intro ax tx hs okx sm d0
   have e4 := ed d0 rfl rfl rfl
   refine run_guard (T := (Ty.ref [(Ty.lst Ty.ints l)])) okx rfl rfl (by decide) e4 (fun hg => ?_)
   have hp := of_decide_eq_true hg
   exact y_field Try.fld31_2 Try.inf29 (by decide) (kp (sm 4 rfl) hs q4) rfl
 · intro ax tx hs okx sm d0 d1
   have e5 := ed d0 rfl rfl rfl
   have e4 := ed d1 rfl rfl rfl
   refine run_guard (T := (Ty.lst Ty.ints l)) okx rfl rfl (by decide) e4 (fun hg => ?_)
   have hp := of_decide_eq_true hg
   exact y_load Try.underlying29 rfl (e5.1 hg) rfl
 · intro ax tx hs okx sm d0 d1
   have e6 := ed d0 rfl rfl rfl
   have e4 := ed d1 rfl rfl rfl
   refine run_guard (T := (Ty.nat (List.length l))) okx rfl rfl (by decide) e4 (fun hg => ?_)
   have hp := of_decide_eq_true hg
   exact y_len Try.underlying29 (e6.1 hg)
 · intro ax tx hs okx sm d0 d1
   have e7 := ed d0 rfl rfl rfl
   have e4 := ed d1 rfl rfl rfl
   refine run_guard (T := (Ty.bool (decide ((((List.length l) : Nat) : Int) < (201 : Int))))) okx rfl rfl (by decide) e4 (fun hg => ?_)
   have hp := of_decide_eq_true hg
   exact y_lss (e7.1 hg) rfl
 · intro ax tx hs okx sm d0 d1
   have e4 := ed d0 rfl rfl rfl
   have e8 := ed d1 rfl rfl rfl
   exact run_plain rfl (y_pick_and e4 e8 rfl)
 · intro ax tx hs okx sm d0 d1
   have e9 := ed d0 rfl rfl rfl
   exact run_plain rfl (y_move e9)
 · intro ax tx hs okx sm d0
   have e10 := ed d0 rfl rfl rfl
   refine run_guard (T := (Ty.int leads)) okx rfl rfl (by decide) e10 (fun hg => ?_)
   exact y_move (kp (sm 2 rfl) hs q2)
 · intro ax tx hs okx sm d0 d1
   have e11 := ed d0 rfl rfl rfl
   have e10 := ed d1 rfl rfl rfl
   refine run_guard (T := (Ty.bool (decide ((5 : Int) < leads)))) okx rfl rfl (by decide) e10 (fun hg => ?_)
   exact y_gtr (e11.1 hg) rfl
 · intro ax tx hs okx sm d0 d1 d2
   have e12 := ed d0 rfl rfl rfl
   have e10 := ed d1 rfl rfl rfl
   refine run_guard (T := (Ty.bool (decide ((5 : Int) < leads)))) okx rfl rfl (by decide) e10 (fun hg => ?_)
   exact y_move (e12.1 hg)
 · intro ax tx hs okx sm d0
   have e13 := ed d0 rfl rfl rfl
   refine run_guard2 (T := (Ty.int leads)) okx rfl rfl (by decide) e13 (fun hg => ?_)
   have hp := of_decide_eq_true hg.2
   exact y_move (kp (sm 2 rfl) hs q2)
 · intro ax tx hs okx sm d0 d1
   have e14 := ed d0 rfl rfl rfl
   have e13 := ed d1 rfl rfl rfl
   refine run_guard2 (T := (Ty.bool (decide (leads < (25 : Int))))) okx rfl rfl (by decide) e13 (fun hg => ?_)
   have hp := of_decide_eq_true hg.2
   exact y_lss (e14.1 hg) rfl
 · intro ax tx hs okx sm d0 d1 d2
   have e13 := ed d0 rfl rfl rfl
   have e15 := ed d1 rfl rfl rfl
   have e10 := ed d2 rfl rfl rfl
   refine run_guard (T := (Ty.bool ((decide ((5 : Int) < leads)) && (decide (leads < (25 : Int)))))) okx rfl rfl (by decide) e10 (fun hg => ?_)
   exact y_pick_and (e13.1 hg) (grd_part hg e15) rfl
 · intro ax tx hs okx sm d0 d1
   have e10 := ed d0 rfl rfl rfl
   have e16 := ed d1 rfl rfl rfl
   exact run_plain rfl (y_pick_or e10 rfl e16)
 · intro ax tx hs okx sm d0 d1
   have e17 := ed d0 rfl rfl rfl
   exact run_plain rfl (y_move e17)
 · intro ax tx hs okx sm d0
   have e18 := ed d0 rfl rfl rfl
   refine run_guard (T := (Ty.lstc 2 callC cs)) okx rfl rfl (by decide) e18 (fun hg => ?_)
   obtain ⟨d1, d2⟩ := Bool.or_eq_false_iff.mp hg
   exact y_move (kp (sm 1 rfl) hs q1)
 · intro ax tx hs okx sm d0 d1
   have e19 := ed d0 rfl rfl rfl
   have e18 := ed d1 rfl rfl rfl
   refine run_guard (T := (Ty.nat (List.length cs))) okx rfl rfl (by decide) e18 (fun hg => ?_)
   obtain ⟨d3, d4⟩ := Bool.or_eq_false_iff.mp hg
   exact y_len Try.underlying22 (e19.1 hg)
 · intro ax tx hs okx sm d0 d1
   have e20 := ed d0 rfl rfl rfl
   have e18 := ed d1 rfl rfl rfl
   refine run_guard (T := (Ty.bool (decide ((3 : Int) < (((List.length cs) : Nat) : Int))))) okx rfl rfl (by decide) e18 (fun hg => ?_)
   obtain ⟨d5, d6⟩ := Bool.or_eq_false_iff.mp hg
   exact y_gtr (e20.1 hg) rfl
 · intro ax tx hs okx sm d0 d1 d2
   have e21 := ed d0 rfl rfl rfl
   have e18 := ed d1 rfl rfl rfl
   refine run_guard (T := (Ty.bool (decide ((3 : Int) < (((List.length cs) : Nat) : Int))))) okx rfl rfl (by decide) e18 (fun hg => ?_)
   obtain ⟨d7, d8⟩ := Bool.or_eq_false_iff.mp hg
   exact y_move (e21.1 hg)
 · intro ax tx hs okx sm d0
   have e22 := ed d0 rfl rfl rfl
   refine run_guard2 (T := (Ty.lstc 2 callC cs)) okx rfl rfl (by decide) e22 (fun hg => ?_)
   have hp := of_decide_eq_true hg.2
   exact y_move (kp (sm 1 rfl) hs q1)
 · intro ax tx hs okx sm d0 d1
   have e23 := ed d0 rfl rfl rfl
   have e22 := ed d1 rfl rfl rfl
   refine run_guard2 (T := (Ty.nat (List.length cs))) okx rfl rfl (by decide) e22 (fun hg => ?_)
   have hp := of_decide_eq_true hg.2
   exact y_len Try.underlying22 (e23.1 hg)
 · intro ax tx hs okx sm d0 d1
   have e24 := ed d0 rfl rfl rfl
   have e22 := ed d1 rfl rfl rfl
   refine run_guard2 (T := (Ty.bool (decide ((((List.length cs) : Nat) : Int) < (9 : Int))))) okx rfl rfl (by decide) e22 (fun hg => ?_)
   have hp := of_decide_eq_true hg.2
   exact y_lss (e24.1 hg) rfl
 · intro ax tx hs okx sm d0 d1 d2
   have e22 := ed d0 rfl rfl rfl
   have e25 := ed d1 rfl rfl rfl
   have e18 := ed d2 rfl rfl rfl
   refine run_guard (T := (Ty.bool ((decide ((3 : Int) < (((List.length cs) : Nat) : Int))) && (decide ((((List.length cs) : Nat) : Int) < (9 : Int)))))) okx rfl rfl (by decide) e18 (fun hg => ?_)
   obtain ⟨d9, d10⟩ := Bool.or_eq_false_iff.mp hg
   exact y_pick_and (e22.1 hg) (grd_part hg e25) rfl
 · intro ax tx hs okx sm d0 d1
   have e18 := ed d0 rfl rfl rfl
   have e26 := ed d1 rfl rfl rfl
   exact run_plain rfl (y_pick_or e18 rfl e26)
 intro a2 s2 D2
 have ok2 := D2.ok
 have F2 := F1.step0 D2.stp
 have q5 := D2.kt q1 rfl
 have q6 := D2.kt q2 rfl
 have q7 := D2.kt q3 rfl
 have q8 := D2.kt q4 rfl
 have q9 : At (Ty.bool ((((decide ((40 : Int) < (((List.length l) : Nat) : Int))) && (decide ((((List.length l) : Nat) : Int) < (201 : Int)))) || ((decide ((5 : Int) < leads)) && (decide (leads < (25 : Int))))) || ((decide ((3 : Int) < (((List.length cs) : Nat) : Int))) && (decide ((((List.length cs) : Nat) : Int) < (9 : Int)))))) s2 a2 (.tmp 40) := D2.done 27
 clear D2
 refine tn ?_
 refine cond_t q9 (fun c1 => ?_) (fun c1 => ?_)
 ·
  refine wp_seq ?_
  refine reg (a := a2) (σ := s2) rfl (fun i_ => List.getD [(Ty.pr (Ty.bool true))] i_ Pr.any) ok2 rfl ⟨?_, trivial⟩ ?_
  · intro ax tx hs okx sm
    exact run_plain rfl (y_assign rfl)
  intro a3 s3 D3
  have ok3 := D3.ok
  have F3 := F2.step0 D3.stp
  have q10 : At (Ty.bool true) s3 a3 (.tmp 8) := D3.done 0
  clear D3
  refine tn ?_
  refine wp_ret ?_
  refine tr ?_
  exact retL1 rfl ok3 F3 q10
 ·
  obtain ⟨d11, d12⟩ := Bool.or_eq_false_iff.mp c1
  obtain ⟨d13, d14⟩ := Bool.or_eq_false_iff.mp d11
  refine wp_skip ?_
  refine tn ?_
  refine wp_seq ?_
  refine reg (a := a2) (σ := s2) rfl (fun i_ => List.getD [(Ty.pr (Ty.agg [(Ty.val (Value.string nm)), (Ty.int n), (Ty.lst Ty.ints l)])), (Ty.pr (Ty.lstc 2 callC cs)), (Ty.pr (Ty.int leads)), (Ty.pr (Ty.int many)), (Ty.pr (Ty.tup2 (Ty.lst Ty.ints (if qMay nm n l cs leads many = 0 then qFnd n l cs leads many else [])) (Ty.int (qMay nm n l cs leads many)))), (Ty.pr (Ty.tup2 (Ty.lst Ty.ints (if qMay nm n l cs leads many = 0 then qFnd n l cs leads many else [])) (Ty.int (qMay nm n l cs leads many)))), (Ty.pr (Ty.lst Ty.ints (if qMay nm n l cs leads many = 0 then qFnd n l cs leads many else []))), (Ty.pr (Ty.int (qMay nm n l cs leads many))), (Ty.pr (Ty.lst Ty.ints (if qMay nm n l cs leads many = 0 then qFnd n l cs leads many else []))), (Ty.pr (Ty.int (qMay nm n l cs leads many)))] i_ Pr.any) ok2 rfl ⟨?_, ?_, ?_, ?_, ?_, ?_, ?_, ?_, ?_, ?_, trivial⟩ ?_
  · intro ax tx hs okx sm
    exact run_plain rfl (y_loadagg Try.underlying31 Try.inf31 (kp (sm 4 rfl) hs q8))
  · intro ax tx hs okx sm
    exact run_plain rfl (y_move (kp (sm 1 rfl) hs q5))
  · intro ax tx hs okx sm
    exact run_plain rfl (y_move (kp (sm 2 rfl) hs q6))
  · intro ax tx hs okx sm
    exact run_plain rfl (y_move (kp (sm 3 rfl) hs q7))
  · intro ax tx hs okx sm d0 d1 d2 d3
    have e0 := ed d0 rfl rfl rfl
    have e1 := ed d1 rfl rfl rfl
    have e2 := ed d2 rfl rfl rfl
    have e3 := ed d3 rfl rfl rfl
    exact run_plain rfl (y_call #[ax.eval (.tmp 42), ax.eval (.tmp 43), ax.eval (.tmp 44), ax.eval (.tmp 45)] Try.func15 rfl rfl (by simp only [List.map_toArray, List.map_cons, List.map_nil]) (touches_fn (nm) (n) (l) (cs) (leads) (many) _ _ _ _ _ e0 e1 e2 e3 (by first | omega | assumption) (by first | omega | assumption)))
  · intro ax tx hs okx sm d0
    have e4 := ed d0 rfl rfl rfl
    exact run_plain rfl (y_move e4)
  · intro ax tx hs okx sm d0
    have e5 := ed d0 rfl rfl rfl
    exact run_plain rfl (y_ext2_0 e5)
  · intro ax tx hs okx sm d0 d1
    have e5 := ed d0 rfl rfl rfl
    exact run_plain rfl (y_ext2_1 e5)
  · intro ax tx hs okx sm d0 d1 d2 d3 d4 d5 d6 d7 d8 d9
    have e6 := ed d0 rfl rfl rfl
    exact run_plain rfl (y_assign e6)
  · intro ax tx hs okx sm d0 d1 d2 d3 d4 d5 d6 d7 d8 d9 d10
    have e7 := ed d0 rfl rfl rfl
    exact run_plain rfl (y_assign e7)
  intro a4 s4 D4
  have ok4 := D4.ok
  have F4 := F2.step0 D4.stp
  have q11 := D4.kt q5 rfl
  have q12 := D4.kt q6 rfl
  have q13 := D4.kt q7 rfl
  have q14 := D4.kt q8 rfl
  have q15 : At (Ty.lst Ty.ints (if qMay nm n l cs leads many = 0 then qFnd n l cs leads many else [])) s4 a4 (.tmp 9) := D4.done 8
  have q16 : At (Ty.int (qMay nm n l cs leads many)) s4 a4 (.tmp 10) := D4.done 9
  clear D4
  refine tn ?_
  refine wp_seq ?_
  refine reg (a := a4) (σ := s4) rfl (fun i_ => List.getD [(Ty.pr (Ty.agg [(Ty.val (Value.string nm)), (Ty.int n), (Ty.lst Ty.ints l)])), (Ty.pr (Ty.lstc 2 callC cs)), (Ty.pr (Ty.int leads)), (Ty.pr (Ty.int many)), (Ty.pr (Ty.tup2 (Ty.lst Ty.ints (if qMay nm n l cs leads many = 0 then qFnd n l cs leads many else [])) (Ty.int (qMay nm n l cs leads many)))), (Ty.pr (Ty.tup2 (Ty.lst Ty.ints (if qMay nm n l cs leads many = 0 then qFnd n l cs leads many else [])) (Ty.int (qMay nm n l cs leads many)))), (Ty.pr (Ty.lst Ty.ints (if qMay nm n l cs leads many = 0 then qFnd n l cs leads many else []))), (Ty.pr (Ty.int (qMay nm n l cs leads many))), (Ty.pr (Ty.lst Ty.ints (if qMay nm n l cs leads many = 0 then qFnd n l cs leads many else []))), (Ty.pr (Ty.int (qMay nm n l cs leads many)))] i_ Pr.any) ok4 rfl ⟨?_, ?_, ?_, ?_, ?_, ?_, ?_, ?_, ?_, ?_, trivial⟩ ?_
  · intro ax tx hs okx sm
    exact run_plain rfl (y_loadagg Try.underlying31 Try.inf31 (kp (sm 4 rfl) hs q14))
  · intro ax tx hs okx sm
    exact run_plain rfl (y_move (kp (sm 1 rfl) hs q11))
  · intro ax tx hs okx sm
    exact run_plain rfl (y_move (kp (sm 2 rfl) hs q12))
  · intro ax tx hs okx sm
    exact run_plain rfl (y_move (kp (sm 3 rfl) hs q13))
  · intro ax tx hs okx sm d0 d1 d2 d3
    have e0 := ed d0 rfl rfl rfl
    have e1 := ed d1 rfl rfl rfl
    have e2 := ed d2 rfl rfl rfl
    have e3 := ed d3 rfl rfl rfl
    exact run_plain rfl (y_call #[ax.eval (.tmp 50), ax.eval (.tmp 51), ax.eval (.tmp 52), ax.eval (.tmp 53)] Try.func16 rfl rfl (by simp only [List.map_toArray, List.map_cons, List.map_nil]) (rTouches_fn (nm) (n) (l) (cs) (leads) (many) _ _ _ _ _ e0 e1 e2 e3 (by first | omega | assumption) (by first | omega | assumption)))
  · intro ax tx hs okx sm d0
    have e4 := ed d0 rfl rfl rfl
    exact run_plain rfl (y_move e4)
  · intro ax tx hs okx sm d0
    have e5 := ed d0 rfl rfl rfl
    exact run_plain rfl (y_ext2_0 e5)
  · intro ax tx hs okx sm d0 d1
    have e5 := ed d0 rfl rfl rfl
    exact run_plain rfl (y_ext2_1 e5)
  · intro ax tx hs okx sm d0 d1 d2 d3 d4 d5 d6 d7 d8 d9
    have e6 := ed d0 rfl rfl rfl
    exact run_plain rfl (y_assign e6)
  · intro ax tx hs okx sm d0 d1 d2 d3 d4 d5 d6 d7 d8 d9 d10
    have e7 := ed d0 rfl rfl rfl
    exact run_plain rfl (y_assign e7)
  intro a5 s5 D5
  have ok5 := D5.ok
  have F5 := F4.step0 D5.stp
  have q17 := D5.kt q15 rfl
  have q18 := D5.kt q16 rfl
  have q19 : At (Ty.lst Ty.ints (if qMay nm n l cs leads many = 0 then qFnd n l cs leads many else [])) s5 a5 (.tmp 11) := D5.done 8
  have q20 : At (Ty.int (qMay nm n l cs leads many)) s5 a5 (.tmp 12) := D5.done 9
  clear D5
  refine tn ?_
  refine wp_seq ?_
  refine reg (a := a5) (σ := s5) rfl (fun i_ => List.getD [(Ty.pr (Ty.int (qMay nm n l cs leads many))), (Ty.pr (Ty.int (qMay nm n l cs leads many))), (Ty.pr (Ty.bool (decide ((qMay nm n l cs leads many) = (qMay nm n l cs leads many))))), (Ty.pr (Ty.bool (decide ((qMay nm n l cs leads many) = (qMay nm n l cs leads many))))), (Ty.pr (Ty.grd ((decide ((qMay nm n l cs leads many) = (qMay nm n l cs leads many))) = true) (Ty.lst Ty.ints (if qMay nm n l cs leads many = 0 then qFnd n l cs leads many else [])))), (Ty.pr (Ty.grd ((decide ((qMay nm n l cs leads many) = (qMay nm n l cs leads many))) = true) (Ty.lst Ty.ints (if qMay nm n l cs leads many = 0 then qFnd n l cs leads many else [])))), (Ty.pr (Ty.grd ((decide ((qMay nm n l cs leads many) = (qMay nm n l cs leads many))) = true) (Ty.bool (decide (((if qMay nm n l cs leads many = 0 then qFnd n l cs leads many else [])) = ((if qMay nm n l cs leads many = 0 then qFnd n l cs leads many else []))))))), (Ty.pr (Ty.bool ((decide ((qMay nm n l cs leads many) = (qMay nm n l cs leads many))) && (decide (((if qMay nm n l cs leads many = 0 then qFnd n l cs leads many else [])) = ((if qMay nm n l cs leads many = 0 then qFnd n l cs leads many else []))))))), (Ty.pr (Ty.bool ((decide ((qMay nm n l cs leads many) = (qMay nm n l cs leads many))) && (decide (((if qMay nm n l cs leads many = 0 then qFnd n l cs leads many else [])) = ((if qMay nm n l cs leads many = 0 then qFnd n l cs leads many else [])))))))] i_ Pr.any) ok5 rfl ⟨?_, ?_, ?_, ?_, ?_, ?_, ?_, ?_, ?_, trivial⟩ ?_
  · intro ax tx hs okx sm
    exact run_plain rfl (y_move (kp (sm 10 rfl) hs q18))
  · intro ax tx hs okx sm
    exact run_plain rfl (y_move (kp (sm 12 rfl) hs q20))
  · intro ax tx hs okx sm d0 d1
    have e0 := ed d0 rfl rfl rfl
    have e1 := ed d1 rfl rfl rfl
    exact run_plain rfl (y_eql e0 e1)
  · intro ax tx hs okx sm d0
    have e2 := ed d0 rfl rfl rfl
    exact run_plain rfl (y_move e2)
  · intro ax tx hs okx sm d0
    have e3 := ed d0 rfl rfl rfl
    refine run_guard (T := (Ty.lst Ty.ints (if qMay nm n l cs leads many = 0 then qFnd n l cs leads many else []))) okx rfl rfl (by decide) e3 (fun hg => ?_)
    have hp := of_decide_eq_true hg
    exact y_move (kp (sm 9 rfl) hs q17)
  · intro ax tx hs okx sm d0
    have e3 := ed d0 rfl rfl rfl
    refine run_guard (T := (Ty.lst Ty.ints (if qMay nm n l cs leads many = 0 then qFnd n l cs leads many else []))) okx rfl rfl (by decide) e3 (fun hg => ?_)
    have hp := of_decide_eq_true hg
    exact y_move (kp (sm 11 rfl) hs q19)
  · intro ax tx hs okx sm d0 d1 d2 d3
    have e4 := ed d0 rfl rfl rfl
    have e5 := ed d1 rfl rfl rfl
    have e3 := ed d2 rfl rfl rfl
    refine run_guard (T := (Ty.bool (decide (((if qMay nm n l cs leads many = 0 then qFnd n l cs leads many else [])) = ((if qMay nm n l cs leads many = 0 then qFnd n l cs leads many else [])))))) okx rfl rfl (by decide) e3 (fun hg => ?_)
    have hp := of_decide_eq_true hg
    exact y_call #[ax.eval (.tmp 61), ax.eval (.tmp 62)] Try.func17 rfl rfl (by simp only [List.map_toArray, List.map_cons, List.map_nil]) (rSameAll_fn ((if qMay nm n l cs leads many = 0 then qFnd n l cs leads many else [])) ((if qMay nm n l cs leads many = 0 then qFnd n l cs leads many else [])) _ _ _ (e4.1 hg) (e5.1 hg) )
  · intro ax tx hs okx sm d0 d1
    have e3 := ed d0 rfl rfl rfl
    have e6 := ed d1 rfl rfl rfl
    exact run_plain rfl (y_pick_and e3 e6 rfl)
  · intro ax tx hs okx sm d0 d1 d2 d3 d4 d5 d6 d7 d8 d9
    have e7 := ed d0 rfl rfl rfl
    exact run_plain rfl (y_assign e7)
  intro a6 s6 D6
  have ok6 := D6.ok
  have F6 := F5.step0 D6.stp
  have q21 : At (Ty.bool ((decide ((qMay nm n l cs leads many) = (qMay nm n l cs leads many))) && (decide (((if qMay nm n l cs leads many = 0 then qFnd n l cs leads many else [])) = ((if qMay nm n l cs leads many = 0 then qFnd n l cs leads many else [])))))) s6 a6 (.tmp 8) := D6.done 8
  clear D6
  refine tn ?_
  refine wp_ret ?_
  exact retL1 rfl ok6 F6 (cvb (by (simp)) q21)


end Go.Proofs.Ytbilebfnanlgfaa
