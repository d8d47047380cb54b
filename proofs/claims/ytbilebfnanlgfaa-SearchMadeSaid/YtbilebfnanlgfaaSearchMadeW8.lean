/- The functions that the law SearchMade reaches, each by its contract. Part 8. -/
import Derived.Test.YtbilebfnanlgfaaSearchMadeW7
namespace Go.Proofs.Ytbilebfnanlgfaa
open Go.KL

set_option maxHeartbeats 4000000 in
set_option maxRecDepth 100000 in
theorem searchSays_fn (nm : ByteArray) (n : Int) (l : List (List Int)) (cs : List BCall) (leads : Int) (many : Int) (σ : GW)  (v0 v1 v2 v3 : Value) (hv0 : Ty.has (Ty.agg [(Ty.val (Value.string nm)), (Ty.int n), (Ty.lst Ty.ints l)]) σ v0) (hv1 : Ty.has (Ty.lstc 2 callC cs) σ v1) (hv2 : Ty.has (Ty.int leads) σ v2) (hv3 : Ty.has (Ty.int many) σ v3)  (hnm : nm.size ≤ 1099511627776) (hn : -9223372036854775808 ≤ n ∧ n ≤ 9223372036854775807) :
    FnC Try.prog 4 #[v0, v1, v2, v3] σ (Ty.bool true) := by
 refine fn_intro0 Try.func4 rfl Try.ntmps4 (Nat.le_of_ble_eq_true rfl) (fun s0 a0 hle F0 ok0 hargs => ?_)
 have p0 : At (Ty.agg [(Ty.val (Value.string nm)), (Ty.int n), (Ty.lst Ty.ints l)]) s0 a0 (.tmp 0) := by have e := hargs 0 _ rfl; show Ty.has _ _ _; rw [e]; exact Ty.up _ hle hv0
 have p1 : At (Ty.lstc 2 callC cs) s0 a0 (.tmp 1) := by have e := hargs 1 _ rfl; show Ty.has _ _ _; rw [e]; exact Ty.up _ hle hv1
 have b1 := sl_le p1
 have p2 : At (Ty.int leads) s0 a0 (.tmp 2) := by have e := hargs 2 _ rfl; show Ty.has _ _ _; rw [e]; exact Ty.up _ hle hv2
 have p3 : At (Ty.int many) s0 a0 (.tmp 3) := by have e := hargs 3 _ rfl; show Ty.has _ _ _; rw [e]; exact Ty.up _ hle hv3
 clear hargs
 refine wp_seq ?_
 refine reg (a := a0) (σ := s0) rfl (fun i_ => List.getD [(Ty.pr (Ty.ref [(Ty.val (Value.string nm)), (Ty.int n), (Ty.lst Ty.ints l)])), (Ty.pr (Ty.bool false))] i_ Pr.any) ok0 rfl ⟨?_, ?_, trivial⟩ ?_
 · intro ax tx hs okx sm
   exact run_plain rfl (y_boxagg (kp (sm 0 rfl) hs p0))
 · intro ax tx hs okx sm
   exact run_plain rfl (y_assign rfl)
 intro a1 s1 D1
 have ok1 := D1.ok
 have F1 := F0.step0 D1.stp
 have q1 := D1.kt p1 rfl
 have q2 := D1.kt p2 rfl
 have q3 := D1.kt p3 rfl
 have q4 : At (Ty.ref [(Ty.val (Value.string nm)), (Ty.int n), (Ty.lst Ty.ints l)]) s1 a1 (.tmp 4) := D1.done 0
 clear D1
 refine tn ?_
 refine wp_seq ?_
 refine wp_seq ?_
 refine reg (a := a1) (σ := s1) rfl (fun i_ => List.getD [(Ty.pr (Ty.ref [(Ty.lst Ty.ints l)])), (Ty.pr (Ty.lst Ty.ints l)), (Ty.pr (Ty.nat (List.length l))), (Ty.pr (Ty.bool (decide ((40 : Int) < (((List.length l) : Nat) : Int))))), (Ty.pr (Ty.bool (decide ((40 : Int) < (((List.length l) : Nat) : Int))))), (Ty.pr (Ty.grd ((decide ((40 : Int) < (((List.length l) : Nat) : Int))) = true) (Ty.ref [(Ty.lst Ty.ints l)]))), (Ty.pr (Ty.grd ((decide ((40 : Int) < (((List.length l) : Nat) : Int))) = true) (Ty.lst Ty.ints l))), (Ty.pr (Ty.grd ((decide ((40 : Int) < (((List.length l) : Nat) : Int))) = true) (Ty.nat (List.length l)))), (Ty.pr (Ty.grd ((decide ((40 : Int) < (((List.length l) : Nat) : Int))) = true) (Ty.bool (decide ((((List.length l) : Nat) : Int) < (201 : Int)))))), (Ty.pr (Ty.bool ((decide ((40 : Int) < (((List.length l) : Nat) : Int))) && (decide ((((List.length l) : Nat) : Int) < (201 : Int)))))), (Ty.pr (Ty.bool ((decide ((40 : Int) < (((List.length l) : Nat) : Int))) && (decide ((((List.length l) : Nat) : Int) < (201 : Int)))))), (Ty.pr (Ty.grd (((decide ((40 : Int) < (((List.length l) : Nat) : Int))) && (decide ((((List.length l) : Nat) : Int) < (201 : Int)))) = false) (Ty.int leads))), (Ty.pr (Ty.grd (((decide ((40 : Int) < (((List.length l) : Nat) : Int))) && (decide ((((List.length l) : Nat) : Int) < (201 : Int)))) = false) (Ty.bool (decide ((5 : Int) < leads))))), (Ty.pr (Ty.grd (((decide ((40 : Int) < (((List.length l) : Nat) : Int))) && (decide ((((List.length l) : Nat) : Int) < (201 : Int)))) = false) (Ty.bool (decide ((5 : Int) < leads))))), (Ty.pr (Ty.grd ((((decide ((40 : Int) < (((List.length l) : Nat) : Int))) && (decide ((((List.length l) : Nat) : Int) < (201 : Int)))) = false) ∧ (decide ((5 : Int) < leads)) = true) (Ty.int leads))), (Ty.pr (Ty.grd ((((decide ((40 : Int) < (((List.length l) : Nat) : Int))) && (decide ((((List.length l) : Nat) : Int) < (201 : Int)))) = false) ∧ (decide ((5 : Int) < leads)) = true) (Ty.bool (decide (leads < (25 : Int)))))), (Ty.pr (Ty.grd (((decide ((40 : Int) < (((List.length l) : Nat) : Int))) && (decide ((((List.length l) : Nat) : Int) < (201 : Int)))) = false) (Ty.bool ((decide ((5 : Int) < leads)) && (decide (leads < (25 : Int))))))), (Ty.pr (Ty.bool (((decide ((40 : Int) < (((List.length l) : Nat) : Int))) && (decide ((((List.length l) : Nat) : Int) < (201 : Int)))) || ((decide ((5 : Int) < leads)) && (decide (leads < (25 : Int))))))), (Ty.pr (Ty.bool (((decide ((40 : Int) < (((List.length l) : Nat) : Int))) && (decide ((((List.length l) : Nat) : Int) < (201 : Int)))) || ((decide ((5 : Int) < leads)) && (decide (leads < (25 : Int))))))), (Ty.pr (Ty.grd ((((decide ((40 : Int) < (((List.length l) : Nat) : Int))) && (decide ((((List.length l) : Nat) : Int) < (201 : Int)))) || ((decide ((5 : Int) < leads)) && (decide (leads < (25 : Int))))) = false) (Ty.lstc 2 callC cs))), (Ty.pr (Ty.grd ((((decide ((40 : Int) < (((List.length l) : Nat) : Int))) && (decide ((((List.length l) : Nat) : Int) < (201 : Int)))) || ((decide ((5 : Int) < leads)) && (decide (leads < (25 : Int))))) = false) (Ty.nat (List.length cs)))), (Ty.pr (Ty.grd ((((decide ((40 : Int) < (((List.length l) : Nat) : Int))) && (decide ((((List.length l) : Nat) : Int) < (201 : Int)))) || ((decide ((5 : Int) < leads)) && (decide (leads < (25 : Int))))) = false) (Ty.bool (decide ((3 : Int) < (((List.length cs) : Nat) : Int)))))), (Ty.pr (Ty.grd ((((decide ((40 : Int) < (((List.length l) : Nat) : Int))) && (decide ((((List.length l) : Nat) : Int) < (201 : Int)))) || ((decide ((5 : Int) < leads)) && (decide (leads < (25 : Int))))) = false) (Ty.bool (decide ((3 : Int) < (((List.length cs) : Nat) : Int)))))), (Ty.pr (Ty.grd (((((decide ((40 : Int) < (((List.length l) : Nat) : Int))) && (decide ((((List.length l) : Nat) : Int) < (201 : Int)))) || ((decide ((5 : Int) < leads)) && (decide (leads < (25 : Int))))) = false) ∧ (decide ((3 : Int) < (((List.length cs) : Nat) : Int))) = true) (Ty.lstc 2 callC cs))), (Ty.pr (Ty.grd (((((decide ((40 : Int) < (((List.length l) : Nat) : Int))) && (decide ((((List.length l) : Nat) : Int) < (201 : Int)))) || ((decide ((5 : Int) < leads)) && (decide (leads < (25 : Int))))) = false) ∧ (decide ((3 : Int) < (((List.length cs) : Nat) : Int))) = true) (Ty.nat (List.length cs)))), (Ty.pr (Ty.grd (((((decide ((40 : Int) < (((List.length l) : Nat) : Int))) && (decide ((((List.length l) : Nat) : Int) < (201 : Int)))) || ((decide ((5 : Int) < leads)) && (decide (leads < (25 : Int))))) = false) ∧ (decide ((3 : Int) < (((List.length cs) : Nat) : Int))) = true) (Ty.bool (decide ((((List.length cs) : Nat) : Int) < (9 : Int)))))), (Ty.pr (Ty.grd ((((decide ((40 : Int) < (((List.length l) : Nat) : Int))) && (decide ((((List.length l) : Nat) : Int) < (201 : Int)))) || ((decide ((5 : Int) < leads)) && (decide (leads < (25 : Int))))) = false) (Ty.bool ((decide ((3 : Int) < (((List.length cs) : Nat) : Int))) && (decide ((((List.length cs) : Nat) : Int) < (9 : Int))))))), (Ty.pr (Ty.bool ((((decide ((40 : Int) < (((List.length l) : Nat) : Int))) && (decide ((((List.length l) : Nat) : Int) < (201 : Int)))) || ((decide ((5 : Int) < leads)) && (decide (leads < (25 : Int))))) || ((decide ((3 : Int) < (((List.length cs) : Nat) : Int))) && (decide ((((List.length cs) : Nat) : Int) < (9 : Int)))))))] i_ Pr.any) ok1 rfl ⟨?_, ?_, ?_, ?_, ?_, ?_, ?_, ?_, ?_, ?_, ?_, ?_, ?_, ?_, ?_, ?_, ?_, ?_, ?_, ?_, ?_, ?_, ?_, ?_, ?_, ?_, ?_, ?_, trivial⟩ ?_
 · intro ax tx hs okx sm
   exact run_plain rfl (y_field Try.fld31_2 Try.inf29 (by decide) (kp (sm 4 rfl) hs q4) rfl)
 · intro ax tx hs okx sm d0
   have e0 := ed d0 rfl rfl rfl
   exact run_plain rfl (y_load Try.underlying29 rfl e0 rfl)
 · intro ax tx hs okx sm d0
   have e1 := ed d0 rfl rfl rfl
   exact run_plain rfl (y_len Try.underlying29 e1)
 · intro ax tx hs okx sm d0
   have e2 := ed d0 rfl rfl rfl
   exact run_plain rfl (y_gtr e2 rfl)
 · intro ax tx hs okx sm d0
   have e3 := ed d0 rfl rfl rfl
   exact run_plain rfl (y_move e3)
 · intro ax tx hs okx sm d0
   have e4 := ed d0 rfl rfl rfl
   refine run_guard (T := (Ty.ref [(Ty.lst Ty.ints l)])) okx rfl rfl (by decide) e4 (fun hg => ?_)
   have hp := of_decide_eq_true hg
   exact y_field Try.fld31_2 Try.inf29 (by decide) (kp (sm 4 rfl) hs q4) rfl
 · intro ax tx hs okx sm d0 d1
   have e5 := ed d0 rfl rfl rfl
   have e4 := ed d1 rfl rfl rfl
   refine run_guard (T := (Ty.lst Ty.ints l)) okx rfl rfl (by decide) e4 (fun hg => ?_)
   have hp := of_decide_eq_true hg
   exact y_load Try.underlying29 rfl (e5.1 hg) rfl
 · intro ax tx hs okx sm d0 d1
   have e6 := ed d0 rfl rfl rfl
   have e4 := ed d1 rfl rfl rfl
   refine run_guard (T := (Ty.nat (List.length l))) okx rfl rfl (by decide) e4 (fun hg => ?_)
   have hp := of_decide_eq_true hg
   exact y_len Try.underlying29 (e6.1 hg)
 · intro ax tx hs okx sm d0 d1
   have e7 := ed d0 rfl rfl rfl
   have e4 := ed d1 rfl rfl rfl
   refine run_guard (T := (Ty.bool (decide ((((List.length l) : Nat) : Int) < (201 : Int))))) okx rfl rfl (by decide) e4 (fun hg => ?_)
   have hp := of_decide_eq_true hg
   exact y_lss (e7.1 hg) rfl
 · intro ax tx hs okx sm d0 d1
   have e4 := ed d0 rfl rfl rfl
   have e8 := ed d1 rfl rfl rfl
   exact run_plain rfl (y_pick_and e4 e8 rfl)
 · intro ax tx hs okx sm d0 d1
   have e9 := ed d0 rfl rfl rfl
   exact run_plain rfl (y_move e9)
 · intro ax tx hs okx sm d0
   have e10 := ed d0 rfl rfl rfl
   refine run_guard (T := (Ty.int leads)) okx rfl rfl (by decide) e10 (fun hg => ?_)
   exact y_move (kp (sm 2 rfl) hs q2)
 · intro ax tx hs okx sm d0 d1
   have e11 := ed d0 rfl rfl rfl
   have e10 := ed d1 rfl rfl rfl
   refine run_guard (T := (Ty.bool (decide ((5 : Int) < leads)))) okx rfl rfl (by decide) e10 (fun hg => ?_)
   exact y_gtr (e11.1 hg) rfl
 · intro ax tx hs okx sm d0 d1 d2
   have e12 := ed d0 rfl rfl rfl
   have e10 := ed d1 rfl rfl rfl
   refine run_guard (T := (Ty.bool (decide ((5 : Int) < leads)))) okx rfl rfl (by decide) e10 (fun hg => ?_)
   exact y_move (e12.1 hg)
 · intro ax tx hs okx sm d0
   have e13 := ed d0 rfl rfl rfl
   refine run_guard2 (T := (Ty.int leads)) okx rfl rfl (by decide) e13 (fun hg => ?_)
   have hp := of_decide_eq_true hg.2
   exact y_move (kp (sm 2 rfl) hs q2)
 · intro ax tx hs okx sm d0 d1
   have e14 := ed d0 rfl rfl rfl
   have e13 := ed d1 rfl rfl rfl
   refine run_guard2 (T := (Ty.bool (decide (leads < (25 : Int))))) okx rfl rfl (by decide) e13 (fun hg => ?_)
   have hp := of_decide_eq_true hg.2
   exact y_lss (e14.1 hg) rfl
 · intro ax tx hs okx sm d0 d1 d2
   have e13 := ed d0 rfl rfl rfl
   have e15 := ed d1 rfl rfl rfl
   have e10 := ed d2 rfl rfl rfl
   refine run_guard (T := (Ty.bool ((decide ((5 : Int) < leads)) && (decide (leads < (25 : Int)))))) okx rfl rfl (by decide) e10 (fun hg => ?_)
   exact y_pick_and (e13.1 hg) (grd_part hg e15) rfl
 · intro ax tx hs okx sm d0 d1
   have e10 := ed d0 rfl rfl rfl
   have e16 := ed d1 rfl rfl rfl
   exact run_plain rfl (y_pick_or e10 rfl e16)
 · intro ax tx hs okx sm d0 d1
   have e17 := ed d0 rfl rfl rfl
   exact run_plain rfl (y_move e17)
 · intro ax tx hs okx sm d0
   have e18 := ed d0 rfl rfl rfl
   refine run_guard (T := (Ty.lstc 2 callC cs)) okx rfl rfl (by decide) e18 (fun hg => ?_)
   obtain ⟨d1, d2⟩ := Bool.or_eq_false_iff.mp hg
   exact y_move (kp (sm 1 rfl) hs q1)
 · intro ax tx hs okx sm d0 d1
   have e19 := ed d0 rfl rfl rfl
   have e18 := ed d1 rfl rfl rfl
   refine run_guard (T := (Ty.nat (List.length cs))) okx rfl rfl (by decide) e18 (fun hg => ?_)
   obtain ⟨d3, d4⟩ := Bool.or_eq_false_iff.mp hg
   exact y_len Try.underlying22 (e19.1 hg)
 · intro ax tx hs okx sm d0 d1
   have e20 := ed d0 rfl rfl rfl
   have e18 := ed d1 rfl rfl rfl
   refine run_guard (T := (Ty.bool (decide ((3 : Int) < (((List.length cs) : Nat) : Int))))) okx rfl rfl (by decide) e18 (fun hg => ?_)
   obtain ⟨d5, d6⟩ := Bool.or_eq_false_iff.mp hg
   exact y_gtr (e20.1 hg) rfl
 · intro ax tx hs okx sm d0 d1 d2
   have e21 := ed d0 rfl rfl rfl
   have e18 := ed d1 rfl rfl rfl
   refine run_guard (T := (Ty.bool (decide ((3 : Int) < (((List.length cs) : Nat) : Int))))) okx rfl rfl (by decide) e18 (fun hg => ?_)
   obtain ⟨d7, d8⟩ := Bool.or_eq_false_iff.mp hg
   exact y_move (e21.1 hg)
 · intro ax tx hs okx sm d0
   have e22 := ed d0 rfl rfl rfl
   refine run_guard2 (T := (Ty.lstc 2 callC cs)) okx rfl rfl (by decide) e22 (fun hg => ?_)
   have hp := of_decide_eq_true hg.2
   exact y_move (kp (sm 1 rfl) hs q1)
 · intro ax tx hs okx sm d0 d1
   have e23 := ed d0 rfl rfl rfl
   have e22 := ed d1 rfl rfl rfl
   refine run_guard2 (T := (Ty.nat (List.length cs))) okx rfl rfl (by decide) e22 (fun hg => ?_)
   have hp := of_decide_eq_true hg.2
   exact y_len Try.underlying22 (e23.1 hg)
 · intro ax tx hs okx sm d0 d1
   have e24 := ed d0 rfl rfl rfl
   have e22 := ed d1 rfl rfl rfl
   refine run_guard2 (T := (Ty.bool (decide ((((List.length cs) : Nat) : Int) < (9 : Int))))) okx rfl rfl (by decide) e22 (fun hg => ?_)
   have hp := of_decide_eq_true hg.2
   exact y_lss (e24.1 hg) rfl
 · intro ax tx hs okx sm d0 d1 d2
   have e22 := ed d0 rfl rfl rfl
   have e25 := ed d1 rfl rfl rfl
   have e18 := ed d2 rfl rfl rfl
   refine run_guard (T := (Ty.bool ((decide ((3 : Int) < (((List.length cs) : Nat) : Int))) && (decide ((((List.length cs) : Nat) : Int) < (9 : Int)))))) okx rfl rfl (by decide) e18 (fun hg => ?_)
   obtain ⟨d9, d10⟩ := Bool.or_eq_false_iff.mp hg
   exact y_pick_and (e22.1 hg) (grd_part hg e25) rfl
 · intro ax tx hs okx sm d0 d1
   have e18 := ed d0 rfl rfl rfl
   have e26 := ed d1 rfl rfl rfl
   exact run_plain rfl (y_pick_or e18 rfl e26)
 intro a2 s2 D2
 have ok2 := D2.ok
 have F2 := F1.step0 D2.stp
 have q5 := D2.kt q1 rfl
 have q6 := D2.kt q2 rfl
 have q7 := D2.kt q3 rfl
 have q8 := D2.kt q4 rfl
 have q9 : At (Ty.bool ((((decide ((40 : Int) < (((List.length l) : Nat) : Int))) && (decide ((((List.length l) : Nat) : Int) < (201 : Int)))) || ((decide ((5 : Int) < leads)) && (decide (leads < (25 : Int))))) || ((decide ((3 : Int) < (((List.length cs) : Nat) : Int))) && (decide ((((List.length cs) : Nat) : Int) < (9 : Int)))))) s2 a2 (.tmp 40) := D2.done 27
 clear D2
 refine tn ?_
 refine cond_t q9 (fun c1 => ?_) (fun c1 => ?_)
 ·
  refine wp_seq ?_
  refine reg (a := a2) (σ := s2) rfl (fun i_ => List.getD [(Ty.pr (Ty.bool true))] i_ Pr.any) ok2 rfl ⟨?_, trivial⟩ ?_
  · intro ax tx hs okx sm
    exact run_plain rfl (y_assign rfl)
  intro a3 s3 D3
  have ok3 := D3.ok
  have F3 := F2.step0 D3.stp
  have q10 : At (Ty.bool true) s3 a3 (.tmp 8) := D3.done 0
  clear D3
  refine tn ?_
  refine wp_ret ?_
  refine tr ?_
  exact retL1 rfl ok3 F3 q10
 ·
  obtain ⟨d11, d12⟩ := Bool.or_eq_false_iff.mp c1
  obtain ⟨d13, d14⟩ := Bool.or_eq_false_iff.mp d11
  refine wp_skip ?_
  refine tn ?_
  refine wp_seq ?_
  refine reg (a := a2) (σ := s2) rfl (fun i_ => List.getD [(Ty.pr (Ty.agg [(Ty.val (Value.string nm)), (Ty.int n), (Ty.lst Ty.ints l)])), (Ty.pr (Ty.lstc 2 callC cs)), (Ty.pr (Ty.int leads)), (Ty.pr (Ty.int many)), (Ty.pr (Ty.tup2 (Ty.lst Ty.ints (if qMay nm n l cs leads many = 0 then qFnd n l cs leads many else [])) (Ty.int (qMay nm n l cs leads many)))), (Ty.pr (Ty.tup2 (Ty.lst Ty.ints (if qMay nm n l cs leads many = 0 then qFnd n l cs leads many else [])) (Ty.int (qMay nm n l cs leads many)))), (Ty.pr (Ty.lst Ty.ints (if qMay nm n l cs leads many = 0 then qFnd n l cs leads many else []))), (Ty.pr (Ty.int (qMay nm n l cs leads many))), (Ty.pr (Ty.lst Ty.ints (if qMay nm n l cs leads many = 0 then qFnd n l cs leads many else []))), (Ty.pr (Ty.int (qMay nm n l cs leads many)))] i_ Pr.any) ok2 rfl ⟨?_, ?_, ?_, ?_, ?_, ?_, ?_, ?_, ?_, ?_, trivial⟩ ?_
  · intro ax tx hs okx sm
    exact run_plain rfl (y_loadagg Try.underlying31 Try.inf31 (kp (sm 4 rfl) hs q8))
  · intro ax tx hs okx sm
    exact run_plain rfl (y_move (kp (sm 1 rfl) hs q5))
  · intro ax tx hs okx sm
    exact run_plain rfl (y_move (kp (sm 2 rfl) hs q6))
  · intro ax tx hs okx sm
    exact run_plain rfl (y_move (kp (sm 3 rfl) hs q7))
  · intro ax tx hs okx sm d0 d1 d2 d3
    have e0 := ed d0 rfl rfl rfl
    have e1 := ed d1 rfl rfl rfl
    have e2 := ed d2 rfl rfl rfl
    have e3 := ed d3 rfl rfl rfl
    exact run_plain rfl (y_call #[ax.eval (.tmp 42), ax.eval (.tmp 43), ax.eval (.tmp 44), ax.eval (.tmp 45)] Try.func15 rfl rfl (by simp only [List.map_toArray, List.map_cons, List.map_nil]) (touches_fn (nm) (n) (l) (cs) (leads) (many) _ _ _ _ _ e0 e1 e2 e3 (by first | omega | assumption) (by first | omega | assumption)))
  · intro ax tx hs okx sm d0
    have e4 := ed d0 rfl rfl rfl
    exact run_plain rfl (y_move e4)
  · intro ax tx hs okx sm d0
    have e5 := ed d0 rfl rfl rfl
    exact run_plain rfl (y_ext2_0 e5)
  · intro ax tx hs okx sm d0 d1
    have e5 := ed d0 rfl rfl rfl
    exact run_plain rfl (y_ext2_1 e5)
  · intro ax tx hs okx sm d0 d1 d2 d3 d4 d5 d6 d7 d8 d9
    have e6 := ed d0 rfl rfl rfl
    exact run_plain rfl (y_assign e6)
  · intro ax tx hs okx sm d0 d1 d2 d3 d4 d5 d6 d7 d8 d9 d10
    have e7 := ed d0 rfl rfl rfl
    exact run_plain rfl (y_assign e7)
  intro a4 s4 D4
  have ok4 := D4.ok
  have F4 := F2.step0 D4.stp
  have q11 := D4.kt q5 rfl
  have q12 := D4.kt q6 rfl
  have q13 := D4.kt q7 rfl
  have q14 := D4.kt q8 rfl
  have q15 : At (Ty.lst Ty.ints (if qMay nm n l cs leads many = 0 then qFnd n l cs leads many else [])) s4 a4 (.tmp 9) := D4.done 8
  have q16 : At (Ty.int (qMay nm n l cs leads many)) s4 a4 (.tmp 10) := D4.done 9
  clear D4
  refine tn ?_
  refine wp_seq ?_
  refine reg (a := a4) (σ := s4) rfl (fun i_ => List.getD [(Ty.pr (Ty.agg [(Ty.val (Value.string nm)), (Ty.int n), (Ty.lst Ty.ints l)])), (Ty.pr (Ty.lstc 2 callC cs)), (Ty.pr (Ty.int leads)), (Ty.pr (Ty.int many)), (Ty.pr (Ty.tup2 (Ty.lst Ty.ints (if qMay nm n l cs leads many = 0 then qFnd n l cs leads many else [])) (Ty.int (qMay nm n l cs leads many)))), (Ty.pr (Ty.tup2 (Ty.lst Ty.ints (if qMay nm n l cs leads many = 0 then qFnd n l cs leads many else [])) (Ty.int (qMay nm n l cs leads many)))), (Ty.pr (Ty.lst Ty.ints (if qMay nm n l cs leads many = 0 then qFnd n l cs leads many else []))), (Ty.pr (Ty.int (qMay nm n l cs leads many))), (Ty.pr (Ty.lst Ty.ints (if qMay nm n l cs leads many = 0 then qFnd n l cs leads many else []))), (Ty.pr (Ty.int (qMay nm n l cs leads many)))] i_ Pr.any) ok4 rfl ⟨?_, ?_, ?_, ?_, ?_, ?_, ?_, ?_, ?_, ?_, trivial⟩ ?_
  · intro ax tx hs okx sm
    exact run_plain rfl (y_loadagg Try.underlying31 Try.inf31 (kp (sm 4 rfl) hs q14))
  · intro ax tx hs okx sm
    exact run_plain rfl (y_move (kp (sm 1 rfl) hs q11))
  · intro ax tx hs okx sm
    exact run_plain rfl (y_move (kp (sm 2 rfl) hs q12))
  · intro ax tx hs okx sm
    exact run_plain rfl (y_move (kp (sm 3 rfl) hs q13))
  · intro ax tx hs okx sm d0 d1 d2 d3
    have e0 := ed d0 rfl rfl rfl
    have e1 := ed d1 rfl rfl rfl
    have e2 := ed d2 rfl rfl rfl
    have e3 := ed d3 rfl rfl rfl
    exact run_plain rfl (y_call #[ax.eval (.tmp 50), ax.eval (.tmp 51), ax.eval (.tmp 52), ax.eval (.tmp 53)] Try.func16 rfl rfl (by simp only [List.map_toArray, List.map_cons, List.map_nil]) (rTouches_fn (nm) (n) (l) (cs) (leads) (many) _ _ _ _ _ e0 e1 e2 e3 (by first | omega | assumption) (by first | omega | assumption)))
  · intro ax tx hs okx sm d0
    have e4 := ed d0 rfl rfl rfl
    exact run_plain rfl (y_move e4)
  · intro ax tx hs okx sm d0
    have e5 := ed d0 rfl rfl rfl
    exact run_plain rfl (y_ext2_0 e5)
  · intro ax tx hs okx sm d0 d1
    have e5 := ed d0 rfl rfl rfl
    exact run_plain rfl (y_ext2_1 e5)
  · intro ax tx hs okx sm d0 d1 d2 d3 d4 d5 d6 d7 d8 d9
    have e6 := ed d0 rfl rfl rfl
    exact run_plain rfl (y_assign e6)
  · intro ax tx hs okx sm d0 d1 d2 d3 d4 d5 d6 d7 d8 d9 d10
    have e7 := ed d0 rfl rfl rfl
    exact run_plain rfl (y_assign e7)
  intro a5 s5 D5
  have ok5 := D5.ok
  have F5 := F4.step0 D5.stp
  have q17 := D5.kt q15 rfl
  have q18 := D5.kt q16 rfl
  have q19 : At (Ty.lst Ty.ints (if qMay nm n l cs leads many = 0 then qFnd n l cs leads many else [])) s5 a5 (.tmp 11) := D5.done 8
  have q20 : At (Ty.int (qMay nm n l cs leads many)) s5 a5 (.tmp 12) := D5.done 9
  clear D5
  refine tn ?_
  refine wp_seq ?_
  refine reg (a := a5) (σ := s5) rfl (fun i_ => List.getD [(Ty.pr (Ty.int (qMay nm n l cs leads many))), (Ty.pr (Ty.int (qMay nm n l cs leads many))), (Ty.pr (Ty.bool (decide ((qMay nm n l cs leads many) = (qMay nm n l cs leads many))))), (Ty.pr (Ty.bool (decide ((qMay nm n l cs leads many) = (qMay nm n l cs leads many))))), (Ty.pr (Ty.grd ((decide ((qMay nm n l cs leads many) = (qMay nm n l cs leads many))) = true) (Ty.lst Ty.ints (if qMay nm n l cs leads many = 0 then qFnd n l cs leads many else [])))), (Ty.pr (Ty.grd ((decide ((qMay nm n l cs leads many) = (qMay nm n l cs leads many))) = true) (Ty.lst Ty.ints (if qMay nm n l cs leads many = 0 then qFnd n l cs leads many else [])))), (Ty.pr (Ty.grd ((decide ((qMay nm n l cs leads many) = (qMay nm n l cs leads many))) = true) (Ty.bool (decide (((if qMay nm n l cs leads many = 0 then qFnd n l cs leads many else [])) = ((if qMay nm n l cs leads many = 0 then qFnd n l cs leads many else []))))))), (Ty.pr (Ty.bool ((decide ((qMay nm n l cs leads many) = (qMay nm n l cs leads many))) && (decide (((if qMay nm n l cs leads many = 0 then qFnd n l cs leads many else [])) = ((if qMay nm n l cs leads many = 0 then qFnd n l cs leads many else []))))))), (Ty.pr (Ty.bool ((decide ((qMay nm n l cs leads many) = (qMay nm n l cs leads many))) && (decide (((if qMay nm n l cs leads many = 0 then qFnd n l cs leads many else [])) = ((if qMay nm n l cs leads many = 0 then qFnd n l cs leads many else [])))))))] i_ Pr.any) ok5 rfl ⟨?_, ?_, ?_, ?_, ?_, ?_, ?_, ?_, ?_, trivial⟩ ?_
  · intro ax tx hs okx sm
    exact run_plain rfl (y_move (kp (sm 10 rfl) hs q18))
  · intro ax tx hs okx sm
    exact run_plain rfl (y_move (kp (sm 12 rfl) hs q20))
  · intro ax tx hs okx sm d0 d1
    have e0 := ed d0 rfl rfl rfl
    have e1 := ed d1 rfl rfl rfl
    exact run_plain rfl (y_eql e0 e1)
  · intro ax tx hs okx sm d0
    have e2 := ed d0 rfl rfl rfl
    exact run_plain rfl (y_move e2)
  · intro ax tx hs okx sm d0
    have e3 := ed d0 rfl rfl rfl
    refine run_guard (T := (Ty.lst Ty.ints (if qMay nm n l cs leads many = 0 then qFnd n l cs leads many else []))) okx rfl rfl (by decide) e3 (fun hg => ?_)
    have hp := of_decide_eq_true hg
    exact y_move (kp (sm 9 rfl) hs q17)
  · intro ax tx hs okx sm d0
    have e3 := ed d0 rfl rfl rfl
    refine run_guard (T := (Ty.lst Ty.ints (if qMay nm n l cs leads many = 0 then qFnd n l cs leads many else []))) okx rfl rfl (by decide) e3 (fun hg => ?_)
    have hp := of_decide_eq_true hg
    exact y_move (kp (sm 11 rfl) hs q19)
  · intro ax tx hs okx sm d0 d1 d2 d3
    have e4 := ed d0 rfl rfl rfl
    have e5 := ed d1 rfl rfl rfl
    have e3 := ed d2 rfl rfl rfl
    refine run_guard (T := (Ty.bool (decide (((if qMay nm n l cs leads many = 0 then qFnd n l cs leads many else [])) = ((if qMay nm n l cs leads many = 0 then qFnd n l cs leads many else [])))))) okx rfl rfl (by decide) e3 (fun hg => ?_)
    have hp := of_decide_eq_true hg
    exact y_call #[ax.eval (.tmp 61), ax.eval (.tmp 62)] Try.func17 rfl rfl (by simp only [List.map_toArray, List.map_cons, List.map_nil]) (rSameAll_fn ((if qMay nm n l cs leads many = 0 then qFnd n l cs leads many else [])) ((if qMay nm n l cs leads many = 0 then qFnd n l cs leads many else [])) _ _ _ (e4.1 hg) (e5.1 hg) )
  · intro ax tx hs okx sm d0 d1
    have e3 := ed d0 rfl rfl rfl
    have e6 := ed d1 rfl rfl rfl
    exact run_plain rfl (y_pick_and e3 e6 rfl)
  · intro ax tx hs okx sm d0 d1 d2 d3 d4 d5 d6 d7 d8 d9
    have e7 := ed d0 rfl rfl rfl
    exact run_plain rfl (y_assign e7)
  intro a6 s6 D6
  have ok6 := D6.ok
  have F6 := F5.step0 D6.stp
  have q21 : At (Ty.bool ((decide ((qMay nm n l cs leads many) = (qMay nm n l cs leads many))) && (decide (((if qMay nm n l cs leads many = 0 then qFnd n l cs leads many else [])) = ((if qMay nm n l cs leads many = 0 then qFnd n l cs leads many else [])))))) s6 a6 (.tmp 8) := D6.done 8
  clear D6
  refine tn ?_
  refine wp_ret ?_
  exact retL1 rfl ok6 F6 (cvb (by (simp)) q21)


set_option maxHeartbeats 4000000 in
set_option maxRecDepth 100000 in
theorem searchMade_fn (raw : List Int) (n : Int) (changes : Int) (calls : Int) (leads : Int) (many : Int) (σ : GW)  (v0 v1 v2 v3 v4 v5 : Value) (hv0 : Ty.has (Ty.lst Ty.int raw) σ v0) (hv1 : Ty.has (Ty.int n) σ v1) (hv2 : Ty.has (Ty.int changes) σ v2) (hv3 : Ty.has (Ty.int calls) σ v3) (hv4 : Ty.has (Ty.int leads) σ v4) (hv5 : Ty.has (Ty.int many) σ v5)  (hraw : ∀ x ∈ raw, -9223372036854775808 ≤ x ∧ x ≤ 9223372036854775807) (hn : -9223372036854775808 ≤ n ∧ n ≤ 9223372036854775807) (hchanges : -9223372036854775808 ≤ changes ∧ changes ≤ 9223372036854775807) (hcalls : -9223372036854775808 ≤ calls ∧ calls ≤ 9223372036854775807) (hleads : -9223372036854775808 ≤ leads ∧ leads ≤ 9223372036854775807) (hmany : -9223372036854775808 ≤ many ∧ many ≤ 9223372036854775807) :
    FnC Try.prog 5 #[v0, v1, v2, v3, v4, v5] σ (Ty.bool true) := by
 have hr : ∀ k, -9223372036854775808 ≤ rawAt raw k ∧ rawAt raw k ≤ 9223372036854775807 := fun k => rawAt_bd hraw k
 have hp_n := pick_lt n (n := 5) (by omega)
 have hp_changes := pick_lt changes (n := 9) (by omega)
 have hp_calls := pick_lt calls (n := 3) (by omega)
 have hp_leads := pick_lt leads (n := 5) (by omega)
 have hp_many := pick_lt many (n := 50) (by omega)
 obtain ⟨M, hM⟩ : ∃ M, M = 2 + pick n 5 := ⟨_, rfl⟩
 have hbs : (ByteArray.mk #[84, 114, 105, 101, 100]).size ≤ 1099511627776 := by (show 5 ≤ 1099511627776; omega)
 refine fn_intro0 Try.func5 rfl Try.ntmps5 (Nat.le_of_ble_eq_true rfl) (fun s0 a0 hle F0 ok0 hargs => ?_)
 have p0 : At (Ty.lst Ty.int raw) s0 a0 (.tmp 0) := by have e := hargs 0 _ rfl; show Ty.has _ _ _; rw [e]; exact Ty.up _ hle hv0
 have b1 := sl_le p0
 have p1 : At (Ty.int n) s0 a0 (.tmp 1) := by have e := hargs 1 _ rfl; show Ty.has _ _ _; rw [e]; exact Ty.up _ hle hv1
 have p2 : At (Ty.int changes) s0 a0 (.tmp 2) := by have e := hargs 2 _ rfl; show Ty.has _ _ _; rw [e]; exact Ty.up _ hle hv2
 have p3 : At (Ty.int calls) s0 a0 (.tmp 3) := by have e := hargs 3 _ rfl; show Ty.has _ _ _; rw [e]; exact Ty.up _ hle hv3
 have p4 : At (Ty.int leads) s0 a0 (.tmp 4) := by have e := hargs 4 _ rfl; show Ty.has _ _ _; rw [e]; exact Ty.up _ hle hv4
 have p5 : At (Ty.int many) s0 a0 (.tmp 5) := by have e := hargs 5 _ rfl; show Ty.has _ _ _; rw [e]; exact Ty.up _ hle hv5
 clear hargs
 refine wp_seq ?_
 refine reg (a := a0) (σ := s0) rfl (fun i_ => List.getD [(Ty.pr (Ty.bool false))] i_ Pr.any) ok0 rfl ⟨?_, trivial⟩ ?_
 · intro ax tx hs okx sm
   exact run_plain rfl (y_assign rfl)
 intro a1 s1 D1
 have ok1 := D1.ok
 have F1 := F0.step0 D1.stp
 have q1 := D1.kt p0 rfl
 have q2 := D1.kt p1 rfl
 have q3 := D1.kt p2 rfl
 have q4 := D1.kt p3 rfl
 have q5 := D1.kt p4 rfl
 have q6 := D1.kt p5 rfl
 clear D1
 refine tn ?_
 refine wp_seq ?_
 refine wp_seq ?_
 refine reg (a := a1) (σ := s1) rfl (fun i_ => List.getD [(Ty.pr (Ty.lst Ty.int raw)), (Ty.pr (Ty.nat (List.length raw))), (Ty.pr (Ty.bool (decide ((256 : Int) < (((List.length raw) : Nat) : Int)))))] i_ Pr.any) ok1 rfl ⟨?_, ?_, ?_, trivial⟩ ?_
 · intro ax tx hs okx sm
   exact run_plain rfl (y_move (kp (sm 0 rfl) hs q1))
 · intro ax tx hs okx sm d0
   have e0 := ed d0 rfl rfl rfl
   exact run_plain rfl (y_len Try.underlying23 e0)
 · intro ax tx hs okx sm d0
   have e1 := ed d0 rfl rfl rfl
   exact run_plain rfl (y_gtr e1 rfl)
 intro a2 s2 D2
 have ok2 := D2.ok
 have F2 := F1.step0 D2.stp
 have q7 := D2.kt q1 rfl
 have q8 := D2.kt q2 rfl
 have q9 := D2.kt q3 rfl
 have q10 := D2.kt q4 rfl
 have q11 := D2.kt q5 rfl
 have q12 := D2.kt q6 rfl
 have q13 : At (Ty.bool (decide ((256 : Int) < (((List.length raw) : Nat) : Int)))) s2 a2 (.tmp 16) := D2.done 2
 clear D2
 refine tn ?_
 refine cond_p (p := ((256 : Int) < (((List.length raw) : Nat) : Int))) q13 (fun c1 => ?_) (fun c1 => ?_)
 ·
  refine wp_seq ?_
  refine reg (a := a2) (σ := s2) rfl (fun i_ => List.getD [(Ty.pr (Ty.bool true))] i_ Pr.any) ok2 rfl ⟨?_, trivial⟩ ?_
  · intro ax tx hs okx sm
    exact run_plain rfl (y_assign rfl)
  intro a3 s3 D3
  have ok3 := D3.ok
  have F3 := F2.step0 D3.stp
  have q14 : At (Ty.bool true) s3 a3 (.tmp 12) := D3.done 0
  clear D3
  refine tn ?_
  refine wp_ret ?_
  refine tr ?_
  exact retL1 rfl ok3 F3 q14
 ·
  refine wp_skip ?_
  refine tn ?_
  refine wp_seq ?_
  refine reg (a := a2) (σ := s2) rfl (fun i_ => List.getD [(Ty.pr (Ty.int n)), (Ty.pr (Ty.nat (pick (n) (5)))), (Ty.pr (Ty.nat (2 + (pick (n) (5))))), (Ty.pr (Ty.nat (2 + (pick (n) (5)))))] i_ Pr.any) ok2 rfl ⟨?_, ?_, ?_, ?_, trivial⟩ ?_
  · intro ax tx hs okx sm
    exact run_plain rfl (y_move (kp (sm 1 rfl) hs q8))
  · intro ax tx hs okx sm d0
    have e0 := ed d0 rfl rfl rfl
    exact run_plain rfl (y_call #[ax.eval (.tmp 17), ax.eval ((Operand.const (Value.int IntKind.i64 5)))] Try.func18 rfl rfl (by simp only [List.map_toArray, List.map_cons, List.map_nil]) (pick_fn (n) (5) _ _ _ (cvi (σ := tx) (by omega) e0) (cvi (σ := tx) (by omega) rfl) (by omega) (by omega)))
  · intro ax tx hs okx sm d0
    have e1 := ed d0 rfl rfl rfl
    exact run_plain rfl ((y_add rfl e1 (w64 (by omega) (by omega))).mono (fun τ _ h => cvi (σ := τ) (by first | omega | exact (Int.natCast_mul _ _).symm) h))
  · intro ax tx hs okx sm d0 d1 d2 d3 d4
    have e2 := ed d0 rfl rfl rfl
    exact run_plain rfl (y_assign e2)
  intro a4 s4 D4
  have ok4 := D4.ok
  have F4 := F2.step0 D4.stp
  have q15 := D4.kt q7 rfl
  have q16 := D4.kt q9 rfl
  have q17 := D4.kt q10 rfl
  have q18 := D4.kt q11 rfl
  have q19 := D4.kt q12 rfl
  have q20 : At (Ty.nat (2 + (pick (n) (5)))) s4 a4 (.tmp 1) := D4.done 3
  clear D4
  have q21 : At (Ty.nat M) s4 a4 (.tmp 1) := (cvi (by (rw [hM])) q20)
  refine tn ?_
  refine wp_seq ?_
  refine reg2 (a := a4) (σ := s4) rfl 7 (fun i_ => List.getD [(Ty.pr (Ty.lst Ty.int raw)), (Ty.pr (Ty.nat M)), (Ty.pr (Ty.int changes)), (Ty.pr (Ty.nat (pick (changes) (9)))), (Ty.pr (Ty.nat (1 + (pick (changes) (9))))), (Ty.pr (Ty.agg [(Ty.val (Value.string (ByteArray.mk #[84, 114, 105, 101, 100]))), (Ty.nat (M)), (Ty.lst Ty.ints (changesOf raw 3 (M) ((1 + (pick (changes) (9))))))])), (Pr.ownp 61 [(Ty.val (Value.string ByteArray.empty)), (Ty.int (0 : Int)), (Ty.val (Value.slice none 0 0))])] i_ Pr.any) ok4 rfl (by decide) rfl ⟨?_, ?_, ?_, ?_, ?_, ?_, ?_, trivial⟩ ?_
  · intro ax tx hs okx sm
    exact run_plain rfl (y_move (kp (sm 0 rfl) hs q15))
  · intro ax tx hs okx sm
    exact run_plain rfl (y_move (kp (sm 1 rfl) hs q21))
  · intro ax tx hs okx sm
    exact run_plain rfl (y_move (kp (sm 2 rfl) hs q16))
  · intro ax tx hs okx sm d0
    have e2 := ed d0 rfl rfl rfl
    exact run_plain rfl (y_call #[ax.eval (.tmp 22), ax.eval ((Operand.const (Value.int IntKind.i64 9)))] Try.func18 rfl rfl (by simp only [List.map_toArray, List.map_cons, List.map_nil]) (pick_fn (changes) (9) _ _ _ (cvi (σ := tx) (by omega) e2) (cvi (σ := tx) (by omega) rfl) (by omega) (by omega)))
  · intro ax tx hs okx sm d0
    have e3 := ed d0 rfl rfl rfl
    exact run_plain rfl ((y_add rfl e3 (w64 (by omega) (by omega))).mono (fun τ _ h => cvi (σ := τ) (by first | omega | exact (Int.natCast_mul _ _).symm) h))
  · intro ax tx hs okx sm d0 d1 d2 d3
    have e0 := ed d0 rfl rfl rfl
    have e1 := ed d1 rfl rfl rfl
    have e4 := ed d2 rfl rfl rfl
    exact run_plain rfl (y_call #[ax.eval (.tmp 20), ax.eval (.tmp 21), ax.eval (.tmp 24)] Try.func19 rfl rfl (by simp only [List.map_toArray, List.map_cons, List.map_nil]) (methodOf_fn (raw) (M) ((1 + (pick (changes) (9)))) _ _ _ _ e0 (cvi (σ := tx) (by first | omega | exact hr | assumption) e1) (cvi (σ := tx) (by first | omega | exact hr | assumption) e4) (by first | omega | exact hr | assumption) (by first | omega | exact hr | assumption) (by first | omega | exact hr | assumption)))
  · intro ax tx hs okx sm
    exact run_plain rfl (y_alloc Try.inf31 rfl (alloc_vals (vs := [.string ByteArray.empty, .int .i64 0, .slice none 0 0]) rfl))
  intro a5 s5 D5
  have ok5 := D5.ok
  have F5 := F4.step0 D5.stp
  have q22 := D5.kt q15 rfl
  have q23 := D5.kt q17 rfl
  have q24 := D5.kt q18 rfl
  have q25 := D5.kt q19 rfl
  have q26 := D5.kt q21 rfl
  have q27 : At (Ty.agg [(Ty.val (Value.string (ByteArray.mk #[84, 114, 105, 101, 100]))), (Ty.nat (M)), (Ty.lst Ty.ints (changesOf raw 3 (M) ((1 + (pick (changes) (9))))))]) s5 a5 (.tmp 25) := D5.done 5 (by decide)
  obtain ⟨x1, hx1⟩ : ∃ x, a5.eval (.tmp 13) = x := ⟨_, rfl⟩
  have q28 : At (Ty.val x1) s5 a5 (.tmp 13) := hx1
  have o1 : OwnP s5 61 x1 [(Ty.val (Value.string ByteArray.empty)), (Ty.int (0 : Int)), (Ty.val (Value.slice none 0 0))] := al2 (R := (Pr.ownp 61 [(Ty.val (Value.string ByteArray.empty)), (Ty.int (0 : Int)), (Ty.val (Value.slice none 0 0))])) hx1 (D5.done 6 (by decide))
  clear D5
  refine tailL0 (L := [61]) (R := (fun _ τ => OwnP τ 61 x1 [(Ty.val (Value.string (ByteArray.mk #[84, 114, 105, 101, 100]))), (Ty.nat (M)), (Ty.lst Ty.ints (changesOf raw 3 (M) ((1 + (pick (changes) (9))))))])) rfl rfl (YldM.toL (m_storeagg Try.inf31 (by decide) o1 q28 rfl q27 (by intro U hU; simp only [List.mem_cons, List.not_mem_nil, or_false] at hU; rcases hU with rfl | rfl | rfl <;> first | exact one_val rfl | exact one_sl | exact one_ref))) (fun v1 s6 hs1 r1 => ?_)
  have F6 := F5.stepL hs1 (by decide)
  have q29 := kpL hs1 (by decide) rfl q22
  have q30 := kpL hs1 (by decide) rfl q23
  have q31 := kpL hs1 (by decide) rfl q24
  have q32 := kpL hs1 (by decide) rfl q25
  have q33 := kpL hs1 (by decide) rfl q26
  have q34 := kpL hs1 (by decide) rfl q28
  have o2 : OwnP s6 61 x1 [(Ty.val (Value.string (ByteArray.mk #[84, 114, 105, 101, 100]))), (Ty.nat (M)), (Ty.lst Ty.ints (changesOf raw 3 (M) ((1 + (pick (changes) (9))))))] := r1
  clear r1
  refine wpList_nil ?_
  refine tn ?_
  refine wp_seq ?_
  refine reg (a := a5) (σ := s6) rfl (fun i_ => List.getD [(Ty.pr (Ty.agg [(Ty.val (Value.string (ByteArray.mk #[84, 114, 105, 101, 100]))), (Ty.nat (M)), (Ty.lst Ty.ints (changesOf raw 3 (M) ((1 + (pick (changes) (9))))))])), (Ty.pr (Ty.lst Ty.int raw)), (Ty.pr (Ty.nat M)), (Ty.pr (Ty.int calls)), (Ty.pr (Ty.nat (pick (calls) (3)))), (Ty.pr (Ty.nat (1 + (pick (calls) (3))))), (Ty.pr (Ty.lstc 2 callC (cOf raw (M) (((1 + (pick (calls) (3)))) - 1)))), (Ty.pr (Ty.int leads)), (Ty.pr (Ty.nat (pick (leads) (5)))), (Ty.pr (Ty.nat (1 + (pick (leads) (5))))), (Ty.pr (Ty.int many)), (Ty.pr (Ty.nat (pick (many) (50)))), (Ty.pr (Ty.nat (1 + (pick (many) (50))))), (Ty.pr (Ty.bool true)), (Ty.pr (Ty.bool true))] i_ Pr.any) ok5 rfl ⟨?_, ?_, ?_, ?_, ?_, ?_, ?_, ?_, ?_, ?_, ?_, ?_, ?_, ?_, ?_, trivial⟩ ?_
  · intro ax tx hs okx sm
    exact run_plain rfl (ownp_loadagg Try.underlying31 Try.inf31 (OwnP.k0 o2 hs) (kp (sm 13 rfl) hs q34))
  · intro ax tx hs okx sm
    exact run_plain rfl (y_move (kp (sm 0 rfl) hs q29))
  · intro ax tx hs okx sm
    exact run_plain rfl (y_move (kp (sm 1 rfl) hs q33))
  · intro ax tx hs okx sm
    exact run_plain rfl (y_move (kp (sm 3 rfl) hs q30))
  · intro ax tx hs okx sm d0
    have e3 := ed d0 rfl rfl rfl
    exact run_plain rfl (y_call #[ax.eval (.tmp 29), ax.eval ((Operand.const (Value.int IntKind.i64 3)))] Try.func18 rfl rfl (by simp only [List.map_toArray, List.map_cons, List.map_nil]) (pick_fn (calls) (3) _ _ _ (cvi (σ := tx) (by omega) e3) (cvi (σ := tx) (by omega) rfl) (by omega) (by omega)))
  · intro ax tx hs okx sm d0
    have e4 := ed d0 rfl rfl rfl
    exact run_plain rfl ((y_add rfl e4 (w64 (by omega) (by omega))).mono (fun τ _ h => cvi (σ := τ) (by first | omega | exact (Int.natCast_mul _ _).symm) h))
  · intro ax tx hs okx sm d0 d1 d2 d3
    have e1 := ed d0 rfl rfl rfl
    have e2 := ed d1 rfl rfl rfl
    have e5 := ed d2 rfl rfl rfl
    exact run_plain rfl (y_call #[ax.eval (.tmp 27), ax.eval (.tmp 28), ax.eval (.tmp 31)] Try.func20 rfl rfl (by simp only [List.map_toArray, List.map_cons, List.map_nil]) (callsOf_fn (raw) (M) ((1 + (pick (calls) (3)))) _ _ _ _ e1 (cvi (σ := tx) (by first | omega | exact hr | assumption) e2) (cvi (σ := tx) (by first | omega | exact hr | assumption) e5) (by first | omega | exact hr | assumption) (by first | omega | exact hr | assumption) (by first | omega | exact hr | assumption)))
  · intro ax tx hs okx sm
    exact run_plain rfl (y_move (kp (sm 4 rfl) hs q31))
  · intro ax tx hs okx sm d0 d1
    have e7 := ed d0 rfl rfl rfl
    exact run_plain rfl (y_call #[ax.eval (.tmp 33), ax.eval ((Operand.const (Value.int IntKind.i64 5)))] Try.func18 rfl rfl (by simp only [List.map_toArray, List.map_cons, List.map_nil]) (pick_fn (leads) (5) _ _ _ (cvi (σ := tx) (by omega) e7) (cvi (σ := tx) (by omega) rfl) (by omega) (by omega)))
  · intro ax tx hs okx sm d0
    have e8 := ed d0 rfl rfl rfl
    exact run_plain rfl ((y_add rfl e8 (w64 (by omega) (by omega))).mono (fun τ _ h => cvi (σ := τ) (by first | omega | exact (Int.natCast_mul _ _).symm) h))
  · intro ax tx hs okx sm
    exact run_plain rfl (y_move (kp (sm 5 rfl) hs q32))
  · intro ax tx hs okx sm d0 d1
    have e10 := ed d0 rfl rfl rfl
    exact run_plain rfl (y_call #[ax.eval (.tmp 36), ax.eval ((Operand.const (Value.int IntKind.i64 50)))] Try.func18 rfl rfl (by simp only [List.map_toArray, List.map_cons, List.map_nil]) (pick_fn (many) (50) _ _ _ (cvi (σ := tx) (by omega) e10) (cvi (σ := tx) (by omega) rfl) (by omega) (by omega)))
  · intro ax tx hs okx sm d0
    have e11 := ed d0 rfl rfl rfl
    exact run_plain rfl ((y_add rfl e11 (w64 (by omega) (by omega))).mono (fun τ _ h => cvi (σ := τ) (by first | omega | exact (Int.natCast_mul _ _).symm) h))
  · intro ax tx hs okx sm d0 d1 d2 d3 d4
    have e0 := ed d0 rfl rfl rfl
    have e6 := ed d1 rfl rfl rfl
    have e9 := ed d2 rfl rfl rfl
    have e12 := ed d3 rfl rfl rfl
    exact run_plain rfl (y_call #[ax.eval (.tmp 26), ax.eval (.tmp 32), ax.eval (.tmp 35), ax.eval (.tmp 38)] Try.func4 rfl rfl (by simp only [List.map_toArray, List.map_cons, List.map_nil]) (searchSays_fn ((ByteArray.mk #[84, 114, 105, 101, 100])) ((((M) : Nat) : Int)) ((changesOf raw 3 (M) ((1 + (pick (changes) (9)))))) ((cOf raw (M) (((1 + (pick (calls) (3)))) - 1))) ((((1 + (pick (leads) (5))) : Nat) : Int)) ((((1 + (pick (many) (50))) : Nat) : Int)) _ _ _ _ _ e0 e6 (cvi (σ := tx) (by first | omega | assumption) e9) (cvi (σ := tx) (by first | omega | assumption) e12) (by first | omega | assumption) (by first | omega | assumption)))
  · intro ax tx hs okx sm d0 d1 d2 d3 d4 d5 d6 d7 d8 d9 d10 d11 d12 d13 d14 d15
    have e13 := ed d0 rfl rfl rfl
    exact run_plain rfl (y_assign e13)
  intro a6 s7 D6
  have ok6 := D6.ok
  have F7 := F6.step0 D6.stp
  have o3 := OwnP.k0 o2 D6.stp
  have q36 : At (Ty.bool true) s7 a6 (.tmp 12) := D6.done 14
  clear D6
  refine tn ?_
  refine wp_ret ?_
  exact retL1 rfl ok6 F7 q36


end Go.Proofs.Ytbilebfnanlgfaa
