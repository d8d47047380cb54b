/- The functions that the law MusicSays reaches, each by its contract. Part 1. -/
import Derived.Test.YtlhnpkaohfoicaaKlPerm
import Derived.Test.YtlhnpkaohfoicaaKlFresh
import Derived.Test.YtlhnpkaohfoicaaKlShare
import Derived.Test.YtlhnpkaohfoicaaProg
namespace Go.Proofs.Ytlhnpkaohfoicaa
open Go.KL

set_option maxHeartbeats 4000000 in
set_option maxRecDepth 100000 in
theorem slIndexByte_fn (s : ByteArray) (c : Int) (σ : GW)  (v0 v1 : Value) (hv0 : Ty.has (Ty.val (Value.string s)) σ v0) (hv1 : Ty.has (Ty.val (Value.int .u8 c)) σ v1)   :
    FnC Try.prog 155 #[v0, v1] σ (Ty.int (Lib.indexByte (ByteArray.data s).toList (c).toNat.toUInt8)) := by
 refine fn_intro0 Try.func155 rfl Try.ntmps155 (Nat.le_of_ble_eq_true rfl) (fun s0 a0 hle F0 ok0 hargs => ?_)
 have p0 : At (Ty.val (Value.string s)) s0 a0 (.tmp 0) := by have e := hargs 0 _ rfl; show Ty.has _ _ _; rw [e]; exact Ty.up _ hle hv0
 have p1 : At (Ty.val (Value.int .u8 c)) s0 a0 (.tmp 1) := by have e := hargs 1 _ rfl; show Ty.has _ _ _; rw [e]; exact Ty.up _ hle hv1
 clear hargs
 refine wp_seq ?_
 refine reg (a := a0) (σ := s0) rfl (fun i_ => List.getD [(Ty.pr (Ty.int (0 : Int)))] i_ Pr.any) ok0 rfl ⟨?_, trivial⟩ ?_
 · intro ax tx hs okx sm
   exact run_plain rfl (y_assign rfl)
 intro a1 s1 D1
 have ok1 := D1.ok
 have F1 := F0.step0 D1.stp
 have q1 : At (Ty.val (Value.string s)) s1 a1 (.tmp 0) := D1.kt p0 rfl
 have q2 : At (Ty.val (Value.int .u8 c)) s1 a1 (.tmp 1) := D1.kt p1 rfl
 clear D1
 refine tn ?_
 refine wp_seq ?_
 refine reg (a := a1) (σ := s1) rfl (fun i_ => List.getD [(Ty.pr (Ty.val (Value.string s))), (Ty.pr (Ty.val (Value.int .u8 c))), (Ty.pr (Ty.int (Lib.indexByte (ByteArray.data s).toList (c).toNat.toUInt8))), (Ty.pr (Ty.int (Lib.indexByte (ByteArray.data s).toList (c).toNat.toUInt8)))] i_ Pr.any) ok1 rfl ⟨?_, ?_, ?_, ?_, trivial⟩ ?_
 · intro ax tx hs okx sm
   exact run_plain rfl (y_move (kp (sm 0 rfl) hs q1))
 · intro ax tx hs okx sm
   exact run_plain rfl (y_move (kp (sm 1 rfl) hs q2))
 · intro ax tx hs okx sm d0 d1
   have e0 : At (Ty.val (Value.string s)) tx ax (.tmp 5) := d0 rfl
   have e1 : At (Ty.val (Value.int .u8 c)) tx ax (.tmp 6) := d1 rfl
   exact run_plain rfl (y_extern (R := (Ty.int (Lib.indexByte (ByteArray.data s).toList (c).toNat.toUInt8))) #[(Value.string s), (Value.int .u8 c)] (by simp only [List.map_toArray, List.map_cons, List.map_nil, (show ax.eval (.tmp 5) = _ from e0), (show ax.eval (.tmp 6) = _ from e1)]) (by rw [run_callFunc_extern Try.func170 (by kernel_rfl) (by kernel_rfl) (by kernel_rfl) (e := Extern.BytealgIndexByte.indexByte) (by kernel_rfl), Lib.run_indexByteString]; rfl) rfl)
 · intro ax tx hs okx sm d0 d1 d2 d3 d4
   have e2 : At (Ty.int (Lib.indexByte (ByteArray.data s).toList (c).toNat.toUInt8)) tx ax (.tmp 7) := d0 rfl
   have e0 : At (Ty.val (Value.string s)) tx ax (.tmp 5) := d2 rfl
   have e1 : At (Ty.val (Value.int .u8 c)) tx ax (.tmp 6) := d3 rfl
   exact run_plain rfl (y_assign e2)
 intro a2 s2 D2
 have ok2 := D2.ok
 have F2 := F1.step0 D2.stp
 have q3 : At (Ty.int (Lib.indexByte (ByteArray.data s).toList (c).toNat.toUInt8)) s2 a2 (.tmp 4) := D2.done 3
 clear D2
 refine tn ?_
 refine wp_ret ?_
 exact retL1 rfl ok2 F2 q3


set_option maxHeartbeats 4000000 in
set_option maxRecDepth 100000 in
theorem sIndexByte_fn (s : ByteArray) (c : Int) (σ : GW)  (v0 v1 : Value) (hv0 : Ty.has (Ty.val (Value.string s)) σ v0) (hv1 : Ty.has (Ty.val (Value.int .u8 c)) σ v1)   :
    FnC Try.prog 131 #[v0, v1] σ (Ty.int (Lib.indexByte (ByteArray.data s).toList (c).toNat.toUInt8)) := by
 refine fn_intro0 Try.func131 rfl Try.ntmps131 (Nat.le_of_ble_eq_true rfl) (fun s0 a0 hle F0 ok0 hargs => ?_)
 have p0 : At (Ty.val (Value.string s)) s0 a0 (.tmp 0) := by have e := hargs 0 _ rfl; show Ty.has _ _ _; rw [e]; exact Ty.up _ hle hv0
 have p1 : At (Ty.val (Value.int .u8 c)) s0 a0 (.tmp 1) := by have e := hargs 1 _ rfl; show Ty.has _ _ _; rw [e]; exact Ty.up _ hle hv1
 clear hargs
 refine wp_seq ?_
 refine reg (a := a0) (σ := s0) rfl (fun i_ => List.getD [(Ty.pr (Ty.int (0 : Int)))] i_ Pr.any) ok0 rfl ⟨?_, trivial⟩ ?_
 · intro ax tx hs okx sm
   exact run_plain rfl (y_assign rfl)
 intro a1 s1 D1
 have ok1 := D1.ok
 have F1 := F0.step0 D1.stp
 have q1 : At (Ty.val (Value.string s)) s1 a1 (.tmp 0) := D1.kt p0 rfl
 have q2 : At (Ty.val (Value.int .u8 c)) s1 a1 (.tmp 1) := D1.kt p1 rfl
 clear D1
 refine tn ?_
 refine wp_seq ?_
 refine reg (a := a1) (σ := s1) rfl (fun i_ => List.getD [(Ty.pr (Ty.val (Value.string s))), (Ty.pr (Ty.val (Value.int .u8 c))), (Ty.pr (Ty.int (Lib.indexByte (ByteArray.data s).toList (c).toNat.toUInt8))), (Ty.pr (Ty.int (Lib.indexByte (ByteArray.data s).toList (c).toNat.toUInt8)))] i_ Pr.any) ok1 rfl ⟨?_, ?_, ?_, ?_, trivial⟩ ?_
 · intro ax tx hs okx sm
   exact run_plain rfl (y_move (kp (sm 0 rfl) hs q1))
 · intro ax tx hs okx sm
   exact run_plain rfl (y_move (kp (sm 1 rfl) hs q2))
 · intro ax tx hs okx sm d0 d1
   have e0 : At (Ty.val (Value.string s)) tx ax (.tmp 5) := d0 rfl
   have e1 : At (Ty.val (Value.int .u8 c)) tx ax (.tmp 6) := d1 rfl
   exact run_plain rfl (y_call #[ax.eval (.tmp 5), ax.eval (.tmp 6)] Try.func155 rfl rfl (by simp only [List.map_toArray, List.map_cons, List.map_nil]) (slIndexByte_fn (s) (c) _ _ _ e0 e1 ))
 · intro ax tx hs okx sm d0 d1 d2 d3 d4
   have e2 : At (Ty.int (Lib.indexByte (ByteArray.data s).toList (c).toNat.toUInt8)) tx ax (.tmp 7) := d0 rfl
   have e0 : At (Ty.val (Value.string s)) tx ax (.tmp 5) := d2 rfl
   have e1 : At (Ty.val (Value.int .u8 c)) tx ax (.tmp 6) := d3 rfl
   exact run_plain rfl (y_assign e2)
 intro a2 s2 D2
 have ok2 := D2.ok
 have F2 := F1.step0 D2.stp
 have q3 : At (Ty.int (Lib.indexByte (ByteArray.data s).toList (c).toNat.toUInt8)) s2 a2 (.tmp 4) := D2.done 3
 clear D2
 refine tn ?_
 refine wp_ret ?_
 exact retL1 rfl ok2 F2 q3


set_option maxHeartbeats 4000000 in
set_option maxRecDepth 100000 in
theorem validRune_fn (r : Int) (σ : GW)  (v0 : Value) (hv0 : Ty.has (Ty.val (Value.int .i32 r)) σ v0)   :
    FnC Try.prog 132 #[v0] σ (Ty.bool (Utf8.valid r)) := by
 refine fn_intro0 Try.func132 rfl Try.ntmps132 (Nat.le_of_ble_eq_true rfl) (fun s0 a0 hle F0 ok0 hargs => ?_)
 have p0 : At (Ty.val (Value.int .i32 r)) s0 a0 (.tmp 0) := by have e := hargs 0 _ rfl; show Ty.has _ _ _; rw [e]; exact Ty.up _ hle hv0
 clear hargs
 refine wp_seq ?_
 refine reg (a := a0) (σ := s0) rfl (fun i_ => List.getD [(Ty.pr (Ty.bool false))] i_ Pr.any) ok0 rfl ⟨?_, trivial⟩ ?_
 · intro ax tx hs okx sm
   exact run_plain rfl (y_assign rfl)
 intro a1 s1 D1
 have ok1 := D1.ok
 have F1 := F0.step0 D1.stp
 have q1 : At (Ty.val (Value.int .i32 r)) s1 a1 (.tmp 0) := D1.kt p0 rfl
 clear D1
 refine tn ?_
 refine wp_seq ?_
 refine wp_block ?_
 refine wp_seq ?_
 refine reg (a := a1) (σ := s1) rfl (fun i_ => List.getD [(Ty.pr (Ty.val (Value.int .i32 r))), (Ty.pr (Ty.bool (decide ((0 : Int) ≤ r)))), (Ty.pr (Ty.bool (decide ((0 : Int) ≤ r)))), (Ty.pr (Ty.grd ((decide ((0 : Int) ≤ r)) = true) (Ty.val (Value.int .i32 r)))), (Ty.pr (Ty.grd ((decide ((0 : Int) ≤ r)) = true) (Ty.bool (decide (r < (55296 : Int)))))), (Ty.pr (Ty.bool ((decide ((0 : Int) ≤ r)) && (decide (r < (55296 : Int)))))), (Ty.pr (Ty.bool ((decide ((0 : Int) ≤ r)) && (decide (r < (55296 : Int))))))] i_ Pr.any) ok1 rfl ⟨?_, ?_, ?_, ?_, ?_, ?_, ?_, trivial⟩ ?_
 · intro ax tx hs okx sm
   exact run_plain rfl (y_move (kp (sm 0 rfl) hs q1))
 · intro ax tx hs okx sm d0
   have e0 : At (Ty.val (Value.int .i32 r)) tx ax (.tmp 4) := d0 rfl
   exact run_plain rfl (y_leq rfl e0)
 · intro ax tx hs okx sm d0
   have e1 : At (Ty.bool (decide ((0 : Int) ≤ r))) tx ax (.tmp 5) := d0 rfl
   exact run_plain rfl (y_move e1)
 · intro ax tx hs okx sm d0
   have e2 : At (Ty.bool (decide ((0 : Int) ≤ r))) tx ax (.tmp 6) := d0 rfl
   refine run_guard (T := (Ty.val (Value.int .i32 r))) okx rfl rfl (by decide) e2 (fun hg => ?_)
   have hp := of_decide_eq_true hg
   exact y_move (kp (sm 0 rfl) hs q1)
 · intro ax tx hs okx sm d0 d1
   have e3 : At (Ty.grd ((decide ((0 : Int) ≤ r)) = true) (Ty.val (Value.int .i32 r))) tx ax (.tmp 7) := d0 rfl
   have e2 : At (Ty.bool (decide ((0 : Int) ≤ r))) tx ax (.tmp 6) := d1 rfl
   refine run_guard (T := (Ty.bool (decide (r < (55296 : Int))))) okx rfl rfl (by decide) e2 (fun hg => ?_)
   have hp := of_decide_eq_true hg
   exact y_lss (e3.1 hg) rfl
 · intro ax tx hs okx sm d0 d1
   have e2 : At (Ty.bool (decide ((0 : Int) ≤ r))) tx ax (.tmp 6) := d0 rfl
   have e4 : At (Ty.grd ((decide ((0 : Int) ≤ r)) = true) (Ty.bool (decide (r < (55296 : Int))))) tx ax (.tmp 8) := d1 rfl
   exact run_plain rfl (y_pick_and e2 e4 rfl)
 · intro ax tx hs okx sm d0 d1
   have e5 : At (Ty.bool ((decide ((0 : Int) ≤ r)) && (decide (r < (55296 : Int))))) tx ax (.tmp 9) := d0 rfl
   have e2 : At (Ty.bool (decide ((0 : Int) ≤ r))) tx ax (.tmp 6) := d1 rfl
   exact run_plain rfl (y_assign e5)
 intro a2 s2 D2
 have ok2 := D2.ok
 have F2 := F1.step0 D2.stp
 have q2 : At (Ty.val (Value.int .i32 r)) s2 a2 (.tmp 0) := D2.kt q1 rfl
 have q3 : At (Ty.bool ((decide ((0 : Int) ≤ r)) && (decide (r < (55296 : Int))))) s2 a2 (.tmp 3) := D2.done 6
 clear D2
 refine tn ?_
 refine cond_t q3 (fun c1 => ?_) (fun c1 => ?_)
 ·
  obtain ⟨d1, d2⟩ := Bool.and_eq_true_iff.mp c1
  replace d1 := of_decide_eq_true d1
  replace d2 := of_decide_eq_true d2
  refine wp_seq ?_
  refine reg (a := a2) (σ := s2) rfl (fun i_ => List.getD [(Ty.pr (Ty.bool true))] i_ Pr.any) ok2 rfl ⟨?_, trivial⟩ ?_
  · intro ax tx hs okx sm
    exact run_plain rfl (y_assign rfl)
  intro a3 s3 D3
  have ok3 := D3.ok
  have F3 := F2.step0 D3.stp
  have q4 : At (Ty.bool true) s3 a3 (.tmp 2) := D3.done 0
  clear D3
  refine tn ?_
  refine wp_ret ?_
  refine br ?_
  refine tr ?_
  exact retL1 rfl ok3 F3 (cvb (by (simp only [Bool.and_eq_true, decide_eq_true_eq] at c1; unfold Utf8.valid; rw [decide_eq_true (show 0 ≤ r by omega), decide_eq_true (show r < 0xD800 by omega)]; rfl)) q4)
 ·
  refine wp_seq ?_
  refine reg (a := a2) (σ := s2) rfl (fun i_ => List.getD [(Ty.pr (Ty.val (Value.int .i32 r))), (Ty.pr (Ty.bool (decide ((57343 : Int) < r)))), (Ty.pr (Ty.bool (decide ((57343 : Int) < r)))), (Ty.pr (Ty.grd ((decide ((57343 : Int) < r)) = true) (Ty.val (Value.int .i32 r)))), (Ty.pr (Ty.grd ((decide ((57343 : Int) < r)) = true) (Ty.bool (decide (r ≤ (1114111 : Int)))))), (Ty.pr (Ty.bool ((decide ((57343 : Int) < r)) && (decide (r ≤ (1114111 : Int)))))), (Ty.pr (Ty.bool ((decide ((57343 : Int) < r)) && (decide (r ≤ (1114111 : Int))))))] i_ Pr.any) ok2 rfl ⟨?_, ?_, ?_, ?_, ?_, ?_, ?_, trivial⟩ ?_
  · intro ax tx hs okx sm
    exact run_plain rfl (y_move (kp (sm 0 rfl) hs q2))
  · intro ax tx hs okx sm d0
    have e0 : At (Ty.val (Value.int .i32 r)) tx ax (.tmp 11) := d0 rfl
    exact run_plain rfl (y_lss rfl e0)
  · intro ax tx hs okx sm d0
    have e1 : At (Ty.bool (decide ((57343 : Int) < r))) tx ax (.tmp 12) := d0 rfl
    exact run_plain rfl (y_move e1)
  · intro ax tx hs okx sm d0
    have e2 : At (Ty.bool (decide ((57343 : Int) < r))) tx ax (.tmp 13) := d0 rfl
    refine run_guard (T := (Ty.val (Value.int .i32 r))) okx rfl rfl (by decide) e2 (fun hg => ?_)
    have hp := of_decide_eq_true hg
    exact y_move (kp (sm 0 rfl) hs q2)
  · intro ax tx hs okx sm d0 d1
    have e3 : At (Ty.grd ((decide ((57343 : Int) < r)) = true) (Ty.val (Value.int .i32 r))) tx ax (.tmp 14) := d0 rfl
    have e2 : At (Ty.bool (decide ((57343 : Int) < r))) tx ax (.tmp 13) := d1 rfl
    refine run_guard (T := (Ty.bool (decide (r ≤ (1114111 : Int))))) okx rfl rfl (by decide) e2 (fun hg => ?_)
    have hp := of_decide_eq_true hg
    exact y_leq (e3.1 hg) rfl
  · intro ax tx hs okx sm d0 d1
    have e2 : At (Ty.bool (decide ((57343 : Int) < r))) tx ax (.tmp 13) := d0 rfl
    have e4 : At (Ty.grd ((decide ((57343 : Int) < r)) = true) (Ty.bool (decide (r ≤ (1114111 : Int))))) tx ax (.tmp 15) := d1 rfl
    exact run_plain rfl (y_pick_and e2 e4 rfl)
  · intro ax tx hs okx sm d0 d1
    have e5 : At (Ty.bool ((decide ((57343 : Int) < r)) && (decide (r ≤ (1114111 : Int))))) tx ax (.tmp 16) := d0 rfl
    have e2 : At (Ty.bool (decide ((57343 : Int) < r))) tx ax (.tmp 13) := d1 rfl
    exact run_plain rfl (y_assign e5)
  intro a4 s4 D4
  have ok4 := D4.ok
  have F4 := F2.step0 D4.stp
  have q5 : At (Ty.bool ((decide ((57343 : Int) < r)) && (decide (r ≤ (1114111 : Int))))) s4 a4 (.tmp 10) := D4.done 6
  clear D4
  refine tn ?_
  refine cond_t q5 (fun c2 => ?_) (fun c2 => ?_)
  ·
   obtain ⟨d3, d4⟩ := Bool.and_eq_true_iff.mp c2
   replace d3 := of_decide_eq_true d3
   replace d4 := of_decide_eq_true d4
   refine wp_seq ?_
   refine reg (a := a4) (σ := s4) rfl (fun i_ => List.getD [(Ty.pr (Ty.bool true))] i_ Pr.any) ok4 rfl ⟨?_, trivial⟩ ?_
   · intro ax tx hs okx sm
     exact run_plain rfl (y_assign rfl)
   intro a5 s5 D5
   have ok5 := D5.ok
   have F5 := F4.step0 D5.stp
   have q6 : At (Ty.bool true) s5 a5 (.tmp 2) := D5.done 0
   clear D5
   refine tn ?_
   refine wp_ret ?_
   refine br ?_
   refine tr ?_
   exact retL1 rfl ok5 F5 (cvb (by (simp only [Bool.and_eq_true, decide_eq_true_eq] at c2; unfold Utf8.valid; rw [decide_eq_true (show 0xE000 ≤ r by omega), decide_eq_true (show r ≤ 0x10FFFF by omega)]; simp)) q6)
  ·
   refine wp_skip ?_
   refine bn ?_
   refine tn ?_
   refine wp_seq ?_
   refine reg (a := a4) (σ := s4) rfl (fun i_ => List.getD [(Ty.pr (Ty.bool false))] i_ Pr.any) ok4 rfl ⟨?_, trivial⟩ ?_
   · intro ax tx hs okx sm
     exact run_plain rfl (y_assign rfl)
   intro a6 s6 D6
   have ok6 := D6.ok
   have F6 := F4.step0 D6.stp
   have q7 : At (Ty.bool false) s6 a6 (.tmp 2) := D6.done 0
   clear D6
   refine tn ?_
   refine wp_ret ?_
   exact retL1 rfl ok6 F6 (cvb (by (simp only [Bool.and_eq_false_iff, decide_eq_false_iff_not] at c1 c2; unfold Utf8.valid; refine Eq.symm (Bool.or_eq_false_iff.2 ⟨?_, ?_⟩) <;> simp only [Bool.and_eq_false_iff, decide_eq_false_iff_not] <;> omega)) q7)


set_option maxHeartbeats 4000000 in
set_option maxRecDepth 100000 in
theorem idxRune_fn (r : Int) (σ : GW)  (v0 v1 : Value) (hv0 : Ty.has (Ty.val (Value.string SIGNS)) σ v0) (hv1 : Ty.has (Ty.val (Value.int .i32 r)) σ v1)  (hr : -2147483648 ≤ r ∧ r ≤ 2147483647) :
    FnC Try.prog 119 #[v0, v1] σ (Ty.int (signIdx r)) := by
 have hsz := signs_size
 refine fn_intro0 Try.func119 rfl Try.ntmps119 (Nat.le_of_ble_eq_true rfl) (fun s0 a0 hle F0 ok0 hargs => ?_)
 have p0 : At (Ty.val (Value.string SIGNS)) s0 a0 (.tmp 0) := by have e := hargs 0 _ rfl; show Ty.has _ _ _; rw [e]; exact Ty.up _ hle hv0
 have p1 : At (Ty.val (Value.int .i32 r)) s0 a0 (.tmp 1) := by have e := hargs 1 _ rfl; show Ty.has _ _ _; rw [e]; exact Ty.up _ hle hv1
 clear hargs
 refine wp_seq ?_
 refine reg (a := a0) (σ := s0) rfl (fun i_ => List.getD [(Ty.pr (Ty.int (0 : Int)))] i_ Pr.any) ok0 rfl ⟨?_, trivial⟩ ?_
 · intro ax tx hs okx sm
   exact run_plain rfl (y_assign rfl)
 intro a1 s1 D1
 have ok1 := D1.ok
 have F1 := F0.step0 D1.stp
 have q1 : At (Ty.val (Value.string SIGNS)) s1 a1 (.tmp 0) := D1.kt p0 rfl
 have q2 : At (Ty.val (Value.int .i32 r)) s1 a1 (.tmp 1) := D1.kt p1 rfl
 clear D1
 refine tn ?_
 refine wp_block ?_
 refine wp_seq ?_
 refine reg (a := a1) (σ := s1) rfl (fun i_ => List.getD [(Ty.pr (Ty.val (Value.int .i32 r))), (Ty.pr (Ty.bool (decide ((0 : Int) ≤ r)))), (Ty.pr (Ty.bool (decide ((0 : Int) ≤ r)))), (Ty.pr (Ty.grd ((decide ((0 : Int) ≤ r)) = true) (Ty.val (Value.int .i32 r)))), (Ty.pr (Ty.grd ((decide ((0 : Int) ≤ r)) = true) (Ty.bool (decide (r < (128 : Int)))))), (Ty.pr (Ty.bool ((decide ((0 : Int) ≤ r)) && (decide (r < (128 : Int)))))), (Ty.pr (Ty.bool ((decide ((0 : Int) ≤ r)) && (decide (r < (128 : Int))))))] i_ Pr.any) ok1 rfl ⟨?_, ?_, ?_, ?_, ?_, ?_, ?_, trivial⟩ ?_
 · intro ax tx hs okx sm
   exact run_plain rfl (y_move (kp (sm 1 rfl) hs q2))
 · intro ax tx hs okx sm d0
   have e0 : At (Ty.val (Value.int .i32 r)) tx ax (.tmp 161) := d0 rfl
   exact run_plain rfl (y_leq rfl e0)
 · intro ax tx hs okx sm d0
   have e1 : At (Ty.bool (decide ((0 : Int) ≤ r))) tx ax (.tmp 162) := d0 rfl
   exact run_plain rfl (y_move e1)
 · intro ax tx hs okx sm d0
   have e2 : At (Ty.bool (decide ((0 : Int) ≤ r))) tx ax (.tmp 163) := d0 rfl
   refine run_guard (T := (Ty.val (Value.int .i32 r))) okx rfl rfl (by decide) e2 (fun hg => ?_)
   have hp := of_decide_eq_true hg
   exact y_move (kp (sm 1 rfl) hs q2)
 · intro ax tx hs okx sm d0 d1
   have e3 : At (Ty.grd ((decide ((0 : Int) ≤ r)) = true) (Ty.val (Value.int .i32 r))) tx ax (.tmp 164) := d0 rfl
   have e2 : At (Ty.bool (decide ((0 : Int) ≤ r))) tx ax (.tmp 163) := d1 rfl
   refine run_guard (T := (Ty.bool (decide (r < (128 : Int))))) okx rfl rfl (by decide) e2 (fun hg => ?_)
   have hp := of_decide_eq_true hg
   exact y_lss (e3.1 hg) rfl
 · intro ax tx hs okx sm d0 d1
   have e2 : At (Ty.bool (decide ((0 : Int) ≤ r))) tx ax (.tmp 163) := d0 rfl
   have e4 : At (Ty.grd ((decide ((0 : Int) ≤ r)) = true) (Ty.bool (decide (r < (128 : Int))))) tx ax (.tmp 165) := d1 rfl
   exact run_plain rfl (y_pick_and e2 e4 rfl)
 · intro ax tx hs okx sm d0 d1
   have e5 : At (Ty.bool ((decide ((0 : Int) ≤ r)) && (decide (r < (128 : Int))))) tx ax (.tmp 166) := d0 rfl
   have e2 : At (Ty.bool (decide ((0 : Int) ≤ r))) tx ax (.tmp 163) := d1 rfl
   exact run_plain rfl (y_assign e5)
 intro a2 s2 D2
 have ok2 := D2.ok
 have F2 := F1.step0 D2.stp
 have q3 : At (Ty.val (Value.string SIGNS)) s2 a2 (.tmp 0) := D2.kt q1 rfl
 have q4 : At (Ty.val (Value.int .i32 r)) s2 a2 (.tmp 1) := D2.kt q2 rfl
 have q5 : At (Ty.bool ((decide ((0 : Int) ≤ r)) && (decide (r < (128 : Int))))) s2 a2 (.tmp 160) := D2.done 6
 clear D2
 refine tn ?_
 refine cond_t q5 (fun c1 => ?_) (fun c1 => ?_)
 ·
  obtain ⟨d1, d2⟩ := Bool.and_eq_true_iff.mp c1
  replace d1 := of_decide_eq_true d1
  replace d2 := of_decide_eq_true d2
  simp only [Bool.and_eq_true, decide_eq_true_eq] at c1
  refine wp_seq ?_
  refine reg (a := a2) (σ := s2) rfl (fun i_ => List.getD [(Ty.pr (Ty.val (Value.string SIGNS))), (Ty.pr (Ty.val (Value.int .i32 r))), (Ty.pr (Ty.val (Value.int .u8 r))), (Ty.pr (Ty.int (Lib.indexByte (ByteArray.data (SIGNS)).toList ((r)).toNat.toUInt8))), (Ty.pr (Ty.int (Lib.indexByte (ByteArray.data (SIGNS)).toList ((r)).toNat.toUInt8)))] i_ Pr.any) ok2 rfl ⟨?_, ?_, ?_, ?_, ?_, trivial⟩ ?_
  · intro ax tx hs okx sm
    exact run_plain rfl (y_move (kp (sm 0 rfl) hs q3))
  · intro ax tx hs okx sm
    exact run_plain rfl (y_move (kp (sm 1 rfl) hs q4))
  · intro ax tx hs okx sm d0
    have e1 : At (Ty.val (Value.int .i32 r)) tx ax (.tmp 168) := d0 rfl
    exact run_plain rfl (y_conv Try.underlying5 e1 (by exact wrap_u8 (by omega) (by omega)) (by rw [Try.underlying21]; rfl))
  · intro ax tx hs okx sm d0 d1
    have e0 : At (Ty.val (Value.string SIGNS)) tx ax (.tmp 167) := d0 rfl
    have e2 : At (Ty.val (Value.int .u8 r)) tx ax (.tmp 169) := d1 rfl
    exact run_plain rfl (y_call #[ax.eval (.tmp 167), ax.eval (.tmp 169)] Try.func131 rfl rfl (by simp only [List.map_toArray, List.map_cons, List.map_nil]) (sIndexByte_fn (SIGNS) (r) _ _ _ e0 (cvi (σ := tx) (by omega) e2) ))
  · intro ax tx hs okx sm d0 d1 d2 d3 d4 d5
    have e3 : At (Ty.int (Lib.indexByte (ByteArray.data (SIGNS)).toList ((r)).toNat.toUInt8)) tx ax (.tmp 170) := d0 rfl
    have e0 : At (Ty.val (Value.string SIGNS)) tx ax (.tmp 167) := d2 rfl
    have e1 : At (Ty.val (Value.int .i32 r)) tx ax (.tmp 168) := d3 rfl
    have e2 : At (Ty.val (Value.int .u8 r)) tx ax (.tmp 169) := d4 rfl
    exact run_plain rfl (y_assign e3)
  intro a3 s3 D3
  have ok3 := D3.ok
  have F3 := F2.step0 D3.stp
  have q6 : At (Ty.int (Lib.indexByte (ByteArray.data (SIGNS)).toList ((r)).toNat.toUInt8)) s3 a3 (.tmp 4) := D3.done 4
  clear D3
  refine tn ?_
  refine wp_ret ?_
  refine br ?_
  exact retL1 rfl ok3 F3 (cvi (by (exact (signIdx_lo c1.1 c1.2).symm)) q6)
 ·
  have hc1 : ¬ (0 ≤ r ∧ r < 128) := (by intro h; simp only [Bool.and_eq_false_iff, decide_eq_false_iff_not] at c1; omega)
  refine wp_seq ?_
  refine reg (a := a2) (σ := s2) rfl (fun i_ => List.getD [(Ty.pr (Ty.val (Value.int .i32 r))), (Ty.pr (Ty.bool (decide (r = (65533 : Int))))), (Ty.pr (Ty.bool (decide (r = (65533 : Int)))))] i_ Pr.any) ok2 rfl ⟨?_, ?_, ?_, trivial⟩ ?_
  · intro ax tx hs okx sm
    exact run_plain rfl (y_move (kp (sm 1 rfl) hs q4))
  · intro ax tx hs okx sm d0
    have e0 : At (Ty.val (Value.int .i32 r)) tx ax (.tmp 172) := d0 rfl
    exact run_plain rfl (y_eql e0 rfl)
  · intro ax tx hs okx sm d0
    have e1 : At (Ty.bool (decide (r = (65533 : Int)))) tx ax (.tmp 173) := d0 rfl
    exact run_plain rfl (y_assign e1)
  intro a4 s4 D4
  have ok4 := D4.ok
  have F4 := F2.step0 D4.stp
  have q7 : At (Ty.val (Value.string SIGNS)) s4 a4 (.tmp 0) := D4.kt q3 rfl
  have q8 : At (Ty.val (Value.int .i32 r)) s4 a4 (.tmp 1) := D4.kt q4 rfl
  have q9 : At (Ty.bool (decide (r = (65533 : Int)))) s4 a4 (.tmp 171) := D4.done 2
  clear D4
  refine tn ?_
  refine cond_p (p := (r = (65533 : Int))) q9 (fun c2 => ?_) (fun c2 => ?_)
  ·
   refine wp_seq ?_
   refine wp_seq ?_
   refine reg (a := a4) (σ := s4) rfl (fun i_ => List.getD [(Ty.pr (Ty.val (Value.string SIGNS))), (Pr.iter 5 SIGNS 0)] i_ Pr.any) ok4 rfl ⟨?_, ?_, trivial⟩ ?_
   · intro ax tx hs okx sm
     exact run_plain rfl (y_move (kp (sm 0 rfl) hs q7))
   · intro ax tx hs okx sm d0
     have e0 : At (Ty.val (Value.string SIGNS)) tx ax (.tmp 174) := d0 rfl
     exact run_plain rfl (y_range 5 Try.underlying9 e0)
   intro a5 s5 D5
   have ok5 := D5.ok
   have F5 := F4.step0 D5.stp
   obtain ⟨x1, hx1⟩ : ∃ x, a5.eval (.tmp 175) = x := ⟨_, rfl⟩
   have q10 : At (Ty.val x1) s5 a5 (.tmp 175) := hx1
   have o1 : Iter s5 5 x1 SIGNS 0 := al2 (R := (Pr.iter 5 SIGNS 0)) hx1 (D5.done 1)
   clear D5
   refine tn ?_
   refine wp_block ?_
   refine loop (fun n1 a6 w1 => ∃ (t1 : GW) (p : Nat), t1.w = w1 ∧ FromL [] s0 t1 ∧ Ok 187 a6 ∧ At (Ty.val x1) t1 a6 (.tmp 175) ∧ Iter t1 5 x1 SIGNS p ∧ (p ≤ 12) ∧ n1 = 12 - p) (12 - (0)) ?_ ?_
   ·
    exact ⟨s5, 0, rfl, F5, ok5, q10, (cvit (by omega) o1), by omega, rfl⟩
   ·
    rintro n2 a7 w2 ⟨t2, p, rfl, F6, ok6, q11, o2, hp, rfl⟩
    refine wp_seq ?_
    refine reg2 (a := a7) (σ := t2) rfl 0 (fun i_ => List.getD [] i_ Pr.any) ok6 rfl (by decide) rfl trivial ?_
    intro a8 s6 D6
    have ok7 := D6.ok
    have F7 := F6.step0 D6.stp
    have q12 : At (Ty.val x1) s6 a8 (.tmp 175) := D6.kt q11 rfl
    have o3 := Iter.k0 o2 D6.stp
    clear D6
    refine tailL (L := [5]) (R := (fun v τ => (Ty.nxt (decide (p < SIGNS.size)) p (run1 SIGNS p)).has τ v ∧ Iter τ 5 x1 SIGNS (stepTo SIGNS p))) rfl rfl (by decide) ok7 (YldM.toL (m_next (by decide) o3 q12)) (fun a9 s7 hs1 ok8 r1 sm1 => ?_)
    have F8 := F7.stepL hs1 (by decide)
    have q13 : At (Ty.val x1) s7 a9 (.tmp 175) := kpL hs1 (by decide) (sm1 175 (by decide)) q12
    have q14 : At (Ty.nxt (decide (p < SIGNS.size)) p (run1 SIGNS p)) s7 a9 (.tmp 176) := (r1).1
    have o4 : Iter s7 5 x1 SIGNS (stepTo SIGNS p) := (r1).2
    clear r1
    refine tailL (L := []) (R := (fun v τ => Pr.has (Ty.pr (Ty.bool (decide (p < SIGNS.size)))) τ v)) rfl rfl (by decide) ok8 (Yld.toL (y_ext_n0 q14)) (fun a10 s8 hs2 ok9 r2 sm2 => ?_)
    have F9 := F8.stepL hs2 (by decide)
    have q15 : At (Ty.val x1) s8 a10 (.tmp 175) := kpL hs2 (by decide) (sm2 175 (by decide)) q13
    have q16 : At (Ty.nxt (decide (p < SIGNS.size)) p (run1 SIGNS p)) s8 a10 (.tmp 176) := kpL hs2 (by decide) (sm2 176 (by decide)) q14
    have o5 := Iter.keepL o4 hs2 (by decide) (by decide)
    have q17 : At (Ty.bool (decide (p < SIGNS.size))) s8 a10 (.tmp 177) := r2
    clear r2
    refine wpList_nil ?_
    refine tn ?_
    refine wp_seq ?_
    refine cond_p (p := (p < SIGNS.size)) q17 (fun c3 => ?_) (fun c3 => ?_)
    ·
     refine wp_skip ?_
     refine tn ?_
     refine wp_block ?_
     refine wp_seq ?_
     refine reg (a := a10) (σ := s8) rfl (fun i_ => List.getD [(Ty.pr (Ty.nat p)), (Ty.pr (Ty.val (Value.int .i32 ((run1 SIGNS p : Nat) : Int)))), (Ty.pr (Ty.nat p)), (Ty.pr (Ty.val (Value.int .i32 ((run1 SIGNS p : Nat) : Int))))] i_ Pr.any) ok9 rfl ⟨?_, ?_, ?_, ?_, trivial⟩ ?_
     · intro ax tx hs okx sm
       exact run_plain rfl (y_ext_n1 (kp (sm 176 rfl) hs q16) (decide_eq_true (by omega)))
     · intro ax tx hs okx sm d0
       exact run_plain rfl (y_ext_n2 (kp (sm 176 rfl) hs q16) (decide_eq_true (by omega)))
     · intro ax tx hs okx sm d0 d1 d2
       have e0 : At (Ty.nat p) tx ax (.tmp 178) := d0 rfl
       exact run_plain rfl (y_assign e0)
     · intro ax tx hs okx sm d0 d1 d2 d3 d4
       have e1 : At (Ty.val (Value.int .i32 ((run1 SIGNS p : Nat) : Int))) tx ax (.tmp 179) := d0 rfl
       have e2 : At (Ty.nat p) tx ax (.tmp 5) := d1 rfl
       have e0 : At (Ty.nat p) tx ax (.tmp 178) := d2 rfl
       exact run_plain rfl (y_assign e1)
     intro a11 s9 D7
     have ok10 := D7.ok
     have F10 := F9.step0 D7.stp
     have q18 : At (Ty.val x1) s9 a11 (.tmp 175) := D7.kt q15 rfl
     have o6 := Iter.k0 o5 D7.stp
     have q19 : At (Ty.nat p) s9 a11 (.tmp 5) := D7.done 2
     have q20 : At (Ty.val (Value.int .i32 ((run1 SIGNS p : Nat) : Int))) s9 a11 (.tmp 6) := D7.done 3
     clear D7
     refine tn ?_
     refine wp_seq ?_
     refine reg (a := a11) (σ := s9) rfl (fun i_ => List.getD [(Ty.pr (Ty.val (Value.int .i32 ((run1 SIGNS p : Nat) : Int)))), (Ty.pr (Ty.bool (decide (((run1 SIGNS p : Nat) : Int) = (65533 : Int)))))] i_ Pr.any) ok10 rfl ⟨?_, ?_, trivial⟩ ?_
     · intro ax tx hs okx sm
       exact run_plain rfl (y_move (kp (sm 6 rfl) hs q20))
     · intro ax tx hs okx sm d0
       have e0 : At (Ty.val (Value.int .i32 ((run1 SIGNS p : Nat) : Int))) tx ax (.tmp 180) := d0 rfl
       exact run_plain rfl (y_eql e0 rfl)
     intro a12 s10 D8
     have ok11 := D8.ok
     have F11 := F10.step0 D8.stp
     have q21 : At (Ty.val x1) s10 a12 (.tmp 175) := D8.kt q18 rfl
     have q22 : At (Ty.nat p) s10 a12 (.tmp 5) := D8.kt q19 rfl
     have o7 := Iter.k0 o6 D8.stp
     have q23 : At (Ty.bool (decide (((run1 SIGNS p : Nat) : Int) = (65533 : Int)))) s10 a12 (.tmp 181) := D8.done 1
     clear D8
     refine tn ?_
     refine cond_p (p := (((run1 SIGNS p : Nat) : Int) = (65533 : Int))) q23 (fun c4 => ?_) (fun c4 => ?_)
     ·
      exfalso
      have := (signs_run (p := p) (by omega)).1; omega
     ·
      refine wp_skip ?_
      refine bn ?_
      exact tn ⟨12 - ((p + 1)), by omega, s10, (p + 1), rfl, F11, ok11, q21, (cvit (by exact (signs_run (by omega)).2) o7), by omega, rfl⟩
    ·
     refine wp_exit ?_
     refine tx ?_
     refine tx ?_
     refine bx ?_
     refine tn ?_
     refine wp_seq ?_
     refine reg (a := a10) (σ := s8) rfl (fun i_ => List.getD [(Ty.pr (Ty.int (-1 : Int)))] i_ Pr.any) ok9 rfl ⟨?_, trivial⟩ ?_
     · intro ax tx hs okx sm
       exact run_plain rfl (y_assign rfl)
     intro a13 s11 D9
     have ok12 := D9.ok
     have F12 := F9.step0 D9.stp
     have o8 := Iter.k0 o5 D9.stp
     have q24 : At (Ty.int (-1 : Int)) s11 a13 (.tmp 4) := D9.done 0
     clear D9
     refine tn ?_
     refine wp_ret ?_
     refine br ?_
     exact retL1 rfl ok12 F12 (cvi (by (exact (signIdx_hi (by omega)).symm)) q24)
  ·
   refine wp_seq ?_
   refine reg (a := a4) (σ := s4) rfl (fun i_ => List.getD [(Ty.pr (Ty.val (Value.int .i32 r))), (Ty.pr (Ty.bool (Utf8.valid r))), (Ty.pr (Ty.bool (!(Utf8.valid r)))), (Ty.pr (Ty.bool (!(Utf8.valid r))))] i_ Pr.any) ok4 rfl ⟨?_, ?_, ?_, ?_, trivial⟩ ?_
   · intro ax tx hs okx sm
     exact run_plain rfl (y_move (kp (sm 1 rfl) hs q8))
   · intro ax tx hs okx sm d0
     have e0 : At (Ty.val (Value.int .i32 r)) tx ax (.tmp 184) := d0 rfl
     exact run_plain rfl (y_call #[ax.eval (.tmp 184)] Try.func132 rfl rfl (by simp only [List.map_toArray, List.map_cons, List.map_nil]) (validRune_fn (r) _ _ e0 ))
   · intro ax tx hs okx sm d0
     have e1 : At (Ty.bool (Utf8.valid r)) tx ax (.tmp 185) := d0 rfl
     exact run_plain rfl (y_not e1)
   · intro ax tx hs okx sm d0 d1
     have e2 : At (Ty.bool (!(Utf8.valid r))) tx ax (.tmp 186) := d0 rfl
     have e1 : At (Ty.bool (Utf8.valid r)) tx ax (.tmp 185) := d1 rfl
     exact run_plain rfl (y_assign e2)
   intro a14 s12 D10
   have ok13 := D10.ok
   have F13 := F4.step0 D10.stp
   have q25 : At (Ty.val (Value.string SIGNS)) s12 a14 (.tmp 0) := D10.kt q7 rfl
   have q26 : At (Ty.val (Value.int .i32 r)) s12 a14 (.tmp 1) := D10.kt q8 rfl
   have q27 : At (Ty.bool (!(Utf8.valid r))) s12 a14 (.tmp 183) := D10.done 3
   clear D10
   refine tn ?_
   refine cond_t q27 (fun c5 => ?_) (fun c5 => ?_)
   ·
    refine wp_seq ?_
    refine reg (a := a14) (σ := s12) rfl (fun i_ => List.getD [(Ty.pr (Ty.int (-1 : Int)))] i_ Pr.any) ok13 rfl ⟨?_, trivial⟩ ?_
    · intro ax tx hs okx sm
      exact run_plain rfl (y_assign rfl)
    intro a15 s13 D11
    have ok14 := D11.ok
    have F14 := F13.step0 D11.stp
    have q28 : At (Ty.int (-1 : Int)) s13 a15 (.tmp 4) := D11.done 0
    clear D11
    refine tn ?_
    refine wp_ret ?_
    refine br ?_
    exact retL1 rfl ok14 F14 (cvi (by (exact (signIdx_hi hc1).symm)) q28)
   ·
    have hv : Utf8.valid r = true := (by simpa using c5); have hr0 : 0 ≤ r := (by unfold Utf8.valid at hv; simp only [Bool.or_eq_true, Bool.and_eq_true, decide_eq_true_eq] at hv; omega); have hef := enc_facts (by omega) hv; obtain ⟨E, hE⟩ : ∃ E, E = Utf8.encode r := ⟨_, rfl⟩; rw [← hE] at hef; have hsl := signs_lt (j := E.size - 1) (by omega)
    refine wp_scope_straight ?_
    refine wp_seq ?_
    refine reg (a := a14) (σ := s12) rfl (fun i_ => List.getD [(Ty.pr (Ty.val (Value.int .i32 r))), (Ty.pr (Ty.val (Value.string (Utf8.encode r)))), (Ty.pr (Ty.val (Value.string (Utf8.encode r))))] i_ Pr.any) ok13 rfl ⟨?_, ?_, ?_, trivial⟩ ?_
    · intro ax tx hs okx sm
      exact run_plain rfl (y_move (kp (sm 1 rfl) hs q26))
    · intro ax tx hs okx sm d0
      have e0 : At (Ty.val (Value.int .i32 r)) tx ax (.tmp 17) := d0 rfl
      exact run_plain rfl (y_convrs Try.underlying9 e0 (by rw [Try.underlying21]; rfl))
    · intro ax tx hs okx sm d0 d1 d2
      have e1 : At (Ty.val (Value.string (Utf8.encode r))) tx ax (.tmp 18) := d0 rfl
      have e0 : At (Ty.val (Value.int .i32 r)) tx ax (.tmp 17) := d1 rfl
      exact run_plain rfl (y_assign e1)
    intro a16 s14 D12
    have ok15 := D12.ok
    have F15 := F13.step0 D12.stp
    have q29 : At (Ty.val (Value.string SIGNS)) s14 a16 (.tmp 0) := D12.kt q25 rfl
    have q30 : At (Ty.val (Value.string (Utf8.encode r))) s14 a16 (.tmp 7) := D12.done 2
    clear D12
    have q31 : At (Ty.val (Value.string E)) s14 a16 (.tmp 7) := (cvt (by (rw [hE])) q30)
    refine tn ?_
    refine wp_seq ?_
    refine reg (a := a16) (σ := s14) rfl (fun i_ => List.getD [(Ty.pr (Ty.val (Value.string E))), (Ty.pr (Ty.nat (ByteArray.size E))), (Ty.pr (Ty.nat ((ByteArray.size E) - 1))), (Ty.pr (Ty.nat ((ByteArray.size E) - 1)))] i_ Pr.any) ok15 rfl ⟨?_, ?_, ?_, ?_, trivial⟩ ?_
    · intro ax tx hs okx sm
      exact run_plain rfl (y_move (kp (sm 7 rfl) hs q31))
    · intro ax tx hs okx sm d0
      have e0 : At (Ty.val (Value.string E)) tx ax (.tmp 19) := d0 rfl
      exact run_plain rfl (y_len_str Try.underlying9 e0)
    · intro ax tx hs okx sm d0
      have e1 : At (Ty.nat (ByteArray.size E)) tx ax (.tmp 20) := d0 rfl
      exact run_plain rfl ((y_sub e1 rfl (w64 (by omega) (by omega))).mono (fun τ _ h => cvi (σ := τ) (by omega) h))
    · intro ax tx hs okx sm d0 d1 d2 d3
      have e2 : At (Ty.nat ((ByteArray.size E) - 1)) tx ax (.tmp 21) := d0 rfl
      have e0 : At (Ty.val (Value.string E)) tx ax (.tmp 19) := d1 rfl
      have e1 : At (Ty.nat (ByteArray.size E)) tx ax (.tmp 20) := d2 rfl
      exact run_plain rfl (y_assign e2)
    intro a17 s15 D13
    have ok16 := D13.ok
    have F16 := F15.step0 D13.stp
    have q32 : At (Ty.val (Value.string SIGNS)) s15 a17 (.tmp 0) := D13.kt q29 rfl
    have q33 : At (Ty.val (Value.string E)) s15 a17 (.tmp 7) := D13.kt q31 rfl
    have q34 : At (Ty.nat ((ByteArray.size E) - 1)) s15 a17 (.tmp 8) := D13.done 3
    clear D13
    refine tn ?_
    refine wp_seq ?_
    refine reg (a := a17) (σ := s15) rfl (fun i_ => List.getD [(Ty.pr (Ty.nat ((ByteArray.size E) - 1))), (Ty.pr (Ty.nat ((ByteArray.size E) - 1)))] i_ Pr.any) ok16 rfl ⟨?_, ?_, trivial⟩ ?_
    · intro ax tx hs okx sm
      exact run_plain rfl (y_move (kp (sm 8 rfl) hs q34))
    · intro ax tx hs okx sm d0 d1
      have e0 : At (Ty.nat ((ByteArray.size E) - 1)) tx ax (.tmp 22) := d0 rfl
      exact run_plain rfl (y_assign e0)
    intro a18 s16 D14
    have ok17 := D14.ok
    have F17 := F16.step0 D14.stp
    have q35 : At (Ty.val (Value.string SIGNS)) s16 a18 (.tmp 0) := D14.kt q32 rfl
    have q36 : At (Ty.val (Value.string E)) s16 a18 (.tmp 7) := D14.kt q33 rfl
    have q37 : At (Ty.nat ((ByteArray.size E) - 1)) s16 a18 (.tmp 8) := D14.kt q34 rfl
    have q38 : At (Ty.nat ((ByteArray.size E) - 1)) s16 a18 (.tmp 9) := D14.done 1
    clear D14
    refine tn ?_
    refine wp_seq ?_
    refine reg (a := a18) (σ := s16) rfl (fun i_ => List.getD [(Ty.pr (Ty.int (0 : Int)))] i_ Pr.any) ok17 rfl ⟨?_, trivial⟩ ?_
    · intro ax tx hs okx sm
      exact run_plain rfl (y_assign rfl)
    intro a19 s17 D15
    have ok18 := D15.ok
    have F18 := F17.step0 D15.stp
    have q39 : At (Ty.val (Value.string SIGNS)) s17 a19 (.tmp 0) := D15.kt q35 rfl
    have q40 : At (Ty.val (Value.string E)) s17 a19 (.tmp 7) := D15.kt q36 rfl
    have q41 : At (Ty.nat ((ByteArray.size E) - 1)) s17 a19 (.tmp 8) := D15.kt q37 rfl
    have q42 : At (Ty.nat ((ByteArray.size E) - 1)) s17 a19 (.tmp 9) := D15.kt q38 rfl
    clear D15
    refine tn ?_
    refine wp_seq ?_
    refine wp_block ?_
    refine loop (fun n3 a20 w3 => ∃ (t3 : GW), t3.w = w3 ∧ FromL [] s0 t3 ∧ Ok 187 a20 ∧ At (Ty.nat ((ByteArray.size E) - 1)) t3 a20 (.tmp 9) ∧ At (Ty.val (Value.string SIGNS)) t3 a20 (.tmp 0) ∧ At (Ty.val (Value.string E)) t3 a20 (.tmp 7) ∧ At (Ty.nat ((ByteArray.size E) - 1)) t3 a20 (.tmp 8) ∧ n3 = 1) (1) ?_ ?_
    ·
     exact ⟨s17, rfl, F18, ok18, q42, q39, q40, q41, rfl⟩
    ·
     rintro n4 a21 w4 ⟨t4, rfl, F19, ok19, q43, q44, q45, q46, rfl⟩
     refine wp_seq ?_
     refine wp_seq ?_
     refine reg (a := a21) (σ := t4) rfl (fun i_ => List.getD [(Ty.pr (Ty.nat ((ByteArray.size E) - 1))), (Ty.pr (Ty.val (Value.string SIGNS))), (Ty.pr (Ty.nat (ByteArray.size SIGNS))), (Ty.pr (Ty.bool (decide (((((ByteArray.size E) - 1) : Nat) : Int) < (((ByteArray.size SIGNS) : Nat) : Int)))))] i_ Pr.any) ok19 rfl ⟨?_, ?_, ?_, ?_, trivial⟩ ?_
     · intro ax tx hs okx sm
       exact run_plain rfl (y_move (kp (sm 9 rfl) hs q43))
     · intro ax tx hs okx sm
       exact run_plain rfl (y_move (kp (sm 0 rfl) hs q44))
     · intro ax tx hs okx sm d0
       have e1 : At (Ty.val (Value.string SIGNS)) tx ax (.tmp 24) := d0 rfl
       exact run_plain rfl (y_len_str Try.underlying9 e1)
     · intro ax tx hs okx sm d0 d1
       have e0 : At (Ty.nat ((ByteArray.size E) - 1)) tx ax (.tmp 23) := d0 rfl
       have e2 : At (Ty.nat (ByteArray.size SIGNS)) tx ax (.tmp 25) := d1 rfl
       exact run_plain rfl (y_lss e0 e2)
     intro a22 s18 D16
     have ok20 := D16.ok
     have F20 := F19.step0 D16.stp
     have q47 : At (Ty.nat ((ByteArray.size E) - 1)) s18 a22 (.tmp 9) := D16.kt q43 rfl
     have q48 : At (Ty.val (Value.string SIGNS)) s18 a22 (.tmp 0) := D16.kt q44 rfl
     have q49 : At (Ty.val (Value.string E)) s18 a22 (.tmp 7) := D16.kt q45 rfl
     have q50 : At (Ty.nat ((ByteArray.size E) - 1)) s18 a22 (.tmp 8) := D16.kt q46 rfl
     have q51 : At (Ty.bool (decide (((((ByteArray.size E) - 1) : Nat) : Int) < (((ByteArray.size SIGNS) : Nat) : Int)))) s18 a22 (.tmp 26) := D16.done 3
     clear D16
     refine tn ?_
     refine cond_p (p := (((((ByteArray.size E) - 1) : Nat) : Int) < (((ByteArray.size SIGNS) : Nat) : Int))) q51 (fun c6 => ?_) (fun c6 => ?_)
     ·
      refine wp_skip ?_
      refine tn ?_
      refine wp_block ?_
      refine wp_scope_straight ?_
      refine wp_seq ?_
      refine wp_seq ?_
      refine reg (a := a22) (σ := s18) rfl (fun i_ => List.getD [(Ty.pr (Ty.val (Value.string SIGNS))), (Ty.pr (Ty.nat ((ByteArray.size E) - 1))), (Ty.pr (Ty.val (Value.int .u8 (((SIGNS.get! ((ByteArray.size E) - 1)).toNat : Nat) : Int)))), (Ty.pr (Ty.val (Value.string E))), (Ty.pr (Ty.nat ((ByteArray.size E) - 1))), (Ty.pr (Ty.val (Value.int .u8 (((E.get! ((ByteArray.size E) - 1)).toNat : Nat) : Int)))), (Ty.pr (Ty.bool (decide ((((SIGNS.get! ((ByteArray.size E) - 1)).toNat : Nat) : Int) ≠ (((E.get! ((ByteArray.size E) - 1)).toNat : Nat) : Int)))))] i_ Pr.any) ok20 rfl ⟨?_, ?_, ?_, ?_, ?_, ?_, ?_, trivial⟩ ?_
      · intro ax tx hs okx sm
        exact run_plain rfl (y_move (kp (sm 0 rfl) hs q48))
      · intro ax tx hs okx sm
        exact run_plain rfl (y_move (kp (sm 9 rfl) hs q47))
      · intro ax tx hs okx sm d0 d1
        have e0 : At (Ty.val (Value.string SIGNS)) tx ax (.tmp 27) := d0 rfl
        have e1 : At (Ty.nat ((ByteArray.size E) - 1)) tx ax (.tmp 28) := d1 rfl
        exact run_plain rfl (y_sindex Try.underlying9 e0 e1 (by omega) (by omega))
      · intro ax tx hs okx sm
        exact run_plain rfl (y_move (kp (sm 7 rfl) hs q49))
      · intro ax tx hs okx sm
        exact run_plain rfl (y_move (kp (sm 8 rfl) hs q50))
      · intro ax tx hs okx sm d0 d1
        have e3 : At (Ty.val (Value.string E)) tx ax (.tmp 30) := d0 rfl
        have e4 : At (Ty.nat ((ByteArray.size E) - 1)) tx ax (.tmp 31) := d1 rfl
        exact run_plain rfl (y_sindex Try.underlying9 e3 e4 (by omega) (by omega))
      · intro ax tx hs okx sm d0 d1
        have e2 : At (Ty.val (Value.int .u8 (((SIGNS.get! ((ByteArray.size E) - 1)).toNat : Nat) : Int))) tx ax (.tmp 29) := d0 rfl
        have e5 : At (Ty.val (Value.int .u8 (((E.get! ((ByteArray.size E) - 1)).toNat : Nat) : Int))) tx ax (.tmp 32) := d1 rfl
        exact run_plain rfl (y_neq e2 e5)
      intro a23 s19 D17
      have ok21 := D17.ok
      have F21 := F20.step0 D17.stp
      have q52 : At (Ty.nat ((ByteArray.size E) - 1)) s19 a23 (.tmp 9) := D17.kt q47 rfl
      have q53 : At (Ty.val (Value.string SIGNS)) s19 a23 (.tmp 0) := D17.kt q48 rfl
      have q54 : At (Ty.val (Value.string E)) s19 a23 (.tmp 7) := D17.kt q49 rfl
      have q55 : At (Ty.nat ((ByteArray.size E) - 1)) s19 a23 (.tmp 8) := D17.kt q50 rfl
      have q56 : At (Ty.bool (decide ((((SIGNS.get! ((ByteArray.size E) - 1)).toNat : Nat) : Int) ≠ (((E.get! ((ByteArray.size E) - 1)).toNat : Nat) : Int)))) s19 a23 (.tmp 33) := D17.done 6
      clear D17
      refine tn ?_
      refine cond_p (p := ((((SIGNS.get! ((ByteArray.size E) - 1)).toNat : Nat) : Int) ≠ (((E.get! ((ByteArray.size E) - 1)).toNat : Nat) : Int))) q56 (fun c7 => ?_) (fun c7 => ?_)
      ·
       refine wp_seq ?_
       refine reg (a := a23) (σ := s19) rfl (fun i_ => List.getD [(Ty.pr (Ty.val (Value.string SIGNS))), (Ty.pr (Ty.nat ((ByteArray.size E) - 1))), (Ty.pr (Ty.nat (((ByteArray.size E) - 1) + 1))), (Ty.pr (Ty.val (Value.string (ByteArray.extract SIGNS (((ByteArray.size E) - 1) + 1) (ByteArray.size SIGNS))))), (Ty.pr (Ty.val (Value.string E))), (Ty.pr (Ty.nat ((ByteArray.size E) - 1))), (Ty.pr (Ty.val (Value.int .u8 (((E.get! ((ByteArray.size E) - 1)).toNat : Nat) : Int)))), (Ty.pr (Ty.int (Lib.indexByte (ByteArray.data ((ByteArray.extract SIGNS (((ByteArray.size E) - 1) + 1) (ByteArray.size SIGNS)))).toList (((((E.get! ((ByteArray.size E) - 1)).toNat : Nat) : Int))).toNat.toUInt8))), (Ty.pr (Ty.int (Lib.indexByte (ByteArray.data ((ByteArray.extract SIGNS (((ByteArray.size E) - 1) + 1) (ByteArray.size SIGNS)))).toList (((((E.get! ((ByteArray.size E) - 1)).toNat : Nat) : Int))).toNat.toUInt8)))] i_ Pr.any) ok21 rfl ⟨?_, ?_, ?_, ?_, ?_, ?_, ?_, ?_, ?_, trivial⟩ ?_
       · intro ax tx hs okx sm
         exact run_plain rfl (y_move (kp (sm 0 rfl) hs q53))
       · intro ax tx hs okx sm
         exact run_plain rfl (y_move (kp (sm 9 rfl) hs q52))
       · intro ax tx hs okx sm d0
         have e1 : At (Ty.nat ((ByteArray.size E) - 1)) tx ax (.tmp 35) := d0 rfl
         exact run_plain rfl ((y_add e1 rfl (w64 (by omega) (by omega))).mono (fun τ _ h => cvi (σ := τ) (by first | omega | exact (Int.natCast_mul _ _).symm) h))
       · intro ax tx hs okx sm d0 d1
         have e0 : At (Ty.val (Value.string SIGNS)) tx ax (.tmp 34) := d0 rfl
         have e2 : At (Ty.nat (((ByteArray.size E) - 1) + 1)) tx ax (.tmp 36) := d1 rfl
         exact run_plain rfl (y_sfrom (l := (((ByteArray.size E) - 1) + 1)) Try.underlying9 e0 e2 (by omega))
       · intro ax tx hs okx sm
         exact run_plain rfl (y_move (kp (sm 7 rfl) hs q54))
       · intro ax tx hs okx sm
         exact run_plain rfl (y_move (kp (sm 8 rfl) hs q55))
       · intro ax tx hs okx sm d0 d1
         have e4 : At (Ty.val (Value.string E)) tx ax (.tmp 38) := d0 rfl
         have e5 : At (Ty.nat ((ByteArray.size E) - 1)) tx ax (.tmp 39) := d1 rfl
         exact run_plain rfl (y_sindex Try.underlying9 e4 e5 (by omega) (by omega))
       · intro ax tx hs okx sm d0 d1
         have e3 : At (Ty.val (Value.string (ByteArray.extract SIGNS (((ByteArray.size E) - 1) + 1) (ByteArray.size SIGNS)))) tx ax (.tmp 37) := d0 rfl
         have e6 : At (Ty.val (Value.int .u8 (((E.get! ((ByteArray.size E) - 1)).toNat : Nat) : Int))) tx ax (.tmp 40) := d1 rfl
         exact run_plain rfl (y_call #[ax.eval (.tmp 37), ax.eval (.tmp 40)] Try.func131 rfl rfl (by simp only [List.map_toArray, List.map_cons, List.map_nil]) (sIndexByte_fn ((ByteArray.extract SIGNS (((ByteArray.size E) - 1) + 1) (ByteArray.size SIGNS))) ((((E.get! ((ByteArray.size E) - 1)).toNat : Nat) : Int)) _ _ _ e3 (cvi (σ := tx) (by omega) e6) ))
       · intro ax tx hs okx sm d0 d1 d2 d3 d4 d5 d6 d7 d8 d9
         have e7 : At (Ty.int (Lib.indexByte (ByteArray.data ((ByteArray.extract SIGNS (((ByteArray.size E) - 1) + 1) (ByteArray.size SIGNS)))).toList (((((E.get! ((ByteArray.size E) - 1)).toNat : Nat) : Int))).toNat.toUInt8)) tx ax (.tmp 41) := d0 rfl
         have e0 : At (Ty.val (Value.string SIGNS)) tx ax (.tmp 34) := d2 rfl
         have e1 : At (Ty.nat ((ByteArray.size E) - 1)) tx ax (.tmp 35) := d3 rfl
         have e2 : At (Ty.nat (((ByteArray.size E) - 1) + 1)) tx ax (.tmp 36) := d4 rfl
         have e3 : At (Ty.val (Value.string (ByteArray.extract SIGNS (((ByteArray.size E) - 1) + 1) (ByteArray.size SIGNS)))) tx ax (.tmp 37) := d5 rfl
         have e4 : At (Ty.val (Value.string E)) tx ax (.tmp 38) := d6 rfl
         have e5 : At (Ty.nat ((ByteArray.size E) - 1)) tx ax (.tmp 39) := d7 rfl
         have e6 : At (Ty.val (Value.int .u8 (((E.get! ((ByteArray.size E) - 1)).toNat : Nat) : Int))) tx ax (.tmp 40) := d8 rfl
         exact run_plain rfl (y_assign e7)
       intro a24 s20 D18
       have ok22 := D18.ok
       have F22 := F21.step0 D18.stp
       have q57 : At (Ty.nat ((ByteArray.size E) - 1)) s20 a24 (.tmp 9) := D18.kt q52 rfl
       have q58 : At (Ty.val (Value.string SIGNS)) s20 a24 (.tmp 0) := D18.kt q53 rfl
       have q59 : At (Ty.val (Value.string E)) s20 a24 (.tmp 7) := D18.kt q54 rfl
       have q60 : At (Ty.nat ((ByteArray.size E) - 1)) s20 a24 (.tmp 8) := D18.kt q55 rfl
       have q61 : At (Ty.int (Lib.indexByte (ByteArray.data ((ByteArray.extract SIGNS (((ByteArray.size E) - 1) + 1) (ByteArray.size SIGNS)))).toList (((((E.get! ((ByteArray.size E) - 1)).toNat : Nat) : Int))).toNat.toUInt8)) s20 a24 (.tmp 11) := D18.done 8
       clear D18
       refine tn ?_
       refine wp_seq ?_
       refine wp_seq ?_
       refine reg (a := a24) (σ := s20) rfl (fun i_ => List.getD [(Ty.pr (Ty.int (Lib.indexByte (ByteArray.data ((ByteArray.extract SIGNS (((ByteArray.size E) - 1) + 1) (ByteArray.size SIGNS)))).toList (((((E.get! ((ByteArray.size E) - 1)).toNat : Nat) : Int))).toNat.toUInt8))), (Ty.pr (Ty.bool (decide ((Lib.indexByte (ByteArray.data ((ByteArray.extract SIGNS (((ByteArray.size E) - 1) + 1) (ByteArray.size SIGNS)))).toList (((((E.get! ((ByteArray.size E) - 1)).toNat : Nat) : Int))).toNat.toUInt8) < (0 : Int)))))] i_ Pr.any) ok22 rfl ⟨?_, ?_, trivial⟩ ?_
       · intro ax tx hs okx sm
         exact run_plain rfl (y_move (kp (sm 11 rfl) hs q61))
       · intro ax tx hs okx sm d0
         have e0 : At (Ty.int (Lib.indexByte (ByteArray.data ((ByteArray.extract SIGNS (((ByteArray.size E) - 1) + 1) (ByteArray.size SIGNS)))).toList (((((E.get! ((ByteArray.size E) - 1)).toNat : Nat) : Int))).toNat.toUInt8)) tx ax (.tmp 42) := d0 rfl
         exact run_plain rfl (y_lss e0 rfl)
       intro a25 s21 D19
       have ok23 := D19.ok
       have F23 := F22.step0 D19.stp
       have q62 : At (Ty.nat ((ByteArray.size E) - 1)) s21 a25 (.tmp 9) := D19.kt q57 rfl
       have q63 : At (Ty.val (Value.string SIGNS)) s21 a25 (.tmp 0) := D19.kt q58 rfl
       have q64 : At (Ty.val (Value.string E)) s21 a25 (.tmp 7) := D19.kt q59 rfl
       have q65 : At (Ty.nat ((ByteArray.size E) - 1)) s21 a25 (.tmp 8) := D19.kt q60 rfl
       have q66 : At (Ty.int (Lib.indexByte (ByteArray.data ((ByteArray.extract SIGNS (((ByteArray.size E) - 1) + 1) (ByteArray.size SIGNS)))).toList (((((E.get! ((ByteArray.size E) - 1)).toNat : Nat) : Int))).toNat.toUInt8)) s21 a25 (.tmp 11) := D19.kt q61 rfl
       have q67 : At (Ty.bool (decide ((Lib.indexByte (ByteArray.data ((ByteArray.extract SIGNS (((ByteArray.size E) - 1) + 1) (ByteArray.size SIGNS)))).toList (((((E.get! ((ByteArray.size E) - 1)).toNat : Nat) : Int))).toNat.toUInt8) < (0 : Int)))) s21 a25 (.tmp 43) := D19.done 1
       clear D19
       refine tn ?_
       refine cond_p (p := ((Lib.indexByte (ByteArray.data ((ByteArray.extract SIGNS (((ByteArray.size E) - 1) + 1) (ByteArray.size SIGNS)))).toList (((((E.get! ((ByteArray.size E) - 1)).toNat : Nat) : Int))).toNat.toUInt8) < (0 : Int))) q67 (fun c8 => ?_) (fun c8 => ?_)
       ·
        refine wp_seq ?_
        refine reg (a := a25) (σ := s21) rfl (fun i_ => List.getD [(Ty.pr (Ty.int (-1 : Int)))] i_ Pr.any) ok23 rfl ⟨?_, trivial⟩ ?_
        · intro ax tx hs okx sm
          exact run_plain rfl (y_assign rfl)
        intro a26 s22 D20
        have ok24 := D20.ok
        have F24 := F23.step0 D20.stp
        have q68 : At (Ty.int (-1 : Int)) s22 a26 (.tmp 4) := D20.done 0
        clear D20
        refine tn ?_
        refine wp_ret ?_
        refine tr ?_
        refine tr ?_
        refine scr ?_
        refine br ?_
        refine tr ?_
        refine br ?_
        refine tr ?_
        refine scr ?_
        refine br ?_
        exact retL1 rfl ok24 F24 (cvi (by (exact (signIdx_hi hc1).symm)) q68)
       ·
        exfalso
        have := signs_cut (l := E.size - 1 + 1) (c := (((E.get! (E.size - 1)).toNat : Nat) : Int)) (by omega) (by omega); omega
      ·
       exfalso
       omega
     ·
      exfalso
      omega


set_option maxHeartbeats 4000000 in
set_option maxRecDepth 100000 in
theorem sign_fn (r : Int) (σ : GW)  (v0 : Value) (hv0 : Ty.has (Ty.val (Value.int .i32 r)) σ v0)  (hr : -2147483648 ≤ r ∧ r ≤ 2147483647) :
    FnC Try.prog 101 #[v0] σ (Ty.int (signIdx r)) := by
 refine fn_intro0 Try.func101 rfl Try.ntmps101 (Nat.le_of_ble_eq_true rfl) (fun s0 a0 hle F0 ok0 hargs => ?_)
 have p0 : At (Ty.val (Value.int .i32 r)) s0 a0 (.tmp 0) := by have e := hargs 0 _ rfl; show Ty.has _ _ _; rw [e]; exact Ty.up _ hle hv0
 clear hargs
 refine wp_seq ?_
 refine reg (a := a0) (σ := s0) rfl (fun i_ => List.getD [(Ty.pr (Ty.int (0 : Int)))] i_ Pr.any) ok0 rfl ⟨?_, trivial⟩ ?_
 · intro ax tx hs okx sm
   exact run_plain rfl (y_assign rfl)
 intro a1 s1 D1
 have ok1 := D1.ok
 have F1 := F0.step0 D1.stp
 have q1 : At (Ty.val (Value.int .i32 r)) s1 a1 (.tmp 0) := D1.kt p0 rfl
 clear D1
 refine tn ?_
 refine wp_seq ?_
 refine reg (a := a1) (σ := s1) rfl (fun i_ => List.getD [(Ty.pr (Ty.val (Value.int .i32 r))), (Ty.pr (Ty.int (signIdx r))), (Ty.pr (Ty.int (signIdx r)))] i_ Pr.any) ok1 rfl ⟨?_, ?_, ?_, trivial⟩ ?_
 · intro ax tx hs okx sm
   exact run_plain rfl (y_move (kp (sm 0 rfl) hs q1))
 · intro ax tx hs okx sm d0
   have e0 : At (Ty.val (Value.int .i32 r)) tx ax (.tmp 3) := d0 rfl
   exact run_plain rfl (y_call #[ax.eval ((Operand.const (Value.string (ByteArray.mk #[49, 50, 51, 52, 53, 54, 55, 56, 57, 48, 69, 84])))), ax.eval (.tmp 3)] Try.func119 rfl rfl (by simp only [List.map_toArray, List.map_cons, List.map_nil]) (idxRune_fn (r) _ _ _ rfl e0 (by omega)))
 · intro ax tx hs okx sm d0 d1 d2 d3
   have e1 : At (Ty.int (signIdx r)) tx ax (.tmp 4) := d0 rfl
   have e0 : At (Ty.val (Value.int .i32 r)) tx ax (.tmp 3) := d2 rfl
   exact run_plain rfl (y_assign e1)
 intro a2 s2 D2
 have ok2 := D2.ok
 have F2 := F1.step0 D2.stp
 have q2 : At (Ty.int (signIdx r)) s2 a2 (.tmp 2) := D2.done 2
 clear D2
 refine tn ?_
 refine wp_ret ?_
 exact retL1 rfl ok2 F2 q2

theorem Try.inf3 : Info Try.prog 3 (.int .i64 0) 1 8 := by unfold Info; kernel_rfl
theorem Try.inf4 : Info Try.prog 4 (.bool false) 1 1 := by unfold Info; kernel_rfl
theorem Try.inf34 : Info Try.prog 34 (.slice none 0 0) 1 24 := by unfold Info; kernel_rfl
theorem Try.inf148 : Info Try.prog 148 (.agg #[.slice none 0 0, .slice none 0 0, .bool false]) 3 56 := by unfold Info; kernel_rfl
theorem Try.fld148_0 : fieldOf Try.prog 148 0 = some (34, 0) := by kernel_rfl
theorem Try.fld148_1 : fieldOf Try.prog 148 1 = some (34, 1) := by kernel_rfl
theorem Try.fld148_2 : fieldOf Try.prog 148 2 = some (4, 2) := by kernel_rfl
set_option maxHeartbeats 4000000 in
set_option maxRecDepth 100000 in
theorem mread_fn (n : Int) (s : ByteArray) (σ : GW) (hlow : Low [] σ) (v0 v1 : Value) (hv0 : Ty.has (Ty.int n) σ v0) (hv1 : Ty.has (Ty.val (Value.string s)) σ v1)  (hn64 : -9223372036854775808 ≤ n ∧ n ≤ 9223372036854775807) (hs : s.size ≤ 17592186044416) :
    FnL Try.prog 88 #[v0, v1] σ [] (fun v τ => ∃ (fr : List Int), ∃ (bk : List Int), ∃ (st : Bool), (Ty.has (Ty.tup2 (Ty.agg [(Ty.lst Ty.int fr), (Ty.lst Ty.int bk), (Ty.bool st)]) (Ty.int (patMay n (runsL s)))) τ v) ∧ (patMay n (runsL s) = 0 → fr = List.map bellQ (frR (runsL s)) ∧ bk = List.map bellQ (bkR (runsL s)))) := by
 have hLl := runsL_len s
 obtain ⟨L, hL⟩ : ∃ L, L = runsL s := ⟨_, rfl⟩
 rw [← hL] at hLl ⊢
 refine fn_introL hlow Try.func88 rfl Try.ntmps88 (Nat.le_of_ble_eq_true rfl) (fun a0 F0 ok0 hargs => ?_)
 have p0 : At (Ty.int n) σ a0 (.tmp 0) := by have e := hargs 0 _ rfl; show Ty.has _ _ _; rw [e]; exact hv0
 have p1 : At (Ty.val (Value.string s)) σ a0 (.tmp 1) := by have e := hargs 1 _ rfl; show Ty.has _ _ _; rw [e]; exact hv1
 clear hargs
 refine wp_seq ?_
 refine reg (a := a0) (σ := σ) rfl (fun i_ => List.getD [(Pr.ownp 4 [(Ty.val (Value.slice none 0 0)), (Ty.val (Value.slice none 0 0)), (Ty.bool false)]), (Ty.pr (Ty.int (0 : Int)))] i_ Pr.any) ok0 rfl ⟨?_, ?_, trivial⟩ ?_
 · intro ax tx hs okx sm
   exact run_plain rfl (y_alloc Try.inf148 rfl (alloc_vals (vs := [.slice none 0 0, .slice none 0 0, .bool false]) rfl))
 · intro ax tx hs okx sm
   exact run_plain rfl (y_assign rfl)
 intro a1 s1 D1
 have ok1 := D1.ok
 have F1 := F0.step0 D1.stp
 have q1 : At (Ty.int n) s1 a1 (.tmp 0) := D1.kt p0 rfl
 have q2 : At (Ty.val (Value.string s)) s1 a1 (.tmp 1) := D1.kt p1 rfl
 obtain ⟨x1, hx1⟩ : ∃ x, a1.eval (.tmp 4) = x := ⟨_, rfl⟩
 have q3 : At (Ty.val x1) s1 a1 (.tmp 4) := hx1
 have o1 : OwnP s1 4 x1 [(Ty.val (Value.slice none 0 0)), (Ty.val (Value.slice none 0 0)), (Ty.bool false)] := al2 (R := (Pr.ownp 4 [(Ty.val (Value.slice none 0 0)), (Ty.val (Value.slice none 0 0)), (Ty.bool false)])) hx1 (D1.done 0)
 clear D1
 refine tn ?_
 refine wp_seq ?_
 refine reg (a := a1) (σ := s1) rfl (fun i_ => List.getD [(Pr.ownp 5 [(Ty.val (Value.slice none 0 0)), (Ty.val (Value.slice none 0 0)), (Ty.bool false)])] i_ Pr.any) ok1 rfl ⟨?_, trivial⟩ ?_
 · intro ax tx hs okx sm
   exact run_plain rfl (y_alloc Try.inf148 rfl (alloc_vals (vs := [.slice none 0 0, .slice none 0 0, .bool false]) rfl))
 intro a2 s2 D2
 have ok2 := D2.ok
 have F2 := F1.step0 D2.stp
 have q4 : At (Ty.int n) s2 a2 (.tmp 0) := D2.kt q1 rfl
 have q5 : At (Ty.val (Value.string s)) s2 a2 (.tmp 1) := D2.kt q2 rfl
 have q6 : At (Ty.val x1) s2 a2 (.tmp 4) := D2.kt q3 rfl
 have o2 := OwnP.k0 o1 D2.stp
 obtain ⟨x2, hx2⟩ : ∃ x, a2.eval (.tmp 6) = x := ⟨_, rfl⟩
 have q7 : At (Ty.val x2) s2 a2 (.tmp 6) := hx2
 have o3 : OwnP s2 5 x2 [(Ty.val (Value.slice none 0 0)), (Ty.val (Value.slice none 0 0)), (Ty.bool false)] := al2 (R := (Pr.ownp 5 [(Ty.val (Value.slice none 0 0)), (Ty.val (Value.slice none 0 0)), (Ty.bool false)])) hx2 (D2.done 0)
 clear D2
 refine tn ?_
 refine wp_seq ?_
 refine wp_seq ?_
 refine reg (a := a2) (σ := s2) rfl (fun i_ => List.getD [(Ty.pr (Ty.int n)), (Ty.pr (Ty.bool (decide (n < (1 : Int))))), (Ty.pr (Ty.bool (decide (n < (1 : Int))))), (Ty.pr (Ty.grd ((decide (n < (1 : Int))) = false) (Ty.int n))), (Ty.pr (Ty.grd ((decide (n < (1 : Int))) = false) (Ty.bool (decide ((12 : Int) < n))))), (Ty.pr (Ty.bool ((decide (n < (1 : Int))) || (decide ((12 : Int) < n)))))] i_ Pr.any) ok2 rfl ⟨?_, ?_, ?_, ?_, ?_, ?_, trivial⟩ ?_
 · intro ax tx hs okx sm
   exact run_plain rfl (y_move (kp (sm 0 rfl) hs q4))
 · intro ax tx hs okx sm d0
   have e0 : At (Ty.int n) tx ax (.tmp 12) := d0 rfl
   exact run_plain rfl (y_lss e0 rfl)
 · intro ax tx hs okx sm d0
   have e1 : At (Ty.bool (decide (n < (1 : Int)))) tx ax (.tmp 13) := d0 rfl
   exact run_plain rfl (y_move e1)
 · intro ax tx hs okx sm d0
   have e2 : At (Ty.bool (decide (n < (1 : Int)))) tx ax (.tmp 14) := d0 rfl
   refine run_guard (T := (Ty.int n)) okx rfl rfl (by decide) e2 (fun hg => ?_)
   have hp := of_decide_eq_false hg
   exact y_move (kp (sm 0 rfl) hs q4)
 · intro ax tx hs okx sm d0 d1
   have e3 : At (Ty.grd ((decide (n < (1 : Int))) = false) (Ty.int n)) tx ax (.tmp 15) := d0 rfl
   have e2 : At (Ty.bool (decide (n < (1 : Int)))) tx ax (.tmp 14) := d1 rfl
   refine run_guard (T := (Ty.bool (decide ((12 : Int) < n)))) okx rfl rfl (by decide) e2 (fun hg => ?_)
   have hp := of_decide_eq_false hg
   exact y_gtr (e3.1 hg) rfl
 · intro ax tx hs okx sm d0 d1
   have e2 : At (Ty.bool (decide (n < (1 : Int)))) tx ax (.tmp 14) := d0 rfl
   have e4 : At (Ty.grd ((decide (n < (1 : Int))) = false) (Ty.bool (decide ((12 : Int) < n)))) tx ax (.tmp 16) := d1 rfl
   exact run_plain rfl (y_pick_or e2 rfl e4)
 intro a3 s3 D3
 have ok3 := D3.ok
 have F3 := F2.step0 D3.stp
 have q8 : At (Ty.int n) s3 a3 (.tmp 0) := D3.kt q4 rfl
 have q9 : At (Ty.val (Value.string s)) s3 a3 (.tmp 1) := D3.kt q5 rfl
 have q10 : At (Ty.val x1) s3 a3 (.tmp 4) := D3.kt q6 rfl
 have q11 : At (Ty.val x2) s3 a3 (.tmp 6) := D3.kt q7 rfl
 have o4 := OwnP.k0 o2 D3.stp
 have o5 := OwnP.k0 o3 D3.stp
 have q12 : At (Ty.bool ((decide (n < (1 : Int))) || (decide ((12 : Int) < n)))) s3 a3 (.tmp 17) := D3.done 5
 clear D3
 refine tn ?_
 refine cond_t q12 (fun c1 => ?_) (fun c1 => ?_)
 ·
  simp only [Bool.or_eq_true, decide_eq_true_eq] at c1
  refine wp_seq ?_
  refine reg2 (a := a3) (σ := s3) rfl 1 (fun i_ => List.getD [(Ty.pr (Ty.agg [(Ty.val (Value.slice none 0 0)), (Ty.val (Value.slice none 0 0)), (Ty.bool false)]))] i_ Pr.any) ok3 rfl (by decide) rfl ⟨?_, trivial⟩ ?_
  · intro ax tx hs okx sm
    exact run_plain rfl (ownp_loadagg Try.underlying148 Try.inf148 (OwnP.k0 o5 hs) (kp (sm 6 rfl) hs q11))
  intro a4 s4 D4
  have ok4 := D4.ok
  have F4 := F3.step0 D4.stp
  have q13 : At (Ty.val x1) s4 a4 (.tmp 4) := D4.kt q10 rfl
  have o6 := OwnP.k0 o4 D4.stp
  have o7 := OwnP.k0 o5 D4.stp
  have q14 : At (Ty.agg [(Ty.val (Value.slice none 0 0)), (Ty.val (Value.slice none 0 0)), (Ty.bool false)]) s4 a4 (.tmp 18) := D4.done 0 (by decide)
  clear D4
  refine tailL0 (L := [4]) (R := (fun _ τ => OwnP τ 4 x1 [(Ty.val (Value.slice none 0 0)), (Ty.val (Value.slice none 0 0)), (Ty.bool false)])) rfl rfl (YldM.toL (m_storeagg Try.inf148 (by decide) o6 q13 rfl q14 (by intro U hU; simp only [List.mem_cons, List.not_mem_nil, or_false] at hU; rcases hU with rfl | rfl | rfl <;> first | exact one_val rfl | exact one_sl | exact one_ref))) (fun v1 s5 hs1 r1 => ?_)
  have F5 := F4.stepL hs1 (by decide)
  have q15 : At (Ty.val x1) s5 a4 (.tmp 4) := kpL hs1 (by decide) rfl q13
  have o9 := OwnP.keepL o7 hs1 (by decide) (by decide)
  have o8 : OwnP s5 4 x1 [(Ty.val (Value.slice none 0 0)), (Ty.val (Value.slice none 0 0)), (Ty.bool false)] := r1
  clear r1
  refine tailL (L := []) (R := (fun v τ => Pr.has (Ty.pr (Ty.int (1 : Int))) τ v)) rfl rfl (by decide) ok4 (Yld.toL (y_assign rfl)) (fun a5 s6 hs2 ok5 r2 sm1 => ?_)
  have F6 := F5.stepL hs2 (by decide)
  have q17 : At (Ty.val x1) s6 a5 (.tmp 4) := kpL hs2 (by decide) (sm1 4 (by decide)) q15
  have o10 := OwnP.keepL o9 hs2 (by decide) (by decide)
  have o11 := OwnP.keepL o8 hs2 (by decide) (by decide)
  have q18 : At (Ty.int (1 : Int)) s6 a5 (.tmp 5) := r2
  clear r2
  refine wpList_nil ?_
  refine tn ?_
  refine wp_ret ?_
  refine tr ?_
  have o12 : OwnP s6 4 x1 [(Ty.val (Value.slice none 0 0)), (Ty.val (Value.slice none 0 0)), (Ty.bool false)] := o11
  have o13 : OwnP s6 4 x1 [(Ty.lst Ty.int (([] : List Int))), (Ty.val (Value.slice none 0 0)), (Ty.bool false)] := ownp_cellq 0 (Ty.lst Ty.int (([] : List Int))) o12 rfl (nil_has (by first | rfl | omega | (simp_all; done)))
  have o14 : OwnP s6 4 x1 [(Ty.lst Ty.int (([] : List Int))), (Ty.lst Ty.int (([] : List Int))), (Ty.bool false)] := ownp_cellq 1 (Ty.lst Ty.int (([] : List Int))) o13 rfl (nil_has (by first | rfl | omega | (simp_all; done)))
  have o15 : OwnP s6 4 x1 [(Ty.lst Ty.int (([] : List Int))), (Ty.lst Ty.int (([] : List Int))), (Ty.bool (false))] := cvop (by rw [show (Ty.bool false) = (Ty.bool (false)) from by (first | rfl | omega | (simp_all; done))]) o14
  exact retL2c (k := 4) (ts := [(Ty.lst Ty.int (([] : List Int))), (Ty.lst Ty.int (([] : List Int))), (Ty.bool (false))]) rfl ok5 F6 Try.underlying148 Try.inf148 (al (R := (Pr.ownp 4 [(Ty.lst Ty.int (([] : List Int))), (Ty.lst Ty.int (([] : List Int))), (Ty.bool (false))])) q17 o15) (fun v_ hv_ => ⟨([] : List Int), ([] : List Int), false, (hasT2 hv_ (cvi (by (exact (patMay_cnt (by omega)).symm)) q18)), (by intro h_; rw [patMay_cnt (by omega)] at h_; omega)⟩)
 ·
  obtain ⟨d1, d2⟩ := Bool.or_eq_false_iff.mp c1
  replace d1 := of_decide_eq_false d1
  replace d2 := of_decide_eq_false d2
  simp only [Bool.or_eq_false_iff, decide_eq_false_iff_not] at c1; have hx1 : ¬ (n < 1 ∨ 12 < n) := (by omega)
  refine wp_skip ?_
  refine tn ?_
  refine wp_seq ?_
  refine reg2 (a := a3) (σ := s3) rfl 1 (fun i_ => List.getD [(Pr.ownm Ty.int kI 8 (fun _ => none : Int → Option Int))] i_ Pr.any) ok3 rfl (by decide) rfl ⟨?_, trivial⟩ ?_
  · intro ax tx hs okx sm
    exact run_plain rfl (y_makemap 8)
  intro a6 s7 D5
  have ok6 := D5.ok
  have F7 := F3.step0 D5.stp
  have q19 : At (Ty.int n) s7 a6 (.tmp 0) := D5.kt q8 rfl
  have q20 : At (Ty.val (Value.string s)) s7 a6 (.tmp 1) := D5.kt q9 rfl
  have q21 : At (Ty.val x1) s7 a6 (.tmp 4) := D5.kt q10 rfl
  have q22 : At (Ty.val x2) s7 a6 (.tmp 6) := D5.kt q11 rfl
  have o16 := OwnP.k0 o4 D5.stp
  have o17 := OwnP.k0 o5 D5.stp
  obtain ⟨x3, hx3⟩ : ∃ x, a6.eval (.tmp 19) = x := ⟨_, rfl⟩
  have q23 : At (Ty.val x3) s7 a6 (.tmp 19) := hx3
  have o18 : OwnM Ty.int kI s7 8 x3 (fun _ => none : Int → Option Int) := al2 (R := (Pr.ownm Ty.int kI 8 (fun _ => none : Int → Option Int))) hx3 (D5.done 0 (by decide))
  clear D5
  refine tailL (L := []) (R := (fun v τ => Pr.has (Ty.pr (Ty.val x3)) τ v)) rfl rfl (by decide) ok6 (Yld.toL (y_assign q23)) (fun a7 s8 hs3 ok7 r3 sm2 => ?_)
  have F8 := F7.stepL hs3 (by decide)
  have q24 : At (Ty.int n) s8 a7 (.tmp 0) := kpL hs3 (by decide) (sm2 0 (by decide)) q19
  have q25 : At (Ty.val (Value.string s)) s8 a7 (.tmp 1) := kpL hs3 (by decide) (sm2 1 (by decide)) q20
  have q26 : At (Ty.val x1) s8 a7 (.tmp 4) := kpL hs3 (by decide) (sm2 4 (by decide)) q21
  have q27 : At (Ty.val x2) s8 a7 (.tmp 6) := kpL hs3 (by decide) (sm2 6 (by decide)) q22
  have o19 := OwnP.keepL o16 hs3 (by decide) (by decide)
  have o20 := OwnP.keepL o17 hs3 (by decide) (by decide)
  have o21 := OwnM.keepL o18 hs3 (by decide) (by decide)
  have q28 : At (Ty.val x3) s8 a7 (.tmp 7) := r3
  clear r3
  refine wpList_nil ?_
  refine tn ?_
  refine wp_seq ?_
  refine wp_seq ?_
  refine reg (a := a7) (σ := s8) rfl (fun i_ => List.getD [(Ty.pr (Ty.val (Value.string s))), (Pr.iter 9 s 0)] i_ Pr.any) ok7 rfl ⟨?_, ?_, trivial⟩ ?_
  · intro ax tx hs okx sm
    exact run_plain rfl (y_move (kp (sm 1 rfl) hs q25))
  · intro ax tx hs okx sm d0
    have e0 : At (Ty.val (Value.string s)) tx ax (.tmp 20) := d0 rfl
    exact run_plain rfl (y_range 9 Try.underlying9 e0)
  intro a8 s9 D6
  have ok8 := D6.ok
  have F9 := F8.step0 D6.stp
  have q29 : At (Ty.int n) s9 a8 (.tmp 0) := D6.kt q24 rfl
  have q30 : At (Ty.val x1) s9 a8 (.tmp 4) := D6.kt q26 rfl
  have q31 : At (Ty.val x2) s9 a8 (.tmp 6) := D6.kt q27 rfl
  have q32 : At (Ty.val x3) s9 a8 (.tmp 7) := D6.kt q28 rfl
  have o22 := OwnP.k0 o19 D6.stp
  have o23 := OwnP.k0 o20 D6.stp
  have o24 := OwnM.k0 o21 D6.stp
  obtain ⟨x4, hx4⟩ : ∃ x, a8.eval (.tmp 21) = x := ⟨_, rfl⟩
  have q33 : At (Ty.val x4) s9 a8 (.tmp 21) := hx4
  have o25 : Iter s9 9 x4 s 0 := al2 (R := (Pr.iter 9 s 0)) hx4 (D6.done 1)
  clear D6
  refine tn ?_
  refine wp_block ?_
  have o26 : Own s9 6 3 1 (Value.slice none 0 0) 0 (List.map Ty.int ([] : List Int)) := Own.nil _ _ _ _
  have o27 : Own s9 7 3 1 (Value.slice none 0 0) 0 (List.map Ty.int ([] : List Int)) := Own.nil _ _ _ _
  refine loop (fun n1 a9 w1 => ∃ (t1 : GW) (p : Nat) (f : Nat) (xs : List Int) (xf xb : Value), t1.w = w1 ∧ FromL [] σ t1 ∧ Ok 94 a9 ∧ At (Ty.int n) t1 a9 (.tmp 0) ∧ At (Ty.val x1) t1 a9 (.tmp 4) ∧ At (Ty.val x2) t1 a9 (.tmp 6) ∧ At (Ty.val x3) t1 a9 (.tmp 7) ∧ At (Ty.val x4) t1 a9 (.tmp 21) ∧ OwnP t1 5 x2 [(Ty.val xf), (Ty.val xb), (Ty.bool (hasS xs))] ∧ Own t1 6 3 1 xf (List.length (List.map bellQ (frR xs))) (List.map Ty.int (List.map bellQ (frR xs))) ∧ Own t1 7 3 1 xb (List.length (List.map bellQ (bkR xs))) (List.map Ty.int (List.map bellQ (bkR xs))) ∧ OwnM Ty.int kI t1 8 x3 (seenF xs) ∧ Iter t1 9 x4 s p ∧ OwnP t1 4 x1 [(Ty.val (Value.slice none 0 0)), (Ty.val (Value.slice none 0 0)), (Ty.bool false)] ∧ (peF n xs (runsF s f p) = peF n [] L) ∧ (xs ++ runsF s f p = L) ∧ (s.size ≤ f + p) ∧ (p ≤ s.size) ∧ (xs.length ≤ p) ∧ n1 = s.size + 1 - p) (s.size + 1 - (0)) ?_ ?_
  ·
   exact ⟨s9, 0, s.size, ([] : List Int), (Value.slice none 0 0), (Value.slice none 0 0), rfl, F9, ok8, q29, q30, q31, q32, q33, (ownp_cell 2 (Ty.bool (hasS (([] : List Int)))) o23 rfl (fun _ _ h => (cvb (by (rfl)) h))), (cvo (by (rfl)) (by (rfl)) o26), (cvo (by (rfl)) (by (rfl)) o27), (cvm (by (exact seen_nil.symm)) o24), (cvit (by omega) o25), o22, by rw [hL]; rfl, by rw [hL]; rfl, by omega, by omega, by simp, rfl⟩
  ·
   rintro n2 a10 w2 ⟨t2, p, f, xs, xf, xb, rfl, F10, ok9, q34, q35, q36, q37, q38, o28, o29, o30, o31, o32, o33, hpe, heq, hf, hp, hx, rfl⟩
   have hw := wid_pos s p
   obtain ⟨rs1, rs2, rs3⟩ := run_same s p
   have hrb := run1_bd s p
   have hfl := frbk_len xs
   have hlf : (List.map bellQ (frR xs)).length = (frR xs).length := List.length_map ..
   have hlb : (List.map bellQ (bkR xs)).length = (bkR xs).length := List.length_map ..
   refine wp_seq ?_
   refine reg2 (a := a10) (σ := t2) rfl 0 (fun i_ => List.getD [] i_ Pr.any) ok9 rfl (by decide) rfl trivial ?_
   intro a11 s10 D7
   have ok10 := D7.ok
   have F11 := F10.step0 D7.stp
   have q39 : At (Ty.int n) s10 a11 (.tmp 0) := D7.kt q34 rfl
   have q40 : At (Ty.val x1) s10 a11 (.tmp 4) := D7.kt q35 rfl
   have q41 : At (Ty.val x2) s10 a11 (.tmp 6) := D7.kt q36 rfl
   have q42 : At (Ty.val x3) s10 a11 (.tmp 7) := D7.kt q37 rfl
   have q43 : At (Ty.val x4) s10 a11 (.tmp 21) := D7.kt q38 rfl
   have o34 := OwnP.k0 o28 D7.stp
   have o35 := Own.k0 o29 D7.stp
   have o36 := Own.k0 o30 D7.stp
   have o37 := OwnM.k0 o31 D7.stp
   have o38 := Iter.k0 o32 D7.stp
   have o39 := OwnP.k0 o33 D7.stp
   clear D7
   refine tailL (L := [9]) (R := (fun v τ => (Ty.nxt (decide (p < s.size)) p (run1 s p)).has τ v ∧ Iter τ 9 x4 s (stepTo s p))) rfl rfl (by decide) ok10 (YldM.toL (m_next (by decide) o38 q43)) (fun a12 s11 hs4 ok11 r4 sm3 => ?_)
   have F12 := F11.stepL hs4 (by decide)
   have q44 : At (Ty.int n) s11 a12 (.tmp 0) := kpL hs4 (by decide) (sm3 0 (by decide)) q39
   have q45 : At (Ty.val x1) s11 a12 (.tmp 4) := kpL hs4 (by decide) (sm3 4 (by decide)) q40
   have q46 : At (Ty.val x2) s11 a12 (.tmp 6) := kpL hs4 (by decide) (sm3 6 (by decide)) q41
   have q47 : At (Ty.val x3) s11 a12 (.tmp 7) := kpL hs4 (by decide) (sm3 7 (by decide)) q42
   have q48 : At (Ty.val x4) s11 a12 (.tmp 21) := kpL hs4 (by decide) (sm3 21 (by decide)) q43
   have o41 := OwnP.keepL o34 hs4 (by decide) (by decide)
   have o42 := Own.keepL o35 hs4 (by decide) (by decide)
   have o43 := Own.keepL o36 hs4 (by decide) (by decide)
   have o44 := OwnM.keepL o37 hs4 (by decide) (by decide)
   have o45 := OwnP.keepL o39 hs4 (by decide) (by decide)
   have q49 : At (Ty.nxt (decide (p < s.size)) p (run1 s p)) s11 a12 (.tmp 22) := (r4).1
   have o40 : Iter s11 9 x4 s (stepTo s p) := (r4).2
   clear r4
   refine tailL (L := []) (R := (fun v τ => Pr.has (Ty.pr (Ty.bool (decide (p < s.size)))) τ v)) rfl rfl (by decide) ok11 (Yld.toL (y_ext_n0 q49)) (fun a13 s12 hs5 ok12 r5 sm4 => ?_)
   have F13 := F12.stepL hs5 (by decide)
   have q50 : At (Ty.int n) s12 a13 (.tmp 0) := kpL hs5 (by decide) (sm4 0 (by decide)) q44
   have q51 : At (Ty.val x1) s12 a13 (.tmp 4) := kpL hs5 (by decide) (sm4 4 (by decide)) q45
   have q52 : At (Ty.val x2) s12 a13 (.tmp 6) := kpL hs5 (by decide) (sm4 6 (by decide)) q46
   have q53 : At (Ty.val x3) s12 a13 (.tmp 7) := kpL hs5 (by decide) (sm4 7 (by decide)) q47
   have q54 : At (Ty.val x4) s12 a13 (.tmp 21) := kpL hs5 (by decide) (sm4 21 (by decide)) q48
   have q55 : At (Ty.nxt (decide (p < s.size)) p (run1 s p)) s12 a13 (.tmp 22) := kpL hs5 (by decide) (sm4 22 (by decide)) q49
   have o46 := OwnP.keepL o41 hs5 (by decide) (by decide)
   have o47 := Own.keepL o42 hs5 (by decide) (by decide)
   have o48 := Own.keepL o43 hs5 (by decide) (by decide)
   have o49 := OwnM.keepL o44 hs5 (by decide) (by decide)
   have o50 := OwnP.keepL o45 hs5 (by decide) (by decide)
   have o51 := Iter.keepL o40 hs5 (by decide) (by decide)
   have q56 : At (Ty.bool (decide (p < s.size))) s12 a13 (.tmp 23) := r5
   clear r5
   refine wpList_nil ?_
   refine tn ?_
   refine wp_seq ?_
   refine cond_p (p := (p < s.size)) q56 (fun c2 => ?_) (fun c2 => ?_)
   ·
    rw [runsF_cons (by omega) hf] at hpe; have hwi := wid_in (s := s) (p := p) (by omega)
    refine wp_skip ?_
    refine tn ?_
    refine wp_block ?_
    refine wp_seq ?_
    refine reg (a := a13) (σ := s12) rfl (fun i_ => List.getD [(Ty.pr (Ty.val (Value.int .i32 ((run1 s p : Nat) : Int)))), (Ty.pr (Ty.val (Value.int .i32 ((run1 s p : Nat) : Int))))] i_ Pr.any) ok12 rfl ⟨?_, ?_, trivial⟩ ?_
    · intro ax tx hs okx sm
      exact run_plain rfl (y_ext_n2 (kp (sm 22 rfl) hs q55) (decide_eq_true (by omega)))
    · intro ax tx hs okx sm d0 d1
      have e0 : At (Ty.val (Value.int .i32 ((run1 s p : Nat) : Int))) tx ax (.tmp 24) := d0 rfl
      exact run_plain rfl (y_assign e0)
    intro a14 s13 D8
    have ok13 := D8.ok
    have F14 := F13.step0 D8.stp
    have q57 : At (Ty.int n) s13 a14 (.tmp 0) := D8.kt q50 rfl
    have q58 : At (Ty.val x1) s13 a14 (.tmp 4) := D8.kt q51 rfl
    have q59 : At (Ty.val x2) s13 a14 (.tmp 6) := D8.kt q52 rfl
    have q60 : At (Ty.val x3) s13 a14 (.tmp 7) := D8.kt q53 rfl
    have q61 : At (Ty.val x4) s13 a14 (.tmp 21) := D8.kt q54 rfl
    have o52 := OwnP.k0 o46 D8.stp
    have o53 := Own.k0 o47 D8.stp
    have o54 := Own.k0 o48 D8.stp
    have o55 := OwnM.k0 o49 D8.stp
    have o56 := OwnP.k0 o50 D8.stp
    have o57 := Iter.k0 o51 D8.stp
    have q62 : At (Ty.val (Value.int .i32 ((run1 s p : Nat) : Int))) s13 a14 (.tmp 9) := D8.done 1
    clear D8
    refine tn ?_
    refine wp_seq ?_
    refine reg (a := a14) (σ := s13) rfl (fun i_ => List.getD [(Ty.pr (Ty.val (Value.int .i32 ((run1 s p : Nat) : Int)))), (Ty.pr (Ty.int (signIdx (((run1 s p : Nat) : Int))))), (Ty.pr (Ty.int (signIdx (((run1 s p : Nat) : Int)))))] i_ Pr.any) ok13 rfl ⟨?_, ?_, ?_, trivial⟩ ?_
    · intro ax tx hs okx sm
      exact run_plain rfl (y_move (kp (sm 9 rfl) hs q62))
    · intro ax tx hs okx sm d0
      have e0 : At (Ty.val (Value.int .i32 ((run1 s p : Nat) : Int))) tx ax (.tmp 25) := d0 rfl
      exact run_plain rfl (y_call #[ax.eval (.tmp 25)] Try.func101 rfl rfl (by simp only [List.map_toArray, List.map_cons, List.map_nil]) (sign_fn (((run1 s p : Nat) : Int)) _ _ (cvi (σ := tx) (by omega) e0) (by omega)))
    · intro ax tx hs okx sm d0 d1 d2 d3
      have e1 : At (Ty.int (signIdx (((run1 s p : Nat) : Int)))) tx ax (.tmp 26) := d0 rfl
      have e0 : At (Ty.val (Value.int .i32 ((run1 s p : Nat) : Int))) tx ax (.tmp 25) := d2 rfl
      exact run_plain rfl (y_assign e1)
    intro a15 s14 D9
    have ok14 := D9.ok
    have F15 := F14.step0 D9.stp
    have q63 : At (Ty.int n) s14 a15 (.tmp 0) := D9.kt q57 rfl
    have q64 : At (Ty.val x1) s14 a15 (.tmp 4) := D9.kt q58 rfl
    have q65 : At (Ty.val x2) s14 a15 (.tmp 6) := D9.kt q59 rfl
    have q66 : At (Ty.val x3) s14 a15 (.tmp 7) := D9.kt q60 rfl
    have q67 : At (Ty.val x4) s14 a15 (.tmp 21) := D9.kt q61 rfl
    have q68 : At (Ty.val (Value.int .i32 ((run1 s p : Nat) : Int))) s14 a15 (.tmp 9) := D9.kt q62 rfl
    have o58 := OwnP.k0 o52 D9.stp
    have o59 := Own.k0 o53 D9.stp
    have o60 := Own.k0 o54 D9.stp
    have o61 := OwnM.k0 o55 D9.stp
    have o62 := OwnP.k0 o56 D9.stp
    have o63 := Iter.k0 o57 D9.stp
    have q69 : At (Ty.int (signIdx (((run1 s p : Nat) : Int)))) s14 a15 (.tmp 10) := D9.done 2
    clear D9
    refine tn ?_
    refine wp_seq ?_
    refine wp_block ?_
    refine wp_seq ?_
    refine reg (a := a15) (σ := s14) rfl (fun i_ => List.getD [(Ty.pr (Ty.val (Value.int .i32 ((run1 s p : Nat) : Int)))), (Ty.pr (Ty.bool (decide (((run1 s p : Nat) : Int) = (42 : Int))))), (Ty.pr (Ty.bool (decide (((run1 s p : Nat) : Int) = (42 : Int))))), (Ty.pr (Ty.grd ((decide (((run1 s p : Nat) : Int) = (42 : Int))) = true) (Ty.val (ptrAt x2 2)))), (Ty.pr (Ty.grd ((decide (((run1 s p : Nat) : Int) = (42 : Int))) = true) (Ty.bool (hasS xs)))), (Ty.pr (Ty.grd ((decide (((run1 s p : Nat) : Int) = (42 : Int))) = true) (Ty.bool (!(hasS xs))))), (Ty.pr (Ty.bool ((decide (((run1 s p : Nat) : Int) = (42 : Int))) && (!(hasS xs))))), (Ty.pr (Ty.bool ((decide (((run1 s p : Nat) : Int) = (42 : Int))) && (!(hasS xs)))))] i_ Pr.any) ok14 rfl ⟨?_, ?_, ?_, ?_, ?_, ?_, ?_, ?_, trivial⟩ ?_
    · intro ax tx hs okx sm
      exact run_plain rfl (y_move (kp (sm 9 rfl) hs q68))
    · intro ax tx hs okx sm d0
      have e0 : At (Ty.val (Value.int .i32 ((run1 s p : Nat) : Int))) tx ax (.tmp 32) := d0 rfl
      exact run_plain rfl (y_eql e0 rfl)
    · intro ax tx hs okx sm d0
      have e1 : At (Ty.bool (decide (((run1 s p : Nat) : Int) = (42 : Int)))) tx ax (.tmp 33) := d0 rfl
      exact run_plain rfl (y_move e1)
    · intro ax tx hs okx sm d0
      have e2 : At (Ty.bool (decide (((run1 s p : Nat) : Int) = (42 : Int)))) tx ax (.tmp 34) := d0 rfl
      refine run_guard (T := (Ty.val (ptrAt x2 2))) okx rfl rfl (by decide) e2 (fun hg => ?_)
      have hp := of_decide_eq_true hg
      exact ownp_field Try.fld148_2 Try.inf4 (by decide) (OwnP.k0 o58 hs) (kp (sm 6 rfl) hs q65)
    · intro ax tx hs okx sm d0 d1
      have e3 : At (Ty.grd ((decide (((run1 s p : Nat) : Int) = (42 : Int))) = true) (Ty.val (ptrAt x2 2))) tx ax (.tmp 35) := d0 rfl
      have e2 : At (Ty.bool (decide (((run1 s p : Nat) : Int) = (42 : Int)))) tx ax (.tmp 34) := d1 rfl
      refine run_guard (T := (Ty.bool (hasS xs))) okx rfl rfl (by decide) e2 (fun hg => ?_)
      have hp := of_decide_eq_true hg
      exact ownp_load Try.underlying4 rfl (OwnP.k0 o58 hs) (e3.1 hg) rfl
    · intro ax tx hs okx sm d0 d1
      have e4 : At (Ty.grd ((decide (((run1 s p : Nat) : Int) = (42 : Int))) = true) (Ty.bool (hasS xs))) tx ax (.tmp 36) := d0 rfl
      have e2 : At (Ty.bool (decide (((run1 s p : Nat) : Int) = (42 : Int)))) tx ax (.tmp 34) := d1 rfl
      refine run_guard (T := (Ty.bool (!(hasS xs)))) okx rfl rfl (by decide) e2 (fun hg => ?_)
      have hp := of_decide_eq_true hg
      exact y_not (e4.1 hg)
    · intro ax tx hs okx sm d0 d1
      have e2 : At (Ty.bool (decide (((run1 s p : Nat) : Int) = (42 : Int)))) tx ax (.tmp 34) := d0 rfl
      have e5 : At (Ty.grd ((decide (((run1 s p : Nat) : Int) = (42 : Int))) = true) (Ty.bool (!(hasS xs)))) tx ax (.tmp 37) := d1 rfl
      exact run_plain rfl (y_pick_and e2 e5 rfl)
    · intro ax tx hs okx sm d0 d1
      have e6 : At (Ty.bool ((decide (((run1 s p : Nat) : Int) = (42 : Int))) && (!(hasS xs)))) tx ax (.tmp 38) := d0 rfl
      have e2 : At (Ty.bool (decide (((run1 s p : Nat) : Int) = (42 : Int)))) tx ax (.tmp 34) := d1 rfl
      exact run_plain rfl (y_assign e6)
    intro a16 s15 D10
    have ok15 := D10.ok
    have F16 := F15.step0 D10.stp
    have q70 : At (Ty.int n) s15 a16 (.tmp 0) := D10.kt q63 rfl
    have q71 : At (Ty.val x1) s15 a16 (.tmp 4) := D10.kt q64 rfl
    have q72 : At (Ty.val x2) s15 a16 (.tmp 6) := D10.kt q65 rfl
    have q73 : At (Ty.val x3) s15 a16 (.tmp 7) := D10.kt q66 rfl
    have q74 : At (Ty.val x4) s15 a16 (.tmp 21) := D10.kt q67 rfl
    have q75 : At (Ty.val (Value.int .i32 ((run1 s p : Nat) : Int))) s15 a16 (.tmp 9) := D10.kt q68 rfl
    have q76 : At (Ty.int (signIdx (((run1 s p : Nat) : Int)))) s15 a16 (.tmp 10) := D10.kt q69 rfl
    have o64 := OwnP.k0 o58 D10.stp
    have o65 := Own.k0 o59 D10.stp
    have o66 := Own.k0 o60 D10.stp
    have o67 := OwnM.k0 o61 D10.stp
    have o68 := OwnP.k0 o62 D10.stp
    have o69 := Iter.k0 o63 D10.stp
    have q77 : At (Ty.bool ((decide (((run1 s p : Nat) : Int) = (42 : Int))) && (!(hasS xs)))) s15 a16 (.tmp 31) := D10.done 7
    clear D10
    refine tn ?_
    refine cond_t q77 (fun c3 => ?_) (fun c3 => ?_)
    ·
     obtain ⟨d3, d4⟩ := Bool.and_eq_true_iff.mp c3
     replace d3 := of_decide_eq_true d3
     simp only [Bool.and_eq_true, decide_eq_true_eq, Bool.not_eq_true'] at c3; have hm : runM s p = 42 := rs2.2 c3.1; have hk := ok_star (n := n) hm (starN_0.2 c3.2); have hfb := frbk_star c3.2; rw [← hm] at hfb; have hsn : hasS (xs ++ [runM s p]) = true := (by rw [hm, hasS_snoc]; simp); have hse := seen_skip (xs := xs) (c := runM s p) (by rw [hm, sign_42]; decide)
     refine wp_seq ?_
     refine reg2 (a := a16) (σ := s15) rfl 1 (fun i_ => List.getD [(Ty.pr (Ty.val (ptrAt x2 2)))] i_ Pr.any) ok15 rfl (by decide) rfl ⟨?_, trivial⟩ ?_
     · intro ax tx hs okx sm
       exact run_plain rfl (ownp_field Try.fld148_2 Try.inf4 (by decide) (OwnP.k0 o64 hs) (kp (sm 6 rfl) hs q72))
     intro a17 s16 D11
     have ok16 := D11.ok
     have F17 := F16.step0 D11.stp
     have q78 : At (Ty.int n) s16 a17 (.tmp 0) := D11.kt q70 rfl
     have q79 : At (Ty.val x1) s16 a17 (.tmp 4) := D11.kt q71 rfl
     have q80 : At (Ty.val x2) s16 a17 (.tmp 6) := D11.kt q72 rfl
     have q81 : At (Ty.val x3) s16 a17 (.tmp 7) := D11.kt q73 rfl
     have q82 : At (Ty.val x4) s16 a17 (.tmp 21) := D11.kt q74 rfl
     have o70 := OwnP.k0 o64 D11.stp
     have o71 := Own.k0 o65 D11.stp
     have o72 := Own.k0 o66 D11.stp
     have o73 := OwnM.k0 o67 D11.stp
     have o74 := OwnP.k0 o68 D11.stp
     have o75 := Iter.k0 o69 D11.stp
     have q83 : At (Ty.val (ptrAt x2 2)) s16 a17 (.tmp 39) := D11.done 0 (by decide)
     clear D11
     refine tailL0 (L := [5]) (R := (fun _ τ => OwnP τ 5 x2 ([(Ty.val xf), (Ty.val xb), (Ty.bool (hasS xs))].set 2 (Ty.bool true)))) rfl rfl (YldM.toL (m_storep Try.inf4 (by decide) o70 q83 (Nat.le_of_ble_eq_true rfl) rfl (one_val rfl))) (fun v2 s17 hs6 r6 => ?_)
     have F18 := F17.stepL hs6 (by decide)
     have q84 : At (Ty.int n) s17 a17 (.tmp 0) := kpL hs6 (by decide) rfl q78
     have q85 : At (Ty.val x1) s17 a17 (.tmp 4) := kpL hs6 (by decide) rfl q79
     have q86 : At (Ty.val x2) s17 a17 (.tmp 6) := kpL hs6 (by decide) rfl q80
     have q87 : At (Ty.val x3) s17 a17 (.tmp 7) := kpL hs6 (by decide) rfl q81
     have q88 : At (Ty.val x4) s17 a17 (.tmp 21) := kpL hs6 (by decide) rfl q82
     have o77 := Own.keepL o71 hs6 (by decide) (by decide)
     have o78 := Own.keepL o72 hs6 (by decide) (by decide)
     have o79 := OwnM.keepL o73 hs6 (by decide) (by decide)
     have o80 := OwnP.keepL o74 hs6 (by decide) (by decide)
     have o81 := Iter.keepL o75 hs6 (by decide) (by decide)
     have o76 : OwnP s17 5 x2 [(Ty.val xf), (Ty.val xb), (Ty.bool true)] := r6
     clear r6
     refine wpList_nil ?_
     refine tn ?_
     refine wp_exit ?_
     refine bo (by decide) ?_
     refine tx ?_
     refine bx ?_
     exact tn ⟨s.size + 1 - ((p + wid s p)), by omega, s17, (p + wid s p), (f - 1), (xs ++ [runM s p]), xf, xb, rfl, F18, ok16, q84, q85, q86, q87, q88, (ownp_cell 2 (Ty.bool (hasS ((xs ++ [runM s p])))) o76 rfl (fun _ _ h => (cvb (by (rw [hsn])) h))), (cvo (by (rw [hfb.1])) (by (rw [hfb.1])) o77), (cvo (by (rw [hfb.2])) (by (rw [hfb.2])) o78), (cvm (by (rw [hse])) o79), (cvit (by rw [stepTo, if_pos (by assumption)]) o81), o80, pe_go hpe hk, runsF_step heq (by omega) (by omega), by omega, by omega, by simp; omega, rfl⟩
    ·
     have hx3 : ¬ (runM s p = 42 ∧ starN xs = 0) := (by rintro ⟨a_, b_⟩; rw [starN_0] at b_; rw [rs2] at a_; simp [a_, b_] at c3)
     refine wp_seq ?_
     refine reg (a := a16) (σ := s15) rfl (fun i_ => List.getD [(Ty.pr (Ty.val (Value.int .i32 ((run1 s p : Nat) : Int)))), (Ty.pr (Ty.bool (decide (((run1 s p : Nat) : Int) = (63 : Int))))), (Ty.pr (Ty.bool (decide (((run1 s p : Nat) : Int) = (63 : Int)))))] i_ Pr.any) ok15 rfl ⟨?_, ?_, ?_, trivial⟩ ?_
     · intro ax tx hs okx sm
       exact run_plain rfl (y_move (kp (sm 9 rfl) hs q75))
     · intro ax tx hs okx sm d0
       have e0 : At (Ty.val (Value.int .i32 ((run1 s p : Nat) : Int))) tx ax (.tmp 41) := d0 rfl
       exact run_plain rfl (y_eql e0 rfl)
     · intro ax tx hs okx sm d0
       have e1 : At (Ty.bool (decide (((run1 s p : Nat) : Int) = (63 : Int)))) tx ax (.tmp 42) := d0 rfl
       exact run_plain rfl (y_assign e1)
     intro a18 s18 D12
     have ok17 := D12.ok
     have F19 := F16.step0 D12.stp
     have q90 : At (Ty.int n) s18 a18 (.tmp 0) := D12.kt q70 rfl
     have q91 : At (Ty.val x1) s18 a18 (.tmp 4) := D12.kt q71 rfl
     have q92 : At (Ty.val x2) s18 a18 (.tmp 6) := D12.kt q72 rfl
     have q93 : At (Ty.val x3) s18 a18 (.tmp 7) := D12.kt q73 rfl
     have q94 : At (Ty.val x4) s18 a18 (.tmp 21) := D12.kt q74 rfl
     have q95 : At (Ty.int (signIdx (((run1 s p : Nat) : Int)))) s18 a18 (.tmp 10) := D12.kt q76 rfl
     have o82 := OwnP.k0 o64 D12.stp
     have o83 := Own.k0 o65 D12.stp
     have o84 := Own.k0 o66 D12.stp
     have o85 := OwnM.k0 o67 D12.stp
     have o86 := OwnP.k0 o68 D12.stp
     have o87 := Iter.k0 o69 D12.stp
     have q96 : At (Ty.bool (decide (((run1 s p : Nat) : Int) = (63 : Int)))) s18 a18 (.tmp 40) := D12.done 2
     clear D12
     refine tn ?_
     refine cond_p (p := (((run1 s p : Nat) : Int) = (63 : Int))) q96 (fun c4 => ?_) (fun c4 => ?_)
     ·
      have hm := rs3.2 c4; have hk := ok_q (n := n) (xs := xs) hm; have hbq : bellQ (runM s p) = -1 := (by rw [hm]; rfl); have hn42 : runM s p ≠ 42 := (by omega); have hse := seen_skip (xs := xs) (c := runM s p) (by rw [hm, sign_63]; decide); have hsn : hasS (xs ++ [runM s p]) = hasS xs := (by rw [hasS_snoc]; simp [hn42])
      refine reg (a := a18) (σ := s18) rfl (fun i_ => List.getD [(Ty.pr (Ty.int (-1 : Int)))] i_ Pr.any) ok17 rfl ⟨?_, trivial⟩ ?_
      · intro ax tx hs okx sm
        exact run_plain rfl (y_assign rfl)
      intro a19 s19 D13
      have ok18 := D13.ok
      have F20 := F19.step0 D13.stp
      have q97 : At (Ty.int n) s19 a19 (.tmp 0) := D13.kt q90 rfl
      have q98 : At (Ty.val x1) s19 a19 (.tmp 4) := D13.kt q91 rfl
      have q99 : At (Ty.val x2) s19 a19 (.tmp 6) := D13.kt q92 rfl
      have q100 : At (Ty.val x3) s19 a19 (.tmp 7) := D13.kt q93 rfl
      have q101 : At (Ty.val x4) s19 a19 (.tmp 21) := D13.kt q94 rfl
      have o88 := OwnP.k0 o82 D13.stp
      have o89 := Own.k0 o83 D13.stp
      have o90 := Own.k0 o84 D13.stp
      have o91 := OwnM.k0 o85 D13.stp
      have o92 := OwnP.k0 o86 D13.stp
      have o93 := Iter.k0 o87 D13.stp
      have q102 : At (Ty.int (-1 : Int)) s19 a19 (.tmp 10) := D13.done 0
      clear D13
      refine bn ?_
      refine tn ?_
      refine wp_seq ?_
      refine reg (a := a19) (σ := s19) rfl (fun i_ => List.getD [(Ty.pr (Ty.val (ptrAt x2 2))), (Ty.pr (Ty.bool (hasS xs)))] i_ Pr.any) ok18 rfl ⟨?_, ?_, trivial⟩ ?_
      · intro ax tx hs okx sm
        exact run_plain rfl (ownp_field Try.fld148_2 Try.inf4 (by decide) (OwnP.k0 o88 hs) (kp (sm 6 rfl) hs q99))
      · intro ax tx hs okx sm d0
        have e0 : At (Ty.val (ptrAt x2 2)) tx ax (.tmp 58) := d0 rfl
        exact run_plain rfl (ownp_load Try.underlying4 rfl (OwnP.k0 o88 hs) e0 rfl)
      intro a20 s20 D14
      have ok19 := D14.ok
      have F21 := F20.step0 D14.stp
      have q103 : At (Ty.int n) s20 a20 (.tmp 0) := D14.kt q97 rfl
      have q104 : At (Ty.val x1) s20 a20 (.tmp 4) := D14.kt q98 rfl
      have q105 : At (Ty.val x2) s20 a20 (.tmp 6) := D14.kt q99 rfl
      have q106 : At (Ty.val x3) s20 a20 (.tmp 7) := D14.kt q100 rfl
      have q107 : At (Ty.val x4) s20 a20 (.tmp 21) := D14.kt q101 rfl
      have q108 : At (Ty.int (-1 : Int)) s20 a20 (.tmp 10) := D14.kt q102 rfl
      have o94 := OwnP.k0 o88 D14.stp
      have o95 := Own.k0 o89 D14.stp
      have o96 := Own.k0 o90 D14.stp
      have o97 := OwnM.k0 o91 D14.stp
      have o98 := OwnP.k0 o92 D14.stp
      have o99 := Iter.k0 o93 D14.stp
      have q109 : At (Ty.bool (hasS xs)) s20 a20 (.tmp 59) := D14.done 1
      clear D14
      refine tn ?_
      refine cond_t q109 (fun c5 => ?_) (fun c5 => ?_)
      ·
       have hfb := frbk_yes c5 (runM s p)
       refine reg2 (a := a20) (σ := s20) rfl 4 (fun i_ => List.getD [(Ty.pr (Ty.val (ptrAt x2 1))), (Ty.pr (Ty.val xb)), (Ty.pr (Ty.int (-1 : Int))), (Ty.pr (Ty.sl 1 1 [(Ty.int (-1 : Int))]))] i_ Pr.any) ok19 rfl (by decide) rfl ⟨?_, ?_, ?_, ?_, trivial⟩ ?_
       · intro ax tx hs okx sm
         exact run_plain rfl (ownp_field Try.fld148_1 Try.inf34 (by decide) (OwnP.k0 o94 hs) (kp (sm 6 rfl) hs q105))
       · intro ax tx hs okx sm d0
         have e0 : At (Ty.val (ptrAt x2 1)) tx ax (.tmp 60) := d0 rfl
         exact run_plain rfl (ownp_load Try.underlying34 rfl (OwnP.k0 o94 hs) e0 rfl)
       · intro ax tx hs okx sm
         exact run_plain rfl (y_move (kp (sm 10 rfl) hs q108))
       · intro ax tx hs okx sm d0
         have e2 : At (Ty.int (-1 : Int)) tx ax (.tmp 62) := d0 rfl
         exact run_plain rfl (y_build1o Try.underlying34 Try.inf3 rfl (one_val rfl) e2)
       intro a21 s21 D15
       have ok20 := D15.ok
       have F22 := F21.step0 D15.stp
       have q110 : At (Ty.int n) s21 a21 (.tmp 0) := D15.kt q103 rfl
       have q111 : At (Ty.val x1) s21 a21 (.tmp 4) := D15.kt q104 rfl
       have q112 : At (Ty.val x2) s21 a21 (.tmp 6) := D15.kt q105 rfl
       have q113 : At (Ty.val x3) s21 a21 (.tmp 7) := D15.kt q106 rfl
       have q114 : At (Ty.val x4) s21 a21 (.tmp 21) := D15.kt q107 rfl
       have o100 := OwnP.k0 o94 D15.stp
       have o101 := Own.k0 o95 D15.stp
       have o102 := Own.k0 o96 D15.stp
       have o103 := OwnM.k0 o97 D15.stp
       have o104 := OwnP.k0 o98 D15.stp
       have o105 := Iter.k0 o99 D15.stp
       have q115 : At (Ty.val xb) s21 a21 (.tmp 61) := D15.done 1 (by decide)
       have q116 : At (Ty.sl 1 1 [(Ty.int (-1 : Int))]) s21 a21 (.tmp 63) := D15.done 3 (by decide)
       have b1 := sl_le q116
       clear D15
       refine tailL (L := [7]) (R := (fun v τ => Own τ 7 3 1 v ((List.length (List.map bellQ (bkR xs))) + 1) ((List.map Ty.int (List.map bellQ (bkR xs))) ++ [(Ty.int (-1 : Int))]))) rfl rfl (by decide) ok20 (YldM.toL (m_append Try.underlying34 Try.inf3 (by decide) rfl (by decide) (al (R := (Pr.own 7 3 1 (List.length (List.map bellQ (bkR xs))) (List.map Ty.int (List.map bellQ (bkR xs))))) q115 o102) q116 (by intro U hU; simp at hU; subst hU; exact one_val rfl) (by omega) (by omega))) (fun a22 s22 hs7 ok21 r7 sm5 => ?_)
       have F23 := F22.stepL hs7 (by decide)
       have q117 : At (Ty.int n) s22 a22 (.tmp 0) := kpL hs7 (by decide) (sm5 0 (by decide)) q110
       have q118 : At (Ty.val x1) s22 a22 (.tmp 4) := kpL hs7 (by decide) (sm5 4 (by decide)) q111
       have q119 : At (Ty.val x2) s22 a22 (.tmp 6) := kpL hs7 (by decide) (sm5 6 (by decide)) q112
       have q120 : At (Ty.val x3) s22 a22 (.tmp 7) := kpL hs7 (by decide) (sm5 7 (by decide)) q113
       have q121 : At (Ty.val x4) s22 a22 (.tmp 21) := kpL hs7 (by decide) (sm5 21 (by decide)) q114
       have o107 := OwnP.keepL o100 hs7 (by decide) (by decide)
       have o108 := Own.keepL o101 hs7 (by decide) (by decide)
       have o109 := OwnM.keepL o103 hs7 (by decide) (by decide)
       have o110 := OwnP.keepL o104 hs7 (by decide) (by decide)
       have o111 := Iter.keepL o105 hs7 (by decide) (by decide)
       obtain ⟨x5, hx5⟩ : ∃ x, a22.eval (.tmp 64) = x := ⟨_, rfl⟩
       have q122 : At (Ty.val x5) s22 a22 (.tmp 64) := hx5
       have o106 : Own s22 7 3 1 x5 (List.length ((List.map bellQ (bkR xs)) ++ [(-1 : Int)])) (List.map Ty.int ((List.map bellQ (bkR xs)) ++ [(-1 : Int)])) := al2 (R := (Pr.own 7 3 1 (List.length ((List.map bellQ (bkR xs)) ++ [(-1 : Int)])) (List.map Ty.int ((List.map bellQ (bkR xs)) ++ [(-1 : Int)])))) hx5 (cvo (by simp) (by first | (rw [List.map_append]; rfl) | simp) r7)
       clear r7
       refine tailL (L := []) (R := (fun v τ => Pr.has (Ty.pr (Ty.val (ptrAt x2 1))) τ v)) rfl rfl (by decide) ok21 (Yld.toL (ownp_field Try.fld148_1 Try.inf34 (by decide) o107 q119)) (fun a23 s23 hs8 ok22 r8 sm6 => ?_)
       have F24 := F23.stepL hs8 (by decide)
       have q123 : At (Ty.int n) s23 a23 (.tmp 0) := kpL hs8 (by decide) (sm6 0 (by decide)) q117
       have q124 : At (Ty.val x1) s23 a23 (.tmp 4) := kpL hs8 (by decide) (sm6 4 (by decide)) q118
       have q125 : At (Ty.val x2) s23 a23 (.tmp 6) := kpL hs8 (by decide) (sm6 6 (by decide)) q119
       have q126 : At (Ty.val x3) s23 a23 (.tmp 7) := kpL hs8 (by decide) (sm6 7 (by decide)) q120
       have q127 : At (Ty.val x4) s23 a23 (.tmp 21) := kpL hs8 (by decide) (sm6 21 (by decide)) q121
       have q128 : At (Ty.val x5) s23 a23 (.tmp 64) := kpL hs8 (by decide) (sm6 64 (by decide)) q122
       have o112 := OwnP.keepL o107 hs8 (by decide) (by decide)
       have o113 := Own.keepL o108 hs8 (by decide) (by decide)
       have o114 := OwnM.keepL o109 hs8 (by decide) (by decide)
       have o115 := OwnP.keepL o110 hs8 (by decide) (by decide)
       have o116 := Iter.keepL o111 hs8 (by decide) (by decide)
       have o117 := Own.keepL o106 hs8 (by decide) (by decide)
       have q129 : At (Ty.val (ptrAt x2 1)) s23 a23 (.tmp 65) := r8
       clear r8
       refine tailL0 (L := [5]) (R := (fun _ τ => OwnP τ 5 x2 ([(Ty.val xf), (Ty.val xb), (Ty.bool (hasS xs))].set 1 (Ty.val x5)))) rfl rfl (YldM.toL (m_storep Try.inf34 (by decide) o112 q129 (Nat.le_of_ble_eq_true rfl) q128 (one_val (Own.one o117)))) (fun v3 s24 hs9 r9 => ?_)
       have F25 := F24.stepL hs9 (by decide)
       have q130 : At (Ty.int n) s24 a23 (.tmp 0) := kpL hs9 (by decide) rfl q123
       have q131 : At (Ty.val x1) s24 a23 (.tmp 4) := kpL hs9 (by decide) rfl q124
       have q132 : At (Ty.val x2) s24 a23 (.tmp 6) := kpL hs9 (by decide) rfl q125
       have q133 : At (Ty.val x3) s24 a23 (.tmp 7) := kpL hs9 (by decide) rfl q126
       have q134 : At (Ty.val x4) s24 a23 (.tmp 21) := kpL hs9 (by decide) rfl q127
       have o119 := Own.keepL o113 hs9 (by decide) (by decide)
       have o120 := OwnM.keepL o114 hs9 (by decide) (by decide)
       have o121 := OwnP.keepL o115 hs9 (by decide) (by decide)
       have o122 := Iter.keepL o116 hs9 (by decide) (by decide)
       have o123 := Own.keepL o117 hs9 (by decide) (by decide)
       have o118 : OwnP s24 5 x2 [(Ty.val xf), (Ty.val x5), (Ty.bool (hasS xs))] := r9
       clear r9
       refine wpList_nil ?_
       refine bn ?_
       exact tn ⟨s.size + 1 - ((p + wid s p)), by omega, s24, (p + wid s p), (f - 1), (xs ++ [runM s p]), xf, x5, rfl, F25, ok22, q130, q131, q132, q133, q134, (ownp_cell 2 (Ty.bool (hasS ((xs ++ [runM s p])))) o118 rfl (fun _ _ h => (cvb (by (rw [hsn])) h))), (cvo (by (rw [hfb.1])) (by (rw [hfb.1])) o119), (cvo (by (simp [hfb.2, hbq])) (by (simp [hfb.2, hbq])) o123), (cvm (by (rw [hse])) o120), (cvit (by rw [stepTo, if_pos (by assumption)]) o122), o121, pe_go hpe hk, runsF_step heq (by omega) (by omega), by omega, by omega, by simp; omega, rfl⟩
      ·
       have hfb := frbk_new c5 hn42
       refine reg2 (a := a20) (σ := s20) rfl 4 (fun i_ => List.getD [(Ty.pr (Ty.val (ptrAt x2 0))), (Ty.pr (Ty.val xf)), (Ty.pr (Ty.int (-1 : Int))), (Ty.pr (Ty.sl 1 1 [(Ty.int (-1 : Int))]))] i_ Pr.any) ok19 rfl (by decide) rfl ⟨?_, ?_, ?_, ?_, trivial⟩ ?_
       · intro ax tx hs okx sm
         exact run_plain rfl (ownp_field Try.fld148_0 Try.inf34 (by decide) (OwnP.k0 o94 hs) (kp (sm 6 rfl) hs q105))
       · intro ax tx hs okx sm d0
         have e0 : At (Ty.val (ptrAt x2 0)) tx ax (.tmp 66) := d0 rfl
         exact run_plain rfl (ownp_load Try.underlying34 rfl (OwnP.k0 o94 hs) e0 rfl)
       · intro ax tx hs okx sm
         exact run_plain rfl (y_move (kp (sm 10 rfl) hs q108))
       · intro ax tx hs okx sm d0
         have e2 : At (Ty.int (-1 : Int)) tx ax (.tmp 68) := d0 rfl
         exact run_plain rfl (y_build1o Try.underlying34 Try.inf3 rfl (one_val rfl) e2)
       intro a24 s25 D16
       have ok23 := D16.ok
       have F26 := F21.step0 D16.stp
       have q136 : At (Ty.int n) s25 a24 (.tmp 0) := D16.kt q103 rfl
       have q137 : At (Ty.val x1) s25 a24 (.tmp 4) := D16.kt q104 rfl
       have q138 : At (Ty.val x2) s25 a24 (.tmp 6) := D16.kt q105 rfl
       have q139 : At (Ty.val x3) s25 a24 (.tmp 7) := D16.kt q106 rfl
       have q140 : At (Ty.val x4) s25 a24 (.tmp 21) := D16.kt q107 rfl
       have o124 := OwnP.k0 o94 D16.stp
       have o125 := Own.k0 o95 D16.stp
       have o126 := Own.k0 o96 D16.stp
       have o127 := OwnM.k0 o97 D16.stp
       have o128 := OwnP.k0 o98 D16.stp
       have o129 := Iter.k0 o99 D16.stp
       have q141 : At (Ty.val xf) s25 a24 (.tmp 67) := D16.done 1 (by decide)
       have q142 : At (Ty.sl 1 1 [(Ty.int (-1 : Int))]) s25 a24 (.tmp 69) := D16.done 3 (by decide)
       have b2 := sl_le q142
       clear D16
       refine tailL (L := [6]) (R := (fun v τ => Own τ 6 3 1 v ((List.length (List.map bellQ (frR xs))) + 1) ((List.map Ty.int (List.map bellQ (frR xs))) ++ [(Ty.int (-1 : Int))]))) rfl rfl (by decide) ok23 (YldM.toL (m_append Try.underlying34 Try.inf3 (by decide) rfl (by decide) (al (R := (Pr.own 6 3 1 (List.length (List.map bellQ (frR xs))) (List.map Ty.int (List.map bellQ (frR xs))))) q141 o125) q142 (by intro U hU; simp at hU; subst hU; exact one_val rfl) (by omega) (by omega))) (fun a25 s26 hs10 ok24 r10 sm7 => ?_)
       have F27 := F26.stepL hs10 (by decide)
       have q143 : At (Ty.int n) s26 a25 (.tmp 0) := kpL hs10 (by decide) (sm7 0 (by decide)) q136
       have q144 : At (Ty.val x1) s26 a25 (.tmp 4) := kpL hs10 (by decide) (sm7 4 (by decide)) q137
       have q145 : At (Ty.val x2) s26 a25 (.tmp 6) := kpL hs10 (by decide) (sm7 6 (by decide)) q138
       have q146 : At (Ty.val x3) s26 a25 (.tmp 7) := kpL hs10 (by decide) (sm7 7 (by decide)) q139
       have q147 : At (Ty.val x4) s26 a25 (.tmp 21) := kpL hs10 (by decide) (sm7 21 (by decide)) q140
       have o131 := OwnP.keepL o124 hs10 (by decide) (by decide)
       have o132 := Own.keepL o126 hs10 (by decide) (by decide)
       have o133 := OwnM.keepL o127 hs10 (by decide) (by decide)
       have o134 := OwnP.keepL o128 hs10 (by decide) (by decide)
       have o135 := Iter.keepL o129 hs10 (by decide) (by decide)
       obtain ⟨x6, hx6⟩ : ∃ x, a25.eval (.tmp 70) = x := ⟨_, rfl⟩
       have q148 : At (Ty.val x6) s26 a25 (.tmp 70) := hx6
       have o130 : Own s26 6 3 1 x6 (List.length ((List.map bellQ (frR xs)) ++ [(-1 : Int)])) (List.map Ty.int ((List.map bellQ (frR xs)) ++ [(-1 : Int)])) := al2 (R := (Pr.own 6 3 1 (List.length ((List.map bellQ (frR xs)) ++ [(-1 : Int)])) (List.map Ty.int ((List.map bellQ (frR xs)) ++ [(-1 : Int)])))) hx6 (cvo (by simp) (by first | (rw [List.map_append]; rfl) | simp) r10)
       clear r10
       refine tailL (L := []) (R := (fun v τ => Pr.has (Ty.pr (Ty.val (ptrAt x2 0))) τ v)) rfl rfl (by decide) ok24 (Yld.toL (ownp_field Try.fld148_0 Try.inf34 (by decide) o131 q145)) (fun a26 s27 hs11 ok25 r11 sm8 => ?_)
       have F28 := F27.stepL hs11 (by decide)
       have q149 : At (Ty.int n) s27 a26 (.tmp 0) := kpL hs11 (by decide) (sm8 0 (by decide)) q143
       have q150 : At (Ty.val x1) s27 a26 (.tmp 4) := kpL hs11 (by decide) (sm8 4 (by decide)) q144
       have q151 : At (Ty.val x2) s27 a26 (.tmp 6) := kpL hs11 (by decide) (sm8 6 (by decide)) q145
       have q152 : At (Ty.val x3) s27 a26 (.tmp 7) := kpL hs11 (by decide) (sm8 7 (by decide)) q146
       have q153 : At (Ty.val x4) s27 a26 (.tmp 21) := kpL hs11 (by decide) (sm8 21 (by decide)) q147
       have q154 : At (Ty.val x6) s27 a26 (.tmp 70) := kpL hs11 (by decide) (sm8 70 (by decide)) q148
       have o136 := OwnP.keepL o131 hs11 (by decide) (by decide)
       have o137 := Own.keepL o132 hs11 (by decide) (by decide)
       have o138 := OwnM.keepL o133 hs11 (by decide) (by decide)
       have o139 := OwnP.keepL o134 hs11 (by decide) (by decide)
       have o140 := Iter.keepL o135 hs11 (by decide) (by decide)
       have o141 := Own.keepL o130 hs11 (by decide) (by decide)
       have q155 : At (Ty.val (ptrAt x2 0)) s27 a26 (.tmp 71) := r11
       clear r11
       refine tailL0 (L := [5]) (R := (fun _ τ => OwnP τ 5 x2 ([(Ty.val xf), (Ty.val xb), (Ty.bool (hasS xs))].set 0 (Ty.val x6)))) rfl rfl (YldM.toL (m_storep Try.inf34 (by decide) o136 q155 (Nat.le_of_ble_eq_true rfl) q154 (one_val (Own.one o141)))) (fun v4 s28 hs12 r12 => ?_)
       have F29 := F28.stepL hs12 (by decide)
       have q156 : At (Ty.int n) s28 a26 (.tmp 0) := kpL hs12 (by decide) rfl q149
       have q157 : At (Ty.val x1) s28 a26 (.tmp 4) := kpL hs12 (by decide) rfl q150
       have q158 : At (Ty.val x2) s28 a26 (.tmp 6) := kpL hs12 (by decide) rfl q151
       have q159 : At (Ty.val x3) s28 a26 (.tmp 7) := kpL hs12 (by decide) rfl q152
       have q160 : At (Ty.val x4) s28 a26 (.tmp 21) := kpL hs12 (by decide) rfl q153
       have o143 := Own.keepL o137 hs12 (by decide) (by decide)
       have o144 := OwnM.keepL o138 hs12 (by decide) (by decide)
       have o145 := OwnP.keepL o139 hs12 (by decide) (by decide)
       have o146 := Iter.keepL o140 hs12 (by decide) (by decide)
       have o147 := Own.keepL o141 hs12 (by decide) (by decide)
       have o142 : OwnP s28 5 x2 [(Ty.val x6), (Ty.val xb), (Ty.bool (hasS xs))] := r12
       clear r12
       refine wpList_nil ?_
       refine bn ?_
       exact tn ⟨s.size + 1 - ((p + wid s p)), by omega, s28, (p + wid s p), (f - 1), (xs ++ [runM s p]), x6, xb, rfl, F29, ok25, q156, q157, q158, q159, q160, (ownp_cell 2 (Ty.bool (hasS ((xs ++ [runM s p])))) o142 rfl (fun _ _ h => (cvb (by (rw [hsn])) h))), (cvo (by (simp [hfb.1, hbq])) (by (simp [hfb.1, hbq])) o147), (cvo (by (rw [hfb.2])) (by (rw [hfb.2])) o143), (cvm (by (rw [hse])) o144), (cvit (by rw [stepTo, if_pos (by assumption)]) o146), o145, pe_go hpe hk, runsF_step heq (by omega) (by omega), by omega, by omega, by simp; omega, rfl⟩
     ·
      have h63 : runM s p ≠ 63 := fun e_ => c4 (rs3.1 e_)
      refine wp_seq ?_
      refine reg (a := a18) (σ := s18) rfl (fun i_ => List.getD [(Ty.pr (Ty.int (signIdx (((run1 s p : Nat) : Int))))), (Ty.pr (Ty.bool (decide ((signIdx (((run1 s p : Nat) : Int))) < (0 : Int))))), (Ty.pr (Ty.bool (decide ((signIdx (((run1 s p : Nat) : Int))) < (0 : Int))))), (Ty.pr (Ty.grd ((decide ((signIdx (((run1 s p : Nat) : Int))) < (0 : Int))) = false) (Ty.int (signIdx (((run1 s p : Nat) : Int)))))), (Ty.pr (Ty.grd ((decide ((signIdx (((run1 s p : Nat) : Int))) < (0 : Int))) = false) (Ty.int n))), (Ty.pr (Ty.grd ((decide ((signIdx (((run1 s p : Nat) : Int))) < (0 : Int))) = false) (Ty.bool (decide (n ≤ (signIdx (((run1 s p : Nat) : Int)))))))), (Ty.pr (Ty.bool ((decide ((signIdx (((run1 s p : Nat) : Int))) < (0 : Int))) || (decide (n ≤ (signIdx (((run1 s p : Nat) : Int)))))))), (Ty.pr (Ty.bool ((decide ((signIdx (((run1 s p : Nat) : Int))) < (0 : Int))) || (decide (n ≤ (signIdx (((run1 s p : Nat) : Int))))))))] i_ Pr.any) ok17 rfl ⟨?_, ?_, ?_, ?_, ?_, ?_, ?_, ?_, trivial⟩ ?_
      · intro ax tx hs okx sm
        exact run_plain rfl (y_move (kp (sm 10 rfl) hs q95))
      · intro ax tx hs okx sm d0
        have e0 : At (Ty.int (signIdx (((run1 s p : Nat) : Int)))) tx ax (.tmp 44) := d0 rfl
        exact run_plain rfl (y_lss e0 rfl)
      · intro ax tx hs okx sm d0
        have e1 : At (Ty.bool (decide ((signIdx (((run1 s p : Nat) : Int))) < (0 : Int)))) tx ax (.tmp 45) := d0 rfl
        exact run_plain rfl (y_move e1)
      · intro ax tx hs okx sm d0
        have e2 : At (Ty.bool (decide ((signIdx (((run1 s p : Nat) : Int))) < (0 : Int)))) tx ax (.tmp 46) := d0 rfl
        refine run_guard (T := (Ty.int (signIdx (((run1 s p : Nat) : Int))))) okx rfl rfl (by decide) e2 (fun hg => ?_)
        have hp := of_decide_eq_false hg
        exact y_move (kp (sm 10 rfl) hs q95)
      · intro ax tx hs okx sm d0
        have e2 : At (Ty.bool (decide ((signIdx (((run1 s p : Nat) : Int))) < (0 : Int)))) tx ax (.tmp 46) := d0 rfl
        refine run_guard (T := (Ty.int n)) okx rfl rfl (by decide) e2 (fun hg => ?_)
        have hp := of_decide_eq_false hg
        exact y_move (kp (sm 0 rfl) hs q90)
      · intro ax tx hs okx sm d0 d1 d2
        have e3 : At (Ty.grd ((decide ((signIdx (((run1 s p : Nat) : Int))) < (0 : Int))) = false) (Ty.int (signIdx (((run1 s p : Nat) : Int))))) tx ax (.tmp 47) := d0 rfl
        have e4 : At (Ty.grd ((decide ((signIdx (((run1 s p : Nat) : Int))) < (0 : Int))) = false) (Ty.int n)) tx ax (.tmp 48) := d1 rfl
        have e2 : At (Ty.bool (decide ((signIdx (((run1 s p : Nat) : Int))) < (0 : Int)))) tx ax (.tmp 46) := d2 rfl
        refine run_guard (T := (Ty.bool (decide (n ≤ (signIdx (((run1 s p : Nat) : Int))))))) okx rfl rfl (by decide) e2 (fun hg => ?_)
        have hp := of_decide_eq_false hg
        exact y_geq (e3.1 hg) (e4.1 hg)
      · intro ax tx hs okx sm d0 d1
        have e2 : At (Ty.bool (decide ((signIdx (((run1 s p : Nat) : Int))) < (0 : Int)))) tx ax (.tmp 46) := d0 rfl
        have e5 : At (Ty.grd ((decide ((signIdx (((run1 s p : Nat) : Int))) < (0 : Int))) = false) (Ty.bool (decide (n ≤ (signIdx (((run1 s p : Nat) : Int))))))) tx ax (.tmp 49) := d1 rfl
        exact run_plain rfl (y_pick_or e2 rfl e5)
      · intro ax tx hs okx sm d0 d1
        have e6 : At (Ty.bool ((decide ((signIdx (((run1 s p : Nat) : Int))) < (0 : Int))) || (decide (n ≤ (signIdx (((run1 s p : Nat) : Int))))))) tx ax (.tmp 50) := d0 rfl
        have e2 : At (Ty.bool (decide ((signIdx (((run1 s p : Nat) : Int))) < (0 : Int)))) tx ax (.tmp 46) := d1 rfl
        exact run_plain rfl (y_assign e6)
      intro a27 s29 D17
      have ok26 := D17.ok
      have F30 := F19.step0 D17.stp
      have q162 : At (Ty.int n) s29 a27 (.tmp 0) := D17.kt q90 rfl
      have q163 : At (Ty.val x1) s29 a27 (.tmp 4) := D17.kt q91 rfl
      have q164 : At (Ty.val x2) s29 a27 (.tmp 6) := D17.kt q92 rfl
      have q165 : At (Ty.val x3) s29 a27 (.tmp 7) := D17.kt q93 rfl
      have q166 : At (Ty.val x4) s29 a27 (.tmp 21) := D17.kt q94 rfl
      have q167 : At (Ty.int (signIdx (((run1 s p : Nat) : Int)))) s29 a27 (.tmp 10) := D17.kt q95 rfl
      have o148 := OwnP.k0 o82 D17.stp
      have o149 := Own.k0 o83 D17.stp
      have o150 := Own.k0 o84 D17.stp
      have o151 := OwnM.k0 o85 D17.stp
      have o152 := OwnP.k0 o86 D17.stp
      have o153 := Iter.k0 o87 D17.stp
      have q168 : At (Ty.bool ((decide ((signIdx (((run1 s p : Nat) : Int))) < (0 : Int))) || (decide (n ≤ (signIdx (((run1 s p : Nat) : Int))))))) s29 a27 (.tmp 43) := D17.done 7
      clear D17
      refine tn ?_
      refine cond_t q168 (fun c6 => ?_) (fun c6 => ?_)
      ·
       simp only [Bool.or_eq_true, decide_eq_true_eq] at c6; have he := pe_stop hpe (ok_word hx3 h63 (by rw [rs1]; omega)) (by decide)
       refine wp_seq ?_
       refine reg2 (a := a27) (σ := s29) rfl 1 (fun i_ => List.getD [(Ty.pr (Ty.agg [(Ty.val xf), (Ty.val xb), (Ty.bool (hasS xs))]))] i_ Pr.any) ok26 rfl (by decide) rfl ⟨?_, trivial⟩ ?_
       · intro ax tx hs okx sm
         exact run_plain rfl (ownp_loadagg Try.underlying148 Try.inf148 (OwnP.k0 o148 hs) (kp (sm 6 rfl) hs q164))
       intro a28 s30 D18
       have ok27 := D18.ok
       have F31 := F30.step0 D18.stp
       have q169 : At (Ty.val x1) s30 a28 (.tmp 4) := D18.kt q163 rfl
       have o154 := OwnP.k0 o148 D18.stp
       have o155 := Own.k0 o149 D18.stp
       have o156 := Own.k0 o150 D18.stp
       have o157 := OwnM.k0 o151 D18.stp
       have o158 := OwnP.k0 o152 D18.stp
       have o159 := Iter.k0 o153 D18.stp
       have q170 : At (Ty.agg [(Ty.val xf), (Ty.val xb), (Ty.bool (hasS xs))]) s30 a28 (.tmp 51) := D18.done 0 (by decide)
       clear D18
       refine tailL0 (L := [4]) (R := (fun _ τ => OwnP τ 4 x1 [(Ty.val xf), (Ty.val xb), (Ty.bool (hasS xs))])) rfl rfl (YldM.toL (m_storeagg Try.inf148 (by decide) o158 q169 rfl q170 (by intro U hU; simp only [List.mem_cons, List.not_mem_nil, or_false] at hU; rcases hU with rfl | rfl | rfl <;> first | exact one_val rfl | exact one_sl | exact one_ref | exact one_val (Own.one o155) | exact one_val (Own.one o156)))) (fun v5 s31 hs13 r13 => ?_)
       have F32 := F31.stepL hs13 (by decide)
       have q171 : At (Ty.val x1) s31 a28 (.tmp 4) := kpL hs13 (by decide) rfl q169
       have o161 := OwnP.keepL o154 hs13 (by decide) (by decide)
       have o162 := Own.keepL o155 hs13 (by decide) (by decide)
       have o163 := Own.keepL o156 hs13 (by decide) (by decide)
       have o164 := OwnM.keepL o157 hs13 (by decide) (by decide)
       have o165 := Iter.keepL o159 hs13 (by decide) (by decide)
       have o160 : OwnP s31 4 x1 [(Ty.val xf), (Ty.val xb), (Ty.bool (hasS xs))] := r13
       clear r13
       refine tailL (L := []) (R := (fun v τ => Pr.has (Ty.pr (Ty.int (4 : Int))) τ v)) rfl rfl (by decide) ok27 (Yld.toL (y_assign rfl)) (fun a29 s32 hs14 ok28 r14 sm9 => ?_)
       have F33 := F32.stepL hs14 (by decide)
       have q173 : At (Ty.val x1) s32 a29 (.tmp 4) := kpL hs14 (by decide) (sm9 4 (by decide)) q171
       have o166 := OwnP.keepL o161 hs14 (by decide) (by decide)
       have o167 := Own.keepL o162 hs14 (by decide) (by decide)
       have o168 := Own.keepL o163 hs14 (by decide) (by decide)
       have o169 := OwnM.keepL o164 hs14 (by decide) (by decide)
       have o170 := Iter.keepL o165 hs14 (by decide) (by decide)
       have o171 := OwnP.keepL o160 hs14 (by decide) (by decide)
       have q174 : At (Ty.int (4 : Int)) s32 a29 (.tmp 5) := r14
       clear r14
       refine wpList_nil ?_
       refine tn ?_
       refine wp_ret ?_
       refine br ?_
       refine tr ?_
       refine br ?_
       refine tr ?_
       refine br ?_
       refine tr ?_
       obtain ⟨t3, e1, h1, q175⟩ := Own.seal o167 (by decide)
       rw [← e1]
       have F34 := F33.step h1 (by decide)
       have o172 := Own.keepL o168 (h1.toL (L := [6]) (by simp)) (by decide) (by decide)
       have o173 := OwnP.keepL o171 (h1.toL (L := [6]) (by simp)) (by decide) (by decide)
       have q176 := Ty.up (Ty.val x1) (h1.le (by decide)) q173
       have q177 := Ty.up (Ty.int (4 : Int)) (h1.le (by decide)) q174
       have o174 := ownp_cellq 0 (Ty.lst Ty.int (List.map bellQ (frR xs))) o173 rfl q175
       obtain ⟨t4, e2, h2, q178⟩ := Own.seal o172 (by decide)
       rw [← e2]
       have F35 := F34.step h2 (by decide)
       have o175 := OwnP.keepL o174 (h2.toL (L := [7]) (by simp)) (by decide) (by decide)
       have q179 := Ty.up (Ty.val x1) (h2.le (by decide)) q176
       have q180 := Ty.up (Ty.int (4 : Int)) (h2.le (by decide)) q177
       have o176 := ownp_cellq 1 (Ty.lst Ty.int (List.map bellQ (bkR xs))) o175 rfl q178
       have o177 : OwnP t4 4 x1 [(Ty.lst Ty.int (List.map bellQ (frR xs))), (Ty.lst Ty.int (List.map bellQ (bkR xs))), (Ty.bool (hasS xs))] := o176
       have o178 : OwnP t4 4 x1 [(Ty.lst Ty.int ((List.map bellQ (frR xs)))), (Ty.lst Ty.int (List.map bellQ (bkR xs))), (Ty.bool (hasS xs))] := cvop (by rw [show (Ty.lst Ty.int (List.map bellQ (frR xs))) = (Ty.lst Ty.int ((List.map bellQ (frR xs)))) from by (first | rfl | omega | (simp_all; done))]) o177
       have o179 : OwnP t4 4 x1 [(Ty.lst Ty.int ((List.map bellQ (frR xs)))), (Ty.lst Ty.int ((List.map bellQ (bkR xs)))), (Ty.bool (hasS xs))] := cvop (by rw [show (Ty.lst Ty.int (List.map bellQ (bkR xs))) = (Ty.lst Ty.int ((List.map bellQ (bkR xs)))) from by (first | rfl | omega | (simp_all; done))]) o178
       have o180 : OwnP t4 4 x1 [(Ty.lst Ty.int ((List.map bellQ (frR xs)))), (Ty.lst Ty.int ((List.map bellQ (bkR xs)))), (Ty.bool ((hasS xs)))] := cvop (by rw [show (Ty.bool (hasS xs)) = (Ty.bool ((hasS xs))) from by (first | rfl | omega | (simp_all; done))]) o179
       exact retL2c (k := 4) (ts := [(Ty.lst Ty.int ((List.map bellQ (frR xs)))), (Ty.lst Ty.int ((List.map bellQ (bkR xs)))), (Ty.bool ((hasS xs)))]) rfl ok28 F35 Try.underlying148 Try.inf148 (al (R := (Pr.ownp 4 [(Ty.lst Ty.int ((List.map bellQ (frR xs)))), (Ty.lst Ty.int ((List.map bellQ (bkR xs)))), (Ty.bool ((hasS xs)))])) q179 o180) (fun v_ hv_ => ⟨(List.map bellQ (frR xs)), (List.map bellQ (bkR xs)), (hasS xs), (hasT2 hv_ (cvi (by (rw [patMay_err hx1 (by omega), he])) q180)), (by intro h_; rw [patMay_err hx1 (by omega), he] at h_; omega)⟩)
      ·
       obtain ⟨d5, d6⟩ := Bool.or_eq_false_iff.mp c6
       replace d5 := of_decide_eq_false d5
       replace d6 := of_decide_eq_false d6
       simp only [Bool.or_eq_false_iff, decide_eq_false_iff_not] at c6; have hx6 : ¬ (signIdx (runM s p) < 0 ∨ n ≤ signIdx (runM s p)) := (by rw [rs1]; omega); have hn42 := ne_42 (c := runM s p) (by omega)
       refine wp_seq ?_
       refine reg (a := a27) (σ := s29) rfl (fun i_ => List.getD [(Ty.pr (Ty.val x3)), (Ty.pr (Ty.int (signIdx (((run1 s p : Nat) : Int))))), (Ty.pr (Ty.int (((seenF xs) (signIdx (((run1 s p : Nat) : Int)))).getD 0))), (Ty.pr (Ty.bool (decide ((0 : Int) < (((seenF xs) (signIdx (((run1 s p : Nat) : Int)))).getD 0))))), (Ty.pr (Ty.bool (decide ((0 : Int) < (((seenF xs) (signIdx (((run1 s p : Nat) : Int)))).getD 0)))))] i_ Pr.any) ok26 rfl ⟨?_, ?_, ?_, ?_, ?_, trivial⟩ ?_
       · intro ax tx hs okx sm
         exact run_plain rfl (y_move (kp (sm 7 rfl) hs q165))
       · intro ax tx hs okx sm
         exact run_plain rfl (y_move (kp (sm 10 rfl) hs q167))
       · intro ax tx hs okx sm d0 d1
         have e0 : At (Ty.val x3) tx ax (.tmp 53) := d0 rfl
         have e1 : At (Ty.int (signIdx (((run1 s p : Nat) : Int)))) tx ax (.tmp 54) := d1 rfl
         exact run_plain rfl (y_lookup (i := (signIdx (((run1 s p : Nat) : Int)))) (z := 0) Try.underlying126 (keyInt Try.underlying3) Try.inf3 (fun _ => rfl) (OwnM.k0 o151 hs) e0 e1)
       · intro ax tx hs okx sm d0
         have e2 : At (Ty.int (((seenF xs) (signIdx (((run1 s p : Nat) : Int)))).getD 0)) tx ax (.tmp 55) := d0 rfl
         exact run_plain rfl (y_gtr e2 rfl)
       · intro ax tx hs okx sm d0
         have e3 : At (Ty.bool (decide ((0 : Int) < (((seenF xs) (signIdx (((run1 s p : Nat) : Int)))).getD 0)))) tx ax (.tmp 56) := d0 rfl
         exact run_plain rfl (y_assign e3)
       intro a30 s33 D19
       have ok29 := D19.ok
       have F36 := F30.step0 D19.stp
       have q181 : At (Ty.int n) s33 a30 (.tmp 0) := D19.kt q162 rfl
       have q182 : At (Ty.val x1) s33 a30 (.tmp 4) := D19.kt q163 rfl
       have q183 : At (Ty.val x2) s33 a30 (.tmp 6) := D19.kt q164 rfl
       have q184 : At (Ty.val x3) s33 a30 (.tmp 7) := D19.kt q165 rfl
       have q185 : At (Ty.val x4) s33 a30 (.tmp 21) := D19.kt q166 rfl
       have q186 : At (Ty.int (signIdx (((run1 s p : Nat) : Int)))) s33 a30 (.tmp 10) := D19.kt q167 rfl
       have o181 := OwnP.k0 o148 D19.stp
       have o182 := Own.k0 o149 D19.stp
       have o183 := Own.k0 o150 D19.stp
       have o184 := OwnM.k0 o151 D19.stp
       have o185 := OwnP.k0 o152 D19.stp
       have o186 := Iter.k0 o153 D19.stp
       have q187 : At (Ty.bool (decide ((0 : Int) < (((seenF xs) (signIdx (((run1 s p : Nat) : Int)))).getD 0)))) s33 a30 (.tmp 52) := D19.done 4
       clear D19
       refine tn ?_
       refine cond_p (p := ((0 : Int) < (((seenF xs) (signIdx (((run1 s p : Nat) : Int)))).getD 0))) q187 (fun c7 => ?_) (fun c7 => ?_)
       ·
        have he := pe_stop hpe (ok_row hx3 h63 hx6 (seen_in (by omega) (by rw [rs1]; exact c7))) (by decide)
        refine wp_seq ?_
        refine reg2 (a := a30) (σ := s33) rfl 1 (fun i_ => List.getD [(Ty.pr (Ty.agg [(Ty.val xf), (Ty.val xb), (Ty.bool (hasS xs))]))] i_ Pr.any) ok29 rfl (by decide) rfl ⟨?_, trivial⟩ ?_
        · intro ax tx hs okx sm
          exact run_plain rfl (ownp_loadagg Try.underlying148 Try.inf148 (OwnP.k0 o181 hs) (kp (sm 6 rfl) hs q183))
        intro a31 s34 D20
        have ok30 := D20.ok
        have F37 := F36.step0 D20.stp
        have q188 : At (Ty.val x1) s34 a31 (.tmp 4) := D20.kt q182 rfl
        have o187 := OwnP.k0 o181 D20.stp
        have o188 := Own.k0 o182 D20.stp
        have o189 := Own.k0 o183 D20.stp
        have o190 := OwnM.k0 o184 D20.stp
        have o191 := OwnP.k0 o185 D20.stp
        have o192 := Iter.k0 o186 D20.stp
        have q189 : At (Ty.agg [(Ty.val xf), (Ty.val xb), (Ty.bool (hasS xs))]) s34 a31 (.tmp 57) := D20.done 0 (by decide)
        clear D20
        refine tailL0 (L := [4]) (R := (fun _ τ => OwnP τ 4 x1 [(Ty.val xf), (Ty.val xb), (Ty.bool (hasS xs))])) rfl rfl (YldM.toL (m_storeagg Try.inf148 (by decide) o191 q188 rfl q189 (by intro U hU; simp only [List.mem_cons, List.not_mem_nil, or_false] at hU; rcases hU with rfl | rfl | rfl <;> first | exact one_val rfl | exact one_sl | exact one_ref | exact one_val (Own.one o188) | exact one_val (Own.one o189)))) (fun v6 s35 hs15 r15 => ?_)
        have F38 := F37.stepL hs15 (by decide)
        have q190 : At (Ty.val x1) s35 a31 (.tmp 4) := kpL hs15 (by decide) rfl q188
        have o194 := OwnP.keepL o187 hs15 (by decide) (by decide)
        have o195 := Own.keepL o188 hs15 (by decide) (by decide)
        have o196 := Own.keepL o189 hs15 (by decide) (by decide)
        have o197 := OwnM.keepL o190 hs15 (by decide) (by decide)
        have o198 := Iter.keepL o192 hs15 (by decide) (by decide)
        have o193 : OwnP s35 4 x1 [(Ty.val xf), (Ty.val xb), (Ty.bool (hasS xs))] := r15
        clear r15
        refine tailL (L := []) (R := (fun v τ => Pr.has (Ty.pr (Ty.int (2 : Int))) τ v)) rfl rfl (by decide) ok30 (Yld.toL (y_assign rfl)) (fun a32 s36 hs16 ok31 r16 sm10 => ?_)
        have F39 := F38.stepL hs16 (by decide)
        have q192 : At (Ty.val x1) s36 a32 (.tmp 4) := kpL hs16 (by decide) (sm10 4 (by decide)) q190
        have o199 := OwnP.keepL o194 hs16 (by decide) (by decide)
        have o200 := Own.keepL o195 hs16 (by decide) (by decide)
        have o201 := Own.keepL o196 hs16 (by decide) (by decide)
        have o202 := OwnM.keepL o197 hs16 (by decide) (by decide)
        have o203 := Iter.keepL o198 hs16 (by decide) (by decide)
        have o204 := OwnP.keepL o193 hs16 (by decide) (by decide)
        have q193 : At (Ty.int (2 : Int)) s36 a32 (.tmp 5) := r16
        clear r16
        refine wpList_nil ?_
        refine tn ?_
        refine wp_ret ?_
        refine br ?_
        refine tr ?_
        refine br ?_
        refine tr ?_
        refine br ?_
        refine tr ?_
        obtain ⟨t5, e3, h3, q194⟩ := Own.seal o200 (by decide)
        rw [← e3]
        have F40 := F39.step h3 (by decide)
        have o205 := Own.keepL o201 (h3.toL (L := [6]) (by simp)) (by decide) (by decide)
        have o206 := OwnP.keepL o204 (h3.toL (L := [6]) (by simp)) (by decide) (by decide)
        have q195 := Ty.up (Ty.val x1) (h3.le (by decide)) q192
        have q196 := Ty.up (Ty.int (2 : Int)) (h3.le (by decide)) q193
        have o207 := ownp_cellq 0 (Ty.lst Ty.int (List.map bellQ (frR xs))) o206 rfl q194
        obtain ⟨t6, e4, h4, q197⟩ := Own.seal o205 (by decide)
        rw [← e4]
        have F41 := F40.step h4 (by decide)
        have o208 := OwnP.keepL o207 (h4.toL (L := [7]) (by simp)) (by decide) (by decide)
        have q198 := Ty.up (Ty.val x1) (h4.le (by decide)) q195
        have q199 := Ty.up (Ty.int (2 : Int)) (h4.le (by decide)) q196
        have o209 := ownp_cellq 1 (Ty.lst Ty.int (List.map bellQ (bkR xs))) o208 rfl q197
        have o210 : OwnP t6 4 x1 [(Ty.lst Ty.int (List.map bellQ (frR xs))), (Ty.lst Ty.int (List.map bellQ (bkR xs))), (Ty.bool (hasS xs))] := o209
        have o211 : OwnP t6 4 x1 [(Ty.lst Ty.int ((List.map bellQ (frR xs)))), (Ty.lst Ty.int (List.map bellQ (bkR xs))), (Ty.bool (hasS xs))] := cvop (by rw [show (Ty.lst Ty.int (List.map bellQ (frR xs))) = (Ty.lst Ty.int ((List.map bellQ (frR xs)))) from by (first | rfl | omega | (simp_all; done))]) o210
        have o212 : OwnP t6 4 x1 [(Ty.lst Ty.int ((List.map bellQ (frR xs)))), (Ty.lst Ty.int ((List.map bellQ (bkR xs)))), (Ty.bool (hasS xs))] := cvop (by rw [show (Ty.lst Ty.int (List.map bellQ (bkR xs))) = (Ty.lst Ty.int ((List.map bellQ (bkR xs)))) from by (first | rfl | omega | (simp_all; done))]) o211
        have o213 : OwnP t6 4 x1 [(Ty.lst Ty.int ((List.map bellQ (frR xs)))), (Ty.lst Ty.int ((List.map bellQ (bkR xs)))), (Ty.bool ((hasS xs)))] := cvop (by rw [show (Ty.bool (hasS xs)) = (Ty.bool ((hasS xs))) from by (first | rfl | omega | (simp_all; done))]) o212
        exact retL2c (k := 4) (ts := [(Ty.lst Ty.int ((List.map bellQ (frR xs)))), (Ty.lst Ty.int ((List.map bellQ (bkR xs)))), (Ty.bool ((hasS xs)))]) rfl ok31 F41 Try.underlying148 Try.inf148 (al (R := (Pr.ownp 4 [(Ty.lst Ty.int ((List.map bellQ (frR xs)))), (Ty.lst Ty.int ((List.map bellQ (bkR xs)))), (Ty.bool ((hasS xs)))])) q198 o213) (fun v_ hv_ => ⟨(List.map bellQ (frR xs)), (List.map bellQ (bkR xs)), (hasS xs), (hasT2 hv_ (cvi (by (rw [patMay_err hx1 (by omega), he])) q199)), (by intro h_; rw [patMay_err hx1 (by omega), he] at h_; omega)⟩)
       ·
        have hnm := seen_out (xs := xs) (c := runM s p) (by omega) (by rw [rs1]; exact c7); have hk := ok_new hx3 h63 hx6 hnm; have hbq : bellQ (runM s p) = signIdx ((run1 s p : Nat) : Int) := (by rw [bellQ_ne h63, rs1]); have hse := seen_new (xs := xs) (c := runM s p) (by omega); have h0s := seen_none (xs := xs) (c := runM s p) (by omega) hnm; rw [rs1] at h0s; have h0g : ((seenF xs) (signIdx ((run1 s p : Nat) : Int))).getD 0 = 0 := (by rw [h0s]; rfl); have hsn : hasS (xs ++ [runM s p]) = hasS xs := (by rw [hasS_snoc]; simp [hn42])
        refine reg2 (a := a30) (σ := s33) rfl 4 (fun i_ => List.getD [(Ty.pr (Ty.val x3)), (Ty.pr (Ty.int (signIdx (((run1 s p : Nat) : Int))))), (Ty.pr (Ty.int (((seenF xs) (signIdx (((run1 s p : Nat) : Int)))).getD 0))), (Ty.pr (Ty.int ((((seenF xs) (signIdx (((run1 s p : Nat) : Int)))).getD 0) + (1 : Int))))] i_ Pr.any) ok29 rfl (by decide) rfl ⟨?_, ?_, ?_, ?_, trivial⟩ ?_
        · intro ax tx hs okx sm
          exact run_plain rfl (y_move (kp (sm 7 rfl) hs q184))
        · intro ax tx hs okx sm
          exact run_plain rfl (y_move (kp (sm 10 rfl) hs q186))
        · intro ax tx hs okx sm d0 d1
          have e0 : At (Ty.val x3) tx ax (.tmp 27) := d0 rfl
          have e1 : At (Ty.int (signIdx (((run1 s p : Nat) : Int)))) tx ax (.tmp 28) := d1 rfl
          exact run_plain rfl (y_lookup (i := (signIdx (((run1 s p : Nat) : Int)))) (z := 0) Try.underlying126 (keyInt Try.underlying3) Try.inf3 (fun _ => rfl) (OwnM.k0 o184 hs) e0 e1)
        · intro ax tx hs okx sm d0
          have e2 : At (Ty.int (((seenF xs) (signIdx (((run1 s p : Nat) : Int)))).getD 0)) tx ax (.tmp 29) := d0 rfl
          exact run_plain rfl (y_add e2 rfl (w64 (by omega) (by omega)))
        intro a33 s37 D21
        have ok32 := D21.ok
        have F42 := F36.step0 D21.stp
        have q200 : At (Ty.int n) s37 a33 (.tmp 0) := D21.kt q181 rfl
        have q201 : At (Ty.val x1) s37 a33 (.tmp 4) := D21.kt q182 rfl
        have q202 : At (Ty.val x2) s37 a33 (.tmp 6) := D21.kt q183 rfl
        have q203 : At (Ty.val x3) s37 a33 (.tmp 7) := D21.kt q184 rfl
        have q204 : At (Ty.val x4) s37 a33 (.tmp 21) := D21.kt q185 rfl
        have q205 : At (Ty.int (signIdx (((run1 s p : Nat) : Int)))) s37 a33 (.tmp 10) := D21.kt q186 rfl
        have o214 := OwnP.k0 o181 D21.stp
        have o215 := Own.k0 o182 D21.stp
        have o216 := Own.k0 o183 D21.stp
        have o217 := OwnM.k0 o184 D21.stp
        have o218 := OwnP.k0 o185 D21.stp
        have o219 := Iter.k0 o186 D21.stp
        have q206 : At (Ty.val x3) s37 a33 (.tmp 27) := D21.done 0 (by decide)
        have q207 : At (Ty.int (signIdx (((run1 s p : Nat) : Int)))) s37 a33 (.tmp 28) := D21.done 1 (by decide)
        have q208 : At (Ty.int ((((seenF xs) (signIdx (((run1 s p : Nat) : Int)))).getD 0) + (1 : Int))) s37 a33 (.tmp 30) := D21.done 3 (by decide)
        clear D21
        refine tailL0 (L := [8]) (R := (fun _ τ => OwnM Ty.int kI τ 8 x3 (fun x_ => if x_ = (signIdx (((run1 s p : Nat) : Int))) then some ((((seenF xs) (signIdx (((run1 s p : Nat) : Int)))).getD 0) + (1 : Int)) else (seenF xs) x_))) rfl rfl (YldM.toL (m_mapset (i := (signIdx (((run1 s p : Nat) : Int)))) Try.underlying126 (keyInt Try.underlying3) (by decide) o217 q206 q207 q208)) (fun v7 s38 hs17 r17 => ?_)
        have F43 := F42.stepL hs17 (by decide)
        have q209 : At (Ty.int n) s38 a33 (.tmp 0) := kpL hs17 (by decide) rfl q200
        have q210 : At (Ty.val x1) s38 a33 (.tmp 4) := kpL hs17 (by decide) rfl q201
        have q211 : At (Ty.val x2) s38 a33 (.tmp 6) := kpL hs17 (by decide) rfl q202
        have q212 : At (Ty.val x3) s38 a33 (.tmp 7) := kpL hs17 (by decide) rfl q203
        have q213 : At (Ty.val x4) s38 a33 (.tmp 21) := kpL hs17 (by decide) rfl q204
        have q214 : At (Ty.int (signIdx (((run1 s p : Nat) : Int)))) s38 a33 (.tmp 10) := kpL hs17 (by decide) rfl q205
        have o221 := OwnP.keepL o214 hs17 (by decide) (by decide)
        have o222 := Own.keepL o215 hs17 (by decide) (by decide)
        have o223 := Own.keepL o216 hs17 (by decide) (by decide)
        have o224 := OwnP.keepL o218 hs17 (by decide) (by decide)
        have o225 := Iter.keepL o219 hs17 (by decide) (by decide)
        have o220 : OwnM Ty.int kI s38 8 x3 (fun x_ => if x_ = (signIdx (((run1 s p : Nat) : Int))) then some ((((seenF xs) (signIdx (((run1 s p : Nat) : Int)))).getD 0) + (1 : Int)) else (seenF xs) x_) := r17
        clear r17
        refine wpList_nil ?_
        refine bn ?_
        refine tn ?_
        refine wp_seq ?_
        refine reg (a := a33) (σ := s38) rfl (fun i_ => List.getD [(Ty.pr (Ty.val (ptrAt x2 2))), (Ty.pr (Ty.bool (hasS xs)))] i_ Pr.any) ok32 rfl ⟨?_, ?_, trivial⟩ ?_
        · intro ax tx hs okx sm
          exact run_plain rfl (ownp_field Try.fld148_2 Try.inf4 (by decide) (OwnP.k0 o221 hs) (kp (sm 6 rfl) hs q211))
        · intro ax tx hs okx sm d0
          have e0 : At (Ty.val (ptrAt x2 2)) tx ax (.tmp 58) := d0 rfl
          exact run_plain rfl (ownp_load Try.underlying4 rfl (OwnP.k0 o221 hs) e0 rfl)
        intro a34 s39 D22
        have ok33 := D22.ok
        have F44 := F43.step0 D22.stp
        have q216 : At (Ty.int n) s39 a34 (.tmp 0) := D22.kt q209 rfl
        have q217 : At (Ty.val x1) s39 a34 (.tmp 4) := D22.kt q210 rfl
        have q218 : At (Ty.val x2) s39 a34 (.tmp 6) := D22.kt q211 rfl
        have q219 : At (Ty.val x3) s39 a34 (.tmp 7) := D22.kt q212 rfl
        have q220 : At (Ty.val x4) s39 a34 (.tmp 21) := D22.kt q213 rfl
        have q221 : At (Ty.int (signIdx (((run1 s p : Nat) : Int)))) s39 a34 (.tmp 10) := D22.kt q214 rfl
        have o226 := OwnP.k0 o221 D22.stp
        have o227 := Own.k0 o222 D22.stp
        have o228 := Own.k0 o223 D22.stp
        have o229 := OwnP.k0 o224 D22.stp
        have o230 := Iter.k0 o225 D22.stp
        have o231 := OwnM.k0 o220 D22.stp
        have q222 : At (Ty.bool (hasS xs)) s39 a34 (.tmp 59) := D22.done 1
        clear D22
        refine tn ?_
        refine cond_t q222 (fun c8 => ?_) (fun c8 => ?_)
        ·
         have hfb := frbk_yes c8 (runM s p)
         refine reg2 (a := a34) (σ := s39) rfl 4 (fun i_ => List.getD [(Ty.pr (Ty.val (ptrAt x2 1))), (Ty.pr (Ty.val xb)), (Ty.pr (Ty.int (signIdx (((run1 s p : Nat) : Int))))), (Ty.pr (Ty.sl 1 1 [(Ty.int (signIdx (((run1 s p : Nat) : Int))))]))] i_ Pr.any) ok33 rfl (by decide) rfl ⟨?_, ?_, ?_, ?_, trivial⟩ ?_
         · intro ax tx hs okx sm
           exact run_plain rfl (ownp_field Try.fld148_1 Try.inf34 (by decide) (OwnP.k0 o226 hs) (kp (sm 6 rfl) hs q218))
         · intro ax tx hs okx sm d0
           have e0 : At (Ty.val (ptrAt x2 1)) tx ax (.tmp 60) := d0 rfl
           exact run_plain rfl (ownp_load Try.underlying34 rfl (OwnP.k0 o226 hs) e0 rfl)
         · intro ax tx hs okx sm
           exact run_plain rfl (y_move (kp (sm 10 rfl) hs q221))
         · intro ax tx hs okx sm d0
           have e2 : At (Ty.int (signIdx (((run1 s p : Nat) : Int)))) tx ax (.tmp 62) := d0 rfl
           exact run_plain rfl (y_build1o Try.underlying34 Try.inf3 rfl (one_val rfl) e2)
         intro a35 s40 D23
         have ok34 := D23.ok
         have F45 := F44.step0 D23.stp
         have q223 : At (Ty.int n) s40 a35 (.tmp 0) := D23.kt q216 rfl
         have q224 : At (Ty.val x1) s40 a35 (.tmp 4) := D23.kt q217 rfl
         have q225 : At (Ty.val x2) s40 a35 (.tmp 6) := D23.kt q218 rfl
         have q226 : At (Ty.val x3) s40 a35 (.tmp 7) := D23.kt q219 rfl
         have q227 : At (Ty.val x4) s40 a35 (.tmp 21) := D23.kt q220 rfl
         have o232 := OwnP.k0 o226 D23.stp
         have o233 := Own.k0 o227 D23.stp
         have o234 := Own.k0 o228 D23.stp
         have o235 := OwnP.k0 o229 D23.stp
         have o236 := Iter.k0 o230 D23.stp
         have o237 := OwnM.k0 o231 D23.stp
         have q228 : At (Ty.val xb) s40 a35 (.tmp 61) := D23.done 1 (by decide)
         have q229 : At (Ty.sl 1 1 [(Ty.int (signIdx (((run1 s p : Nat) : Int))))]) s40 a35 (.tmp 63) := D23.done 3 (by decide)
         have b3 := sl_le q229
         clear D23
         refine tailL (L := [7]) (R := (fun v τ => Own τ 7 3 1 v ((List.length (List.map bellQ (bkR xs))) + 1) ((List.map Ty.int (List.map bellQ (bkR xs))) ++ [(Ty.int (signIdx (((run1 s p : Nat) : Int))))]))) rfl rfl (by decide) ok34 (YldM.toL (m_append Try.underlying34 Try.inf3 (by decide) rfl (by decide) (al (R := (Pr.own 7 3 1 (List.length (List.map bellQ (bkR xs))) (List.map Ty.int (List.map bellQ (bkR xs))))) q228 o234) q229 (by intro U hU; simp at hU; subst hU; exact one_val rfl) (by omega) (by omega))) (fun a36 s41 hs18 ok35 r18 sm11 => ?_)
         have F46 := F45.stepL hs18 (by decide)
         have q230 : At (Ty.int n) s41 a36 (.tmp 0) := kpL hs18 (by decide) (sm11 0 (by decide)) q223
         have q231 : At (Ty.val x1) s41 a36 (.tmp 4) := kpL hs18 (by decide) (sm11 4 (by decide)) q224
         have q232 : At (Ty.val x2) s41 a36 (.tmp 6) := kpL hs18 (by decide) (sm11 6 (by decide)) q225
         have q233 : At (Ty.val x3) s41 a36 (.tmp 7) := kpL hs18 (by decide) (sm11 7 (by decide)) q226
         have q234 : At (Ty.val x4) s41 a36 (.tmp 21) := kpL hs18 (by decide) (sm11 21 (by decide)) q227
         have o239 := OwnP.keepL o232 hs18 (by decide) (by decide)
         have o240 := Own.keepL o233 hs18 (by decide) (by decide)
         have o241 := OwnP.keepL o235 hs18 (by decide) (by decide)
         have o242 := Iter.keepL o236 hs18 (by decide) (by decide)
         have o243 := OwnM.keepL o237 hs18 (by decide) (by decide)
         obtain ⟨x7, hx7⟩ : ∃ x, a36.eval (.tmp 64) = x := ⟨_, rfl⟩
         have q235 : At (Ty.val x7) s41 a36 (.tmp 64) := hx7
         have o238 : Own s41 7 3 1 x7 (List.length ((List.map bellQ (bkR xs)) ++ [(signIdx (((run1 s p : Nat) : Int)))])) (List.map Ty.int ((List.map bellQ (bkR xs)) ++ [(signIdx (((run1 s p : Nat) : Int)))])) := al2 (R := (Pr.own 7 3 1 (List.length ((List.map bellQ (bkR xs)) ++ [(signIdx (((run1 s p : Nat) : Int)))])) (List.map Ty.int ((List.map bellQ (bkR xs)) ++ [(signIdx (((run1 s p : Nat) : Int)))])))) hx7 (cvo (by simp) (by first | (rw [List.map_append]; rfl) | simp) r18)
         clear r18
         refine tailL (L := []) (R := (fun v τ => Pr.has (Ty.pr (Ty.val (ptrAt x2 1))) τ v)) rfl rfl (by decide) ok35 (Yld.toL (ownp_field Try.fld148_1 Try.inf34 (by decide) o239 q232)) (fun a37 s42 hs19 ok36 r19 sm12 => ?_)
         have F47 := F46.stepL hs19 (by decide)
         have q236 : At (Ty.int n) s42 a37 (.tmp 0) := kpL hs19 (by decide) (sm12 0 (by decide)) q230
         have q237 : At (Ty.val x1) s42 a37 (.tmp 4) := kpL hs19 (by decide) (sm12 4 (by decide)) q231
         have q238 : At (Ty.val x2) s42 a37 (.tmp 6) := kpL hs19 (by decide) (sm12 6 (by decide)) q232
         have q239 : At (Ty.val x3) s42 a37 (.tmp 7) := kpL hs19 (by decide) (sm12 7 (by decide)) q233
         have q240 : At (Ty.val x4) s42 a37 (.tmp 21) := kpL hs19 (by decide) (sm12 21 (by decide)) q234
         have q241 : At (Ty.val x7) s42 a37 (.tmp 64) := kpL hs19 (by decide) (sm12 64 (by decide)) q235
         have o244 := OwnP.keepL o239 hs19 (by decide) (by decide)
         have o245 := Own.keepL o240 hs19 (by decide) (by decide)
         have o246 := OwnP.keepL o241 hs19 (by decide) (by decide)
         have o247 := Iter.keepL o242 hs19 (by decide) (by decide)
         have o248 := OwnM.keepL o243 hs19 (by decide) (by decide)
         have o249 := Own.keepL o238 hs19 (by decide) (by decide)
         have q242 : At (Ty.val (ptrAt x2 1)) s42 a37 (.tmp 65) := r19
         clear r19
         refine tailL0 (L := [5]) (R := (fun _ τ => OwnP τ 5 x2 ([(Ty.val xf), (Ty.val xb), (Ty.bool (hasS xs))].set 1 (Ty.val x7)))) rfl rfl (YldM.toL (m_storep Try.inf34 (by decide) o244 q242 (Nat.le_of_ble_eq_true rfl) q241 (one_val (Own.one o249)))) (fun v8 s43 hs20 r20 => ?_)
         have F48 := F47.stepL hs20 (by decide)
         have q243 : At (Ty.int n) s43 a37 (.tmp 0) := kpL hs20 (by decide) rfl q236
         have q244 : At (Ty.val x1) s43 a37 (.tmp 4) := kpL hs20 (by decide) rfl q237
         have q245 : At (Ty.val x2) s43 a37 (.tmp 6) := kpL hs20 (by decide) rfl q238
         have q246 : At (Ty.val x3) s43 a37 (.tmp 7) := kpL hs20 (by decide) rfl q239
         have q247 : At (Ty.val x4) s43 a37 (.tmp 21) := kpL hs20 (by decide) rfl q240
         have o251 := Own.keepL o245 hs20 (by decide) (by decide)
         have o252 := OwnP.keepL o246 hs20 (by decide) (by decide)
         have o253 := Iter.keepL o247 hs20 (by decide) (by decide)
         have o254 := OwnM.keepL o248 hs20 (by decide) (by decide)
         have o255 := Own.keepL o249 hs20 (by decide) (by decide)
         have o250 : OwnP s43 5 x2 [(Ty.val xf), (Ty.val x7), (Ty.bool (hasS xs))] := r20
         clear r20
         refine wpList_nil ?_
         refine bn ?_
         exact tn ⟨s.size + 1 - ((p + wid s p)), by omega, s43, (p + wid s p), (f - 1), (xs ++ [runM s p]), xf, x7, rfl, F48, ok36, q243, q244, q245, q246, q247, (ownp_cell 2 (Ty.bool (hasS ((xs ++ [runM s p])))) o250 rfl (fun _ _ h => (cvb (by (rw [hsn])) h))), (cvo (by (rw [hfb.1])) (by (rw [hfb.1])) o251), (cvo (by (simp [hfb.2, hbq])) (by (simp [hfb.2, hbq])) o255), (cvm (by (rw [hse, rs1]; simp [h0s])) o254), (cvit (by rw [stepTo, if_pos (by assumption)]) o253), o252, pe_go hpe hk, runsF_step heq (by omega) (by omega), by omega, by omega, by simp; omega, rfl⟩
        ·
         have hfb := frbk_new c8 hn42
         refine reg2 (a := a34) (σ := s39) rfl 4 (fun i_ => List.getD [(Ty.pr (Ty.val (ptrAt x2 0))), (Ty.pr (Ty.val xf)), (Ty.pr (Ty.int (signIdx (((run1 s p : Nat) : Int))))), (Ty.pr (Ty.sl 1 1 [(Ty.int (signIdx (((run1 s p : Nat) : Int))))]))] i_ Pr.any) ok33 rfl (by decide) rfl ⟨?_, ?_, ?_, ?_, trivial⟩ ?_
         · intro ax tx hs okx sm
           exact run_plain rfl (ownp_field Try.fld148_0 Try.inf34 (by decide) (OwnP.k0 o226 hs) (kp (sm 6 rfl) hs q218))
         · intro ax tx hs okx sm d0
           have e0 : At (Ty.val (ptrAt x2 0)) tx ax (.tmp 66) := d0 rfl
           exact run_plain rfl (ownp_load Try.underlying34 rfl (OwnP.k0 o226 hs) e0 rfl)
         · intro ax tx hs okx sm
           exact run_plain rfl (y_move (kp (sm 10 rfl) hs q221))
         · intro ax tx hs okx sm d0
           have e2 : At (Ty.int (signIdx (((run1 s p : Nat) : Int)))) tx ax (.tmp 68) := d0 rfl
           exact run_plain rfl (y_build1o Try.underlying34 Try.inf3 rfl (one_val rfl) e2)
         intro a38 s44 D24
         have ok37 := D24.ok
         have F49 := F44.step0 D24.stp
         have q249 : At (Ty.int n) s44 a38 (.tmp 0) := D24.kt q216 rfl
         have q250 : At (Ty.val x1) s44 a38 (.tmp 4) := D24.kt q217 rfl
         have q251 : At (Ty.val x2) s44 a38 (.tmp 6) := D24.kt q218 rfl
         have q252 : At (Ty.val x3) s44 a38 (.tmp 7) := D24.kt q219 rfl
         have q253 : At (Ty.val x4) s44 a38 (.tmp 21) := D24.kt q220 rfl
         have o256 := OwnP.k0 o226 D24.stp
         have o257 := Own.k0 o227 D24.stp
         have o258 := Own.k0 o228 D24.stp
         have o259 := OwnP.k0 o229 D24.stp
         have o260 := Iter.k0 o230 D24.stp
         have o261 := OwnM.k0 o231 D24.stp
         have q254 : At (Ty.val xf) s44 a38 (.tmp 67) := D24.done 1 (by decide)
         have q255 : At (Ty.sl 1 1 [(Ty.int (signIdx (((run1 s p : Nat) : Int))))]) s44 a38 (.tmp 69) := D24.done 3 (by decide)
         have b4 := sl_le q255
         clear D24
         refine tailL (L := [6]) (R := (fun v τ => Own τ 6 3 1 v ((List.length (List.map bellQ (frR xs))) + 1) ((List.map Ty.int (List.map bellQ (frR xs))) ++ [(Ty.int (signIdx (((run1 s p : Nat) : Int))))]))) rfl rfl (by decide) ok37 (YldM.toL (m_append Try.underlying34 Try.inf3 (by decide) rfl (by decide) (al (R := (Pr.own 6 3 1 (List.length (List.map bellQ (frR xs))) (List.map Ty.int (List.map bellQ (frR xs))))) q254 o257) q255 (by intro U hU; simp at hU; subst hU; exact one_val rfl) (by omega) (by omega))) (fun a39 s45 hs21 ok38 r21 sm13 => ?_)
         have F50 := F49.stepL hs21 (by decide)
         have q256 : At (Ty.int n) s45 a39 (.tmp 0) := kpL hs21 (by decide) (sm13 0 (by decide)) q249
         have q257 : At (Ty.val x1) s45 a39 (.tmp 4) := kpL hs21 (by decide) (sm13 4 (by decide)) q250
         have q258 : At (Ty.val x2) s45 a39 (.tmp 6) := kpL hs21 (by decide) (sm13 6 (by decide)) q251
         have q259 : At (Ty.val x3) s45 a39 (.tmp 7) := kpL hs21 (by decide) (sm13 7 (by decide)) q252
         have q260 : At (Ty.val x4) s45 a39 (.tmp 21) := kpL hs21 (by decide) (sm13 21 (by decide)) q253
         have o263 := OwnP.keepL o256 hs21 (by decide) (by decide)
         have o264 := Own.keepL o258 hs21 (by decide) (by decide)
         have o265 := OwnP.keepL o259 hs21 (by decide) (by decide)
         have o266 := Iter.keepL o260 hs21 (by decide) (by decide)
         have o267 := OwnM.keepL o261 hs21 (by decide) (by decide)
         obtain ⟨x8, hx8⟩ : ∃ x, a39.eval (.tmp 70) = x := ⟨_, rfl⟩
         have q261 : At (Ty.val x8) s45 a39 (.tmp 70) := hx8
         have o262 : Own s45 6 3 1 x8 (List.length ((List.map bellQ (frR xs)) ++ [(signIdx (((run1 s p : Nat) : Int)))])) (List.map Ty.int ((List.map bellQ (frR xs)) ++ [(signIdx (((run1 s p : Nat) : Int)))])) := al2 (R := (Pr.own 6 3 1 (List.length ((List.map bellQ (frR xs)) ++ [(signIdx (((run1 s p : Nat) : Int)))])) (List.map Ty.int ((List.map bellQ (frR xs)) ++ [(signIdx (((run1 s p : Nat) : Int)))])))) hx8 (cvo (by simp) (by first | (rw [List.map_append]; rfl) | simp) r21)
         clear r21
         refine tailL (L := []) (R := (fun v τ => Pr.has (Ty.pr (Ty.val (ptrAt x2 0))) τ v)) rfl rfl (by decide) ok38 (Yld.toL (ownp_field Try.fld148_0 Try.inf34 (by decide) o263 q258)) (fun a40 s46 hs22 ok39 r22 sm14 => ?_)
         have F51 := F50.stepL hs22 (by decide)
         have q262 : At (Ty.int n) s46 a40 (.tmp 0) := kpL hs22 (by decide) (sm14 0 (by decide)) q256
         have q263 : At (Ty.val x1) s46 a40 (.tmp 4) := kpL hs22 (by decide) (sm14 4 (by decide)) q257
         have q264 : At (Ty.val x2) s46 a40 (.tmp 6) := kpL hs22 (by decide) (sm14 6 (by decide)) q258
         have q265 : At (Ty.val x3) s46 a40 (.tmp 7) := kpL hs22 (by decide) (sm14 7 (by decide)) q259
         have q266 : At (Ty.val x4) s46 a40 (.tmp 21) := kpL hs22 (by decide) (sm14 21 (by decide)) q260
         have q267 : At (Ty.val x8) s46 a40 (.tmp 70) := kpL hs22 (by decide) (sm14 70 (by decide)) q261
         have o268 := OwnP.keepL o263 hs22 (by decide) (by decide)
         have o269 := Own.keepL o264 hs22 (by decide) (by decide)
         have o270 := OwnP.keepL o265 hs22 (by decide) (by decide)
         have o271 := Iter.keepL o266 hs22 (by decide) (by decide)
         have o272 := OwnM.keepL o267 hs22 (by decide) (by decide)
         have o273 := Own.keepL o262 hs22 (by decide) (by decide)
         have q268 : At (Ty.val (ptrAt x2 0)) s46 a40 (.tmp 71) := r22
         clear r22
         refine tailL0 (L := [5]) (R := (fun _ τ => OwnP τ 5 x2 ([(Ty.val xf), (Ty.val xb), (Ty.bool (hasS xs))].set 0 (Ty.val x8)))) rfl rfl (YldM.toL (m_storep Try.inf34 (by decide) o268 q268 (Nat.le_of_ble_eq_true rfl) q267 (one_val (Own.one o273)))) (fun v9 s47 hs23 r23 => ?_)
         have F52 := F51.stepL hs23 (by decide)
         have q269 : At (Ty.int n) s47 a40 (.tmp 0) := kpL hs23 (by decide) rfl q262
         have q270 : At (Ty.val x1) s47 a40 (.tmp 4) := kpL hs23 (by decide) rfl q263
         have q271 : At (Ty.val x2) s47 a40 (.tmp 6) := kpL hs23 (by decide) rfl q264
         have q272 : At (Ty.val x3) s47 a40 (.tmp 7) := kpL hs23 (by decide) rfl q265
         have q273 : At (Ty.val x4) s47 a40 (.tmp 21) := kpL hs23 (by decide) rfl q266
         have o275 := Own.keepL o269 hs23 (by decide) (by decide)
         have o276 := OwnP.keepL o270 hs23 (by decide) (by decide)
         have o277 := Iter.keepL o271 hs23 (by decide) (by decide)
         have o278 := OwnM.keepL o272 hs23 (by decide) (by decide)
         have o279 := Own.keepL o273 hs23 (by decide) (by decide)
         have o274 : OwnP s47 5 x2 [(Ty.val x8), (Ty.val xb), (Ty.bool (hasS xs))] := r23
         clear r23
         refine wpList_nil ?_
         refine bn ?_
         exact tn ⟨s.size + 1 - ((p + wid s p)), by omega, s47, (p + wid s p), (f - 1), (xs ++ [runM s p]), x8, xb, rfl, F52, ok39, q269, q270, q271, q272, q273, (ownp_cell 2 (Ty.bool (hasS ((xs ++ [runM s p])))) o274 rfl (fun _ _ h => (cvb (by (rw [hsn])) h))), (cvo (by (simp [hfb.1, hbq])) (by (simp [hfb.1, hbq])) o279), (cvo (by (rw [hfb.2])) (by (rw [hfb.2])) o275), (cvm (by (rw [hse, rs1]; simp [h0s])) o278), (cvit (by rw [stepTo, if_pos (by assumption)]) o277), o276, pe_go hpe hk, runsF_step heq (by omega) (by omega), by omega, by omega, by simp; omega, rfl⟩
   ·
    rw [runsF_end (by omega)] at hpe heq; rw [List.append_nil] at heq; have hp0 : peF n [] L = 0 := hpe.symm; have hst0 := starN_le xs; have hs0 := starN_0 (xs := xs)
    refine wp_exit ?_
    refine tx ?_
    refine tx ?_
    refine bx ?_
    refine tn ?_
    refine wp_seq ?_
    refine reg (a := a13) (σ := s12) rfl (fun i_ => List.getD [(Ty.pr (Ty.val (ptrAt x2 0))), (Ty.pr (Ty.val xf)), (Ty.pr (Ty.nat (List.length (List.map bellQ (frR xs))))), (Ty.pr (Ty.val (ptrAt x2 1))), (Ty.pr (Ty.val xb)), (Ty.pr (Ty.nat (List.length (List.map bellQ (bkR xs))))), (Ty.pr (Ty.nat ((List.length (List.map bellQ (frR xs))) + (List.length (List.map bellQ (bkR xs)))))), (Ty.pr (Ty.nat ((List.length (List.map bellQ (frR xs))) + (List.length (List.map bellQ (bkR xs))))))] i_ Pr.any) ok12 rfl ⟨?_, ?_, ?_, ?_, ?_, ?_, ?_, ?_, trivial⟩ ?_
    · intro ax tx hs okx sm
      exact run_plain rfl (ownp_field Try.fld148_0 Try.inf34 (by decide) (OwnP.k0 o46 hs) (kp (sm 6 rfl) hs q52))
    · intro ax tx hs okx sm d0
      have e0 : At (Ty.val (ptrAt x2 0)) tx ax (.tmp 72) := d0 rfl
      exact run_plain rfl (ownp_load Try.underlying34 rfl (OwnP.k0 o46 hs) e0 rfl)
    · intro ax tx hs okx sm d0
      have e1 : At (Ty.val xf) tx ax (.tmp 73) := d0 rfl
      exact run_plain rfl (own_len Try.underlying34 (al (R := (Pr.own 6 3 1 (List.length (List.map bellQ (frR xs))) (List.map Ty.int (List.map bellQ (frR xs))))) e1 (Own.k0 o47 hs)))
    · intro ax tx hs okx sm
      exact run_plain rfl (ownp_field Try.fld148_1 Try.inf34 (by decide) (OwnP.k0 o46 hs) (kp (sm 6 rfl) hs q52))
    · intro ax tx hs okx sm d0
      have e3 : At (Ty.val (ptrAt x2 1)) tx ax (.tmp 75) := d0 rfl
      exact run_plain rfl (ownp_load Try.underlying34 rfl (OwnP.k0 o46 hs) e3 rfl)
    · intro ax tx hs okx sm d0
      have e4 : At (Ty.val xb) tx ax (.tmp 76) := d0 rfl
      exact run_plain rfl (own_len Try.underlying34 (al (R := (Pr.own 7 3 1 (List.length (List.map bellQ (bkR xs))) (List.map Ty.int (List.map bellQ (bkR xs))))) e4 (Own.k0 o48 hs)))
    · intro ax tx hs okx sm d0 d1
      have e2 : At (Ty.nat (List.length (List.map bellQ (frR xs)))) tx ax (.tmp 74) := d0 rfl
      have e5 : At (Ty.nat (List.length (List.map bellQ (bkR xs)))) tx ax (.tmp 77) := d1 rfl
      exact run_plain rfl ((y_add e2 e5 (w64 (by omega) (by omega))).mono (fun τ _ h => cvi (σ := τ) (by first | omega | exact (Int.natCast_mul _ _).symm) h))
    · intro ax tx hs okx sm d0 d1 d2 d3 d4 d5 d6 d7
      have e6 : At (Ty.nat ((List.length (List.map bellQ (frR xs))) + (List.length (List.map bellQ (bkR xs))))) tx ax (.tmp 78) := d0 rfl
      have e0 : At (Ty.val (ptrAt x2 0)) tx ax (.tmp 72) := d1 rfl
      have e1 : At (Ty.val xf) tx ax (.tmp 73) := d2 rfl
      have e2 : At (Ty.nat (List.length (List.map bellQ (frR xs)))) tx ax (.tmp 74) := d3 rfl
      have e3 : At (Ty.val (ptrAt x2 1)) tx ax (.tmp 75) := d4 rfl
      have e4 : At (Ty.val xb) tx ax (.tmp 76) := d5 rfl
      have e5 : At (Ty.nat (List.length (List.map bellQ (bkR xs)))) tx ax (.tmp 77) := d6 rfl
      exact run_plain rfl (y_assign e6)
    intro a41 s48 D25
    have ok40 := D25.ok
    have F53 := F13.step0 D25.stp
    have q275 : At (Ty.int n) s48 a41 (.tmp 0) := D25.kt q50 rfl
    have q276 : At (Ty.val x1) s48 a41 (.tmp 4) := D25.kt q51 rfl
    have q277 : At (Ty.val x2) s48 a41 (.tmp 6) := D25.kt q52 rfl
    have o280 := OwnP.k0 o46 D25.stp
    have o281 := Own.k0 o47 D25.stp
    have o282 := Own.k0 o48 D25.stp
    have o283 := OwnM.k0 o49 D25.stp
    have o284 := OwnP.k0 o50 D25.stp
    have o285 := Iter.k0 o51 D25.stp
    have q278 : At (Ty.nat ((List.length (List.map bellQ (frR xs))) + (List.length (List.map bellQ (bkR xs))))) s48 a41 (.tmp 11) := D25.done 7
    clear D25
    refine tn ?_
    refine wp_seq ?_
    refine wp_seq ?_
    refine reg (a := a41) (σ := s48) rfl (fun i_ => List.getD [(Ty.pr (Ty.nat ((List.length (List.map bellQ (frR xs))) + (List.length (List.map bellQ (bkR xs)))))), (Ty.pr (Ty.int n)), (Ty.pr (Ty.bool (decide (n < ((((List.length (List.map bellQ (frR xs))) + (List.length (List.map bellQ (bkR xs)))) : Nat) : Int))))), (Ty.pr (Ty.bool (decide (n < ((((List.length (List.map bellQ (frR xs))) + (List.length (List.map bellQ (bkR xs)))) : Nat) : Int))))), (Ty.pr (Ty.grd ((decide (n < ((((List.length (List.map bellQ (frR xs))) + (List.length (List.map bellQ (bkR xs)))) : Nat) : Int))) = false) (Ty.nat ((List.length (List.map bellQ (frR xs))) + (List.length (List.map bellQ (bkR xs))))))), (Ty.pr (Ty.grd ((decide (n < ((((List.length (List.map bellQ (frR xs))) + (List.length (List.map bellQ (bkR xs)))) : Nat) : Int))) = false) (Ty.int n))), (Ty.pr (Ty.grd ((decide (n < ((((List.length (List.map bellQ (frR xs))) + (List.length (List.map bellQ (bkR xs)))) : Nat) : Int))) = false) (Ty.bool (decide (((((List.length (List.map bellQ (frR xs))) + (List.length (List.map bellQ (bkR xs)))) : Nat) : Int) < n))))), (Ty.pr (Ty.grd ((decide (n < ((((List.length (List.map bellQ (frR xs))) + (List.length (List.map bellQ (bkR xs)))) : Nat) : Int))) = false) (Ty.bool (decide (((((List.length (List.map bellQ (frR xs))) + (List.length (List.map bellQ (bkR xs)))) : Nat) : Int) < n))))), (Ty.pr (Ty.grd (((decide (n < ((((List.length (List.map bellQ (frR xs))) + (List.length (List.map bellQ (bkR xs)))) : Nat) : Int))) = false) ∧ (decide (((((List.length (List.map bellQ (frR xs))) + (List.length (List.map bellQ (bkR xs)))) : Nat) : Int) < n)) = true) (Ty.val (ptrAt x2 2)))), (Ty.pr (Ty.grd (((decide (n < ((((List.length (List.map bellQ (frR xs))) + (List.length (List.map bellQ (bkR xs)))) : Nat) : Int))) = false) ∧ (decide (((((List.length (List.map bellQ (frR xs))) + (List.length (List.map bellQ (bkR xs)))) : Nat) : Int) < n)) = true) (Ty.bool (hasS xs)))), (Ty.pr (Ty.grd (((decide (n < ((((List.length (List.map bellQ (frR xs))) + (List.length (List.map bellQ (bkR xs)))) : Nat) : Int))) = false) ∧ (decide (((((List.length (List.map bellQ (frR xs))) + (List.length (List.map bellQ (bkR xs)))) : Nat) : Int) < n)) = true) (Ty.bool (!(hasS xs))))), (Ty.pr (Ty.grd ((decide (n < ((((List.length (List.map bellQ (frR xs))) + (List.length (List.map bellQ (bkR xs)))) : Nat) : Int))) = false) (Ty.bool ((decide (((((List.length (List.map bellQ (frR xs))) + (List.length (List.map bellQ (bkR xs)))) : Nat) : Int) < n)) && (!(hasS xs)))))), (Ty.pr (Ty.bool ((decide (n < ((((List.length (List.map bellQ (frR xs))) + (List.length (List.map bellQ (bkR xs)))) : Nat) : Int))) || ((decide (((((List.length (List.map bellQ (frR xs))) + (List.length (List.map bellQ (bkR xs)))) : Nat) : Int) < n)) && (!(hasS xs))))))] i_ Pr.any) ok40 rfl ⟨?_, ?_, ?_, ?_, ?_, ?_, ?_, ?_, ?_, ?_, ?_, ?_, ?_, trivial⟩ ?_
    · intro ax tx hs okx sm
      exact run_plain rfl (y_move (kp (sm 11 rfl) hs q278))
    · intro ax tx hs okx sm
      exact run_plain rfl (y_move (kp (sm 0 rfl) hs q275))
    · intro ax tx hs okx sm d0 d1
      have e0 : At (Ty.nat ((List.length (List.map bellQ (frR xs))) + (List.length (List.map bellQ (bkR xs))))) tx ax (.tmp 79) := d0 rfl
      have e1 : At (Ty.int n) tx ax (.tmp 80) := d1 rfl
      exact run_plain rfl (y_gtr e0 e1)
    · intro ax tx hs okx sm d0
      have e2 : At (Ty.bool (decide (n < ((((List.length (List.map bellQ (frR xs))) + (List.length (List.map bellQ (bkR xs)))) : Nat) : Int)))) tx ax (.tmp 81) := d0 rfl
      exact run_plain rfl (y_move e2)
    · intro ax tx hs okx sm d0
      have e3 : At (Ty.bool (decide (n < ((((List.length (List.map bellQ (frR xs))) + (List.length (List.map bellQ (bkR xs)))) : Nat) : Int)))) tx ax (.tmp 82) := d0 rfl
      refine run_guard (T := (Ty.nat ((List.length (List.map bellQ (frR xs))) + (List.length (List.map bellQ (bkR xs)))))) okx rfl rfl (by decide) e3 (fun hg => ?_)
      have hp := of_decide_eq_false hg
      exact y_move (kp (sm 11 rfl) hs q278)
    · intro ax tx hs okx sm d0
      have e3 : At (Ty.bool (decide (n < ((((List.length (List.map bellQ (frR xs))) + (List.length (List.map bellQ (bkR xs)))) : Nat) : Int)))) tx ax (.tmp 82) := d0 rfl
      refine run_guard (T := (Ty.int n)) okx rfl rfl (by decide) e3 (fun hg => ?_)
      have hp := of_decide_eq_false hg
      exact y_move (kp (sm 0 rfl) hs q275)
    · intro ax tx hs okx sm d0 d1 d2
      have e4 : At (Ty.grd ((decide (n < ((((List.length (List.map bellQ (frR xs))) + (List.length (List.map bellQ (bkR xs)))) : Nat) : Int))) = false) (Ty.nat ((List.length (List.map bellQ (frR xs))) + (List.length (List.map bellQ (bkR xs)))))) tx ax (.tmp 83) := d0 rfl
      have e5 : At (Ty.grd ((decide (n < ((((List.length (List.map bellQ (frR xs))) + (List.length (List.map bellQ (bkR xs)))) : Nat) : Int))) = false) (Ty.int n)) tx ax (.tmp 84) := d1 rfl
      have e3 : At (Ty.bool (decide (n < ((((List.length (List.map bellQ (frR xs))) + (List.length (List.map bellQ (bkR xs)))) : Nat) : Int)))) tx ax (.tmp 82) := d2 rfl
      refine run_guard (T := (Ty.bool (decide (((((List.length (List.map bellQ (frR xs))) + (List.length (List.map bellQ (bkR xs)))) : Nat) : Int) < n)))) okx rfl rfl (by decide) e3 (fun hg => ?_)
      have hp := of_decide_eq_false hg
      exact y_lss (e4.1 hg) (e5.1 hg)
    · intro ax tx hs okx sm d0 d1 d2
      have e6 : At (Ty.grd ((decide (n < ((((List.length (List.map bellQ (frR xs))) + (List.length (List.map bellQ (bkR xs)))) : Nat) : Int))) = false) (Ty.bool (decide (((((List.length (List.map bellQ (frR xs))) + (List.length (List.map bellQ (bkR xs)))) : Nat) : Int) < n)))) tx ax (.tmp 85) := d0 rfl
      have e3 : At (Ty.bool (decide (n < ((((List.length (List.map bellQ (frR xs))) + (List.length (List.map bellQ (bkR xs)))) : Nat) : Int)))) tx ax (.tmp 82) := d1 rfl
      refine run_guard (T := (Ty.bool (decide (((((List.length (List.map bellQ (frR xs))) + (List.length (List.map bellQ (bkR xs)))) : Nat) : Int) < n)))) okx rfl rfl (by decide) e3 (fun hg => ?_)
      have hp := of_decide_eq_false hg
      exact y_move (e6.1 hg)
    · intro ax tx hs okx sm d0
      have e7 : At (Ty.grd ((decide (n < ((((List.length (List.map bellQ (frR xs))) + (List.length (List.map bellQ (bkR xs)))) : Nat) : Int))) = false) (Ty.bool (decide (((((List.length (List.map bellQ (frR xs))) + (List.length (List.map bellQ (bkR xs)))) : Nat) : Int) < n)))) tx ax (.tmp 86) := d0 rfl
      refine run_guard2 (T := (Ty.val (ptrAt x2 2))) okx rfl rfl (by decide) e7 (fun hg => ?_)
      have hp := of_decide_eq_true hg.2
      exact ownp_field Try.fld148_2 Try.inf4 (by decide) (OwnP.k0 o280 hs) (kp (sm 6 rfl) hs q277)
    · intro ax tx hs okx sm d0 d1
      have e8 : At (Ty.grd (((decide (n < ((((List.length (List.map bellQ (frR xs))) + (List.length (List.map bellQ (bkR xs)))) : Nat) : Int))) = false) ∧ (decide (((((List.length (List.map bellQ (frR xs))) + (List.length (List.map bellQ (bkR xs)))) : Nat) : Int) < n)) = true) (Ty.val (ptrAt x2 2))) tx ax (.tmp 87) := d0 rfl
      have e7 : At (Ty.grd ((decide (n < ((((List.length (List.map bellQ (frR xs))) + (List.length (List.map bellQ (bkR xs)))) : Nat) : Int))) = false) (Ty.bool (decide (((((List.length (List.map bellQ (frR xs))) + (List.length (List.map bellQ (bkR xs)))) : Nat) : Int) < n)))) tx ax (.tmp 86) := d1 rfl
      refine run_guard2 (T := (Ty.bool (hasS xs))) okx rfl rfl (by decide) e7 (fun hg => ?_)
      have hp := of_decide_eq_true hg.2
      exact ownp_load Try.underlying4 rfl (OwnP.k0 o280 hs) (e8.1 hg) rfl
    · intro ax tx hs okx sm d0 d1
      have e9 : At (Ty.grd (((decide (n < ((((List.length (List.map bellQ (frR xs))) + (List.length (List.map bellQ (bkR xs)))) : Nat) : Int))) = false) ∧ (decide (((((List.length (List.map bellQ (frR xs))) + (List.length (List.map bellQ (bkR xs)))) : Nat) : Int) < n)) = true) (Ty.bool (hasS xs))) tx ax (.tmp 88) := d0 rfl
      have e7 : At (Ty.grd ((decide (n < ((((List.length (List.map bellQ (frR xs))) + (List.length (List.map bellQ (bkR xs)))) : Nat) : Int))) = false) (Ty.bool (decide (((((List.length (List.map bellQ (frR xs))) + (List.length (List.map bellQ (bkR xs)))) : Nat) : Int) < n)))) tx ax (.tmp 86) := d1 rfl
      refine run_guard2 (T := (Ty.bool (!(hasS xs)))) okx rfl rfl (by decide) e7 (fun hg => ?_)
      have hp := of_decide_eq_true hg.2
      exact y_not (e9.1 hg)
    · intro ax tx hs okx sm d0 d1 d2
      have e7 : At (Ty.grd ((decide (n < ((((List.length (List.map bellQ (frR xs))) + (List.length (List.map bellQ (bkR xs)))) : Nat) : Int))) = false) (Ty.bool (decide (((((List.length (List.map bellQ (frR xs))) + (List.length (List.map bellQ (bkR xs)))) : Nat) : Int) < n)))) tx ax (.tmp 86) := d0 rfl
      have e10 : At (Ty.grd (((decide (n < ((((List.length (List.map bellQ (frR xs))) + (List.length (List.map bellQ (bkR xs)))) : Nat) : Int))) = false) ∧ (decide (((((List.length (List.map bellQ (frR xs))) + (List.length (List.map bellQ (bkR xs)))) : Nat) : Int) < n)) = true) (Ty.bool (!(hasS xs)))) tx ax (.tmp 89) := d1 rfl
      have e3 : At (Ty.bool (decide (n < ((((List.length (List.map bellQ (frR xs))) + (List.length (List.map bellQ (bkR xs)))) : Nat) : Int)))) tx ax (.tmp 82) := d2 rfl
      refine run_guard (T := (Ty.bool ((decide (((((List.length (List.map bellQ (frR xs))) + (List.length (List.map bellQ (bkR xs)))) : Nat) : Int) < n)) && (!(hasS xs))))) okx rfl rfl (by decide) e3 (fun hg => ?_)
      have hp := of_decide_eq_false hg
      exact y_pick_and (e7.1 hg) (grd_part hg e10) rfl
    · intro ax tx hs okx sm d0 d1
      have e3 : At (Ty.bool (decide (n < ((((List.length (List.map bellQ (frR xs))) + (List.length (List.map bellQ (bkR xs)))) : Nat) : Int)))) tx ax (.tmp 82) := d0 rfl
      have e11 : At (Ty.grd ((decide (n < ((((List.length (List.map bellQ (frR xs))) + (List.length (List.map bellQ (bkR xs)))) : Nat) : Int))) = false) (Ty.bool ((decide (((((List.length (List.map bellQ (frR xs))) + (List.length (List.map bellQ (bkR xs)))) : Nat) : Int) < n)) && (!(hasS xs))))) tx ax (.tmp 90) := d1 rfl
      exact run_plain rfl (y_pick_or e3 rfl e11)
    intro a42 s49 D26
    have ok41 := D26.ok
    have F54 := F53.step0 D26.stp
    have q279 : At (Ty.val x1) s49 a42 (.tmp 4) := D26.kt q276 rfl
    have q280 : At (Ty.val x2) s49 a42 (.tmp 6) := D26.kt q277 rfl
    have o286 := OwnP.k0 o280 D26.stp
    have o287 := Own.k0 o281 D26.stp
    have o288 := Own.k0 o282 D26.stp
    have o289 := OwnP.k0 o284 D26.stp
    have q281 : At (Ty.bool ((decide (n < ((((List.length (List.map bellQ (frR xs))) + (List.length (List.map bellQ (bkR xs)))) : Nat) : Int))) || ((decide (((((List.length (List.map bellQ (frR xs))) + (List.length (List.map bellQ (bkR xs)))) : Nat) : Int) < n)) && (!(hasS xs))))) s49 a42 (.tmp 91) := D26.done 12
    clear D26
    refine tn ?_
    refine cond_t q281 (fun c9 => ?_) (fun c9 => ?_)
    ·
     simp only [Bool.or_eq_true, Bool.and_eq_true, decide_eq_true_eq, Bool.not_eq_true'] at c9; rw [← hs0] at c9; have hp1 := patMay_len hx1 hp0 (by rw [← heq]; omega)
     refine wp_seq ?_
     refine reg2 (a := a42) (σ := s49) rfl 1 (fun i_ => List.getD [(Ty.pr (Ty.agg [(Ty.val xf), (Ty.val xb), (Ty.bool (hasS xs))]))] i_ Pr.any) ok41 rfl (by decide) rfl ⟨?_, trivial⟩ ?_
     · intro ax tx hs okx sm
       exact run_plain rfl (ownp_loadagg Try.underlying148 Try.inf148 (OwnP.k0 o286 hs) (kp (sm 6 rfl) hs q280))
     intro a43 s50 D27
     have ok42 := D27.ok
     have F55 := F54.step0 D27.stp
     have q282 : At (Ty.val x1) s50 a43 (.tmp 4) := D27.kt q279 rfl
     have o290 := OwnP.k0 o286 D27.stp
     have o291 := Own.k0 o287 D27.stp
     have o292 := Own.k0 o288 D27.stp
     have o293 := OwnP.k0 o289 D27.stp
     have q283 : At (Ty.agg [(Ty.val xf), (Ty.val xb), (Ty.bool (hasS xs))]) s50 a43 (.tmp 92) := D27.done 0 (by decide)
     clear D27
     refine tailL0 (L := [4]) (R := (fun _ τ => OwnP τ 4 x1 [(Ty.val xf), (Ty.val xb), (Ty.bool (hasS xs))])) rfl rfl (YldM.toL (m_storeagg Try.inf148 (by decide) o293 q282 rfl q283 (by intro U hU; simp only [List.mem_cons, List.not_mem_nil, or_false] at hU; rcases hU with rfl | rfl | rfl <;> first | exact one_val rfl | exact one_sl | exact one_ref | exact one_val (Own.one o291) | exact one_val (Own.one o292)))) (fun v10 s51 hs24 r24 => ?_)
     have F56 := F55.stepL hs24 (by decide)
     have q284 : At (Ty.val x1) s51 a43 (.tmp 4) := kpL hs24 (by decide) rfl q282
     have o295 := OwnP.keepL o290 hs24 (by decide) (by decide)
     have o296 := Own.keepL o291 hs24 (by decide) (by decide)
     have o297 := Own.keepL o292 hs24 (by decide) (by decide)
     have o294 : OwnP s51 4 x1 [(Ty.val xf), (Ty.val xb), (Ty.bool (hasS xs))] := r24
     clear r24
     refine tailL (L := []) (R := (fun v τ => Pr.has (Ty.pr (Ty.int (1 : Int))) τ v)) rfl rfl (by decide) ok42 (Yld.toL (y_assign rfl)) (fun a44 s52 hs25 ok43 r25 sm15 => ?_)
     have F57 := F56.stepL hs25 (by decide)
     have q286 : At (Ty.val x1) s52 a44 (.tmp 4) := kpL hs25 (by decide) (sm15 4 (by decide)) q284
     have o298 := OwnP.keepL o295 hs25 (by decide) (by decide)
     have o299 := Own.keepL o296 hs25 (by decide) (by decide)
     have o300 := Own.keepL o297 hs25 (by decide) (by decide)
     have o301 := OwnP.keepL o294 hs25 (by decide) (by decide)
     have q287 : At (Ty.int (1 : Int)) s52 a44 (.tmp 5) := r25
     clear r25
     refine wpList_nil ?_
     refine tn ?_
     refine wp_ret ?_
     refine tr ?_
     obtain ⟨t7, e5, h5, q288⟩ := Own.seal o299 (by decide)
     rw [← e5]
     have F58 := F57.step h5 (by decide)
     have o302 := Own.keepL o300 (h5.toL (L := [6]) (by simp)) (by decide) (by decide)
     have o303 := OwnP.keepL o301 (h5.toL (L := [6]) (by simp)) (by decide) (by decide)
     have q289 := Ty.up (Ty.val x1) (h5.le (by decide)) q286
     have q290 := Ty.up (Ty.int (1 : Int)) (h5.le (by decide)) q287
     have o304 := ownp_cellq 0 (Ty.lst Ty.int (List.map bellQ (frR xs))) o303 rfl q288
     obtain ⟨t8, e6, h6, q291⟩ := Own.seal o302 (by decide)
     rw [← e6]
     have F59 := F58.step h6 (by decide)
     have o305 := OwnP.keepL o304 (h6.toL (L := [7]) (by simp)) (by decide) (by decide)
     have q292 := Ty.up (Ty.val x1) (h6.le (by decide)) q289
     have q293 := Ty.up (Ty.int (1 : Int)) (h6.le (by decide)) q290
     have o306 := ownp_cellq 1 (Ty.lst Ty.int (List.map bellQ (bkR xs))) o305 rfl q291
     have o307 : OwnP t8 4 x1 [(Ty.lst Ty.int (List.map bellQ (frR xs))), (Ty.lst Ty.int (List.map bellQ (bkR xs))), (Ty.bool (hasS xs))] := o306
     have o308 : OwnP t8 4 x1 [(Ty.lst Ty.int ((List.map bellQ (frR xs)))), (Ty.lst Ty.int (List.map bellQ (bkR xs))), (Ty.bool (hasS xs))] := cvop (by rw [show (Ty.lst Ty.int (List.map bellQ (frR xs))) = (Ty.lst Ty.int ((List.map bellQ (frR xs)))) from by (first | rfl | omega | (simp_all; done))]) o307
     have o309 : OwnP t8 4 x1 [(Ty.lst Ty.int ((List.map bellQ (frR xs)))), (Ty.lst Ty.int ((List.map bellQ (bkR xs)))), (Ty.bool (hasS xs))] := cvop (by rw [show (Ty.lst Ty.int (List.map bellQ (bkR xs))) = (Ty.lst Ty.int ((List.map bellQ (bkR xs)))) from by (first | rfl | omega | (simp_all; done))]) o308
     have o310 : OwnP t8 4 x1 [(Ty.lst Ty.int ((List.map bellQ (frR xs)))), (Ty.lst Ty.int ((List.map bellQ (bkR xs)))), (Ty.bool ((hasS xs)))] := cvop (by rw [show (Ty.bool (hasS xs)) = (Ty.bool ((hasS xs))) from by (first | rfl | omega | (simp_all; done))]) o309
     exact retL2c (k := 4) (ts := [(Ty.lst Ty.int ((List.map bellQ (frR xs)))), (Ty.lst Ty.int ((List.map bellQ (bkR xs)))), (Ty.bool ((hasS xs)))]) rfl ok43 F59 Try.underlying148 Try.inf148 (al (R := (Pr.ownp 4 [(Ty.lst Ty.int ((List.map bellQ (frR xs)))), (Ty.lst Ty.int ((List.map bellQ (bkR xs)))), (Ty.bool ((hasS xs)))])) q292 o310) (fun v_ hv_ => ⟨(List.map bellQ (frR xs)), (List.map bellQ (bkR xs)), (hasS xs), (hasT2 hv_ (cvi (by (exact hp1.symm)) q293)), (by intro h_; rw [hp1] at h_; omega)⟩)
    ·
     obtain ⟨d7, d8⟩ := Bool.or_eq_false_iff.mp c9
     replace d7 := of_decide_eq_false d7
     simp only [Bool.or_eq_false_iff, Bool.and_eq_false_iff, decide_eq_false_iff_not, Bool.not_eq_false'] at c9; have hs1 : hasS xs = true → starN xs = 1 := (fun h_ => by unfold starN; rw [if_pos h_]); have hp1 := patMay_ok hx1 hp0 (by rw [← heq]; intro h_; rcases c9.2 with h2_ | h2_ <;> first | omega | (have := hs1 h2_; omega))
     refine wp_skip ?_
     refine tn ?_
     refine wp_seq ?_
     refine reg2 (a := a42) (σ := s49) rfl 1 (fun i_ => List.getD [(Ty.pr (Ty.agg [(Ty.val xf), (Ty.val xb), (Ty.bool (hasS xs))]))] i_ Pr.any) ok41 rfl (by decide) rfl ⟨?_, trivial⟩ ?_
     · intro ax tx hs okx sm
       exact run_plain rfl (ownp_loadagg Try.underlying148 Try.inf148 (OwnP.k0 o286 hs) (kp (sm 6 rfl) hs q280))
     intro a45 s53 D28
     have ok44 := D28.ok
     have F60 := F54.step0 D28.stp
     have q294 : At (Ty.val x1) s53 a45 (.tmp 4) := D28.kt q279 rfl
     have o311 := OwnP.k0 o286 D28.stp
     have o312 := Own.k0 o287 D28.stp
     have o313 := Own.k0 o288 D28.stp
     have o314 := OwnP.k0 o289 D28.stp
     have q295 : At (Ty.agg [(Ty.val xf), (Ty.val xb), (Ty.bool (hasS xs))]) s53 a45 (.tmp 93) := D28.done 0 (by decide)
     clear D28
     refine tailL0 (L := [4]) (R := (fun _ τ => OwnP τ 4 x1 [(Ty.val xf), (Ty.val xb), (Ty.bool (hasS xs))])) rfl rfl (YldM.toL (m_storeagg Try.inf148 (by decide) o314 q294 rfl q295 (by intro U hU; simp only [List.mem_cons, List.not_mem_nil, or_false] at hU; rcases hU with rfl | rfl | rfl <;> first | exact one_val rfl | exact one_sl | exact one_ref | exact one_val (Own.one o312) | exact one_val (Own.one o313)))) (fun v11 s54 hs26 r26 => ?_)
     have F61 := F60.stepL hs26 (by decide)
     have q296 : At (Ty.val x1) s54 a45 (.tmp 4) := kpL hs26 (by decide) rfl q294
     have o316 := OwnP.keepL o311 hs26 (by decide) (by decide)
     have o317 := Own.keepL o312 hs26 (by decide) (by decide)
     have o318 := Own.keepL o313 hs26 (by decide) (by decide)
     have o315 : OwnP s54 4 x1 [(Ty.val xf), (Ty.val xb), (Ty.bool (hasS xs))] := r26
     clear r26
     refine tailL (L := []) (R := (fun v τ => Pr.has (Ty.pr (Ty.int (0 : Int))) τ v)) rfl rfl (by decide) ok44 (Yld.toL (y_assign rfl)) (fun a46 s55 hs27 ok45 r27 sm16 => ?_)
     have F62 := F61.stepL hs27 (by decide)
     have q298 : At (Ty.val x1) s55 a46 (.tmp 4) := kpL hs27 (by decide) (sm16 4 (by decide)) q296
     have o319 := OwnP.keepL o316 hs27 (by decide) (by decide)
     have o320 := Own.keepL o317 hs27 (by decide) (by decide)
     have o321 := Own.keepL o318 hs27 (by decide) (by decide)
     have o322 := OwnP.keepL o315 hs27 (by decide) (by decide)
     have q299 : At (Ty.int (0 : Int)) s55 a46 (.tmp 5) := r27
     clear r27
     refine wpList_nil ?_
     refine tn ?_
     refine wp_ret ?_
     obtain ⟨t9, e7, h7, q300⟩ := Own.seal o320 (by decide)
     rw [← e7]
     have F63 := F62.step h7 (by decide)
     have o323 := Own.keepL o321 (h7.toL (L := [6]) (by simp)) (by decide) (by decide)
     have o324 := OwnP.keepL o322 (h7.toL (L := [6]) (by simp)) (by decide) (by decide)
     have q301 := Ty.up (Ty.val x1) (h7.le (by decide)) q298
     have q302 := Ty.up (Ty.int (0 : Int)) (h7.le (by decide)) q299
     have o325 := ownp_cellq 0 (Ty.lst Ty.int (List.map bellQ (frR xs))) o324 rfl q300
     obtain ⟨t10, e8, h8, q303⟩ := Own.seal o323 (by decide)
     rw [← e8]
     have F64 := F63.step h8 (by decide)
     have o326 := OwnP.keepL o325 (h8.toL (L := [7]) (by simp)) (by decide) (by decide)
     have q304 := Ty.up (Ty.val x1) (h8.le (by decide)) q301
     have q305 := Ty.up (Ty.int (0 : Int)) (h8.le (by decide)) q302
     have o327 := ownp_cellq 1 (Ty.lst Ty.int (List.map bellQ (bkR xs))) o326 rfl q303
     have o328 : OwnP t10 4 x1 [(Ty.lst Ty.int (List.map bellQ (frR xs))), (Ty.lst Ty.int (List.map bellQ (bkR xs))), (Ty.bool (hasS xs))] := o327
     have o329 : OwnP t10 4 x1 [(Ty.lst Ty.int ((List.map bellQ (frR xs)))), (Ty.lst Ty.int (List.map bellQ (bkR xs))), (Ty.bool (hasS xs))] := cvop (by rw [show (Ty.lst Ty.int (List.map bellQ (frR xs))) = (Ty.lst Ty.int ((List.map bellQ (frR xs)))) from by (first | rfl | omega | (simp_all; done))]) o328
     have o330 : OwnP t10 4 x1 [(Ty.lst Ty.int ((List.map bellQ (frR xs)))), (Ty.lst Ty.int ((List.map bellQ (bkR xs)))), (Ty.bool (hasS xs))] := cvop (by rw [show (Ty.lst Ty.int (List.map bellQ (bkR xs))) = (Ty.lst Ty.int ((List.map bellQ (bkR xs)))) from by (first | rfl | omega | (simp_all; done))]) o329
     have o331 : OwnP t10 4 x1 [(Ty.lst Ty.int ((List.map bellQ (frR xs)))), (Ty.lst Ty.int ((List.map bellQ (bkR xs)))), (Ty.bool ((hasS xs)))] := cvop (by rw [show (Ty.bool (hasS xs)) = (Ty.bool ((hasS xs))) from by (first | rfl | omega | (simp_all; done))]) o330
     exact retL2c (k := 4) (ts := [(Ty.lst Ty.int ((List.map bellQ (frR xs)))), (Ty.lst Ty.int ((List.map bellQ (bkR xs)))), (Ty.bool ((hasS xs)))]) rfl ok45 F64 Try.underlying148 Try.inf148 (al (R := (Pr.ownp 4 [(Ty.lst Ty.int ((List.map bellQ (frR xs)))), (Ty.lst Ty.int ((List.map bellQ (bkR xs)))), (Ty.bool ((hasS xs)))])) q304 o331) (fun v_ hv_ => ⟨(List.map bellQ (frR xs)), (List.map bellQ (bkR xs)), (hasS xs), (hasT2 hv_ (cvi (by (exact hp1.symm)) q305)), (by intro _; rw [← heq]; exact ⟨rfl, rfl⟩)⟩)

theorem Try.inf155 : Info Try.prog 155 (.agg (Array.replicate 12 (.int .i64 0))) 12 96 := by unfold Info; kernel_rfl
set_option maxRecDepth 100000 in
theorem rowCheck_fn (r : List Int) (σ : GW) (v0 : Value) (hv0 : Ty.has (Ty.lst Ty.int r) σ v0)  :
    FnC Try.prog 44 #[v0] σ (Ty.int (rowMay r)) := by
 refine fn_intro Try.func44 rfl Try.ntmps44 (Nat.le_of_ble_eq_true rfl) (fun s0 a0 hle F0 ok0 hargs => ?_)
 have p0 : At (Ty.lst Ty.int r) s0 a0 (.tmp 0) := by have e := hargs 0 _ rfl; show Ty.has _ _ _; rw [e]; exact Ty.up _ hle hv0
 have b1 := sl_le p0
 clear hargs
 refine wp_seq ?_
 refine reg (a := a0) (σ := s0) rfl (fun i_ => List.getD [(Ty.pr (Ty.int (0 : Int)))] i_ Pr.any) ok0 rfl ⟨?_, trivial⟩ ?_
 · intro ax tx hs okx sm
   exact run_plain rfl (y_assign rfl)
 intro a1 s1 D1
 have ok1 := D1.ok
 have F1 := F0.step0 D1.stp
 have q1 : At (Ty.lst Ty.int r) s1 a1 (.tmp 0) := D1.kt p0 rfl
 clear D1
 refine tn ?_
 refine wp_seq ?_
 refine wp_seq ?_
 refine reg (a := a1) (σ := s1) rfl (fun i_ => List.getD [(Ty.pr (Ty.lst Ty.int r)), (Ty.pr (Ty.nat (List.length r))), (Ty.pr (Ty.bool (decide ((((List.length r) : Nat) : Int) < (1 : Int))))), (Ty.pr (Ty.bool (decide ((((List.length r) : Nat) : Int) < (1 : Int))))), (Ty.pr (Ty.grd ((decide ((((List.length r) : Nat) : Int) < (1 : Int))) = false) (Ty.lst Ty.int r))), (Ty.pr (Ty.grd ((decide ((((List.length r) : Nat) : Int) < (1 : Int))) = false) (Ty.nat (List.length r)))), (Ty.pr (Ty.grd ((decide ((((List.length r) : Nat) : Int) < (1 : Int))) = false) (Ty.bool (decide ((12 : Int) < (((List.length r) : Nat) : Int)))))), (Ty.pr (Ty.bool ((decide ((((List.length r) : Nat) : Int) < (1 : Int))) || (decide ((12 : Int) < (((List.length r) : Nat) : Int))))))] i_ Pr.any) ok1 rfl ⟨?_, ?_, ?_, ?_, ?_, ?_, ?_, ?_, trivial⟩ ?_
 · intro ax tx hs okx sm
   exact run_plain rfl (y_move (kp (sm 0 rfl) hs q1))
 · intro ax tx hs okx sm d0
   have e0 : At (Ty.lst Ty.int r) tx ax (.tmp 6) := d0 rfl
   exact run_plain rfl (y_len Try.underlying34 e0)
 · intro ax tx hs okx sm d0
   have e1 : At (Ty.nat (List.length r)) tx ax (.tmp 7) := d0 rfl
   exact run_plain rfl (y_lss e1 rfl)
 · intro ax tx hs okx sm d0
   have e2 : At (Ty.bool (decide ((((List.length r) : Nat) : Int) < (1 : Int)))) tx ax (.tmp 8) := d0 rfl
   exact run_plain rfl (y_move e2)
 · intro ax tx hs okx sm d0
   have e3 : At (Ty.bool (decide ((((List.length r) : Nat) : Int) < (1 : Int)))) tx ax (.tmp 9) := d0 rfl
   refine run_guard (T := (Ty.lst Ty.int r)) okx rfl rfl (by decide) e3 (fun hg => ?_)
   have hp := of_decide_eq_false hg
   exact y_move (kp (sm 0 rfl) hs q1)
 · intro ax tx hs okx sm d0 d1
   have e4 : At (Ty.grd ((decide ((((List.length r) : Nat) : Int) < (1 : Int))) = false) (Ty.lst Ty.int r)) tx ax (.tmp 10) := d0 rfl
   have e3 : At (Ty.bool (decide ((((List.length r) : Nat) : Int) < (1 : Int)))) tx ax (.tmp 9) := d1 rfl
   refine run_guard (T := (Ty.nat (List.length r))) okx rfl rfl (by decide) e3 (fun hg => ?_)
   have hp := of_decide_eq_false hg
   exact y_len Try.underlying34 (e4.1 hg)
 · intro ax tx hs okx sm d0 d1
   have e5 : At (Ty.grd ((decide ((((List.length r) : Nat) : Int) < (1 : Int))) = false) (Ty.nat (List.length r))) tx ax (.tmp 11) := d0 rfl
   have e3 : At (Ty.bool (decide ((((List.length r) : Nat) : Int) < (1 : Int)))) tx ax (.tmp 9) := d1 rfl
   refine run_guard (T := (Ty.bool (decide ((12 : Int) < (((List.length r) : Nat) : Int))))) okx rfl rfl (by decide) e3 (fun hg => ?_)
   have hp := of_decide_eq_false hg
   exact y_gtr (e5.1 hg) rfl
 · intro ax tx hs okx sm d0 d1
   have e3 : At (Ty.bool (decide ((((List.length r) : Nat) : Int) < (1 : Int)))) tx ax (.tmp 9) := d0 rfl
   have e6 : At (Ty.grd ((decide ((((List.length r) : Nat) : Int) < (1 : Int))) = false) (Ty.bool (decide ((12 : Int) < (((List.length r) : Nat) : Int))))) tx ax (.tmp 12) := d1 rfl
   exact run_plain rfl (y_pick_or e3 rfl e6)
 intro a2 s2 D2
 have ok2 := D2.ok
 have F2 := F1.step0 D2.stp
 have q2 : At (Ty.lst Ty.int r) s2 a2 (.tmp 0) := D2.kt q1 rfl
 have q3 : At (Ty.bool ((decide ((((List.length r) : Nat) : Int) < (1 : Int))) || (decide ((12 : Int) < (((List.length r) : Nat) : Int))))) s2 a2 (.tmp 13) := D2.done 7
 clear D2
 refine tn ?_
 refine cond_t q3 (fun c1 => ?_) (fun c1 => ?_)
 ·
  simp only [Bool.or_eq_true, decide_eq_true_eq] at c1
  refine wp_seq ?_
  refine reg (a := a2) (σ := s2) rfl (fun i_ => List.getD [(Ty.pr (Ty.int (1 : Int)))] i_ Pr.any) ok2 rfl ⟨?_, trivial⟩ ?_
  · intro ax tx hs okx sm
    exact run_plain rfl (y_assign rfl)
  intro a3 s3 D3
  have ok3 := D3.ok
  have F3 := F2.step0 D3.stp
  have q4 : At (Ty.int (1 : Int)) s3 a3 (.tmp 2) := D3.done 0
  clear D3
  refine tn ?_
  refine wp_ret ?_
  refine tr ?_
  exact ret1 rfl ok3 F3 (cvi (by (exact (rowMay_cnt (by omega)).symm)) q4)
 ·
  obtain ⟨d1, d2⟩ := Bool.or_eq_false_iff.mp c1
  replace d1 := of_decide_eq_false d1
  replace d2 := of_decide_eq_false d2
  refine wp_skip ?_
  refine tn ?_
  refine wp_seq ?_
  refine reg (a := a2) (σ := s2) rfl (fun i_ => List.getD [(Pr.ownp 11 (List.map Ty.int (List.replicate 12 0)))] i_ Pr.any) ok2 rfl ⟨?_, trivial⟩ ?_
  · intro ax tx hs okx sm
    exact run_plain rfl (y_alloc Try.inf155 (by simp [Value.cells]) (alloc_zero 12 (by intro σ; exact rfl)))
  intro a4 s4 D4
  have ok4 := D4.ok
  have F4 := F2.step0 D4.stp
  have q5 : At (Ty.lst Ty.int r) s4 a4 (.tmp 0) := D4.kt q2 rfl
  have q6 : (Pr.ownp 11 (List.map Ty.int (List.replicate 12 0))).has s4 (a4.eval (.tmp 3)) := D4.done 0
  clear D4
  refine tn ?_
  refine wp_seq ?_
  refine wp_seq ?_
  refine reg (a := a4) (σ := s4) rfl (fun i_ => List.getD [(Ty.pr (Ty.lst Ty.int r)), (Ty.pr (Ty.nat (List.length r))), (Ty.pr (Ty.int (0 : Int)))] i_ Pr.any) ok4 rfl ⟨?_, ?_, ?_, trivial⟩ ?_
  · intro ax tx hs okx sm
    exact run_plain rfl (y_move (kp (sm 0 rfl) hs q5))
  · intro ax tx hs okx sm d0
    have e0 : At (Ty.lst Ty.int r) tx ax (.tmp 14) := d0 rfl
    exact run_plain rfl (y_len Try.underlying34 e0)
  · intro ax tx hs okx sm
    exact run_plain rfl (y_move rfl)
  intro a5 s5 D5
  have ok5 := D5.ok
  have F5 := F4.step0 D5.stp
  have q7 : At (Ty.lst Ty.int r) s5 a5 (.tmp 0) := D5.kt q5 rfl
  have q8 : (Pr.ownp 11 (List.map Ty.int (List.replicate 12 0))).has s5 (a5.eval (.tmp 3)) := D5.ko q6 rfl
  have q9 : At (Ty.lst Ty.int r) s5 a5 (.tmp 14) := D5.done 0
  have q10 : At (Ty.nat (List.length r)) s5 a5 (.tmp 15) := D5.done 1
  have q11 : At (Ty.int (0 : Int)) s5 a5 (.tmp 16) := D5.done 2
  clear D5
  refine tn ?_
  refine wp_block ?_
  refine loop (fun n1 a6 w1 => ∃ (t1 : GW) (k : Nat), t1.w = w1 ∧ From s0 t1 ∧ Ok 40 a6 ∧ At (Ty.nat k) t1 a6 (.tmp 16) ∧ (Pr.ownp 11 (List.map Ty.int (seenL r k))).has t1 (a6.eval (.tmp 3)) ∧ At (Ty.lst Ty.int r) t1 a6 (.tmp 0) ∧ At (Ty.lst Ty.int r) t1 a6 (.tmp 14) ∧ At (Ty.nat (List.length r)) t1 a6 (.tmp 15) ∧ (k ≤ r.length) ∧ (Upto r k) ∧ n1 = r.length - k) (r.length - (0)) ?_ ?_
  ·
   exact ⟨s5, 0, rfl, F5, ok5, (cvi (by (first | rfl | omega | (simp_all; done) | (simp_all; omega))) q11), (cvop (by (rw [seenL_zero])) q8), q7, q9, q10, by omega, Upto.zero r, rfl⟩
  ·
   rintro n2 a7 w2 ⟨t2, k, rfl, F6, ok6, q12, q13, q14, q15, q16, hk, hu, rfl⟩
   have hs := seenL_len r k
   refine wp_seq ?_
   refine reg (a := a7) (σ := t2) rfl (fun i_ => List.getD [(Ty.pr (Ty.bool (decide (((k : Nat) : Int) < (((List.length r) : Nat) : Int)))))] i_ Pr.any) ok6 rfl ⟨?_, trivial⟩ ?_
   · intro ax tx hs okx sm
     exact run_plain rfl (y_lss (kp (sm 16 rfl) hs q12) (kp (sm 15 rfl) hs q16))
   intro a8 s6 D6
   have ok7 := D6.ok
   have F7 := F6.step0 D6.stp
   have q17 : At (Ty.nat k) s6 a8 (.tmp 16) := D6.kt q12 rfl
   have q18 : (Pr.ownp 11 (List.map Ty.int (seenL r k))).has s6 (a8.eval (.tmp 3)) := D6.ko q13 rfl
   have q19 : At (Ty.lst Ty.int r) s6 a8 (.tmp 0) := D6.kt q14 rfl
   have q20 : At (Ty.lst Ty.int r) s6 a8 (.tmp 14) := D6.kt q15 rfl
   have q21 : At (Ty.nat (List.length r)) s6 a8 (.tmp 15) := D6.kt q16 rfl
   have q22 : At (Ty.bool (decide (((k : Nat) : Int) < (((List.length r) : Nat) : Int)))) s6 a8 (.tmp 17) := D6.done 0
   clear D6
   refine tn ?_
   refine wp_seq ?_
   refine cond_p (p := (((k : Nat) : Int) < (((List.length r) : Nat) : Int))) q22 (fun c2 => ?_) (fun c2 => ?_)
   ·
    refine wp_skip ?_
    refine tn ?_
    refine wp_seq ?_
    refine wp_block ?_
    refine wp_seq ?_
    refine reg (a := a8) (σ := s6) rfl (fun i_ => List.getD [(Ty.pr (Ty.ref [(Ty.int (r.getD k 0))])), (Ty.pr (Ty.int (r.getD k 0))), (Ty.pr (Ty.int (r.getD k 0)))] i_ Pr.any) ok7 rfl ⟨?_, ?_, ?_, trivial⟩ ?_
    · intro ax tx hs okx sm
      exact run_plain rfl (y_index1 Try.underlying34 Try.inf3 (kp (sm 14 rfl) hs q20) (kp (sm 16 rfl) hs q17) (by omega) (lst_get Ty.int r 0 k (by omega)))
    · intro ax tx hs okx sm d0
      have e0 : At (Ty.ref [(Ty.int (r.getD k 0))]) tx ax (.tmp 18) := d0 rfl
      exact run_plain rfl (y_load Try.underlying3 rfl e0 rfl)
    · intro ax tx hs okx sm d0 d1 d2
      have e1 : At (Ty.int (r.getD k 0)) tx ax (.tmp 19) := d0 rfl
      have e0 : At (Ty.ref [(Ty.int (r.getD k 0))]) tx ax (.tmp 18) := d1 rfl
      exact run_plain rfl (y_assign e1)
    intro a9 s7 D7
    have ok8 := D7.ok
    have F8 := F7.step0 D7.stp
    have q23 : At (Ty.nat k) s7 a9 (.tmp 16) := D7.kt q17 rfl
    have q24 : (Pr.ownp 11 (List.map Ty.int (seenL r k))).has s7 (a9.eval (.tmp 3)) := D7.ko q18 rfl
    have q25 : At (Ty.lst Ty.int r) s7 a9 (.tmp 0) := D7.kt q19 rfl
    have q26 : At (Ty.lst Ty.int r) s7 a9 (.tmp 14) := D7.kt q20 rfl
    have q27 : At (Ty.nat (List.length r)) s7 a9 (.tmp 15) := D7.kt q21 rfl
    have q28 : At (Ty.int (r.getD k 0)) s7 a9 (.tmp 5) := D7.done 2
    clear D7
    refine tn ?_
    refine wp_seq ?_
    refine wp_seq ?_
    refine reg (a := a9) (σ := s7) rfl (fun i_ => List.getD [(Ty.pr (Ty.int (r.getD k 0))), (Ty.pr (Ty.bool (decide ((r.getD k 0) < (0 : Int))))), (Ty.pr (Ty.bool (decide ((r.getD k 0) < (0 : Int))))), (Ty.pr (Ty.grd ((decide ((r.getD k 0) < (0 : Int))) = false) (Ty.int (r.getD k 0)))), (Ty.pr (Ty.grd ((decide ((r.getD k 0) < (0 : Int))) = false) (Ty.lst Ty.int r))), (Ty.pr (Ty.grd ((decide ((r.getD k 0) < (0 : Int))) = false) (Ty.nat (List.length r)))), (Ty.pr (Ty.grd ((decide ((r.getD k 0) < (0 : Int))) = false) (Ty.bool (decide ((((List.length r) : Nat) : Int) ≤ (r.getD k 0)))))), (Ty.pr (Ty.bool ((decide ((r.getD k 0) < (0 : Int))) || (decide ((((List.length r) : Nat) : Int) ≤ (r.getD k 0)))))), (Ty.pr (Ty.bool ((decide ((r.getD k 0) < (0 : Int))) || (decide ((((List.length r) : Nat) : Int) ≤ (r.getD k 0)))))), (Ty.pr (Ty.grd (((decide ((r.getD k 0) < (0 : Int))) || (decide ((((List.length r) : Nat) : Int) ≤ (r.getD k 0)))) = false) (Ty.int (r.getD k 0)))), (Ty.pr (Ty.grd (((decide ((r.getD k 0) < (0 : Int))) || (decide ((((List.length r) : Nat) : Int) ≤ (r.getD k 0)))) = false) (Ty.val (ptrAt (a9.eval (.tmp 3)) ((r.getD k 0)).toNat)))), (Ty.pr (Ty.grd (((decide ((r.getD k 0) < (0 : Int))) || (decide ((((List.length r) : Nat) : Int) ≤ (r.getD k 0)))) = false) (Ty.int ((seenL r k).getD ((r.getD k 0)).toNat 0)))), (Ty.pr (Ty.grd (((decide ((r.getD k 0) < (0 : Int))) || (decide ((((List.length r) : Nat) : Int) ≤ (r.getD k 0)))) = false) (Ty.bool (decide ((0 : Int) < ((seenL r k).getD ((r.getD k 0)).toNat 0)))))), (Ty.pr (Ty.bool (((decide ((r.getD k 0) < (0 : Int))) || (decide ((((List.length r) : Nat) : Int) ≤ (r.getD k 0)))) || (decide ((0 : Int) < ((seenL r k).getD ((r.getD k 0)).toNat 0))))))] i_ Pr.any) ok8 rfl ⟨?_, ?_, ?_, ?_, ?_, ?_, ?_, ?_, ?_, ?_, ?_, ?_, ?_, ?_, trivial⟩ ?_
    · intro ax tx hs okx sm
      exact run_plain rfl (y_move (kp (sm 5 rfl) hs q28))
    · intro ax tx hs okx sm d0
      have e0 : At (Ty.int (r.getD k 0)) tx ax (.tmp 20) := d0 rfl
      exact run_plain rfl (y_lss e0 rfl)
    · intro ax tx hs okx sm d0
      have e1 : At (Ty.bool (decide ((r.getD k 0) < (0 : Int)))) tx ax (.tmp 21) := d0 rfl
      exact run_plain rfl (y_move e1)
    · intro ax tx hs okx sm d0
      have e2 : At (Ty.bool (decide ((r.getD k 0) < (0 : Int)))) tx ax (.tmp 22) := d0 rfl
      refine run_guard (T := (Ty.int (r.getD k 0))) okx rfl rfl (by decide) e2 (fun hg => ?_)
      have hp := of_decide_eq_false hg
      exact y_move (kp (sm 5 rfl) hs q28)
    · intro ax tx hs okx sm d0
      have e2 : At (Ty.bool (decide ((r.getD k 0) < (0 : Int)))) tx ax (.tmp 22) := d0 rfl
      refine run_guard (T := (Ty.lst Ty.int r)) okx rfl rfl (by decide) e2 (fun hg => ?_)
      have hp := of_decide_eq_false hg
      exact y_move (kp (sm 0 rfl) hs q25)
    · intro ax tx hs okx sm d0 d1
      have e4 : At (Ty.grd ((decide ((r.getD k 0) < (0 : Int))) = false) (Ty.lst Ty.int r)) tx ax (.tmp 24) := d0 rfl
      have e2 : At (Ty.bool (decide ((r.getD k 0) < (0 : Int)))) tx ax (.tmp 22) := d1 rfl
      refine run_guard (T := (Ty.nat (List.length r))) okx rfl rfl (by decide) e2 (fun hg => ?_)
      have hp := of_decide_eq_false hg
      exact y_len Try.underlying34 (e4.1 hg)
    · intro ax tx hs okx sm d0 d1 d2
      have e3 : At (Ty.grd ((decide ((r.getD k 0) < (0 : Int))) = false) (Ty.int (r.getD k 0))) tx ax (.tmp 23) := d0 rfl
      have e5 : At (Ty.grd ((decide ((r.getD k 0) < (0 : Int))) = false) (Ty.nat (List.length r))) tx ax (.tmp 25) := d1 rfl
      have e2 : At (Ty.bool (decide ((r.getD k 0) < (0 : Int)))) tx ax (.tmp 22) := d2 rfl
      refine run_guard (T := (Ty.bool (decide ((((List.length r) : Nat) : Int) ≤ (r.getD k 0))))) okx rfl rfl (by decide) e2 (fun hg => ?_)
      have hp := of_decide_eq_false hg
      exact y_geq (e3.1 hg) (e5.1 hg)
    · intro ax tx hs okx sm d0 d1
      have e2 : At (Ty.bool (decide ((r.getD k 0) < (0 : Int)))) tx ax (.tmp 22) := d0 rfl
      have e6 : At (Ty.grd ((decide ((r.getD k 0) < (0 : Int))) = false) (Ty.bool (decide ((((List.length r) : Nat) : Int) ≤ (r.getD k 0))))) tx ax (.tmp 26) := d1 rfl
      exact run_plain rfl (y_pick_or e2 rfl e6)
    · intro ax tx hs okx sm d0 d1
      have e7 : At (Ty.bool ((decide ((r.getD k 0) < (0 : Int))) || (decide ((((List.length r) : Nat) : Int) ≤ (r.getD k 0))))) tx ax (.tmp 27) := d0 rfl
      have e2 : At (Ty.bool (decide ((r.getD k 0) < (0 : Int)))) tx ax (.tmp 22) := d1 rfl
      exact run_plain rfl (y_move e7)
    · intro ax tx hs okx sm d0
      have e8 : At (Ty.bool ((decide ((r.getD k 0) < (0 : Int))) || (decide ((((List.length r) : Nat) : Int) ≤ (r.getD k 0))))) tx ax (.tmp 28) := d0 rfl
      refine run_guard (T := (Ty.int (r.getD k 0))) okx rfl rfl (by decide) e8 (fun hg => ?_)
      obtain ⟨d3, d4⟩ := Bool.or_eq_false_iff.mp hg
      have d3 := of_decide_eq_false d3
      have d4 := of_decide_eq_false d4
      exact y_move (kp (sm 5 rfl) hs q28)
    · intro ax tx hs okx sm d0 d1
      have e9 : At (Ty.grd (((decide ((r.getD k 0) < (0 : Int))) || (decide ((((List.length r) : Nat) : Int) ≤ (r.getD k 0)))) = false) (Ty.int (r.getD k 0))) tx ax (.tmp 29) := d0 rfl
      have e8 : At (Ty.bool ((decide ((r.getD k 0) < (0 : Int))) || (decide ((((List.length r) : Nat) : Int) ≤ (r.getD k 0))))) tx ax (.tmp 28) := d1 rfl
      refine run_guard (T := (Ty.val (ptrAt (a9.eval (.tmp 3)) ((r.getD k 0)).toNat))) okx rfl rfl (by decide) e8 (fun hg => ?_)
      obtain ⟨d5, d6⟩ := Bool.or_eq_false_iff.mp hg
      have d5 := of_decide_eq_false d5
      have d6 := of_decide_eq_false d6
      exact ownp_index (i := (r.getD k 0)) Try.underlying155 Try.inf3 ((Pr.ownp 11 (List.map Ty.int (seenL r k))).up hs q24) (sm 3 rfl) (e9.1 hg) (by omega) (by omega)
    · intro ax tx hs okx sm d0 d1
      have e10 : At (Ty.grd (((decide ((r.getD k 0) < (0 : Int))) || (decide ((((List.length r) : Nat) : Int) ≤ (r.getD k 0)))) = false) (Ty.val (ptrAt (a9.eval (.tmp 3)) ((r.getD k 0)).toNat))) tx ax (.tmp 30) := d0 rfl
      have e8 : At (Ty.bool ((decide ((r.getD k 0) < (0 : Int))) || (decide ((((List.length r) : Nat) : Int) ≤ (r.getD k 0))))) tx ax (.tmp 28) := d1 rfl
      refine run_guard (T := (Ty.int ((seenL r k).getD ((r.getD k 0)).toNat 0))) okx rfl rfl (by decide) e8 (fun hg => ?_)
      obtain ⟨d7, d8⟩ := Bool.or_eq_false_iff.mp hg
      have d7 := of_decide_eq_false d7
      have d8 := of_decide_eq_false d8
      exact ownp_load Try.underlying3 rfl ((Pr.ownp 11 (List.map Ty.int (seenL r k))).up hs q24) (e10.1 hg) (lst_get Ty.int (seenL r k) 0 ((r.getD k 0)).toNat (by omega))
    · intro ax tx hs okx sm d0 d1
      have e11 : At (Ty.grd (((decide ((r.getD k 0) < (0 : Int))) || (decide ((((List.length r) : Nat) : Int) ≤ (r.getD k 0)))) = false) (Ty.int ((seenL r k).getD ((r.getD k 0)).toNat 0))) tx ax (.tmp 31) := d0 rfl
      have e8 : At (Ty.bool ((decide ((r.getD k 0) < (0 : Int))) || (decide ((((List.length r) : Nat) : Int) ≤ (r.getD k 0))))) tx ax (.tmp 28) := d1 rfl
      refine run_guard (T := (Ty.bool (decide ((0 : Int) < ((seenL r k).getD ((r.getD k 0)).toNat 0))))) okx rfl rfl (by decide) e8 (fun hg => ?_)
      obtain ⟨d9, d10⟩ := Bool.or_eq_false_iff.mp hg
      have d9 := of_decide_eq_false d9
      have d10 := of_decide_eq_false d10
      exact y_gtr (e11.1 hg) rfl
    · intro ax tx hs okx sm d0 d1
      have e8 : At (Ty.bool ((decide ((r.getD k 0) < (0 : Int))) || (decide ((((List.length r) : Nat) : Int) ≤ (r.getD k 0))))) tx ax (.tmp 28) := d0 rfl
      have e12 : At (Ty.grd (((decide ((r.getD k 0) < (0 : Int))) || (decide ((((List.length r) : Nat) : Int) ≤ (r.getD k 0)))) = false) (Ty.bool (decide ((0 : Int) < ((seenL r k).getD ((r.getD k 0)).toNat 0))))) tx ax (.tmp 32) := d1 rfl
      exact run_plain rfl (y_pick_or e8 rfl e12)
    intro a10 s8 D8
    have ok9 := D8.ok
    have F9 := F8.step0 D8.stp
    have q29 : At (Ty.nat k) s8 a10 (.tmp 16) := D8.kt q23 rfl
    have q30 : (Pr.ownp 11 (List.map Ty.int (seenL r k))).has s8 (a10.eval (.tmp 3)) := D8.ko q24 rfl
    have q31 : At (Ty.lst Ty.int r) s8 a10 (.tmp 0) := D8.kt q25 rfl
    have q32 : At (Ty.lst Ty.int r) s8 a10 (.tmp 14) := D8.kt q26 rfl
    have q33 : At (Ty.nat (List.length r)) s8 a10 (.tmp 15) := D8.kt q27 rfl
    have q34 : At (Ty.int (r.getD k 0)) s8 a10 (.tmp 5) := D8.kt q28 rfl
    have q35 : At (Ty.bool (((decide ((r.getD k 0) < (0 : Int))) || (decide ((((List.length r) : Nat) : Int) ≤ (r.getD k 0)))) || (decide ((0 : Int) < ((seenL r k).getD ((r.getD k 0)).toNat 0))))) s8 a10 (.tmp 33) := D8.done 13
    clear D8
    refine tn ?_
    refine cond_t q35 (fun c3 => ?_) (fun c3 => ?_)
    ·
     simp only [Bool.or_eq_true, decide_eq_true_eq] at c3
     refine wp_seq ?_
     refine reg (a := a10) (σ := s8) rfl (fun i_ => List.getD [(Ty.pr (Ty.int (2 : Int)))] i_ Pr.any) ok9 rfl ⟨?_, trivial⟩ ?_
     · intro ax tx hs okx sm
       exact run_plain rfl (y_assign rfl)
     intro a11 s9 D9
     have ok10 := D9.ok
     have F10 := F9.step0 D9.stp
     have q36 : At (Ty.int (2 : Int)) s9 a11 (.tmp 2) := D9.done 0
     clear D9
     refine tn ?_
     refine wp_ret ?_
     refine tr ?_
     refine br ?_
     refine tr ?_
     refine tr ?_
     refine br ?_
     refine tr ?_
     exact ret1 rfl ok10 F10 (cvi (by (by_cases hb : r.getD k 0 < 0 ∨ (r.length : Int) ≤ r.getD k 0; exact (not_row_bd (by omega) (by omega) (by omega) hb).symm; exact (not_row_twice (k := k) (by omega) (by omega) (by omega) (by omega) (by omega) (by omega)).symm)) q36)
    ·
     obtain ⟨d11, d12⟩ := Bool.or_eq_false_iff.mp c3
     obtain ⟨d13, d14⟩ := Bool.or_eq_false_iff.mp d11
     replace d13 := of_decide_eq_false d13
     replace d14 := of_decide_eq_false d14
     replace d12 := of_decide_eq_false d12
     have hq := seenL_bd r k (r.getD k 0).toNat
     refine wp_skip ?_
     refine tn ?_
     refine reg2 (a := a10) (σ := s8) rfl 5 (fun i_ => List.getD [(Ty.pr (Ty.int (r.getD k 0))), (Ty.pr (Ty.val (ptrAt (a10.eval (.tmp 3)) ((r.getD k 0)).toNat))), (Ty.pr (Ty.int ((seenL r k).getD ((r.getD k 0)).toNat 0))), (Ty.pr (Ty.int (((seenL r k).getD ((r.getD k 0)).toNat 0) + (1 : Int)))), (Ty.pr (Ty.val (ptrAt (a10.eval (.tmp 3)) ((r.getD k 0)).toNat)))] i_ Pr.any) ok9 rfl (by decide) rfl ⟨?_, ?_, ?_, ?_, ?_, trivial⟩ ?_
     · intro ax tx hs okx sm
       exact run_plain rfl (y_move (kp (sm 5 rfl) hs q34))
     · intro ax tx hs okx sm d0
       have e0 : At (Ty.int (r.getD k 0)) tx ax (.tmp 34) := d0 rfl
       exact run_plain rfl (ownp_index (i := (r.getD k 0)) Try.underlying155 Try.inf3 ((Pr.ownp 11 (List.map Ty.int (seenL r k))).up hs q30) (sm 3 rfl) e0 (by omega) (by omega))
     · intro ax tx hs okx sm d0
       have e1 : At (Ty.val (ptrAt (a10.eval (.tmp 3)) ((r.getD k 0)).toNat)) tx ax (.tmp 35) := d0 rfl
       exact run_plain rfl (ownp_load Try.underlying3 rfl ((Pr.ownp 11 (List.map Ty.int (seenL r k))).up hs q30) e1 (lst_get Ty.int (seenL r k) 0 ((r.getD k 0)).toNat (by omega)))
     · intro ax tx hs okx sm d0
       have e2 : At (Ty.int ((seenL r k).getD ((r.getD k 0)).toNat 0)) tx ax (.tmp 36) := d0 rfl
       exact run_plain rfl (y_add e2 rfl (w64 (by omega) (by omega)))
     · intro ax tx hs okx sm d0 d1 d2 d3 d4
       have e0 : At (Ty.int (r.getD k 0)) tx ax (.tmp 34) := d0 rfl
       have e1 : At (Ty.val (ptrAt (a10.eval (.tmp 3)) ((r.getD k 0)).toNat)) tx ax (.tmp 35) := d2 rfl
       have e2 : At (Ty.int ((seenL r k).getD ((r.getD k 0)).toNat 0)) tx ax (.tmp 36) := d3 rfl
       have e3 : At (Ty.int (((seenL r k).getD ((r.getD k 0)).toNat 0) + (1 : Int))) tx ax (.tmp 37) := d4 rfl
       exact run_plain rfl (ownp_index (i := (r.getD k 0)) Try.underlying155 Try.inf3 ((Pr.ownp 11 (List.map Ty.int (seenL r k))).up hs q30) (sm 3 rfl) e0 (by omega) (by omega))
     intro a12 s10 D10
     have ok11 := D10.ok
     have F11 := F9.step0 D10.stp
     have q37 := (Pr.ownp 11 (List.map Ty.int (seenL r k))).up D10.stp q30
     have q38 : At (Ty.nat k) s10 a12 (.tmp 16) := D10.kt q29 rfl
     have q39 : a12.eval (.tmp 3) = a10.eval (.tmp 3) := D10.same 3 rfl
     have q40 : At (Ty.lst Ty.int r) s10 a12 (.tmp 0) := D10.kt q31 rfl
     have q41 : At (Ty.lst Ty.int r) s10 a12 (.tmp 14) := D10.kt q32 rfl
     have q42 : At (Ty.nat (List.length r)) s10 a12 (.tmp 15) := D10.kt q33 rfl
     have q43 : At (Ty.int (((seenL r k).getD ((r.getD k 0)).toNat 0) + (1 : Int))) s10 a12 (.tmp 37) := D10.done 3 (by decide)
     have q44 : At (Ty.val (ptrAt (a10.eval (.tmp 3)) ((r.getD k 0)).toNat)) s10 a12 (.tmp 38) := D10.done 4 (by decide)
     clear D10
     refine tail_step0 (m := 11) (R := (fun _ τ => OwnP τ 11 (a10.eval (.tmp 3)) ((List.map Ty.int (seenL r k)).set ((r.getD k 0)).toNat (Ty.int (((seenL r k).getD ((r.getD k 0)).toNat 0) + (1 : Int)))))) rfl rfl (m_storep Try.inf3 (by decide) q37 q44 (by simp only [List.length_map, List.length_set]; omega) q43 (one_val rfl)) (fun v1 s11 hs1 r1 => ?_)
     have F12 := F11.step hs1 (by decide)
     have q45 : At (Ty.nat k) s11 a12 (.tmp 16) := kpm hs1 (by decide) rfl q38
     have q46 : At (Ty.lst Ty.int r) s11 a12 (.tmp 0) := kpm hs1 (by decide) rfl q40
     have q47 : At (Ty.lst Ty.int r) s11 a12 (.tmp 14) := kpm hs1 (by decide) rfl q41
     have q48 : At (Ty.nat (List.length r)) s11 a12 (.tmp 15) := kpm hs1 (by decide) rfl q42
     have q49 : At (Ty.int (((seenL r k).getD ((r.getD k 0)).toNat 0) + (1 : Int))) s11 a12 (.tmp 37) := kpm hs1 (by decide) rfl q43
     have q50 : (Pr.ownp 11 (List.map Ty.int ((seenL r k).set ((r.getD k 0)).toNat (((seenL r k).getD ((r.getD k 0)).toNat 0) + (1 : Int))))).has s11 (a10.eval (.tmp 3)) := (cvop (by simp) r1)
     refine wpList_nil ?_
     have q51 : (Pr.ownp 11 (List.map Ty.int ((seenL r k).set ((r.getD k 0)).toNat (((seenL r k).getD ((r.getD k 0)).toNat 0) + (1 : Int))))).has s11 (a12.eval (.tmp 3)) := al q39 q50
     refine bn ?_
     refine tn ?_
     refine reg (a := a12) (σ := s11) rfl (fun i_ => List.getD [(Ty.pr (Ty.int (((k : Nat) : Int) + (1 : Int)))), (Ty.pr (Ty.int (((k : Nat) : Int) + (1 : Int))))] i_ Pr.any) ok11 rfl ⟨?_, ?_, trivial⟩ ?_
     · intro ax tx hs okx sm
       exact run_plain rfl (y_add (kp (sm 16 rfl) hs q45) rfl (w64 (by omega) (by omega)))
     · intro ax tx hs okx sm d0
       have e0 : At (Ty.int (((k : Nat) : Int) + (1 : Int))) tx ax (.tmp 39) := d0 rfl
       exact run_plain rfl (y_move e0)
     intro a14 s12 D11
     have ok13 := D11.ok
     have F13 := F12.step0 D11.stp
     have q52 : (Pr.ownp 11 (List.map Ty.int ((seenL r k).set ((r.getD k 0)).toNat (((seenL r k).getD ((r.getD k 0)).toNat 0) + (1 : Int))))).has s12 (a14.eval (.tmp 3)) := D11.ko q51 rfl
     have q53 : At (Ty.lst Ty.int r) s12 a14 (.tmp 0) := D11.kt q46 rfl
     have q54 : At (Ty.lst Ty.int r) s12 a14 (.tmp 14) := D11.kt q47 rfl
     have q55 : At (Ty.nat (List.length r)) s12 a14 (.tmp 15) := D11.kt q48 rfl
     have q56 : At (Ty.int (((k : Nat) : Int) + (1 : Int))) s12 a14 (.tmp 16) := D11.done 1
     clear D11
     exact tn ⟨r.length - ((k+1)), by omega, s12, (k+1), rfl, F13, ok13, (cvi (by (first | rfl | omega | (simp_all; done) | (simp_all; omega))) q56), (cvop (by (exact congrArg _ (seenL_step r k (by omega) (by omega) (by omega)))) q52), q53, q54, q55, by omega, hu.step (by omega) (by omega) (by omega) (by omega) (by omega), rfl⟩
   ·
    refine wp_exit ?_
    refine tx ?_
    refine tx ?_
    refine bx ?_
    refine tn ?_
    refine wp_seq ?_
    refine reg (a := a8) (σ := s6) rfl (fun i_ => List.getD [(Ty.pr (Ty.int (0 : Int)))] i_ Pr.any) ok7 rfl ⟨?_, trivial⟩ ?_
    · intro ax tx hs okx sm
      exact run_plain rfl (y_assign rfl)
    intro a15 s13 D12
    have ok14 := D12.ok
    have F14 := F7.step0 D12.stp
    have q57 : At (Ty.int (0 : Int)) s13 a15 (.tmp 2) := D12.done 0
    clear D12
    refine tn ?_
    refine wp_ret ?_
    exact ret1 rfl ok14 F14 (cvi (by (exact (Upto.row (by have e : k = r.length := (by omega); rw [← e]; rw [e] at hu; rw [e]; exact hu) (by omega) (by omega)).symm)) q57)


end Go.Proofs.Ytlhnpkaohfoicaa
