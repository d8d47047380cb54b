/- The functions that the law TopFalse reaches, each by its contract. Part 3. -/
import Derived.Test.YtbilebfnanlgfaaTopFalseW2
namespace Go.Proofs.Ytbilebfnanlgfaa
open Go.KL

set_option maxRecDepth 100000 in
theorem changesOf_fn (raw : List Int) (b : Nat) (n : Nat) (many : Nat) (σ : GW) (v0 v1 v2 v3 : Value) (hv0 : Ty.has (Ty.lst Ty.int raw) σ v0) (hv1 : Ty.has (Ty.nat b) σ v1) (hv2 : Ty.has (Ty.nat n) σ v2) (hv3 : Ty.has (Ty.nat many) σ v3) (hn : n ≤ 100) (hm : many ≤ 1000) (hb : b ≤ 1000) (hr : ∀ k, -9223372036854775808 ≤ rawAt raw k ∧ rawAt raw k ≤ 9223372036854775807) :
    FnC Try.prog 53 #[v0, v1, v2, v3] σ (Ty.lst Ty.ints (changesOf raw b n many)) := by
 refine fn_intro Try.func53 rfl Try.ntmps53 (Nat.le_of_ble_eq_true rfl) (fun s0 a0 hle F0 ok0 hargs => ?_)
 have p0 : At (Ty.lst Ty.int raw) s0 a0 (.tmp 0) := by have e := hargs 0 _ rfl; show Ty.has _ _ _; rw [e]; exact Ty.up _ hle hv0
 have b1 := sl_le p0
 have p1 : At (Ty.nat b) s0 a0 (.tmp 1) := by have e := hargs 1 _ rfl; show Ty.has _ _ _; rw [e]; exact Ty.up _ hle hv1
 have p2 : At (Ty.nat n) s0 a0 (.tmp 2) := by have e := hargs 2 _ rfl; show Ty.has _ _ _; rw [e]; exact Ty.up _ hle hv2
 have p3 : At (Ty.nat many) s0 a0 (.tmp 3) := by have e := hargs 3 _ rfl; show Ty.has _ _ _; rw [e]; exact Ty.up _ hle hv3
 clear hargs; refine wp_seq ?_
 refine rg a0 s0 [(Ty.val (Value.slice none 0 0))] ok0 ⟨?_, trivial⟩ ?_
 · intro A B E G H; exact rP (y_assign rfl)
 intro a1 s1 D1; have ok1 := D1.ok; have F1 := F0.step0 D1.stp; have q1 := D1.kt p0 rfl; have q2 := D1.kt p1 rfl; have q3 := D1.kt p2 rfl; have q4 := D1.kt p3 rfl; clear D1; refine tn ?_; refine wp_seq ?_
 refine rg a1 s1 [(Ty.val (Value.slice none 0 0))] ok1 ⟨?_, trivial⟩ ?_
 · intro A B E G H; exact rP (y_assign rfl)
 intro a2 s2 D2; have ok2 := D2.ok; have F2 := F1.step0 D2.stp; have q5 := D2.kt q1 rfl; have q6 := D2.kt q2 rfl; have q7 := D2.kt q3 rfl; have q8 := D2.kt q4 rfl; have q9 := D2.dn 0 rfl rfl; clear D2; refine tn ?_; refine wp_seq ?_; refine wp_seq ?_
 refine rg a2 s2 [(Ty.int (0 : Int))] ok2 ⟨?_, trivial⟩ ?_
 · intro A B E G H; exact rP (y_assign rfl)
 intro a3 s3 D3; have ok3 := D3.ok; have F3 := F2.step0 D3.stp; have q10 := D3.kt q5 rfl; have q11 := D3.kt q6 rfl; have q12 := D3.kt q7 rfl; have q13 := D3.kt q8 rfl; have q14 := D3.kt q9 rfl; have q15 := D3.dn 0 rfl rfl; clear D3; refine tn ?_
 refine wp_block ?_
 refine loop (fun n1 a4 w1 => ∃ (t1 : GW) (k : Nat), t1.w = w1 ∧ From s0 t1 ∧ Ok 29 a4 ∧ (Pr.own 2 23 1 (List.length (changesOf raw b n k)) (List.map Ty.ints (changesOf raw b n k))).has t1 (a4.eval (.tmp 9)) ∧ At (Ty.nat k) t1 a4 (.tmp 10) ∧ At (Ty.lst Ty.int raw) t1 a4 (.tmp 0) ∧ At (Ty.nat b) t1 a4 (.tmp 1) ∧ At (Ty.nat n) t1 a4 (.tmp 2) ∧ At (Ty.nat many) t1 a4 (.tmp 3) ∧ (k ≤ many) ∧ n1 = many - k) (many - (0)) ?_ ?_
 ·
  exact ⟨s3, 0, rfl, F3, ok3, (by have e : a3.eval (.tmp 9) = _ := q14; rw [e]; exact Own.nil _ _ _ _), (cvi (by (first | rfl | omega | (simp_all; done) | (simp_all; omega))) q15), q10, q11, q12, q13, by omega, rfl⟩
 ·
  rintro n2 a5 w2 ⟨t2, k, rfl, F4, ok4, q16, q17, q18, q19, q20, q21, hk, rfl⟩
  have hp := changesOf_len raw b n k
  have hrk := hr (b + k)
  refine wp_seq ?_; refine wp_seq ?_
  refine reg (a := a5) (σ := t2) rfl (fun i_ => List.getD [(Ty.pr (Ty.nat k)), (Ty.pr (Ty.nat many)), (Ty.pr (Ty.bool (decide (((k : Nat) : Int) < ((many : Nat) : Int)))))] i_ Pr.any) ok4 rfl ⟨?_, ?_, ?_, trivial⟩ ?_
  · intro A B E G H; exact rP (y_move (kp (H 10 rfl) E q17))
  · intro A B E G H; exact rP (y_move (kp (H 3 rfl) E q21))
  · intro A B E G H d0 d1; exact rP (y_lss (ed d0 rfl rfl rfl) (ed d1 rfl rfl rfl))
  intro a6 s4 D4; have ok5 := D4.ok; have F5 := F4.step0 D4.stp
  have q22 : (Pr.own 2 23 1 (List.length (changesOf raw b n k)) (List.map Ty.ints (changesOf raw b n k))).has s4 (a6.eval (.tmp 9)) := D4.ko q16 rfl
  have q23 := D4.kt q17 rfl; have q24 := D4.kt q18 rfl; have q25 := D4.kt q19 rfl; have q26 := D4.kt q20 rfl; have q27 := D4.kt q21 rfl; have q28 := D4.dn 2 rfl rfl; clear D4; refine tn ?_
  refine cond_p (p := (((k : Nat) : Int) < ((many : Nat) : Int))) q28 (fun c1 => ?_) (fun c1 => ?_)
  ·
   refine wp_skip ?_
   refine tn ?_; refine wp_seq ?_
   refine wp_block ?_
   refine wp_seq ?_
   refine rg a6 s4 [(Ty.lst Ty.int raw), (Ty.nat b), (Ty.nat k), (Ty.nat (b + k)), (Ty.int (rawAt raw ((b + k)))), (Ty.nat n), (Ty.lst Ty.int (changeOf ((rawAt raw ((b + k)))) n)), (Ty.lst Ty.int (changeOf ((rawAt raw ((b + k)))) n))] ok5 ⟨?_, ?_, ?_, ?_, ?_, ?_, ?_, ?_, trivial⟩ ?_
   · intro A B E G H; exact rP (y_move (kp (H 0 rfl) E q24))
   · intro A B E G H; exact rP (y_move (kp (H 1 rfl) E q25))
   · intro A B E G H; exact rP (y_move (kp (H 10 rfl) E q23))
   · intro A B E G H d0 d1; exact rP ((y_add (ed d0 rfl rfl rfl) (ed d1 rfl rfl rfl) (w64 (by omega) (by omega))).mono (fun τ _ h => cvi (σ := τ) (by first | omega | exact (Int.natCast_mul _ _).symm) h))
   · intro A B E G H d0 d1; exact rP (y_call #[A.eval (.tmp 17), A.eval (.tmp 20)] Try.func32 rfl rfl (by simp only [List.map_toArray, List.map_cons, List.map_nil]) (raw_fn (raw) ((b + k)) _ _ _ (ed d0 rfl rfl rfl) (ed d1 rfl rfl rfl) ))
   · intro A B E G H; exact rP (y_move (kp (H 2 rfl) E q26))
   · intro A B E G H d0 d1 d2; exact rP (y_call #[A.eval (.tmp 21), A.eval (.tmp 22)] Try.func87 rfl rfl (by simp only [List.map_toArray, List.map_cons, List.map_nil]) (changeOf_fn ((rawAt raw ((b + k)))) (n) _ _ _ (ed d0 rfl rfl rfl) (ed d1 rfl rfl rfl) (by omega) (by omega)))
   · intro A B E G H d0 d1 d2 d3 d4 d5 d6 d7 d8; exact rP (y_assign (ed d0 rfl rfl rfl))
   intro a7 s5 D5; have ok6 := D5.ok; have F6 := F5.step0 D5.stp
   have q29 : (Pr.own 2 23 1 (List.length (changesOf raw b n k)) (List.map Ty.ints (changesOf raw b n k))).has s5 (a7.eval (.tmp 9)) := D5.ko q22 rfl
   have q30 := D5.kt q23 rfl; have q31 := D5.kt q24 rfl; have q32 := D5.kt q25 rfl; have q33 := D5.kt q26 rfl; have q34 := D5.kt q27 rfl; have q35 := D5.dn 7 rfl rfl; clear D5; refine tn ?_
   refine reg2 (a := a7) (σ := s5) rfl 3 (fun i_ => List.getD [(Ty.pr (Ty.val (a7.eval (.tmp 9)))), (Ty.pr (Ty.lst Ty.int (changeOf ((rawAt raw ((b + k)))) n))), (Ty.pr (Ty.sl 1 1 [(Ty.lst Ty.int (changeOf ((rawAt raw ((b + k)))) n))]))] i_ Pr.any) ok6 rfl (by decide) rfl ⟨?_, ?_, ?_, trivial⟩ ?_
   · intro A B E G H; exact rP (y_move (H 9 rfl))
   · intro A B E G H; exact rP (y_move (kp (H 11 rfl) E q35))
   · intro A B E G H d0; exact rP (y_build1o Try.underlying29 Try.inf23 rfl (one_sl) (ed d0 rfl rfl rfl))
   intro a8 s6 D6; have ok7 := D6.ok; have F7 := F6.step0 D6.stp; have q36 := (Pr.own 2 23 1 (List.length (changesOf raw b n k)) (List.map Ty.ints (changesOf raw b n k))).up D6.stp q29
   have q37 : a8.eval (.tmp 9) = a7.eval (.tmp 9) := D6.same 9 rfl
   have q38 := D6.kt q30 rfl; have q39 := D6.kt q31 rfl; have q40 := D6.kt q32 rfl; have q41 := D6.kt q33 rfl; have q42 := D6.kt q34 rfl; have q43 := D6.dn 0 (by decide) rfl rfl; have q44 := D6.dn 2 (by decide) rfl rfl; clear D6
   refine tail_step (m := 2) (R := (fun v τ => Own τ 2 23 1 v ((List.length (changesOf raw b n k)) + 1) ((List.map Ty.ints (changesOf raw b n k)) ++ [(Ty.lst Ty.int (changeOf ((rawAt raw ((b + k)))) n))]))) rfl rfl (by decide) ok7 (m_append Try.underlying29 Try.inf23 (by decide) rfl (by decide) (al q43 q36) q44 (by intro U hU; simp at hU;  subst hU; exact one_sl) (by omega) (by omega)) (fun a9 s7 hs1 ok8 r1 sm1 => ?_)
   have F8 := F7.step hs1 (by decide)
   have q45 : At (Ty.nat k) s7 a9 (.tmp 10) := kpm hs1 (by decide) (sm1 10 (by decide)) q38
   have q46 : At (Ty.lst Ty.int raw) s7 a9 (.tmp 0) := kpm hs1 (by decide) (sm1 0 (by decide)) q39
   have q47 : At (Ty.nat b) s7 a9 (.tmp 1) := kpm hs1 (by decide) (sm1 1 (by decide)) q40
   have q48 : At (Ty.nat n) s7 a9 (.tmp 2) := kpm hs1 (by decide) (sm1 2 (by decide)) q41
   have q49 : At (Ty.nat many) s7 a9 (.tmp 3) := kpm hs1 (by decide) (sm1 3 (by decide)) q42
   have q50 : At (Ty.sl 1 1 [(Ty.lst Ty.int (changeOf ((rawAt raw ((b + k)))) n))]) s7 a9 (.tmp 26) := kpm hs1 (by decide) (sm1 26 (by decide)) q44
   have q51 : (Pr.own 2 23 1 (List.length ((changesOf raw b n k) ++ [(changeOf ((rawAt raw ((b + k)))) n)])) (List.map Ty.ints ((changesOf raw b n k) ++ [(changeOf ((rawAt raw ((b + k)))) n)]))).has s7 (a9.eval (.tmp 27)) := (cvo (by simp) (by first | (rw [List.map_append]; rfl) | simp) r1)
   refine tail_step (m := 0) (R := (fun v τ => Pr.has (Pr.own 2 23 1 (List.length ((changesOf raw b n k) ++ [(changeOf ((rawAt raw ((b + k)))) n)])) (List.map Ty.ints ((changesOf raw b n k) ++ [(changeOf ((rawAt raw ((b + k)))) n)]))) τ v)) rfl rfl (by decide) ok8 (Yld.toM (y_assign q51)) (fun a10 s8 hs2 ok9 r2 sm2 => ?_)
   have F9 := F8.step hs2 (by decide)
   have q52 : At (Ty.nat k) s8 a10 (.tmp 10) := kpm hs2 (by decide) (sm2 10 (by decide)) q45
   have q53 : At (Ty.lst Ty.int raw) s8 a10 (.tmp 0) := kpm hs2 (by decide) (sm2 0 (by decide)) q46
   have q54 : At (Ty.nat b) s8 a10 (.tmp 1) := kpm hs2 (by decide) (sm2 1 (by decide)) q47
   have q55 : At (Ty.nat n) s8 a10 (.tmp 2) := kpm hs2 (by decide) (sm2 2 (by decide)) q48
   have q56 : At (Ty.nat many) s8 a10 (.tmp 3) := kpm hs2 (by decide) (sm2 3 (by decide)) q49
   have q57 : At (Ty.sl 1 1 [(Ty.lst Ty.int (changeOf ((rawAt raw ((b + k)))) n))]) s8 a10 (.tmp 26) := kpm hs2 (by decide) (sm2 26 (by decide)) q50
   have q58 : (Pr.own 2 23 1 (List.length ((changesOf raw b n k) ++ [(changeOf ((rawAt raw ((b + k)))) n)])) (List.map Ty.ints ((changesOf raw b n k) ++ [(changeOf ((rawAt raw ((b + k)))) n)]))).has s8 (a10.eval (.tmp 27)) := kpmo hs2 (by decide) (.inl rfl) (sm2 27 (by decide)) q51
   have q59 : (Pr.own 2 23 1 (List.length ((changesOf raw b n k) ++ [(changeOf ((rawAt raw ((b + k)))) n)])) (List.map Ty.ints ((changesOf raw b n k) ++ [(changeOf ((rawAt raw ((b + k)))) n)]))).has s8 (a10.eval (.tmp 9)) := r2
   refine wpList_nil ?_; refine bn ?_; refine tn ?_
   refine rg a10 s8 [(Ty.nat k), (Ty.nat (k + 1)), (Ty.nat (k + 1))] ok9 ⟨?_, ?_, ?_, trivial⟩ ?_
   · intro A B E G H; exact rP (y_move (kp (H 10 rfl) E q52))
   · intro A B E G H d0; exact rP ((y_add (ed d0 rfl rfl rfl) rfl (w64 (by omega) (by omega))).mono (fun τ _ h => cvi (σ := τ) (by first | omega | exact (Int.natCast_mul _ _).symm) h))
   · intro A B E G H d0 d1 d2; exact rP (y_assign (ed d0 rfl rfl rfl))
   intro a11 s9 D7; have ok10 := D7.ok; have F10 := F9.step0 D7.stp; have q60 := D7.kt q53 rfl; have q61 := D7.kt q54 rfl; have q62 := D7.kt q55 rfl; have q63 := D7.kt q56 rfl
   have q64 : (Pr.own 2 23 1 (List.length ((changesOf raw b n k) ++ [(changeOf ((rawAt raw ((b + k)))) n)])) (List.map Ty.ints ((changesOf raw b n k) ++ [(changeOf ((rawAt raw ((b + k)))) n)]))).has s9 (a11.eval (.tmp 9)) := D7.ko q59 rfl
   have q65 := D7.dn 2 rfl rfl; clear D7
   exact tn ⟨many - ((k+1)), by omega, s9, (k+1), rfl, F10, ok10, (cvo (by (rw [changesOf_succ raw b n k])) (by (rw [changesOf_succ raw b n k])) q64), (cvi (by (first | rfl | omega | (simp_all; done) | (simp_all; omega))) q65), q60, q61, q62, q63, by omega, rfl⟩
  ·
   refine wp_exit ?_; refine tx ?_; refine tx ?_; refine bx ?_; refine tn ?_; refine wp_seq ?_
   refine rg a6 s4 [(Ty.val (a6.eval (.tmp 9))), (Ty.val (a6.eval (.tmp 9)))] ok5 ⟨?_, ?_, trivial⟩ ?_
   · intro A B E G H; exact rP (y_move (H 9 rfl))
   · intro A B E G H d0 d1; exact rP (y_assign (ed d0 rfl rfl rfl))
   intro a12 s10 D8; have ok11 := D8.ok; have F11 := F5.step0 D8.stp
   have q66 : (Pr.own 2 23 1 (List.length (changesOf raw b n k)) (List.map Ty.ints (changesOf raw b n k))).has s10 (a12.eval (.tmp 8)) := al (show _ = _ from D8.done 1) ((Pr.own 2 23 1 (List.length (changesOf raw b n k)) (List.map Ty.ints (changesOf raw b n k))).up D8.stp q22)
   clear D8; refine tn ?_; refine wp_ret ?_
   obtain ⟨t3, e1, h1, q67⟩ := Own.seal q66 (by decide)
   rw [← e1]
   have F12 := F11.step h1 (by decide)
   exact ret1 rfl ok11 F12 (cvt (by (obtain rfl : k = many := (by omega); rfl)) q67)


set_option maxRecDepth 100000 in
theorem methodOf_fn (raw : List Int) (n : Nat) (many : Nat) (σ : GW) (v0 v1 v2 : Value) (hv0 : Ty.has (Ty.lst Ty.int raw) σ v0) (hv1 : Ty.has (Ty.nat n) σ v1) (hv2 : Ty.has (Ty.nat many) σ v2) (hn : n ≤ 100) (hm : many ≤ 1000) (hr : ∀ k, -9223372036854775808 ≤ rawAt raw k ∧ rawAt raw k ≤ 9223372036854775807) :
    FnC Try.prog 19 #[v0, v1, v2] σ (Ty.agg [(Ty.val (Value.string (ByteArray.mk #[84, 114, 105, 101, 100]))), (Ty.nat n), (Ty.lst Ty.ints (changesOf raw 3 n many))]) := by
 refine fn_intro Try.func19 rfl Try.ntmps19 (Nat.le_of_ble_eq_true rfl) (fun s0 a0 hle F0 ok0 hargs => ?_)
 have p0 : At (Ty.lst Ty.int raw) s0 a0 (.tmp 0) := by have e := hargs 0 _ rfl; show Ty.has _ _ _; rw [e]; exact Ty.up _ hle hv0
 have b1 := sl_le p0
 have p1 : At (Ty.nat n) s0 a0 (.tmp 1) := by have e := hargs 1 _ rfl; show Ty.has _ _ _; rw [e]; exact Ty.up _ hle hv1
 have p2 : At (Ty.nat many) s0 a0 (.tmp 2) := by have e := hargs 2 _ rfl; show Ty.has _ _ _; rw [e]; exact Ty.up _ hle hv2
 clear hargs; refine wp_seq ?_
 refine reg (a := a0) (σ := s0) rfl (fun i_ => List.getD [(Pr.ownp 12 [(Ty.val (.string ByteArray.empty)), (Ty.val (.int .i64 0)), (Ty.val (.slice none 0 0))])] i_ Pr.any) ok0 rfl ⟨?_, trivial⟩ ?_
 · intro A B E G H; exact rP (y_alloc Try.inf31 rfl (alloc_vals (vs := [.string ByteArray.empty, .int .i64 0, .slice none 0 0]) rfl))
 intro a1 s1 D1; have ok1 := D1.ok; have F1 := F0.step0 D1.stp; have q1 := D1.kt p0 rfl; have q2 := D1.kt p1 rfl; have q3 := D1.kt p2 rfl
 have q4 : (Pr.ownp 12 [(Ty.val (.string ByteArray.empty)), (Ty.val (.int .i64 0)), (Ty.val (.slice none 0 0))]).has s1 (a1.eval (.tmp 6)) := D1.done 0
 clear D1; refine tn ?_; refine wp_seq ?_
 refine reg2 (a := a1) (σ := s1) rfl 6 (fun i_ => List.getD [(Ty.pr (Ty.nat n)), (Ty.pr (Ty.lst Ty.int raw)), (Ty.pr (Ty.nat n)), (Ty.pr (Ty.nat many)), (Ty.pr (Ty.lst Ty.ints (changesOf raw (3) n many))), (Ty.pr (Ty.agg [(Ty.val (Value.string (ByteArray.mk #[84, 114, 105, 101, 100]))), (Ty.nat n), (Ty.lst Ty.ints (changesOf raw (3) n many))]))] i_ Pr.any) ok1 rfl (by decide) rfl ⟨?_, ?_, ?_, ?_, ?_, ?_, trivial⟩ ?_
 · intro A B E G H; exact rP (y_move (kp (H 1 rfl) E q2))
 · intro A B E G H; exact rP (y_move (kp (H 0 rfl) E q1))
 · intro A B E G H; exact rP (y_move (kp (H 1 rfl) E q2))
 · intro A B E G H; exact rP (y_move (kp (H 2 rfl) E q3))
 · intro A B E G H d0 d1 d2; exact rP (y_call #[A.eval (.tmp 8), A.eval ((Operand.const (Value.int IntKind.i64 3))), A.eval (.tmp 9), A.eval (.tmp 10)] Try.func53 rfl rfl (by simp only [List.map_toArray, List.map_cons, List.map_nil]) (changesOf_fn (raw) (3) (n) (many) _ _ _ _ _ (ed d0 rfl rfl rfl) rfl (ed d1 rfl rfl rfl) (ed d2 rfl rfl rfl) (by first | omega | exact hr _ | assumption) (by first | omega | exact hr _ | assumption) (by first | omega | exact hr _ | assumption) (by first | omega | exact hr _ | assumption)))
 · intro A B E G H d0 d1; exact rP (y_build3s rfl Try.inf31 rfl (one_val rfl) (one_val rfl) (one_sl) rfl (ed d0 rfl rfl rfl) (ed d1 rfl rfl rfl))
 intro a2 s2 D2; have ok2 := D2.ok; have F2 := F1.step0 D2.stp; have q5 := (Pr.ownp 12 [(Ty.val (.string ByteArray.empty)), (Ty.val (.int .i64 0)), (Ty.val (.slice none 0 0))]).up D2.stp q4
 have q6 : a2.eval (.tmp 6) = a1.eval (.tmp 6) := D2.same 6 rfl
 have q7 := D2.dn 5 (by decide) rfl rfl; clear D2
 refine tail_step0 (m := 12) (R := (fun _ τ => OwnP τ 12 (a1.eval (.tmp 6)) [(Ty.val (Value.string (ByteArray.mk #[84, 114, 105, 101, 100]))), (Ty.nat n), (Ty.lst Ty.ints (changesOf raw (3) n many))])) rfl rfl (m_storeagg Try.inf31 (by decide) q5 q6 rfl q7 (by intro U hU; simp only [List.mem_cons, List.not_mem_nil, or_false] at hU; rcases hU with rfl | rfl | rfl <;> first | exact one_val rfl | exact one_sl | exact one_ref)) (fun v1 s3 hs1 r1 => ?_)
 have F3 := F2.step hs1 (by decide)
 have q8 : At (Ty.agg [(Ty.val (Value.string (ByteArray.mk #[84, 114, 105, 101, 100]))), (Ty.nat n), (Ty.lst Ty.ints (changesOf raw (3) n many))]) s3 a2 (.tmp 12) := kpm hs1 (by decide) rfl q7
 have q9 : (Pr.ownp 12 [(Ty.val (Value.string (ByteArray.mk #[84, 114, 105, 101, 100]))), (Ty.nat n), (Ty.lst Ty.ints (changesOf raw (3) n many))]).has s3 (a1.eval (.tmp 6)) := r1
 refine wpList_nil ?_
 have q10 : (Pr.ownp 12 [(Ty.val (Value.string (ByteArray.mk #[84, 114, 105, 101, 100]))), (Ty.nat n), (Ty.lst Ty.ints (changesOf raw (3) n many))]).has s3 (a2.eval (.tmp 6)) := al q6 q9
 refine tn ?_; refine wp_ret ?_
 exact ret1s (ts := [(Ty.val (Value.string (ByteArray.mk #[84, 114, 105, 101, 100]))), (Ty.nat n), (Ty.lst Ty.ints (changesOf raw 3 n many))]) rfl ok2 F3 Try.underlying31 Try.inf31 (cvop (by rfl) q10)

theorem Try.inf128 : Info Try.prog 128 (.agg (Array.replicate 12 (.int .i64 0))) 12 96 := by unfold Info; kernel_rfl
set_option maxRecDepth 100000 in
theorem rowCheck_fn (r : List Int) (σ : GW) (v0 : Value) (hv0 : Ty.has (Ty.lst Ty.int r) σ v0)  :
    FnC Try.prog 69 #[v0] σ (Ty.int (rowMay r)) := by
 refine fn_intro Try.func69 rfl Try.ntmps69 (Nat.le_of_ble_eq_true rfl) (fun s0 a0 hle F0 ok0 hargs => ?_)
 have p0 : At (Ty.lst Ty.int r) s0 a0 (.tmp 0) := by have e := hargs 0 _ rfl; show Ty.has _ _ _; rw [e]; exact Ty.up _ hle hv0
 have b1 := sl_le p0
 clear hargs; refine wp_seq ?_
 refine rg a0 s0 [(Ty.int (0 : Int))] ok0 ⟨?_, trivial⟩ ?_
 · intro A B E G H; exact rP (y_assign rfl)
 intro a1 s1 D1; have ok1 := D1.ok; have F1 := F0.step0 D1.stp; have q1 := D1.kt p0 rfl; clear D1; refine tn ?_; refine wp_seq ?_; refine wp_seq ?_
 refine rg a1 s1 [(Ty.lst Ty.int r), (Ty.nat (List.length r)), (Ty.bool (decide ((((List.length r) : Nat) : Int) < (1 : Int)))), (Ty.bool (decide ((((List.length r) : Nat) : Int) < (1 : Int)))), (Ty.grd ((decide ((((List.length r) : Nat) : Int) < (1 : Int))) = false) (Ty.lst Ty.int r)), (Ty.grd ((decide ((((List.length r) : Nat) : Int) < (1 : Int))) = false) (Ty.nat (List.length r))), (Ty.grd ((decide ((((List.length r) : Nat) : Int) < (1 : Int))) = false) (Ty.bool (decide ((12 : Int) < (((List.length r) : Nat) : Int))))), (Ty.bool ((decide ((((List.length r) : Nat) : Int) < (1 : Int))) || (decide ((12 : Int) < (((List.length r) : Nat) : Int)))))] ok1 ⟨?_, ?_, ?_, ?_, ?_, ?_, ?_, ?_, trivial⟩ ?_
 · intro A B E G H; exact rP (y_move (kp (H 0 rfl) E q1))
 · intro A B E G H d0; exact rP (y_len Try.underlying23 (ed d0 rfl rfl rfl))
 · intro A B E G H d0; exact rP (y_lss (ed d0 rfl rfl rfl) rfl)
 · intro A B E G H d0; exact rP (y_move (ed d0 rfl rfl rfl))
 · intro A B E G H d0
   refine run_guard G rfl rfl (by decide) (ed d0 rfl rfl rfl) (fun hg => ?_)
   have hp := of_decide_eq_false hg
   exact y_move (kp (H 0 rfl) E q1)
 · intro A B E G H d0 d1
   refine run_guard G rfl rfl (by decide) (ed d1 rfl rfl rfl) (fun hg => ?_)
   have hp := of_decide_eq_false hg
   exact y_len Try.underlying23 ((ed d0 rfl rfl rfl).1 hg)
 · intro A B E G H d0 d1
   refine run_guard G rfl rfl (by decide) (ed d1 rfl rfl rfl) (fun hg => ?_)
   have hp := of_decide_eq_false hg
   exact y_gtr ((ed d0 rfl rfl rfl).1 hg) rfl
 · intro A B E G H d0 d1; exact rP (y_pick_or (ed d0 rfl rfl rfl) rfl (ed d1 rfl rfl rfl))
 intro a2 s2 D2; have ok2 := D2.ok; have F2 := F1.step0 D2.stp; have q2 := D2.kt q1 rfl; have q3 := D2.dn 7 rfl rfl; clear D2; refine tn ?_
 refine cond_t q3 (fun c1 => ?_) (fun c1 => ?_)
 ·
  simp only [Bool.or_eq_true, decide_eq_true_eq] at c1
  refine wp_seq ?_
  refine rg a2 s2 [(Ty.int (1 : Int))] ok2 ⟨?_, trivial⟩ ?_
  · intro A B E G H; exact rP (y_assign rfl)
  intro a3 s3 D3; have ok3 := D3.ok; have F3 := F2.step0 D3.stp; have q4 := D3.dn 0 rfl rfl; clear D3; refine tn ?_; refine wp_ret ?_
  refine tr ?_
  exact ret1 rfl ok3 F3 (cvi (by (exact (rowMay_cnt (by omega)).symm)) q4)
 ·
  obtain ⟨d1, d2⟩ := Bool.or_eq_false_iff.mp c1
  replace d1 := of_decide_eq_false d1
  replace d2 := of_decide_eq_false d2
  refine wp_skip ?_
  refine tn ?_; refine wp_seq ?_
  refine reg (a := a2) (σ := s2) rfl (fun i_ => List.getD [(Pr.ownp 11 (List.map Ty.int (List.replicate 12 0)))] i_ Pr.any) ok2 rfl ⟨?_, trivial⟩ ?_
  · intro A B E G H; exact rP (y_alloc Try.inf128 (by simp [Value.cells]) (alloc_zero 12 (by intro σ; exact rfl)))
  intro a4 s4 D4; have ok4 := D4.ok; have F4 := F2.step0 D4.stp; have q5 := D4.kt q2 rfl
  have q6 : (Pr.ownp 11 (List.map Ty.int (List.replicate 12 0))).has s4 (a4.eval (.tmp 3)) := D4.done 0
  clear D4; refine tn ?_; refine wp_seq ?_; refine wp_seq ?_
  refine rg a4 s4 [(Ty.lst Ty.int r), (Ty.nat (List.length r)), (Ty.int (0 : Int))] ok4 ⟨?_, ?_, ?_, trivial⟩ ?_
  · intro A B E G H; exact rP (y_move (kp (H 0 rfl) E q5))
  · intro A B E G H d0; exact rP (y_len Try.underlying23 (ed d0 rfl rfl rfl))
  · intro A B E G H; exact rP (y_move rfl)
  intro a5 s5 D5; have ok5 := D5.ok; have F5 := F4.step0 D5.stp; have q7 := D5.kt q5 rfl
  have q8 : (Pr.ownp 11 (List.map Ty.int (List.replicate 12 0))).has s5 (a5.eval (.tmp 3)) := D5.ko q6 rfl
  have q9 := D5.dn 0 rfl rfl; have q10 := D5.dn 1 rfl rfl; have q11 := D5.dn 2 rfl rfl; clear D5; refine tn ?_
  refine wp_block ?_
  refine loop (fun n1 a6 w1 => ∃ (t1 : GW) (k : Nat), t1.w = w1 ∧ From s0 t1 ∧ Ok 40 a6 ∧ At (Ty.nat k) t1 a6 (.tmp 16) ∧ (Pr.ownp 11 (List.map Ty.int (seenL r k))).has t1 (a6.eval (.tmp 3)) ∧ At (Ty.lst Ty.int r) t1 a6 (.tmp 0) ∧ At (Ty.lst Ty.int r) t1 a6 (.tmp 14) ∧ At (Ty.nat (List.length r)) t1 a6 (.tmp 15) ∧ (k ≤ r.length) ∧ (Upto r k) ∧ n1 = r.length - k) (r.length - (0)) ?_ ?_
  ·
   exact ⟨s5, 0, rfl, F5, ok5, (cvi (by (first | rfl | omega | (simp_all; done) | (simp_all; omega))) q11), (cvop (by (rw [seenL_zero])) q8), q7, q9, q10, by omega, Upto.zero r, rfl⟩
  ·
   rintro n2 a7 w2 ⟨t2, k, rfl, F6, ok6, q12, q13, q14, q15, q16, hk, hu, rfl⟩
   have E := seenL_len r k
   refine wp_seq ?_
   refine reg (a := a7) (σ := t2) rfl (fun i_ => List.getD [(Ty.pr (Ty.bool (decide (((k : Nat) : Int) < (((List.length r) : Nat) : Int)))))] i_ Pr.any) ok6 rfl ⟨?_, trivial⟩ ?_
   · intro A B E G H; exact rP (y_lss (kp (H 16 rfl) E q12) (kp (H 15 rfl) E q16))
   intro a8 s6 D6; have ok7 := D6.ok; have F7 := F6.step0 D6.stp; have q17 := D6.kt q12 rfl
   have q18 : (Pr.ownp 11 (List.map Ty.int (seenL r k))).has s6 (a8.eval (.tmp 3)) := D6.ko q13 rfl
   have q19 := D6.kt q14 rfl; have q20 := D6.kt q15 rfl; have q21 := D6.kt q16 rfl; have q22 := D6.dn 0 rfl rfl; clear D6; refine tn ?_; refine wp_seq ?_
   refine cond_p (p := (((k : Nat) : Int) < (((List.length r) : Nat) : Int))) q22 (fun c2 => ?_) (fun c2 => ?_)
   ·
    refine wp_skip ?_
    refine tn ?_; refine wp_seq ?_
    refine wp_block ?_
    refine wp_seq ?_
    refine rg a8 s6 [(Ty.ref [(Ty.int (r.getD k 0))]), (Ty.int (r.getD k 0)), (Ty.int (r.getD k 0))] ok7 ⟨?_, ?_, ?_, trivial⟩ ?_
    · intro A B E G H; exact rP (y_index1 Try.underlying23 Try.inf3 (kp (H 14 rfl) E q20) (kp (H 16 rfl) E q17) (by omega) (lst_get Ty.int r 0 k (by omega)))
    · intro A B E G H d0; exact rP (y_load Try.underlying3 rfl (ed d0 rfl rfl rfl) rfl)
    · intro A B E G H d0 d1 d2; exact rP (y_assign (ed d0 rfl rfl rfl))
    intro a9 s7 D7; have ok8 := D7.ok; have F8 := F7.step0 D7.stp; have q23 := D7.kt q17 rfl
    have q24 : (Pr.ownp 11 (List.map Ty.int (seenL r k))).has s7 (a9.eval (.tmp 3)) := D7.ko q18 rfl
    have q25 := D7.kt q19 rfl; have q26 := D7.kt q20 rfl; have q27 := D7.kt q21 rfl; have q28 := D7.dn 2 rfl rfl; clear D7; refine tn ?_; refine wp_seq ?_; refine wp_seq ?_
    refine rg a9 s7 [(Ty.int (r.getD k 0)), (Ty.bool (decide ((r.getD k 0) < (0 : Int)))), (Ty.bool (decide ((r.getD k 0) < (0 : Int)))), (Ty.grd ((decide ((r.getD k 0) < (0 : Int))) = false) (Ty.int (r.getD k 0))), (Ty.grd ((decide ((r.getD k 0) < (0 : Int))) = false) (Ty.lst Ty.int r)), (Ty.grd ((decide ((r.getD k 0) < (0 : Int))) = false) (Ty.nat (List.length r))), (Ty.grd ((decide ((r.getD k 0) < (0 : Int))) = false) (Ty.bool (decide ((((List.length r) : Nat) : Int) ≤ (r.getD k 0))))), (Ty.bool ((decide ((r.getD k 0) < (0 : Int))) || (decide ((((List.length r) : Nat) : Int) ≤ (r.getD k 0))))), (Ty.bool ((decide ((r.getD k 0) < (0 : Int))) || (decide ((((List.length r) : Nat) : Int) ≤ (r.getD k 0))))), (Ty.grd (((decide ((r.getD k 0) < (0 : Int))) || (decide ((((List.length r) : Nat) : Int) ≤ (r.getD k 0)))) = false) (Ty.int (r.getD k 0))), (Ty.grd (((decide ((r.getD k 0) < (0 : Int))) || (decide ((((List.length r) : Nat) : Int) ≤ (r.getD k 0)))) = false) (Ty.val (ptrAt (a9.eval (.tmp 3)) ((r.getD k 0)).toNat))), (Ty.grd (((decide ((r.getD k 0) < (0 : Int))) || (decide ((((List.length r) : Nat) : Int) ≤ (r.getD k 0)))) = false) (Ty.int ((seenL r k).getD ((r.getD k 0)).toNat 0))), (Ty.grd (((decide ((r.getD k 0) < (0 : Int))) || (decide ((((List.length r) : Nat) : Int) ≤ (r.getD k 0)))) = false) (Ty.bool (decide ((0 : Int) < ((seenL r k).getD ((r.getD k 0)).toNat 0))))), (Ty.bool (((decide ((r.getD k 0) < (0 : Int))) || (decide ((((List.length r) : Nat) : Int) ≤ (r.getD k 0)))) || (decide ((0 : Int) < ((seenL r k).getD ((r.getD k 0)).toNat 0)))))] ok8 ⟨?_, ?_, ?_, ?_, ?_, ?_, ?_, ?_, ?_, ?_, ?_, ?_, ?_, ?_, trivial⟩ ?_
    · intro A B E G H; exact rP (y_move (kp (H 5 rfl) E q28))
    · intro A B E G H d0; exact rP (y_lss (ed d0 rfl rfl rfl) rfl)
    · intro A B E G H d0; exact rP (y_move (ed d0 rfl rfl rfl))
    · intro A B E G H d0
      refine run_guard G rfl rfl (by decide) (ed d0 rfl rfl rfl) (fun hg => ?_)
      have hp := of_decide_eq_false hg
      exact y_move (kp (H 5 rfl) E q28)
    · intro A B E G H d0
      refine run_guard G rfl rfl (by decide) (ed d0 rfl rfl rfl) (fun hg => ?_)
      have hp := of_decide_eq_false hg
      exact y_move (kp (H 0 rfl) E q25)
    · intro A B E G H d0 d1
      refine run_guard G rfl rfl (by decide) (ed d1 rfl rfl rfl) (fun hg => ?_)
      have hp := of_decide_eq_false hg
      exact y_len Try.underlying23 ((ed d0 rfl rfl rfl).1 hg)
    · intro A B E G H d0 d1 d2
      refine run_guard G rfl rfl (by decide) (ed d2 rfl rfl rfl) (fun hg => ?_)
      have hp := of_decide_eq_false hg
      exact y_geq ((ed d0 rfl rfl rfl).1 hg) ((ed d1 rfl rfl rfl).1 hg)
    · intro A B E G H d0 d1; exact rP (y_pick_or (ed d0 rfl rfl rfl) rfl (ed d1 rfl rfl rfl))
    · intro A B E G H d0 d1; exact rP (y_move (ed d0 rfl rfl rfl))
    · intro A B E G H d0
      refine run_guard G rfl rfl (by decide) (ed d0 rfl rfl rfl) (fun hg => ?_)
      obtain ⟨d3, d4⟩ := Bool.or_eq_false_iff.mp hg
      have d3 := of_decide_eq_false d3
      have d4 := of_decide_eq_false d4
      exact y_move (kp (H 5 rfl) E q28)
    · intro A B E G H d0 d1
      refine run_guard G rfl rfl (by decide) (ed d1 rfl rfl rfl) (fun hg => ?_)
      obtain ⟨d5, d6⟩ := Bool.or_eq_false_iff.mp hg
      have d5 := of_decide_eq_false d5
      have d6 := of_decide_eq_false d6
      exact ownp_index (i := (r.getD k 0)) Try.underlying128 Try.inf3 ((Pr.ownp 11 (List.map Ty.int (seenL r k))).up E q24) (H 3 rfl) ((ed d0 rfl rfl rfl).1 hg) (by omega) (by omega)
    · intro A B E G H d0 d1
      refine run_guard G rfl rfl (by decide) (ed d1 rfl rfl rfl) (fun hg => ?_)
      obtain ⟨d7, d8⟩ := Bool.or_eq_false_iff.mp hg
      have d7 := of_decide_eq_false d7
      have d8 := of_decide_eq_false d8
      exact ownp_load Try.underlying3 rfl ((Pr.ownp 11 (List.map Ty.int (seenL r k))).up E q24) ((ed d0 rfl rfl rfl).1 hg) (lst_get Ty.int (seenL r k) 0 ((r.getD k 0)).toNat (by omega))
    · intro A B E G H d0 d1
      refine run_guard G rfl rfl (by decide) (ed d1 rfl rfl rfl) (fun hg => ?_)
      obtain ⟨d9, d10⟩ := Bool.or_eq_false_iff.mp hg
      have d9 := of_decide_eq_false d9
      have d10 := of_decide_eq_false d10
      exact y_gtr ((ed d0 rfl rfl rfl).1 hg) rfl
    · intro A B E G H d0 d1; exact rP (y_pick_or (ed d0 rfl rfl rfl) rfl (ed d1 rfl rfl rfl))
    intro a10 s8 D8; have ok9 := D8.ok; have F9 := F8.step0 D8.stp; have q29 := D8.kt q23 rfl
    have q30 : (Pr.ownp 11 (List.map Ty.int (seenL r k))).has s8 (a10.eval (.tmp 3)) := D8.ko q24 rfl
    have q31 := D8.kt q25 rfl; have q32 := D8.kt q26 rfl; have q33 := D8.kt q27 rfl; have q34 := D8.kt q28 rfl; have q35 := D8.dn 13 rfl rfl; clear D8; refine tn ?_
    refine cond_t q35 (fun c3 => ?_) (fun c3 => ?_)
    ·
     simp only [Bool.or_eq_true, decide_eq_true_eq] at c3
     refine wp_seq ?_
     refine rg a10 s8 [(Ty.int (2 : Int))] ok9 ⟨?_, trivial⟩ ?_
     · intro A B E G H; exact rP (y_assign rfl)
     intro a11 s9 D9; have ok10 := D9.ok; have F10 := F9.step0 D9.stp; have q36 := D9.dn 0 rfl rfl; clear D9; refine tn ?_; refine wp_ret ?_
     refine tr ?_
     refine br ?_
     refine tr ?_
     refine tr ?_
     refine br ?_
     refine tr ?_
     exact ret1 rfl ok10 F10 (cvi (by (by_cases hb : r.getD k 0 < 0 ∨ (r.length : Int) ≤ r.getD k 0; exact (not_row_bd (by omega) (by omega) (by omega) hb).symm; exact (not_row_twice (k := k) (by omega) (by omega) (by omega) (by omega) (by omega) (by omega)).symm)) q36)
    ·
     obtain ⟨d11, d12⟩ := Bool.or_eq_false_iff.mp c3
     obtain ⟨d13, d14⟩ := Bool.or_eq_false_iff.mp d11
     replace d13 := of_decide_eq_false d13
     replace d14 := of_decide_eq_false d14
     replace d12 := of_decide_eq_false d12
     have hq := seenL_bd r k (r.getD k 0).toNat
     refine wp_skip ?_
     refine tn ?_
     refine reg2 (a := a10) (σ := s8) rfl 5 (fun i_ => List.getD [(Ty.pr (Ty.int (r.getD k 0))), (Ty.pr (Ty.val (ptrAt (a10.eval (.tmp 3)) ((r.getD k 0)).toNat))), (Ty.pr (Ty.int ((seenL r k).getD ((r.getD k 0)).toNat 0))), (Ty.pr (Ty.int (((seenL r k).getD ((r.getD k 0)).toNat 0) + (1 : Int)))), (Ty.pr (Ty.val (ptrAt (a10.eval (.tmp 3)) ((r.getD k 0)).toNat)))] i_ Pr.any) ok9 rfl (by decide) rfl ⟨?_, ?_, ?_, ?_, ?_, trivial⟩ ?_
     · intro A B E G H; exact rP (y_move (kp (H 5 rfl) E q34))
     · intro A B E G H d0; exact rP (ownp_index (i := (r.getD k 0)) Try.underlying128 Try.inf3 ((Pr.ownp 11 (List.map Ty.int (seenL r k))).up E q30) (H 3 rfl) (ed d0 rfl rfl rfl) (by omega) (by omega))
     · intro A B E G H d0; exact rP (ownp_load Try.underlying3 rfl ((Pr.ownp 11 (List.map Ty.int (seenL r k))).up E q30) (ed d0 rfl rfl rfl) (lst_get Ty.int (seenL r k) 0 ((r.getD k 0)).toNat (by omega)))
     · intro A B E G H d0; exact rP (y_add (ed d0 rfl rfl rfl) rfl (w64 (by omega) (by omega)))
     · intro A B E G H d0 d1 d2 d3 d4; exact rP (ownp_index (i := (r.getD k 0)) Try.underlying128 Try.inf3 ((Pr.ownp 11 (List.map Ty.int (seenL r k))).up E q30) (H 3 rfl) (ed d0 rfl rfl rfl) (by omega) (by omega))
     intro a12 s10 D10; have ok11 := D10.ok; have F11 := F9.step0 D10.stp; have q37 := (Pr.ownp 11 (List.map Ty.int (seenL r k))).up D10.stp q30; have q38 := D10.kt q29 rfl
     have q39 : a12.eval (.tmp 3) = a10.eval (.tmp 3) := D10.same 3 rfl
     have q40 := D10.kt q31 rfl; have q41 := D10.kt q32 rfl; have q42 := D10.kt q33 rfl; have q43 := D10.dn 3 (by decide) rfl rfl; have q44 := D10.dn 4 (by decide) rfl rfl; clear D10
     refine tail_step0 (m := 11) (R := (fun _ τ => OwnP τ 11 (a10.eval (.tmp 3)) ((List.map Ty.int (seenL r k)).set ((r.getD k 0)).toNat (Ty.int (((seenL r k).getD ((r.getD k 0)).toNat 0) + (1 : Int)))))) rfl rfl (m_storep Try.inf3 (by decide) q37 q44 (by simp only [List.length_map, List.length_set]; omega) q43 (one_val rfl)) (fun v1 s11 hs1 r1 => ?_)
     have F12 := F11.step hs1 (by decide)
     have q45 : At (Ty.nat k) s11 a12 (.tmp 16) := kpm hs1 (by decide) rfl q38
     have q46 : At (Ty.lst Ty.int r) s11 a12 (.tmp 0) := kpm hs1 (by decide) rfl q40
     have q47 : At (Ty.lst Ty.int r) s11 a12 (.tmp 14) := kpm hs1 (by decide) rfl q41
     have q48 : At (Ty.nat (List.length r)) s11 a12 (.tmp 15) := kpm hs1 (by decide) rfl q42
     have q49 : At (Ty.int (((seenL r k).getD ((r.getD k 0)).toNat 0) + (1 : Int))) s11 a12 (.tmp 37) := kpm hs1 (by decide) rfl q43
     have q50 : (Pr.ownp 11 (List.map Ty.int ((seenL r k).set ((r.getD k 0)).toNat (((seenL r k).getD ((r.getD k 0)).toNat 0) + (1 : Int))))).has s11 (a10.eval (.tmp 3)) := (cvop (by simp) r1)
     refine wpList_nil ?_
     have q51 : (Pr.ownp 11 (List.map Ty.int ((seenL r k).set ((r.getD k 0)).toNat (((seenL r k).getD ((r.getD k 0)).toNat 0) + (1 : Int))))).has s11 (a12.eval (.tmp 3)) := al q39 q50
     refine bn ?_; refine tn ?_
     refine rg a12 s11 [(Ty.int (((k : Nat) : Int) + (1 : Int))), (Ty.int (((k : Nat) : Int) + (1 : Int)))] ok11 ⟨?_, ?_, trivial⟩ ?_
     · intro A B E G H; exact rP (y_add (kp (H 16 rfl) E q45) rfl (w64 (by omega) (by omega)))
     · intro A B E G H d0; exact rP (y_move (ed d0 rfl rfl rfl))
     intro a14 s12 D11; have ok13 := D11.ok; have F13 := F12.step0 D11.stp
     have q52 : (Pr.ownp 11 (List.map Ty.int ((seenL r k).set ((r.getD k 0)).toNat (((seenL r k).getD ((r.getD k 0)).toNat 0) + (1 : Int))))).has s12 (a14.eval (.tmp 3)) := D11.ko q51 rfl
     have q53 := D11.kt q46 rfl; have q54 := D11.kt q47 rfl; have q55 := D11.kt q48 rfl; have q56 := D11.dn 1 rfl rfl; clear D11
     exact tn ⟨r.length - ((k+1)), by omega, s12, (k+1), rfl, F13, ok13, (cvi (by (first | rfl | omega | (simp_all; done) | (simp_all; omega))) q56), (cvop (by (exact congrArg _ (seenL_step r k (by omega) (by omega) (by omega)))) q52), q53, q54, q55, by omega, hu.step (by omega) (by omega) (by omega) (by omega) (by omega), rfl⟩
   ·
    refine wp_exit ?_; refine tx ?_; refine tx ?_; refine bx ?_; refine tn ?_; refine wp_seq ?_
    refine rg a8 s6 [(Ty.int (0 : Int))] ok7 ⟨?_, trivial⟩ ?_
    · intro A B E G H; exact rP (y_assign rfl)
    intro a15 s13 D12; have ok14 := D12.ok; have F14 := F7.step0 D12.stp; have q57 := D12.dn 0 rfl rfl; clear D12; refine tn ?_; refine wp_ret ?_
    exact ret1 rfl ok14 F14 (cvi (by (exact (Upto.row (by have e : k = r.length := (by omega); rw [← e]; rw [e] at hu; rw [e]; exact hu) (by omega) (by omega)).symm)) q57)


set_option maxHeartbeats 4000000 in
set_option maxRecDepth 100000 in
theorem rowRank_fn (r : List Int) (σ : GW)  (v0 : Value) (hv0 : Ty.has (Ty.lst Ty.int r) σ v0)   :
    FnC Try.prog 40 #[v0] σ (Ty.tup2 (Ty.nat (if rowMay r = 0 then rankL r else 0)) (Ty.int (rowMay r))) := by
 refine fn_intro0 Try.func40 rfl Try.ntmps40 (Nat.le_of_ble_eq_true rfl) (fun s0 a0 hle F0 ok0 hargs => ?_)
 have p0 : At (Ty.lst Ty.int r) s0 a0 (.tmp 0) := by have e := hargs 0 _ rfl; show Ty.has _ _ _; rw [e]; exact Ty.up _ hle hv0
 have b1 := sl_le p0
 clear hargs; refine wp_seq ?_
 refine rg a0 s0 [(Ty.int (0 : Int)), (Ty.int (0 : Int))] ok0 ⟨?_, ?_, trivial⟩ ?_
 · intro A B E G H; exact rP (y_assign rfl)
 · intro A B E G H d0; exact rP (y_assign rfl)
 intro a1 s1 D1; have ok1 := D1.ok; have F1 := F0.step0 D1.stp; have q1 := D1.kt p0 rfl; clear D1; refine tn ?_; refine wp_seq ?_; refine wp_seq ?_
 refine rg a1 s1 [(Ty.lst Ty.int r), (Ty.int (rowMay r)), (Ty.int (rowMay r))] ok1 ⟨?_, ?_, ?_, trivial⟩ ?_
 · intro A B E G H; exact rP (y_move (kp (H 0 rfl) E q1))
 · intro A B E G H d0; exact rP (y_call #[A.eval (.tmp 5)] Try.func69 rfl rfl (by simp only [List.map_toArray, List.map_cons, List.map_nil]) (rowCheck_fn (r) _ _ (ed d0 rfl rfl rfl) ))
 · intro A B E G H d0 d1 d2 d3; exact rP (y_assign (ed d0 rfl rfl rfl))
 intro a2 s2 D2; have ok2 := D2.ok; have F2 := F1.step0 D2.stp; have q2 := D2.kt q1 rfl; have q3 := D2.dn 2 rfl rfl; clear D2; refine tn ?_; refine wp_seq ?_
 refine rg a2 s2 [(Ty.int (rowMay r)), (Ty.bool (decide ((rowMay r) ≠ (0 : Int))))] ok2 ⟨?_, ?_, trivial⟩ ?_
 · intro A B E G H; exact rP (y_move (kp (H 4 rfl) E q3))
 · intro A B E G H d0; exact rP (y_neq (ed d0 rfl rfl rfl) rfl)
 intro a3 s3 D3; have ok3 := D3.ok; have F3 := F2.step0 D3.stp; have q4 := D3.kt q2 rfl; have q5 := D3.kt q3 rfl; have q6 := D3.dn 1 rfl rfl; clear D3; refine tn ?_
 refine cond_p (p := ((rowMay r) ≠ (0 : Int))) q6 (fun c1 => ?_) (fun c1 => ?_)
 ·
  refine wp_seq ?_
  refine rg a3 s3 [(Ty.int (rowMay r)), (Ty.int (0 : Int)), (Ty.int (rowMay r))] ok3 ⟨?_, ?_, ?_, trivial⟩ ?_
  · intro A B E G H d0; exact rP (y_move (kp (H 4 rfl) E q5))
  · intro A B E G H d0; exact rP (y_assign rfl)
  · intro A B E G H d0 d1 d2 d3; exact rP (y_assign (ed d0 rfl rfl rfl))
  intro a4 s4 D4; have ok4 := D4.ok; have F4 := F3.step0 D4.stp; have q7 := D4.dn 1 rfl rfl; have q8 := D4.dn 2 rfl rfl; clear D4; refine tn ?_; refine wp_ret ?_
  refine tr ?_
  exact retL2 rfl ok4 F4 (hasT2 (cvi (by (rw [if_neg c1]; rfl)) q7) q8)
 ·
  have h0 := Classical.not_not.1 c1; have hr := rowMay_ok.1 h0; have hrl := hr.le; have h12 : ∀ i, i < r.length → 0 ≤ r.getD i 0 ∧ r.getD i 0 < 12 := fun i hi => hr.lt12 hi
  refine wp_skip ?_
  refine tn ?_; refine wp_seq ?_
  refine rg a3 s3 [(Ty.lst Ty.int r), (Ty.nat (rankL r)), (Ty.nat (rankL r)), (Ty.int (0 : Int))] ok3 ⟨?_, ?_, ?_, ?_, trivial⟩ ?_
  · intro A B E G H; exact rP (y_move (kp (H 0 rfl) E q4))
  · intro A B E G H d0; exact rP (y_call #[A.eval (.tmp 10)] Try.func55 rfl rfl (by simp only [List.map_toArray, List.map_cons, List.map_nil]) (rowPlace_fn (r) _ _ (ed d0 rfl rfl rfl) (by omega)))
  · intro A B E G H d0 d1 d2 d3; exact rP (y_assign (ed d0 rfl rfl rfl))
  · intro A B E G H d0 d1 d2 d3; exact rP (y_assign rfl)
  intro a5 s5 D5; have ok5 := D5.ok; have F5 := F3.step0 D5.stp; have q9 := D5.dn 2 rfl rfl; have q10 := D5.dn 3 rfl rfl; clear D5; refine tn ?_; refine wp_ret ?_
  exact retL2 rfl ok5 F5 (hasT2 (cvi (by (rw [if_pos h0])) q9) (cvi (by (exact h0.symm)) q10))


set_option maxRecDepth 100000 in
theorem rUndo_fn (r : List Int) (σ : GW) (v0 : Value) (hv0 : Ty.has (Ty.lst Ty.int r) σ v0) (hr : IsRow r) :
    FnC Try.prog 42 #[v0] σ (Ty.lst Ty.int (undoL r)) := by
 have hln := hr.le
 refine fn_intro Try.func42 rfl Try.ntmps42 (Nat.le_of_ble_eq_true rfl) (fun s0 a0 hle F0 ok0 hargs => ?_)
 have p0 : At (Ty.lst Ty.int r) s0 a0 (.tmp 0) := by have e := hargs 0 _ rfl; show Ty.has _ _ _; rw [e]; exact Ty.up _ hle hv0
 have b1 := sl_le p0
 clear hargs; refine wp_seq ?_
 refine rg a0 s0 [(Ty.val (Value.slice none 0 0))] ok0 ⟨?_, trivial⟩ ?_
 · intro A B E G H; exact rP (y_assign rfl)
 intro a1 s1 D1; have ok1 := D1.ok; have F1 := F0.step0 D1.stp; have q1 := D1.kt p0 rfl; clear D1; refine tn ?_; refine wp_seq ?_
 refine reg (a := a1) (σ := s1) rfl (fun i_ => List.getD [(Ty.pr (Ty.lst Ty.int r)), (Ty.pr (Ty.nat (List.length r))), (Pr.own 11 3 1 (List.length r) (List.map Ty.int (List.replicate (List.length r) 0))), (Pr.own 11 3 1 (List.length r) (List.map Ty.int (List.replicate (List.length r) 0)))] i_ Pr.any) ok1 rfl ⟨?_, ?_, ?_, ?_, trivial⟩ ?_
 · intro A B E G H; exact rP (y_move (kp (H 0 rfl) E q1))
 · intro A B E G H d0; exact rP (y_len Try.underlying23 (ed d0 rfl rfl rfl))
 · intro A B E G H d0 d1
   have e1 := ed d0 rfl rfl rfl
   exact rP ((y_make (k := 11) (T := Ty.int 0) (n := (List.length r)) Try.underlying23 Try.inf3 rfl (fun _ => rfl) e1 e1 (by omega) (by omega)).mono (fun _ _ h => cvo (by simp) (by simp) h))
 · intro A B E G H d0 d1 d2 d3
   have e2 : (Pr.own 11 3 1 (List.length r) (List.map Ty.int (List.replicate (List.length r) 0))).has B (A.eval (.tmp 7)) := d0 rfl
   exact rP (y_assign e2)
 intro a2 s2 D2; have ok2 := D2.ok; have F2 := F1.step0 D2.stp; have q2 := D2.kt q1 rfl
 have q3 : (Pr.own 11 3 1 (List.length r) (List.map Ty.int (List.replicate (List.length r) 0))).has s2 (a2.eval (.tmp 3)) := D2.done 3
 clear D2; refine tn ?_; refine wp_seq ?_; refine wp_seq ?_
 refine rg a2 s2 [(Ty.int (0 : Int))] ok2 ⟨?_, trivial⟩ ?_
 · intro A B E G H; exact rP (y_assign rfl)
 intro a3 s3 D3; have ok3 := D3.ok; have F3 := F2.step0 D3.stp; have q4 := D3.kt q2 rfl
 have q5 : (Pr.own 11 3 1 (List.length r) (List.map Ty.int (List.replicate (List.length r) 0))).has s3 (a3.eval (.tmp 3)) := D3.ko q3 rfl
 have q6 := D3.dn 0 rfl rfl; clear D3; refine tn ?_
 refine wp_block ?_
 refine loop (fun n1 a4 w1 => ∃ (t1 : GW) (k : Nat), t1.w = w1 ∧ From s0 t1 ∧ Ok 22 a4 ∧ (Pr.own 11 3 1 (List.length (undoTo r k)) (List.map Ty.int (undoTo r k))).has t1 (a4.eval (.tmp 3)) ∧ At (Ty.nat k) t1 a4 (.tmp 4) ∧ At (Ty.lst Ty.int r) t1 a4 (.tmp 0) ∧ (k ≤ r.length) ∧ n1 = r.length - k) (r.length - (0)) ?_ ?_
 ·
  exact ⟨s3, 0, rfl, F3, ok3, (cvo (by (simp [undoTo_zero])) (by (simp [undoTo_zero])) q5), (cvi (by (first | rfl | omega | (simp_all; done) | (simp_all; omega))) q6), q4, by omega, rfl⟩
 ·
  rintro n2 a5 w2 ⟨t2, k, rfl, F4, ok4, q7, q8, q9, hk, rfl⟩
  have hp := undoTo_len r k
  refine wp_seq ?_; refine wp_seq ?_
  refine reg (a := a5) (σ := t2) rfl (fun i_ => List.getD [(Ty.pr (Ty.nat k)), (Ty.pr (Ty.lst Ty.int r)), (Ty.pr (Ty.nat (List.length r))), (Ty.pr (Ty.bool (decide (((k : Nat) : Int) < (((List.length r) : Nat) : Int)))))] i_ Pr.any) ok4 rfl ⟨?_, ?_, ?_, ?_, trivial⟩ ?_
  · intro A B E G H; exact rP (y_move (kp (H 4 rfl) E q8))
  · intro A B E G H; exact rP (y_move (kp (H 0 rfl) E q9))
  · intro A B E G H d0; exact rP (y_len Try.underlying23 (ed d0 rfl rfl rfl))
  · intro A B E G H d0 d1; exact rP (y_lss (ed d0 rfl rfl rfl) (ed d1 rfl rfl rfl))
  intro a6 s4 D4; have ok5 := D4.ok; have F5 := F4.step0 D4.stp
  have q10 : (Pr.own 11 3 1 (List.length (undoTo r k)) (List.map Ty.int (undoTo r k))).has s4 (a6.eval (.tmp 3)) := D4.ko q7 rfl
  have q11 := D4.kt q8 rfl; have q12 := D4.kt q9 rfl; have q13 := D4.dn 3 rfl rfl; clear D4; refine tn ?_
  refine cond_p (p := (((k : Nat) : Int) < (((List.length r) : Nat) : Int))) q13 (fun c1 => ?_) (fun c1 => ?_)
  ·
   have hq := hr.at (i := k) (by omega)
   refine wp_skip ?_
   refine tn ?_; refine wp_seq ?_
   refine wp_block ?_
   refine reg2 (a := a6) (σ := s4) rfl 7 (fun i_ => List.getD [(Ty.pr (Ty.val (a6.eval (.tmp 3)))), (Ty.pr (Ty.lst Ty.int r)), (Ty.pr (Ty.nat k)), (Ty.pr (Ty.ref [(Ty.int (r.getD k 0))])), (Ty.pr (Ty.int (r.getD k 0))), (Ty.pr (Ty.nat k)), (Ty.pr (Ty.val (cellPtr (a6.eval (.tmp 3)) ((r.getD k 0)).toNat)))] i_ Pr.any) ok5 rfl (by decide) rfl ⟨?_, ?_, ?_, ?_, ?_, ?_, ?_, trivial⟩ ?_
   · intro A B E G H; exact rP (y_move (H 3 rfl))
   · intro A B E G H; exact rP (y_move (kp (H 0 rfl) E q12))
   · intro A B E G H; exact rP (y_move (kp (H 4 rfl) E q11))
   · intro A B E G H d0 d1; exact rP (y_index1 Try.underlying23 Try.inf3 (ed d0 rfl rfl rfl) (ed d1 rfl rfl rfl) (by omega) (lst_get Ty.int r 0 k (by omega)))
   · intro A B E G H d0; exact rP (y_load Try.underlying3 rfl (ed d0 rfl rfl rfl) rfl)
   · intro A B E G H; exact rP (y_move (kp (H 4 rfl) E q11))
   · intro A B E G H d0 d1 d2 d3 d4 d5 d6 d7; exact rP (own_index1 (i := (r.getD k 0)) Try.underlying23 Try.inf3 ((Pr.own 11 3 1 (List.length (undoTo r k)) (List.map Ty.int (undoTo r k))).up E q10) (ed d0 rfl rfl rfl) (ed d1 rfl rfl rfl) (by omega) (by omega))
   intro a7 s5 D5; have ok6 := D5.ok; have F6 := F5.step0 D5.stp; have q14 := (Pr.own 11 3 1 (List.length (undoTo r k)) (List.map Ty.int (undoTo r k))).up D5.stp q10
   have q15 : a7.eval (.tmp 3) = a6.eval (.tmp 3) := D5.same 3 rfl
   have q16 := D5.kt q11 rfl; have q17 := D5.kt q12 rfl; have q18 := D5.dn 5 (by decide) rfl rfl; have q19 := D5.dn 6 (by decide) rfl rfl; clear D5
   refine tail_step0 (m := 11) (R := (fun _ τ => Own τ 11 3 1 (a6.eval (.tmp 3)) (List.length (undoTo r k)) ((List.map Ty.int (undoTo r k)).set ((r.getD k 0)).toNat (Ty.nat k)))) rfl rfl (m_store Try.inf3 (by decide) q14 q19 (by simp only [List.length_map, List.length_set]; omega) q18 (one_val rfl)) (fun v1 s6 hs1 r1 => ?_)
   have F7 := F6.step hs1 (by decide)
   have q20 : At (Ty.nat k) s6 a7 (.tmp 4) := kpm hs1 (by decide) rfl q16
   have q21 : At (Ty.lst Ty.int r) s6 a7 (.tmp 0) := kpm hs1 (by decide) rfl q17
   have q22 : At (Ty.nat k) s6 a7 (.tmp 19) := kpm hs1 (by decide) rfl q18
   have q23 : (Pr.own 11 3 1 (List.length ((undoTo r k).set ((r.getD k 0)).toNat ((k : Nat) : Int))) (List.map Ty.int ((undoTo r k).set ((r.getD k 0)).toNat ((k : Nat) : Int)))).has s6 (a6.eval (.tmp 3)) := (cvo (by simp) (by simp) r1)
   refine wpList_nil ?_
   have q24 : (Pr.own 11 3 1 (List.length ((undoTo r k).set ((r.getD k 0)).toNat ((k : Nat) : Int))) (List.map Ty.int ((undoTo r k).set ((r.getD k 0)).toNat ((k : Nat) : Int)))).has s6 (a7.eval (.tmp 3)) := al q15 q23
   refine bn ?_; refine tn ?_
   refine rg a7 s6 [(Ty.nat k), (Ty.int (((k : Nat) : Int) + (1 : Int))), (Ty.int (((k : Nat) : Int) + (1 : Int)))] ok6 ⟨?_, ?_, ?_, trivial⟩ ?_
   · intro A B E G H; exact rP (y_move (kp (H 4 rfl) E q20))
   · intro A B E G H d0; exact rP (y_add (ed d0 rfl rfl rfl) rfl (w64 (by omega) (by omega)))
   · intro A B E G H d0 d1 d2; exact rP (y_assign (ed d0 rfl rfl rfl))
   intro a9 s7 D6; have ok8 := D6.ok; have F8 := F7.step0 D6.stp
   have q25 : (Pr.own 11 3 1 (List.length ((undoTo r k).set ((r.getD k 0)).toNat ((k : Nat) : Int))) (List.map Ty.int ((undoTo r k).set ((r.getD k 0)).toNat ((k : Nat) : Int)))).has s7 (a9.eval (.tmp 3)) := D6.ko q24 rfl
   have q26 := D6.kt q21 rfl; have q27 := D6.dn 2 rfl rfl; clear D6
   exact tn ⟨r.length - ((k+1)), by omega, s7, (k+1), rfl, F8, ok8, (cvo (by (rw [undoTo_step r k hr (by omega)])) (by (rw [undoTo_step r k hr (by omega)])) q25), (cvi (by (first | rfl | omega | (simp_all; done) | (simp_all; omega))) q27), q26, by omega, rfl⟩
  ·
   refine wp_exit ?_; refine tx ?_; refine tx ?_; refine bx ?_; refine tn ?_; refine wp_seq ?_
   refine rg a6 s4 [(Ty.val (a6.eval (.tmp 3))), (Ty.val (a6.eval (.tmp 3)))] ok5 ⟨?_, ?_, trivial⟩ ?_
   · intro A B E G H; exact rP (y_move (H 3 rfl))
   · intro A B E G H d0 d1; exact rP (y_assign (ed d0 rfl rfl rfl))
   intro a10 s8 D7; have ok9 := D7.ok; have F9 := F5.step0 D7.stp
   have q28 : (Pr.own 11 3 1 (List.length (undoTo r k)) (List.map Ty.int (undoTo r k))).has s8 (a10.eval (.tmp 2)) := al (show _ = _ from D7.done 1) ((Pr.own 11 3 1 (List.length (undoTo r k)) (List.map Ty.int (undoTo r k))).up D7.stp q10)
   clear D7; refine tn ?_; refine wp_ret ?_
   obtain ⟨t3, e1, h1, q29⟩ := Own.seal q28 (by decide)
   rw [← e1]
   have F10 := F9.step h1 (by decide)
   exact ret1 rfl ok9 F10 (cvt (by (obtain rfl : k = r.length := (by omega); rw [undoTo_all r hr])) q29)


set_option maxHeartbeats 4000000 in
set_option maxRecDepth 100000 in
theorem rFact_fn : ∀ (m : Nat) (n : Nat) (σ : GW)  (v0 : Value) (hv0 : Ty.has (Ty.nat n) σ v0)  (hm : m = n) (hn : n ≤ 12), FnC Try.prog 34 #[v0] σ (Ty.nat (fct n)) := by
 intro m
 induction m using Nat.strongRecOn with
 | _ m ih =>
 intro n σ v0 hv0 hm hn
 refine fn_intro0 Try.func34 rfl Try.ntmps34 (Nat.le_of_ble_eq_true rfl) (fun s0 a0 hle F0 ok0 hargs => ?_)
 have p0 : At (Ty.nat n) s0 a0 (.tmp 0) := by have e := hargs 0 _ rfl; show Ty.has _ _ _; rw [e]; exact Ty.up _ hle hv0
 clear hargs; refine wp_seq ?_
 refine rg a0 s0 [(Ty.int (0 : Int))] ok0 ⟨?_, trivial⟩ ?_
 · intro A B E G H; exact rP (y_assign rfl)
 intro a1 s1 D1; have ok1 := D1.ok; have F1 := F0.step0 D1.stp; have q1 := D1.kt p0 rfl; clear D1; refine tn ?_; refine wp_seq ?_; refine wp_seq ?_
 refine rg a1 s1 [(Ty.nat n), (Ty.bool (decide (((n : Nat) : Int) < (2 : Int))))] ok1 ⟨?_, ?_, trivial⟩ ?_
 · intro A B E G H; exact rP (y_move (kp (H 0 rfl) E q1))
 · intro A B E G H d0; exact rP (y_lss (ed d0 rfl rfl rfl) rfl)
 intro a2 s2 D2; have ok2 := D2.ok; have F2 := F1.step0 D2.stp; have q2 := D2.kt q1 rfl; have q3 := D2.dn 1 rfl rfl; clear D2; refine tn ?_
 refine cond_p (p := (((n : Nat) : Int) < (2 : Int))) q3 (fun c1 => ?_) (fun c1 => ?_)
 ·
  refine wp_seq ?_
  refine rg a2 s2 [(Ty.int (1 : Int))] ok2 ⟨?_, trivial⟩ ?_
  · intro A B E G H; exact rP (y_assign rfl)
  intro a3 s3 D3; have ok3 := D3.ok; have F3 := F2.step0 D3.stp; have q4 := D3.dn 0 rfl rfl; clear D3; refine tn ?_; refine wp_ret ?_
  refine tr ?_
  exact retL1 rfl ok3 F3 (cvi (by (rw [fct_small (by omega)]; rfl)) q4)
 ·
  have hm2 : ((n : Nat) : Int) * ((fct (n - 1) : Nat) : Int) ≤ 479001600 ∧ 0 ≤ ((n : Nat) : Int) * ((fct (n - 1) : Nat) : Int) := (by have h1 := fct_le12 hn; have h2 := fct_rec (n := n) (by omega); rw [← Int.natCast_mul]; omega)
  refine wp_skip ?_
  refine tn ?_; refine wp_seq ?_
  refine rg a2 s2 [(Ty.nat n), (Ty.nat n), (Ty.nat (n - 1)), (Ty.nat (fct ((n - 1)))), (Ty.nat (n * (fct ((n - 1))))), (Ty.nat (n * (fct ((n - 1)))))] ok2 ⟨?_, ?_, ?_, ?_, ?_, ?_, trivial⟩ ?_
  · intro A B E G H; exact rP (y_move (kp (H 0 rfl) E q2))
  · intro A B E G H; exact rP (y_move (kp (H 0 rfl) E q2))
  · intro A B E G H d0; exact rP ((y_sub (ed d0 rfl rfl rfl) rfl (w64 (by omega) (by omega))).mono (fun τ _ h => cvi (σ := τ) (by omega) h))
  · intro A B E G H d0; exact rP (y_call #[A.eval (.tmp 7)] Try.func34 rfl rfl (by simp only [List.map_toArray, List.map_cons, List.map_nil]) (ih (((n - 1))) (by omega) ((n - 1)) _ _ (cvi (σ := B) (by omega) (ed d0 rfl rfl rfl)) (by omega) (by omega)))
  · intro A B E G H d0 d1; exact rP ((y_mul (ed d0 rfl rfl rfl) (ed d1 rfl rfl rfl) (w64 (by omega) (by omega))).mono (fun τ _ h => cvi (σ := τ) (by first | omega | exact (Int.natCast_mul _ _).symm) h))
  · intro A B E G H d0 d1 d2 d3 d4 d5 d6; exact rP (y_assign (ed d0 rfl rfl rfl))
  intro a4 s4 D4; have ok4 := D4.ok; have F4 := F2.step0 D4.stp; have q5 := D4.dn 5 rfl rfl; clear D4; refine tn ?_; refine wp_ret ?_
  exact retL1 rfl ok4 F4 (cvi (by (rw [fct_rec (by omega)])) q5)


set_option maxHeartbeats 4000000 in
set_option maxRecDepth 100000 in
theorem rRank_fn (r : List Int) (σ : GW)  (v0 : Value) (hv0 : Ty.has (Ty.lst Ty.int r) σ v0)  (hr : IsRow r) :
    FnC Try.prog 41 #[v0] σ (Ty.nat (rankL r)) := by
 have hln := hr.le
 refine fn_intro0 Try.func41 rfl Try.ntmps41 (Nat.le_of_ble_eq_true rfl) (fun s0 a0 hle F0 ok0 hargs => ?_)
 have p0 : At (Ty.lst Ty.int r) s0 a0 (.tmp 0) := by have e := hargs 0 _ rfl; show Ty.has _ _ _; rw [e]; exact Ty.up _ hle hv0
 have b1 := sl_le p0
 clear hargs; refine wp_seq ?_
 refine rg a0 s0 [(Ty.int (0 : Int))] ok0 ⟨?_, trivial⟩ ?_
 · intro A B E G H; exact rP (y_assign rfl)
 intro a1 s1 D1; have ok1 := D1.ok; have F1 := F0.step0 D1.stp; have q1 := D1.kt p0 rfl; clear D1; refine tn ?_; refine wp_seq ?_
 refine rg a1 s1 [(Ty.int (0 : Int))] ok1 ⟨?_, trivial⟩ ?_
 · intro A B E G H; exact rP (y_assign rfl)
 intro a2 s2 D2; have ok2 := D2.ok; have F2 := F1.step0 D2.stp; have q2 := D2.kt q1 rfl; have q3 := D2.dn 0 rfl rfl; clear D2; refine tn ?_; refine wp_seq ?_; refine wp_seq ?_
 refine rg a2 s2 [(Ty.int (0 : Int))] ok2 ⟨?_, trivial⟩ ?_
 · intro A B E G H; exact rP (y_assign rfl)
 intro a3 s3 D3; have ok3 := D3.ok; have F3 := F2.step0 D3.stp; have q4 := D3.kt q2 rfl; have q5 := D3.kt q3 rfl; have q6 := D3.dn 0 rfl rfl; clear D3; refine tn ?_
 refine wp_block ?_
 refine loop (fun n1 a4 w1 => ∃ (t1 : GW) (i : Nat) (q : Nat), t1.w = w1 ∧ FromL [] s0 t1 ∧ Ok 44 a4 ∧ At (Ty.nat i) t1 a4 (.tmp 4) ∧ At (Ty.nat q) t1 a4 (.tmp 3) ∧ At (Ty.lst Ty.int r) t1 a4 (.tmp 0) ∧ (i ≤ r.length) ∧ (q + rankL (r.drop i) = rankL r) ∧ n1 = r.length - i) (r.length - (0)) ?_ ?_
 ·
  exact ⟨s3, 0, 0, rfl, F3, ok3, (cvi (by (first | rfl | omega | (simp_all; done) | (simp_all; omega))) q6), (cvi (by (first | rfl | omega | (simp_all; done) | (simp_all; omega))) q5), q4, by omega, by simp, rfl⟩
 ·
  rintro n2 a5 w2 ⟨t2, i, q, rfl, F4, ok4, q7, q8, q9, hi, hq, rfl⟩
  have hrl := rank_le12 hln
  refine wp_seq ?_; refine wp_seq ?_
  refine reg (a := a5) (σ := t2) rfl (fun i_ => List.getD [(Ty.pr (Ty.nat i)), (Ty.pr (Ty.lst Ty.int r)), (Ty.pr (Ty.nat (List.length r))), (Ty.pr (Ty.bool (decide (((i : Nat) : Int) < (((List.length r) : Nat) : Int)))))] i_ Pr.any) ok4 rfl ⟨?_, ?_, ?_, ?_, trivial⟩ ?_
  · intro A B E G H; exact rP (y_move (kp (H 4 rfl) E q7))
  · intro A B E G H; exact rP (y_move (kp (H 0 rfl) E q9))
  · intro A B E G H d0; exact rP (y_len Try.underlying23 (ed d0 rfl rfl rfl))
  · intro A B E G H d0 d1; exact rP (y_lss (ed d0 rfl rfl rfl) (ed d1 rfl rfl rfl))
  intro a6 s4 D4; have ok5 := D4.ok; have F5 := F4.step0 D4.stp; have q10 := D4.kt q7 rfl; have q11 := D4.kt q8 rfl; have q12 := D4.kt q9 rfl; have q13 := D4.dn 3 rfl rfl; clear D4; refine tn ?_
  refine cond_p (p := (((i : Nat) : Int) < (((List.length r) : Nat) : Int))) q13 (fun c1 => ?_) (fun c1 => ?_)
  ·
   have hmb := rank_mul hln (by omega) hq; have hbd := hr.at (i := i) (by omega)
   refine wp_skip ?_
   refine tn ?_; refine wp_seq ?_
   refine wp_block ?_
   refine wp_seq ?_
   refine rg a6 s4 [(Ty.lst Ty.int r), (Ty.nat i), (Ty.ref [(Ty.int (r.getD i 0))]), (Ty.int (r.getD i 0)), (Ty.int (r.getD i 0))] ok5 ⟨?_, ?_, ?_, ?_, ?_, trivial⟩ ?_
   · intro A B E G H; exact rP (y_move (kp (H 0 rfl) E q12))
   · intro A B E G H; exact rP (y_move (kp (H 4 rfl) E q10))
   · intro A B E G H d0 d1; exact rP (y_index1 Try.underlying23 Try.inf3 (ed d0 rfl rfl rfl) (ed d1 rfl rfl rfl) (by omega) (lst_get Ty.int r 0 i (by omega)))
   · intro A B E G H d0; exact rP (y_load Try.underlying3 rfl (ed d0 rfl rfl rfl) rfl)
   · intro A B E G H d0 d1 d2 d3 d4; exact rP (y_assign (ed d0 rfl rfl rfl))
   intro a7 s5 D5; have ok6 := D5.ok; have F6 := F5.step0 D5.stp; have q14 := D5.kt q10 rfl; have q15 := D5.kt q11 rfl; have q16 := D5.kt q12 rfl; have q17 := D5.dn 4 rfl rfl; clear D5; refine tn ?_; refine wp_seq ?_; refine wp_seq ?_
   refine rg a7 s5 [(Ty.int (0 : Int))] ok6 ⟨?_, trivial⟩ ?_
   · intro A B E G H; exact rP (y_assign rfl)
   intro a8 s6 D6; have ok7 := D6.ok; have F7 := F6.step0 D6.stp; have q18 := D6.kt q14 rfl; have q19 := D6.kt q15 rfl; have q20 := D6.kt q16 rfl; have q21 := D6.kt q17 rfl; have q22 := D6.dn 0 rfl rfl; clear D6; refine tn ?_
   refine wp_block ?_
   refine loop (fun n3 a9 w3 => ∃ (t3 : GW) (j : Nat), t3.w = w3 ∧ FromL [] s0 t3 ∧ Ok 44 a9 ∧ At (Ty.nat j) t3 a9 (.tmp 6) ∧ At (Ty.int (r.getD i 0 - ((lessN (r.getD i 0) (r.take j) : Nat) : Int))) t3 a9 (.tmp 5) ∧ At (Ty.nat i) t3 a9 (.tmp 4) ∧ At (Ty.nat q) t3 a9 (.tmp 3) ∧ At (Ty.lst Ty.int r) t3 a9 (.tmp 0) ∧ (j ≤ i) ∧ n3 = i - j) (i - (0)) ?_ ?_
   ·
    exact ⟨s6, 0, rfl, F7, ok7, (cvi (by (first | rfl | omega | (simp_all; done) | (simp_all; omega))) q22), (cvi (by (simp [lessN])) q21), q18, q19, q20, by omega, rfl⟩
   ·
    rintro n4 a10 w4 ⟨t4, j, rfl, F8, ok8, q23, q24, q25, q26, q27, hj, rfl⟩
    have hll := lessN_le (r.getD i 0) (r.take j)
    have htl := List.length_take_le j r
    refine wp_seq ?_; refine wp_seq ?_
    refine reg (a := a10) (σ := t4) rfl (fun i_ => List.getD [(Ty.pr (Ty.nat j)), (Ty.pr (Ty.nat i)), (Ty.pr (Ty.bool (decide (((j : Nat) : Int) < ((i : Nat) : Int)))))] i_ Pr.any) ok8 rfl ⟨?_, ?_, ?_, trivial⟩ ?_
    · intro A B E G H; exact rP (y_move (kp (H 6 rfl) E q23))
    · intro A B E G H; exact rP (y_move (kp (H 4 rfl) E q25))
    · intro A B E G H d0 d1; exact rP (y_lss (ed d0 rfl rfl rfl) (ed d1 rfl rfl rfl))
    intro a11 s7 D7; have ok9 := D7.ok; have F9 := F8.step0 D7.stp; have q28 := D7.kt q23 rfl; have q29 := D7.kt q24 rfl; have q30 := D7.kt q25 rfl; have q31 := D7.kt q26 rfl; have q32 := D7.kt q27 rfl; have q33 := D7.dn 2 rfl rfl; clear D7; refine tn ?_
    refine cond_p (p := (((j : Nat) : Int) < ((i : Nat) : Int))) q33 (fun c2 => ?_) (fun c2 => ?_)
    ·
     refine wp_skip ?_
     refine tn ?_; refine wp_seq ?_
     refine wp_block ?_
     refine wp_seq ?_
     refine rg a11 s7 [(Ty.lst Ty.int r), (Ty.nat j), (Ty.ref [(Ty.int (r.getD j 0))]), (Ty.int (r.getD j 0)), (Ty.lst Ty.int r), (Ty.nat i), (Ty.ref [(Ty.int (r.getD i 0))]), (Ty.int (r.getD i 0)), (Ty.bool (decide ((r.getD j 0) < (r.getD i 0))))] ok9 ⟨?_, ?_, ?_, ?_, ?_, ?_, ?_, ?_, ?_, trivial⟩ ?_
     · intro A B E G H; exact rP (y_move (kp (H 0 rfl) E q32))
     · intro A B E G H; exact rP (y_move (kp (H 6 rfl) E q28))
     · intro A B E G H d0 d1; exact rP (y_index1 Try.underlying23 Try.inf3 (ed d0 rfl rfl rfl) (ed d1 rfl rfl rfl) (by omega) (lst_get Ty.int r 0 j (by omega)))
     · intro A B E G H d0; exact rP (y_load Try.underlying3 rfl (ed d0 rfl rfl rfl) rfl)
     · intro A B E G H; exact rP (y_move (kp (H 0 rfl) E q32))
     · intro A B E G H; exact rP (y_move (kp (H 4 rfl) E q30))
     · intro A B E G H d0 d1; exact rP (y_index1 Try.underlying23 Try.inf3 (ed d0 rfl rfl rfl) (ed d1 rfl rfl rfl) (by omega) (lst_get Ty.int r 0 i (by omega)))
     · intro A B E G H d0; exact rP (y_load Try.underlying3 rfl (ed d0 rfl rfl rfl) rfl)
     · intro A B E G H d0 d1; exact rP (y_lss (ed d0 rfl rfl rfl) (ed d1 rfl rfl rfl))
     intro a12 s8 D8; have ok10 := D8.ok; have F10 := F9.step0 D8.stp; have q34 := D8.kt q28 rfl; have q35 := D8.kt q29 rfl; have q36 := D8.kt q30 rfl; have q37 := D8.kt q31 rfl; have q38 := D8.kt q32 rfl; have q39 := D8.dn 8 rfl rfl; clear D8; refine tn ?_
     refine cond_p (p := ((r.getD j 0) < (r.getD i 0))) q39 (fun c3 => ?_) (fun c3 => ?_)
     ·
      refine rg a12 s8 [(Ty.int (r.getD i 0 - ((lessN (r.getD i 0) (r.take j) : Nat) : Int))), (Ty.int ((r.getD i 0 - ((lessN (r.getD i 0) (r.take j) : Nat) : Int)) - (1 : Int))), (Ty.int ((r.getD i 0 - ((lessN (r.getD i 0) (r.take j) : Nat) : Int)) - (1 : Int)))] ok10 ⟨?_, ?_, ?_, trivial⟩ ?_
      · intro A B E G H; exact rP (y_move (kp (H 5 rfl) E q35))
      · intro A B E G H d0; exact rP (y_sub (ed d0 rfl rfl rfl) rfl (w64 (by omega) (by omega)))
      · intro A B E G H d0 d1 d2; exact rP (y_assign (ed d0 rfl rfl rfl))
      intro a13 s9 D9; have ok11 := D9.ok; have F11 := F10.step0 D9.stp; have q40 := D9.kt q34 rfl; have q41 := D9.kt q36 rfl; have q42 := D9.kt q37 rfl; have q43 := D9.kt q38 rfl; have q44 := D9.dn 2 rfl rfl; clear D9; refine bn ?_; refine tn ?_
      refine rg a13 s9 [(Ty.nat j), (Ty.nat (j + 1)), (Ty.nat (j + 1))] ok11 ⟨?_, ?_, ?_, trivial⟩ ?_
      · intro A B E G H; exact rP (y_move (kp (H 6 rfl) E q40))
      · intro A B E G H d0; exact rP ((y_add (ed d0 rfl rfl rfl) rfl (w64 (by omega) (by omega))).mono (fun τ _ h => cvi (σ := τ) (by first | omega | exact (Int.natCast_mul _ _).symm) h))
      · intro A B E G H d0 d1 d2; exact rP (y_assign (ed d0 rfl rfl rfl))
      intro a14 s10 D10; have ok12 := D10.ok; have F12 := F11.step0 D10.stp; have q45 := D10.kt q41 rfl; have q46 := D10.kt q42 rfl; have q47 := D10.kt q43 rfl; have q48 := D10.kt q44 rfl; have q49 := D10.dn 2 rfl rfl; clear D10
      exact tn ⟨i - ((j+1)), by omega, s10, (j+1), rfl, F12, ok12, (cvi (by (first | rfl | omega | (simp_all; done) | (simp_all; omega))) q49), (cvi (by (rw [lessN_snoc _ _ _ (by omega), if_pos (by assumption)]; omega)) q48), q45, q46, q47, by omega, rfl⟩
     ·
      refine wp_skip ?_
      refine bn ?_; refine tn ?_
      refine rg a12 s8 [(Ty.nat j), (Ty.nat (j + 1)), (Ty.nat (j + 1))] ok10 ⟨?_, ?_, ?_, trivial⟩ ?_
      · intro A B E G H; exact rP (y_move (kp (H 6 rfl) E q34))
      · intro A B E G H d0; exact rP ((y_add (ed d0 rfl rfl rfl) rfl (w64 (by omega) (by omega))).mono (fun τ _ h => cvi (σ := τ) (by first | omega | exact (Int.natCast_mul _ _).symm) h))
      · intro A B E G H d0 d1 d2; exact rP (y_assign (ed d0 rfl rfl rfl))
      intro a15 s11 D11; have ok13 := D11.ok; have F13 := F10.step0 D11.stp; have q50 := D11.kt q35 rfl; have q51 := D11.kt q36 rfl; have q52 := D11.kt q37 rfl; have q53 := D11.kt q38 rfl; have q54 := D11.dn 2 rfl rfl; clear D11
      exact tn ⟨i - ((j+1)), by omega, s11, (j+1), rfl, F13, ok13, (cvi (by (first | rfl | omega | (simp_all; done) | (simp_all; omega))) q54), (cvi (by (rw [lessN_snoc _ _ _ (by omega), if_neg (by assumption)]; rfl)) q50), q51, q52, q53, by omega, rfl⟩
    ·
     have q55 : At (Ty.nat (lessN (r.getD i 0) (r.drop (i + 1)))) s7 a11 (.tmp 5) := cvt (T := (Ty.int (r.getD i 0 - ((lessN (r.getD i 0) (r.take j) : Nat) : Int)))) (U := (Ty.nat (lessN (r.getD i 0) (r.drop (i + 1))))) (by have e : j = i := (by omega); rw [e]; exact congrArg Ty.int (less_after hr (by omega))) q29
     refine wp_exit ?_; refine tx ?_; refine tx ?_; refine bx ?_; refine tn ?_
     refine rg a11 s7 [(Ty.nat q), (Ty.nat (lessN (r.getD i 0) (r.drop (i + 1)))), (Ty.lst Ty.int r), (Ty.nat (List.length r)), (Ty.nat ((List.length r) - 1)), (Ty.nat i), (Ty.nat (((List.length r) - 1) - i)), (Ty.nat (fct ((((List.length r) - 1) - i)))), (Ty.nat ((lessN (r.getD i 0) (r.drop (i + 1))) * (fct ((((List.length r) - 1) - i))))), (Ty.nat (q + ((lessN (r.getD i 0) (r.drop (i + 1))) * (fct ((((List.length r) - 1) - i)))))), (Ty.nat (q + ((lessN (r.getD i 0) (r.drop (i + 1))) * (fct ((((List.length r) - 1) - i))))))] ok9 ⟨?_, ?_, ?_, ?_, ?_, ?_, ?_, ?_, ?_, ?_, ?_, trivial⟩ ?_
     · intro A B E G H; exact rP (y_move (kp (H 3 rfl) E q31))
     · intro A B E G H; exact rP (y_move (kp (H 5 rfl) E q55))
     · intro A B E G H; exact rP (y_move (kp (H 0 rfl) E q32))
     · intro A B E G H d0; exact rP (y_len Try.underlying23 (ed d0 rfl rfl rfl))
     · intro A B E G H d0; exact rP ((y_sub (ed d0 rfl rfl rfl) rfl (w64 (by omega) (by omega))).mono (fun τ _ h => cvi (σ := τ) (by omega) h))
     · intro A B E G H; exact rP (y_move (kp (H 4 rfl) E q30))
     · intro A B E G H d0 d1; exact rP ((y_sub (ed d0 rfl rfl rfl) (ed d1 rfl rfl rfl) (w64 (by omega) (by omega))).mono (fun τ _ h => cvi (σ := τ) (by omega) h))
     · intro A B E G H d0; exact rP (y_call #[A.eval (.tmp 39)] Try.func34 rfl rfl (by simp only [List.map_toArray, List.map_cons, List.map_nil]) (rFact_fn (((((List.length r) - 1) - i))) ((((List.length r) - 1) - i)) _ _ (cvi (σ := B) (by omega) (ed d0 rfl rfl rfl)) (by omega) (by omega)))
     · intro A B E G H d0 d1; exact rP ((y_mul (ed d0 rfl rfl rfl) (ed d1 rfl rfl rfl) (w64 (by omega) (by omega))).mono (fun τ _ h => cvi (σ := τ) (by first | omega | exact (Int.natCast_mul _ _).symm) h))
     · intro A B E G H d0 d1; exact rP ((y_add (ed d0 rfl rfl rfl) (ed d1 rfl rfl rfl) (w64 (by omega) (by omega))).mono (fun τ _ h => cvi (σ := τ) (by first | omega | exact (Int.natCast_mul _ _).symm) h))
     · intro A B E G H d0 d1 d2 d3 d4 d5 d6 d7 d8 d9 d10 d11; exact rP (y_assign (ed d0 rfl rfl rfl))
     intro a16 s12 D12; have ok14 := D12.ok; have F14 := F9.step0 D12.stp; have q56 := D12.kt q30 rfl; have q57 := D12.kt q32 rfl; have q58 := D12.dn 10 rfl rfl; clear D12; refine bn ?_; refine tn ?_
     refine rg a16 s12 [(Ty.nat i), (Ty.nat (i + 1)), (Ty.nat (i + 1))] ok14 ⟨?_, ?_, ?_, trivial⟩ ?_
     · intro A B E G H; exact rP (y_move (kp (H 4 rfl) E q56))
     · intro A B E G H d0; exact rP ((y_add (ed d0 rfl rfl rfl) rfl (w64 (by omega) (by omega))).mono (fun τ _ h => cvi (σ := τ) (by first | omega | exact (Int.natCast_mul _ _).symm) h))
     · intro A B E G H d0 d1 d2; exact rP (y_assign (ed d0 rfl rfl rfl))
     intro a17 s13 D13; have ok15 := D13.ok; have F15 := F14.step0 D13.stp; have q59 := D13.kt q57 rfl; have q60 := D13.kt q58 rfl; have q61 := D13.dn 2 rfl rfl; clear D13
     exact tn ⟨r.length - ((i+1)), by omega, s13, (i+1), (q + lessN (r.getD i 0) (r.drop (i + 1)) * fct (r.length - 1 - i)), rfl, F15, ok15, (cvi (by (first | rfl | omega | (simp_all; done) | (simp_all; omega))) q61), (cvi (by (first | rfl | omega | (simp_all; done) | (simp_all; omega))) q60), q59, by omega, rank_step' (by omega) hq, rfl⟩
  ·
   refine wp_exit ?_; refine tx ?_; refine tx ?_; refine bx ?_; refine tn ?_; refine wp_seq ?_
   refine rg a6 s4 [(Ty.nat q), (Ty.nat q)] ok5 ⟨?_, ?_, trivial⟩ ?_
   · intro A B E G H; exact rP (y_move (kp (H 3 rfl) E q11))
   · intro A B E G H d0 d1; exact rP (y_assign (ed d0 rfl rfl rfl))
   intro a18 s14 D14; have ok16 := D14.ok; have F16 := F5.step0 D14.stp; have q62 := D14.dn 1 rfl rfl; clear D14; refine tn ?_; refine wp_ret ?_
   exact retL1 rfl ok16 F16 (cvi (by (obtain rfl : i = r.length := (by omega); exact congrArg _ (by rw [List.drop_length] at hq; exact hq))) q62)

theorem Try.inf4 : Info Try.prog 4 (.bool false) 1 1 := by unfold Info; kernel_rfl
set_option maxHeartbeats 4000000 in
set_option maxRecDepth 100000 in
theorem topFalse_fn (raw : List Int) (n : Int) (changes : Int) (σ : GW)  (v0 v1 v2 : Value) (hv0 : Ty.has (Ty.lst Ty.int raw) σ v0) (hv1 : Ty.has (Ty.int n) σ v1) (hv2 : Ty.has (Ty.int changes) σ v2)  (hraw : ∀ x ∈ raw, -9223372036854775808 ≤ x ∧ x ≤ 9223372036854775807) (hn : -9223372036854775808 ≤ n ∧ n ≤ 9223372036854775807) (hchanges : -9223372036854775808 ≤ changes ∧ changes ≤ 9223372036854775807) :
    FnC Try.prog 10 #[v0, v1, v2] σ (Ty.bool true) := by
 have hr : ∀ k, -9223372036854775808 ≤ rawAt raw k ∧ rawAt raw k ≤ 9223372036854775807 := fun k => rawAt_bd hraw k
 have hp_n := pick_lt n (n := 6) (by omega)
 have hp_changes := pick_lt changes (n := 14) (by omega)
 obtain ⟨M, hM⟩ : ∃ M, M = 2 + pick n 6 := ⟨_, rfl⟩
 obtain ⟨K, hK⟩ : ∃ K, K = 1 + pick changes 14 := ⟨_, rfl⟩
 obtain ⟨L, hL⟩ : ∃ L, L = changesOf raw 3 M K := ⟨_, rfl⟩
 have hmo : MethOk (ByteArray.mk #[84, 114, 105, 101, 100]) M L := by (rw [hL]; exact methOk_of (by decide +kernel) (by omega) (by omega) (by omega) (by omega))
 have hbs : (ByteArray.mk #[84, 114, 105, 101, 100]).size ≤ 1099511627776 := by (show 5 ≤ 1099511627776; omega)
 have hbh : bHunt.size ≤ 1099511627776 := by (show 10 ≤ 1099511627776; omega)
 have hLl : L.length = K := by rw [hL, changesOf_len]
 have hm0 := hmo.may
 have htn : (((M : Nat) : Int)).toNat = M := Int.toNat_natCast _
 have hfo := false_ok hmo (R := ((fromL (roundsL M) L).take L.length)) rfl
 obtain ⟨F, hF⟩ : ∃ F, F = onceL (enTo ((fromL (roundsL M) L).take L.length) ((fromL (roundsL M) L).take L.length).length ((fromL (roundsL M) L).take L.length).length) := ⟨_, rfl⟩
 obtain ⟨SF, hSF⟩ : ∃ SF, SF = sfTo ((fromL (roundsL M) L).take L.length) ((fromL (roundsL M) L).take L.length).length ((fromL (roundsL M) L).take L.length).length := ⟨_, rfl⟩
 rw [← hF, ← hSF] at hfo
 obtain ⟨hf1, hf2, hf3, hf4, hf5⟩ := hfo
 have hmb : L.length * L.length ≤ 14 * 14 := Nat.mul_le_mul (by omega) (by omega)
 refine fn_intro0 Try.func10 rfl Try.ntmps10 (Nat.le_of_ble_eq_true rfl) (fun s0 a0 hle F0 ok0 hargs => ?_)
 have p0 : At (Ty.lst Ty.int raw) s0 a0 (.tmp 0) := by have e := hargs 0 _ rfl; show Ty.has _ _ _; rw [e]; exact Ty.up _ hle hv0
 have b1 := sl_le p0
 have p1 : At (Ty.int n) s0 a0 (.tmp 1) := by have e := hargs 1 _ rfl; show Ty.has _ _ _; rw [e]; exact Ty.up _ hle hv1
 have p2 : At (Ty.int changes) s0 a0 (.tmp 2) := by have e := hargs 2 _ rfl; show Ty.has _ _ _; rw [e]; exact Ty.up _ hle hv2
 clear hargs; refine wp_seq ?_
 refine rg a0 s0 [(Ty.bool false)] ok0 ⟨?_, trivial⟩ ?_
 · intro A B E G H; exact rP (y_assign rfl)
 intro a1 s1 D1; have ok1 := D1.ok; have F1 := F0.step0 D1.stp; have q1 := D1.kt p0 rfl; have q2 := D1.kt p1 rfl; have q3 := D1.kt p2 rfl; clear D1; refine tn ?_; refine wp_seq ?_; refine wp_seq ?_
 refine rg a1 s1 [(Ty.lst Ty.int raw), (Ty.nat (List.length raw)), (Ty.bool (decide ((256 : Int) < (((List.length raw) : Nat) : Int))))] ok1 ⟨?_, ?_, ?_, trivial⟩ ?_
 · intro A B E G H; exact rP (y_move (kp (H 0 rfl) E q1))
 · intro A B E G H d0; exact rP (y_len Try.underlying23 (ed d0 rfl rfl rfl))
 · intro A B E G H d0; exact rP (y_gtr (ed d0 rfl rfl rfl) rfl)
 intro a2 s2 D2; have ok2 := D2.ok; have F2 := F1.step0 D2.stp; have q4 := D2.kt q1 rfl; have q5 := D2.kt q2 rfl; have q6 := D2.kt q3 rfl; have q7 := D2.dn 2 rfl rfl; clear D2; refine tn ?_
 refine cond_p (p := ((256 : Int) < (((List.length raw) : Nat) : Int))) q7 (fun c1 => ?_) (fun c1 => ?_)
 ·
  refine wp_seq ?_
  refine rg a2 s2 [(Ty.bool true)] ok2 ⟨?_, trivial⟩ ?_
  · intro A B E G H; exact rP (y_assign rfl)
  intro a3 s3 D3; have ok3 := D3.ok; have F3 := F2.step0 D3.stp; have q8 := D3.dn 0 rfl rfl; clear D3; refine tn ?_; refine wp_ret ?_
  refine tr ?_
  exact retL1 rfl ok3 F3 q8
 ·
  refine wp_skip ?_
  refine tn ?_; refine wp_seq ?_; refine wp_seq ?_
  refine rg a2 s2 [(Ty.agg [(Ty.val (Value.string bHunt)), (Ty.int (4 : Int)), (Ty.lst Ty.ints lHunt)]), (Ty.tup3 (Ty.lst Ty.ints [[1, 0, 3, 2]]) (Ty.bool false) (Ty.int (0 : Int))), (Ty.tup3 (Ty.lst Ty.ints [[1, 0, 3, 2]]) (Ty.bool false) (Ty.int (0 : Int))), (Ty.lst Ty.ints [[1, 0, 3, 2]]), (Ty.bool false), (Ty.int (0 : Int)), (Ty.lst Ty.ints [[1, 0, 3, 2]]), (Ty.bool false), (Ty.int (0 : Int))] ok2 ⟨?_, ?_, ?_, ?_, ?_, ?_, ?_, ?_, ?_, trivial⟩ ?_
  · intro A B E G H; exact rP (y_call #[] Try.func38 rfl rfl (by simp only [List.map_toArray, List.map_cons, List.map_nil]) (hunt_fn  _   ))
  · intro A B E G H d0 d1; exact rP ((y_call #[A.eval (.tmp 23)] Try.func25 rfl rfl (by simp only [List.map_toArray, List.map_cons, List.map_nil]) (false_fn (bHunt) ((4 : Int)) (lHunt) _ _ (ed d0 rfl rfl rfl) (by first | omega | assumption) (by first | omega | assumption))).mono (fun τ _ h => cvt (σ := τ) (T := (Ty.tup3 (Ty.lst Ty.ints (if methMay (bHunt) ((4 : Int)) (lHunt) = 0 then (onceL (enTo ((fromL (roundsL ((4 : Int)).toNat) (lHunt)).take (lHunt).length) ((fromL (roundsL ((4 : Int)).toNat) (lHunt)).take (lHunt).length).length ((fromL (roundsL ((4 : Int)).toNat) (lHunt)).take (lHunt).length).length)) else [])) (Ty.bool (if methMay (bHunt) ((4 : Int)) (lHunt) = 0 then (sfTo ((fromL (roundsL ((4 : Int)).toNat) (lHunt)).take (lHunt).length) ((fromL (roundsL ((4 : Int)).toNat) (lHunt)).take (lHunt).length).length ((fromL (roundsL ((4 : Int)).toNat) (lHunt)).take (lHunt).length).length) else false)) (Ty.int (methMay (bHunt) ((4 : Int)) (lHunt))))) (U := (Ty.tup3 (Ty.lst Ty.ints [[1, 0, 3, 2]]) (Ty.bool false) (Ty.int (0 : Int)))) (by rw [if_pos hunt_m0, if_pos hunt_m0, hunt_m0, hunt_h, hunt_s]) h))
  · intro A B E G H d0; exact rP (y_move (ed d0 rfl rfl rfl))
  · intro A B E G H d0; exact rP (y_ext3_0 (ed d0 rfl rfl rfl))
  · intro A B E G H d0 d1; exact rP (y_ext3_1 (ed d0 rfl rfl rfl))
  · intro A B E G H d0 d1; exact rP (y_ext3_2 (ed d0 rfl rfl rfl))
  · intro A B E G H d0 d1 d2 d3 d4 d5 d6 d7; exact rP (y_assign (ed d0 rfl rfl rfl))
  · intro A B E G H d0 d1 d2 d3 d4 d5 d6 d7 d8; exact rP (y_assign (ed d0 rfl rfl rfl))
  · intro A B E G H d0 d1 d2 d3 d4 d5 d6 d7 d8 d9; exact rP (y_assign (ed d0 rfl rfl rfl))
  intro a4 s4 D4; have ok4 := D4.ok; have F4 := F2.step0 D4.stp; have q9 := D4.kt q4 rfl; have q10 := D4.kt q5 rfl; have q11 := D4.kt q6 rfl; have q12 := D4.dn 6 rfl rfl; have q13 := D4.dn 7 rfl rfl; have q14 := D4.dn 8 rfl rfl; clear D4; refine tn ?_; refine wp_seq ?_
  refine rg a4 s4 [(Ty.int (0 : Int)), (Ty.bool false), (Ty.bool false), (Ty.grd (false = false) (Ty.bool false)), (Ty.bool (false || false)), (Ty.bool (false || false)), (Ty.grd ((false || false) = false) (Ty.lst Ty.ints [[1, 0, 3, 2]])), (Ty.grd ((false || false) = false) (Ty.nat (List.length [[1, 0, 3, 2]]))), (Ty.grd ((false || false) = false) (Ty.bool (decide ((((List.length [[1, 0, 3, 2]]) : Nat) : Int) ≠ (1 : Int))))), (Ty.bool ((false || false) || (decide ((((List.length [[1, 0, 3, 2]]) : Nat) : Int) ≠ (1 : Int)))))] ok4 ⟨?_, ?_, ?_, ?_, ?_, ?_, ?_, ?_, ?_, ?_, trivial⟩ ?_
  · intro A B E G H; exact rP (y_move (kp (H 9 rfl) E q14))
  · intro A B E G H d0; exact rP ((y_neq (ed d0 rfl rfl rfl) rfl).mono (fun τ _ h => cvb (σ := τ) (by decide) h))
  · intro A B E G H d0; exact rP (y_move (ed d0 rfl rfl rfl))
  · intro A B E G H d0
    refine run_guard G rfl rfl (by decide) (ed d0 rfl rfl rfl) (fun hg => ?_)
    exact y_move (kp (H 8 rfl) E q13)
  · intro A B E G H d0 d1; exact rP (y_pick_or (ed d0 rfl rfl rfl) rfl (ed d1 rfl rfl rfl))
  · intro A B E G H d0 d1; exact rP (y_move (ed d0 rfl rfl rfl))
  · intro A B E G H d0
    refine run_guard G rfl rfl (by decide) (ed d0 rfl rfl rfl) (fun hg => ?_)
    obtain ⟨d1, d2⟩ := Bool.or_eq_false_iff.mp hg
    exact y_move (kp (H 7 rfl) E q12)
  · intro A B E G H d0 d1
    refine run_guard G rfl rfl (by decide) (ed d1 rfl rfl rfl) (fun hg => ?_)
    obtain ⟨d3, d4⟩ := Bool.or_eq_false_iff.mp hg
    exact y_len Try.underlying29 ((ed d0 rfl rfl rfl).1 hg)
  · intro A B E G H d0 d1
    refine run_guard G rfl rfl (by decide) (ed d1 rfl rfl rfl) (fun hg => ?_)
    obtain ⟨d5, d6⟩ := Bool.or_eq_false_iff.mp hg
    exact y_neq ((ed d0 rfl rfl rfl).1 hg) rfl
  · intro A B E G H d0 d1; exact rP (y_pick_or (ed d0 rfl rfl rfl) rfl (ed d1 rfl rfl rfl))
  intro a5 s5 D5; have ok5 := D5.ok; have F5 := F4.step0 D5.stp; have q15 := D5.kt q9 rfl; have q16 := D5.kt q10 rfl; have q17 := D5.kt q11 rfl; have q18 := D5.dn 9 rfl rfl; clear D5; refine tn ?_
  refine cond_t q18 (fun c2 => ?_) (fun c2 => ?_)
  ·
   exfalso
   simp at c2
  ·
   obtain ⟨d7, d8⟩ := Bool.or_eq_false_iff.mp c2
   obtain ⟨d9, d10⟩ := Bool.or_eq_false_iff.mp d7
   replace d8 := of_decide_eq_false d8
   refine wp_skip ?_
   refine tn ?_; refine wp_seq ?_
   refine reg2 (a := a5) (σ := s5) rfl 9 (fun i_ => List.getD [(Ty.pr (Ty.lst Ty.int raw)), (Ty.pr (Ty.int n)), (Ty.pr (Ty.nat (pick (n) (6)))), (Ty.pr (Ty.nat (2 + (pick (n) (6))))), (Ty.pr (Ty.int changes)), (Ty.pr (Ty.nat (pick (changes) (14)))), (Ty.pr (Ty.nat (1 + (pick (changes) (14))))), (Ty.pr (Ty.agg [(Ty.val (Value.string (ByteArray.mk #[84, 114, 105, 101, 100]))), (Ty.nat M), (Ty.lst Ty.ints L)])), (Pr.ownp 7 [(Ty.val (Value.string ByteArray.empty)), (Ty.int (0 : Int)), (Ty.val (Value.slice none 0 0))])] i_ Pr.any) ok5 rfl (by decide) rfl ⟨?_, ?_, ?_, ?_, ?_, ?_, ?_, ?_, ?_, trivial⟩ ?_
   · intro A B E G H; exact rP (y_move (kp (H 0 rfl) E q15))
   · intro A B E G H; exact rP (y_move (kp (H 1 rfl) E q16))
   · intro A B E G H d0; exact rP (y_call #[A.eval (.tmp 39), A.eval ((Operand.const (Value.int IntKind.i64 6)))] Try.func18 rfl rfl (by simp only [List.map_toArray, List.map_cons, List.map_nil]) (pick_fn (n) (6) _ _ _ (cvi (σ := B) (by omega) (ed d0 rfl rfl rfl)) (cvi (σ := B) (by omega) rfl) (by omega) (by omega)))
   · intro A B E G H d0; exact rP ((y_add rfl (ed d0 rfl rfl rfl) (w64 (by omega) (by omega))).mono (fun τ _ h => cvi (σ := τ) (by first | omega | exact (Int.natCast_mul _ _).symm) h))
   · intro A B E G H; exact rP (y_move (kp (H 2 rfl) E q17))
   · intro A B E G H d0 d1; exact rP (y_call #[A.eval (.tmp 42), A.eval ((Operand.const (Value.int IntKind.i64 14)))] Try.func18 rfl rfl (by simp only [List.map_toArray, List.map_cons, List.map_nil]) (pick_fn (changes) (14) _ _ _ (cvi (σ := B) (by omega) (ed d0 rfl rfl rfl)) (cvi (σ := B) (by omega) rfl) (by omega) (by omega)))
   · intro A B E G H d0; exact rP ((y_add rfl (ed d0 rfl rfl rfl) (w64 (by omega) (by omega))).mono (fun τ _ h => cvi (σ := τ) (by first | omega | exact (Int.natCast_mul _ _).symm) h))
   · intro A B E G H d0 d1 d2 d3; exact rP ((y_call #[A.eval (.tmp 38), A.eval (.tmp 41), A.eval (.tmp 44)] Try.func19 rfl rfl (by simp only [List.map_toArray, List.map_cons, List.map_nil]) (methodOf_fn (raw) ((2 + (pick (n) (6)))) ((1 + (pick (changes) (14)))) _ _ _ _ (ed d0 rfl rfl rfl) (cvi (σ := B) (by first | omega | exact hr | assumption) (ed d1 rfl rfl rfl)) (cvi (σ := B) (by first | omega | exact hr | assumption) (ed d2 rfl rfl rfl)) (by first | omega | exact hr | assumption) (by first | omega | exact hr | assumption) (by first | omega | exact hr | assumption))).mono (fun τ _ h => cvt (σ := τ) (T := (Ty.agg [(Ty.val (Value.string (ByteArray.mk #[84, 114, 105, 101, 100]))), (Ty.nat ((2 + (pick (n) (6))))), (Ty.lst Ty.ints (changesOf raw 3 ((2 + (pick (n) (6)))) ((1 + (pick (changes) (14))))))])) (U := (Ty.agg [(Ty.val (Value.string (ByteArray.mk #[84, 114, 105, 101, 100]))), (Ty.nat M), (Ty.lst Ty.ints L)])) (by rw [hL, hM, hK]) h))
   · intro A B E G H; exact rP (y_alloc Try.inf31 rfl (alloc_vals (vs := [.string ByteArray.empty, .int .i64 0, .slice none 0 0]) rfl))
   intro a6 s6 D6; have ok6 := D6.ok; have F6 := F5.step0 D6.stp; have q19 := D6.dn 7 (by decide) rfl rfl
   obtain ⟨x1, hx1⟩ : ∃ x, a6.eval (.tmp 10) = x := ⟨_, rfl⟩
   have q20 : At (Ty.val x1) s6 a6 (.tmp 10) := hx1
   have o1 : OwnP s6 7 x1 [(Ty.val (Value.string ByteArray.empty)), (Ty.int (0 : Int)), (Ty.val (Value.slice none 0 0))] := al2 (R := (Pr.ownp 7 [(Ty.val (Value.string ByteArray.empty)), (Ty.int (0 : Int)), (Ty.val (Value.slice none 0 0))])) hx1 (D6.done 8 (by decide))
   clear D6
   refine tailL0 (L := [7]) (R := (fun _ τ => OwnP τ 7 x1 [(Ty.val (Value.string (ByteArray.mk #[84, 114, 105, 101, 100]))), (Ty.nat M), (Ty.lst Ty.ints L)])) rfl rfl (YldM.toL (m_storeagg Try.inf31 (by decide) o1 q20 rfl q19 (by intro U hU; simp only [List.mem_cons, List.not_mem_nil, or_false] at hU; rcases hU with rfl | rfl | rfl <;> first | exact one_val rfl | exact one_sl | exact one_ref))) (fun v1 s7 hs1 r1 => ?_)
   have F7 := F6.stepL hs1 (by decide); have q21 := kpL hs1 (by decide) rfl q20
   have o2 : OwnP s7 7 x1 [(Ty.val (Value.string (ByteArray.mk #[84, 114, 105, 101, 100]))), (Ty.nat M), (Ty.lst Ty.ints L)] := r1
   clear r1; refine wpList_nil ?_; refine tn ?_; refine wp_seq ?_
   refine rg a6 s7 [(Ty.agg [(Ty.val (Value.string (ByteArray.mk #[84, 114, 105, 101, 100]))), (Ty.nat M), (Ty.lst Ty.ints L)]), (Ty.tup3 (Ty.lst Ty.ints F) (Ty.bool SF) (Ty.int (0 : Int))), (Ty.tup3 (Ty.lst Ty.ints F) (Ty.bool SF) (Ty.int (0 : Int))), (Ty.lst Ty.ints F), (Ty.bool SF), (Ty.int (0 : Int)), (Ty.lst Ty.ints F), (Ty.bool SF), (Ty.int (0 : Int))] ok6 ⟨?_, ?_, ?_, ?_, ?_, ?_, ?_, ?_, ?_, trivial⟩ ?_
   · intro A B E G H; exact rP (ownp_loadagg Try.underlying31 Try.inf31 (OwnP.k0 o2 E) (kp (H 10 rfl) E q21))
   · intro A B E G H d0; exact rP ((y_call #[A.eval (.tmp 47)] Try.func25 rfl rfl (by simp only [List.map_toArray, List.map_cons, List.map_nil]) (false_fn ((ByteArray.mk #[84, 114, 105, 101, 100])) (((M : Nat) : Int)) (L) _ _ (ed d0 rfl rfl rfl) (by first | omega | assumption) (by first | omega | assumption))).mono (fun τ _ h => cvt (σ := τ) (T := (Ty.tup3 (Ty.lst Ty.ints (if methMay ((ByteArray.mk #[84, 114, 105, 101, 100])) (((M : Nat) : Int)) (L) = 0 then (onceL (enTo ((fromL (roundsL (((M : Nat) : Int)).toNat) (L)).take (L).length) ((fromL (roundsL (((M : Nat) : Int)).toNat) (L)).take (L).length).length ((fromL (roundsL (((M : Nat) : Int)).toNat) (L)).take (L).length).length)) else [])) (Ty.bool (if methMay ((ByteArray.mk #[84, 114, 105, 101, 100])) (((M : Nat) : Int)) (L) = 0 then (sfTo ((fromL (roundsL (((M : Nat) : Int)).toNat) (L)).take (L).length) ((fromL (roundsL (((M : Nat) : Int)).toNat) (L)).take (L).length).length ((fromL (roundsL (((M : Nat) : Int)).toNat) (L)).take (L).length).length) else false)) (Ty.int (methMay ((ByteArray.mk #[84, 114, 105, 101, 100])) (((M : Nat) : Int)) (L))))) (U := (Ty.tup3 (Ty.lst Ty.ints F) (Ty.bool SF) (Ty.int (0 : Int)))) (by rw [if_pos hm0, if_pos hm0, hm0, htn, ← hF, ← hSF]) h))
   · intro A B E G H d0; exact rP (y_move (ed d0 rfl rfl rfl))
   · intro A B E G H d0; exact rP (y_ext3_0 (ed d0 rfl rfl rfl))
   · intro A B E G H d0 d1; exact rP (y_ext3_1 (ed d0 rfl rfl rfl))
   · intro A B E G H d0 d1; exact rP (y_ext3_2 (ed d0 rfl rfl rfl))
   · intro A B E G H d0 d1 d2 d3 d4 d5 d6 d7; exact rP (y_assign (ed d0 rfl rfl rfl))
   · intro A B E G H d0 d1 d2 d3 d4 d5 d6 d7 d8; exact rP (y_assign (ed d0 rfl rfl rfl))
   · intro A B E G H d0 d1 d2 d3 d4 d5 d6 d7 d8 d9; exact rP (y_assign (ed d0 rfl rfl rfl))
   intro a7 s8 D7; have ok7 := D7.ok; have F8 := F7.step0 D7.stp; have q23 := D7.kt q21 rfl; have o3 := OwnP.k0 o2 D7.stp; have q24 := D7.dn 6 rfl rfl; have q25 := D7.dn 7 rfl rfl; have q26 := D7.dn 8 rfl rfl; clear D7; refine tn ?_; refine wp_seq ?_; refine wp_seq ?_
   refine rg a7 s8 [(Ty.int (0 : Int)), (Ty.bool false), (Ty.bool false), (Ty.grd (false = false) (Ty.lst Ty.ints F)), (Ty.grd (false = false) (Ty.nat (List.length F))), (Ty.grd (false = false) (Ty.val (ptrAt x1 2))), (Ty.grd (false = false) (Ty.lst Ty.ints L)), (Ty.grd (false = false) (Ty.nat (List.length L))), (Ty.grd (false = false) (Ty.val (ptrAt x1 2))), (Ty.grd (false = false) (Ty.lst Ty.ints L)), (Ty.grd (false = false) (Ty.nat (List.length L))), (Ty.grd (false = false) (Ty.nat ((List.length L) * (List.length L)))), (Ty.grd (false = false) (Ty.bool (decide (((((List.length L) * (List.length L)) : Nat) : Int) < (((List.length F) : Nat) : Int))))), (Ty.bool (false || (decide (((((List.length L) * (List.length L)) : Nat) : Int) < (((List.length F) : Nat) : Int))))), (Ty.bool (false || (decide (((((List.length L) * (List.length L)) : Nat) : Int) < (((List.length F) : Nat) : Int))))), (Ty.grd ((false || (decide (((((List.length L) * (List.length L)) : Nat) : Int) < (((List.length F) : Nat) : Int)))) = false) (Ty.val (ptrAt x1 2))), (Ty.grd ((false || (decide (((((List.length L) * (List.length L)) : Nat) : Int) < (((List.length F) : Nat) : Int)))) = false) (Ty.lst Ty.ints L)), (Ty.grd ((false || (decide (((((List.length L) * (List.length L)) : Nat) : Int) < (((List.length F) : Nat) : Int)))) = false) (Ty.nat (List.length L))), (Ty.grd ((false || (decide (((((List.length L) * (List.length L)) : Nat) : Int) < (((List.length F) : Nat) : Int)))) = false) (Ty.bool (decide ((((List.length L) : Nat) : Int) = (1 : Int))))), (Ty.grd ((false || (decide (((((List.length L) * (List.length L)) : Nat) : Int) < (((List.length F) : Nat) : Int)))) = false) (Ty.bool (decide ((((List.length L) : Nat) : Int) = (1 : Int))))), (Ty.grd (((false || (decide (((((List.length L) * (List.length L)) : Nat) : Int) < (((List.length F) : Nat) : Int)))) = false) ∧ (decide ((((List.length L) : Nat) : Int) = (1 : Int))) = true) (Ty.lst Ty.ints F)), (Ty.grd (((false || (decide (((((List.length L) * (List.length L)) : Nat) : Int) < (((List.length F) : Nat) : Int)))) = false) ∧ (decide ((((List.length L) : Nat) : Int) = (1 : Int))) = true) (Ty.nat (List.length F))), (Ty.grd (((false || (decide (((((List.length L) * (List.length L)) : Nat) : Int) < (((List.length F) : Nat) : Int)))) = false) ∧ (decide ((((List.length L) : Nat) : Int) = (1 : Int))) = true) (Ty.bool (decide ((0 : Int) < (((List.length F) : Nat) : Int))))), (Ty.grd (((false || (decide (((((List.length L) * (List.length L)) : Nat) : Int) < (((List.length F) : Nat) : Int)))) = false) ∧ (decide ((((List.length L) : Nat) : Int) = (1 : Int))) = true) (Ty.bool (decide ((0 : Int) < (((List.length F) : Nat) : Int))))), (Ty.grd ((((false || (decide (((((List.length L) * (List.length L)) : Nat) : Int) < (((List.length F) : Nat) : Int)))) = false) ∧ (decide ((((List.length L) : Nat) : Int) = (1 : Int))) = true) ∧ (decide ((0 : Int) < (((List.length F) : Nat) : Int))) = false) (Ty.bool SF)), (Ty.grd (((false || (decide (((((List.length L) * (List.length L)) : Nat) : Int) < (((List.length F) : Nat) : Int)))) = false) ∧ (decide ((((List.length L) : Nat) : Int) = (1 : Int))) = true) (Ty.bool ((decide ((0 : Int) < (((List.length F) : Nat) : Int))) || SF))), (Ty.grd ((false || (decide (((((List.length L) * (List.length L)) : Nat) : Int) < (((List.length F) : Nat) : Int)))) = false) (Ty.bool ((decide ((((List.length L) : Nat) : Int) = (1 : Int))) && ((decide ((0 : Int) < (((List.length F) : Nat) : Int))) || SF)))), (Ty.bool ((false || (decide (((((List.length L) * (List.length L)) : Nat) : Int) < (((List.length F) : Nat) : Int)))) || ((decide ((((List.length L) : Nat) : Int) = (1 : Int))) && ((decide ((0 : Int) < (((List.length F) : Nat) : Int))) || SF))))] ok7 ⟨?_, ?_, ?_, ?_, ?_, ?_, ?_, ?_, ?_, ?_, ?_, ?_, ?_, ?_, ?_, ?_, ?_, ?_, ?_, ?_, ?_, ?_, ?_, ?_, ?_, ?_, ?_, ?_, trivial⟩ ?_
   · intro A B E G H; exact rP (y_move (kp (H 13 rfl) E q26))
   · intro A B E G H d0; exact rP ((y_neq (ed d0 rfl rfl rfl) rfl).mono (fun τ _ h => cvb (σ := τ) (by decide) h))
   · intro A B E G H d0; exact rP (y_move (ed d0 rfl rfl rfl))
   · intro A B E G H d0
     refine run_guard G rfl rfl (by decide) (ed d0 rfl rfl rfl) (fun hg => ?_)
     exact y_move (kp (H 11 rfl) E q24)
   · intro A B E G H d0 d1
     refine run_guard G rfl rfl (by decide) (ed d1 rfl rfl rfl) (fun hg => ?_)
     exact y_len Try.underlying29 ((ed d0 rfl rfl rfl).1 hg)
   · intro A B E G H d0
     refine run_guard G rfl rfl (by decide) (ed d0 rfl rfl rfl) (fun hg => ?_)
     exact ownp_field Try.fld31_2 Try.inf29 (by decide) (OwnP.k0 o3 E) (kp (H 10 rfl) E q23)
   · intro A B E G H d0 d1
     refine run_guard G rfl rfl (by decide) (ed d1 rfl rfl rfl) (fun hg => ?_)
     exact ownp_load Try.underlying29 rfl (OwnP.k0 o3 E) ((ed d0 rfl rfl rfl).1 hg) rfl
   · intro A B E G H d0 d1
     refine run_guard G rfl rfl (by decide) (ed d1 rfl rfl rfl) (fun hg => ?_)
     exact y_len Try.underlying29 ((ed d0 rfl rfl rfl).1 hg)
   · intro A B E G H d0
     refine run_guard G rfl rfl (by decide) (ed d0 rfl rfl rfl) (fun hg => ?_)
     exact ownp_field Try.fld31_2 Try.inf29 (by decide) (OwnP.k0 o3 E) (kp (H 10 rfl) E q23)
   · intro A B E G H d0 d1
     refine run_guard G rfl rfl (by decide) (ed d1 rfl rfl rfl) (fun hg => ?_)
     exact ownp_load Try.underlying29 rfl (OwnP.k0 o3 E) ((ed d0 rfl rfl rfl).1 hg) rfl
   · intro A B E G H d0 d1
     refine run_guard G rfl rfl (by decide) (ed d1 rfl rfl rfl) (fun hg => ?_)
     exact y_len Try.underlying29 ((ed d0 rfl rfl rfl).1 hg)
   · intro A B E G H d0 d1 d2
     refine run_guard G rfl rfl (by decide) (ed d2 rfl rfl rfl) (fun hg => ?_)
     exact (y_mul ((ed d0 rfl rfl rfl).1 hg) ((ed d1 rfl rfl rfl).1 hg) (w64 (by omega) (by omega))).mono (fun τ _ h => cvi (σ := τ) (by first | omega | exact (Int.natCast_mul _ _).symm) h)
   · intro A B E G H d0 d1 d2
     refine run_guard G rfl rfl (by decide) (ed d2 rfl rfl rfl) (fun hg => ?_)
     exact y_gtr ((ed d0 rfl rfl rfl).1 hg) ((ed d1 rfl rfl rfl).1 hg)
   · intro A B E G H d0 d1; exact rP (y_pick_or (ed d0 rfl rfl rfl) rfl (ed d1 rfl rfl rfl))
   · intro A B E G H d0 d1; exact rP (y_move (ed d0 rfl rfl rfl))
   · intro A B E G H d0
     refine run_guard G rfl rfl (by decide) (ed d0 rfl rfl rfl) (fun hg => ?_)
     obtain ⟨d11, d12⟩ := Bool.or_eq_false_iff.mp hg
     have d12 := of_decide_eq_false d12
     exact ownp_field Try.fld31_2 Try.inf29 (by decide) (OwnP.k0 o3 E) (kp (H 10 rfl) E q23)
   · intro A B E G H d0 d1
     refine run_guard G rfl rfl (by decide) (ed d1 rfl rfl rfl) (fun hg => ?_)
     obtain ⟨d13, d14⟩ := Bool.or_eq_false_iff.mp hg
     have d14 := of_decide_eq_false d14
     exact ownp_load Try.underlying29 rfl (OwnP.k0 o3 E) ((ed d0 rfl rfl rfl).1 hg) rfl
   · intro A B E G H d0 d1
     refine run_guard G rfl rfl (by decide) (ed d1 rfl rfl rfl) (fun hg => ?_)
     obtain ⟨d15, d16⟩ := Bool.or_eq_false_iff.mp hg
     have d16 := of_decide_eq_false d16
     exact y_len Try.underlying29 ((ed d0 rfl rfl rfl).1 hg)
   · intro A B E G H d0 d1
     refine run_guard G rfl rfl (by decide) (ed d1 rfl rfl rfl) (fun hg => ?_)
     obtain ⟨d17, d18⟩ := Bool.or_eq_false_iff.mp hg
     have d18 := of_decide_eq_false d18
     exact y_eql ((ed d0 rfl rfl rfl).1 hg) rfl
   · intro A B E G H d0 d1 d2
     refine run_guard G rfl rfl (by decide) (ed d1 rfl rfl rfl) (fun hg => ?_)
     obtain ⟨d19, d20⟩ := Bool.or_eq_false_iff.mp hg
     have d20 := of_decide_eq_false d20
     exact y_move ((ed d0 rfl rfl rfl).1 hg)
   · intro A B E G H d0
     refine run_guard2 G rfl rfl (by decide) (ed d0 rfl rfl rfl) (fun hg => ?_)
     have hp := of_decide_eq_true hg.2
     exact y_move (kp (H 11 rfl) E q24)
   · intro A B E G H d0 d1
     refine run_guard2 G rfl rfl (by decide) (ed d1 rfl rfl rfl) (fun hg => ?_)
     have hp := of_decide_eq_true hg.2
     exact y_len Try.underlying29 ((ed d0 rfl rfl rfl).1 hg)
   · intro A B E G H d0 d1
     refine run_guard2 G rfl rfl (by decide) (ed d1 rfl rfl rfl) (fun hg => ?_)
     have hp := of_decide_eq_true hg.2
     exact y_gtr ((ed d0 rfl rfl rfl).1 hg) rfl
   · intro A B E G H d0 d1 d2
     refine run_guard2 G rfl rfl (by decide) (ed d1 rfl rfl rfl) (fun hg => ?_)
     have hp := of_decide_eq_true hg.2
     exact y_move ((ed d0 rfl rfl rfl).1 hg)
   · intro A B E G H d0
     refine run_guard2 G rfl rfl (by decide) (ed d0 rfl rfl rfl) (fun hg => ?_)
     have hp := of_decide_eq_false hg.2
     exact y_move (kp (H 12 rfl) E q25)
   · intro A B E G H d0 d1 d2
     refine run_guard2 G rfl rfl (by decide) (ed d2 rfl rfl rfl) (fun hg => ?_)
     have hp := of_decide_eq_true hg.2
     exact y_pick_or ((ed d0 rfl rfl rfl).1 hg) rfl (grd_part hg (ed d1 rfl rfl rfl))
   · intro A B E G H d0 d1 d2
     refine run_guard G rfl rfl (by decide) (ed d2 rfl rfl rfl) (fun hg => ?_)
     obtain ⟨d21, d22⟩ := Bool.or_eq_false_iff.mp hg
     have d22 := of_decide_eq_false d22
     exact y_pick_and ((ed d0 rfl rfl rfl).1 hg) (grd_part hg (ed d1 rfl rfl rfl)) rfl
   · intro A B E G H d0 d1; exact rP (y_pick_or (ed d0 rfl rfl rfl) rfl (ed d1 rfl rfl rfl))
   intro a8 s9 D8; have ok8 := D8.ok; have F9 := F8.step0 D8.stp; have q27 := D8.kt q24 rfl; have o4 := OwnP.k0 o3 D8.stp; have q28 := D8.dn 27 rfl rfl; clear D8; refine tn ?_
   refine cond_t q28 (fun c3 => ?_) (fun c3 => ?_)
   ·
    exfalso
    simp only [ne_eq, not_true_eq_false, decide_false, Bool.false_or, Bool.or_eq_true, Bool.and_eq_true, decide_eq_true_eq] at c3; rcases c3 with h_ | ⟨h_, h2_ | h2_⟩; omega; (have := (hf2 (by omega)).1; omega); (rw [(hf2 (by omega)).2] at h2_; cases h2_)
   ·
    obtain ⟨d23, d24⟩ := Bool.or_eq_false_iff.mp c3
    obtain ⟨d25, d26⟩ := Bool.or_eq_false_iff.mp d23
    replace d26 := of_decide_eq_false d26
    refine wp_skip ?_
    refine tn ?_; refine wp_seq ?_
    refine reg2 (a := a8) (σ := s9) rfl 1 (fun i_ => List.getD [(Pr.ownm Ty.bool kI 6 (fun _ => none : Int → Option Bool))] i_ Pr.any) ok8 rfl (by decide) rfl ⟨?_, trivial⟩ ?_
    · intro A B E G H; exact rP (y_makemap 6)
    intro a9 s10 D9; have ok9 := D9.ok; have F10 := F9.step0 D9.stp; have q29 := D9.kt q27 rfl
    obtain ⟨x2, hx2⟩ : ∃ x, a9.eval (.tmp 80) = x := ⟨_, rfl⟩
    have q30 : At (Ty.val x2) s10 a9 (.tmp 80) := hx2
    have o5 : OwnM Ty.bool kI s10 6 x2 (fun _ => none : Int → Option Bool) := al2 (R := (Pr.ownm Ty.bool kI 6 (fun _ => none : Int → Option Bool))) hx2 (D9.done 0 (by decide))
    clear D9
    refine tailL (L := []) (R := (fun v τ => Pr.has (Ty.pr (Ty.val x2)) τ v)) rfl rfl (by decide) ok9 (Yld.toL (y_assign q30)) (fun a10 s11 hs2 ok10 r2 sm1 => ?_)
    have F11 := F10.stepL hs2 (by decide); have q31 := kpL hs2 (by decide) (sm1 11 (by decide)) q29; have o6 := OwnM.keepL o5 hs2 (by decide) (by decide)
    have q32 : At (Ty.val x2) s11 a10 (.tmp 14) := r2
    clear r2; refine wpList_nil ?_; refine tn ?_; refine wp_seq ?_; refine wp_seq ?_
    refine rg a10 s11 [(Ty.int (0 : Int))] ok10 ⟨?_, trivial⟩ ?_
    · intro A B E G H; exact rP (y_assign rfl)
    intro a11 s12 D10; have ok11 := D10.ok; have F12 := F11.step0 D10.stp; have q33 := D10.kt q31 rfl; have q34 := D10.kt q32 rfl; have o7 := OwnM.k0 o6 D10.stp; have q35 := D10.dn 0 rfl rfl; clear D10; refine tn ?_
    refine wp_block ?_
    refine loop (fun n1 a12 w1 => ∃ (t1 : GW) (i : Nat) (x14_0 : Value), t1.w = w1 ∧ FromL [] s0 t1 ∧ Ok 123 a12 ∧ At (Ty.nat i) t1 a12 (.tmp 15) ∧ At (Ty.val x14_0) t1 a12 (.tmp 14) ∧ At (Ty.lst Ty.ints F) t1 a12 (.tmp 11) ∧ OwnM Ty.bool kI t1 6 x14_0 (seenBL (F.take i)) ∧ (i ≤ F.length) ∧ n1 = F.length - i) (F.length - (0)) ?_ ?_
    ·
     exact ⟨s12, 0, x2, rfl, F12, ok11, (cvi (by (first | rfl | omega | (simp_all; done) | (simp_all; omega))) q35), q34, q33, (cvm (by (rw [List.take_zero]; exact seenBL_nil.symm)) o7), by omega, rfl⟩
    ·
     rintro n2 a13 w2 ⟨t2, i, x14_0, rfl, F13, ok12, q36, q37, q38, o8, hi, rfl⟩
     refine wp_seq ?_; refine wp_seq ?_
     refine reg (a := a13) (σ := t2) rfl (fun i_ => List.getD [(Ty.pr (Ty.nat i)), (Ty.pr (Ty.lst Ty.ints F)), (Ty.pr (Ty.nat (List.length F))), (Ty.pr (Ty.bool (decide (((i : Nat) : Int) < (((List.length F) : Nat) : Int)))))] i_ Pr.any) ok12 rfl ⟨?_, ?_, ?_, ?_, trivial⟩ ?_
     · intro A B E G H; exact rP (y_move (kp (H 15 rfl) E q36))
     · intro A B E G H; exact rP (y_move (kp (H 11 rfl) E q38))
     · intro A B E G H d0; exact rP (y_len Try.underlying29 (ed d0 rfl rfl rfl))
     · intro A B E G H d0 d1; exact rP (y_lss (ed d0 rfl rfl rfl) (ed d1 rfl rfl rfl))
     intro a14 s13 D11; have ok13 := D11.ok; have F14 := F13.step0 D11.stp; have q39 := D11.kt q36 rfl; have q40 := D11.kt q37 rfl; have q41 := D11.kt q38 rfl; have o9 := OwnM.k0 o8 D11.stp; have q42 := D11.dn 3 rfl rfl; clear D11; refine tn ?_
     refine cond_p (p := (((i : Nat) : Int) < (((List.length F) : Nat) : Int))) q42 (fun c4 => ?_) (fun c4 => ?_)
     ·
      obtain ⟨hfr, hfz⟩ := hf3 i (by omega); have hfr1 := hfr.row; have hfr2 := hfr.len; have hrm := rowMay_ok.2 hfr1; have hbn := seenBL_no (F := F) (show i < F.length by omega) hf4
      refine wp_skip ?_
      refine tn ?_; refine wp_seq ?_
      refine wp_block ?_
      refine wp_seq ?_
      refine rg a14 s13 [(Ty.lst Ty.ints F), (Ty.nat i), (Ty.ref [(Ty.lst Ty.int (F.getD i []))]), (Ty.lst Ty.int (F.getD i [])), (Ty.tup2 (Ty.nat (rankL (F.getD i []))) (Ty.int (0 : Int))), (Ty.tup2 (Ty.nat (rankL (F.getD i []))) (Ty.int (0 : Int))), (Ty.nat (rankL (F.getD i []))), (Ty.int (0 : Int)), (Ty.nat (rankL (F.getD i []))), (Ty.int (0 : Int))] ok13 ⟨?_, ?_, ?_, ?_, ?_, ?_, ?_, ?_, ?_, ?_, trivial⟩ ?_
      · intro A B E G H; exact rP (y_move (kp (H 11 rfl) E q41))
      · intro A B E G H; exact rP (y_move (kp (H 15 rfl) E q39))
      · intro A B E G H d0 d1; exact rP (y_index1 Try.underlying29 Try.inf23 (ed d0 rfl rfl rfl) (ed d1 rfl rfl rfl) (by omega) (lst_get Ty.ints F [] i (by omega)))
      · intro A B E G H d0; exact rP (y_load Try.underlying23 rfl (ed d0 rfl rfl rfl) rfl)
      · intro A B E G H d0; exact rP ((y_call #[A.eval (.tmp 91)] Try.func40 rfl rfl (by simp only [List.map_toArray, List.map_cons, List.map_nil]) (rowRank_fn ((F.getD i [])) _ _ (ed d0 rfl rfl rfl) )).mono (fun τ _ h => cvt (σ := τ) (T := (Ty.tup2 (Ty.nat (if rowMay ((F.getD i [])) = 0 then rankL ((F.getD i [])) else 0)) (Ty.int (rowMay ((F.getD i [])))))) (U := (Ty.tup2 (Ty.nat (rankL (F.getD i []))) (Ty.int (0 : Int)))) (by simp only [hrm, if_true]) h))
      · intro A B E G H d0; exact rP (y_move (ed d0 rfl rfl rfl))
      · intro A B E G H d0; exact rP (y_ext2_0 (ed d0 rfl rfl rfl))
      · intro A B E G H d0 d1; exact rP (y_ext2_1 (ed d0 rfl rfl rfl))
      · intro A B E G H d0 d1 d2 d3 d4 d5 d6 d7 d8 d9; exact rP (y_assign (ed d0 rfl rfl rfl))
      · intro A B E G H d0 d1 d2 d3 d4 d5 d6 d7 d8 d9 d10; exact rP (y_assign (ed d0 rfl rfl rfl))
      intro a15 s14 D12; have ok14 := D12.ok; have F15 := F14.step0 D12.stp; have q43 := D12.kt q39 rfl; have q44 := D12.kt q40 rfl; have q45 := D12.kt q41 rfl; have o10 := OwnM.k0 o9 D12.stp; have q46 := D12.dn 8 rfl rfl; have q47 := D12.dn 9 rfl rfl; clear D12; refine tn ?_; refine wp_seq ?_; refine wp_seq ?_
      refine rg a15 s14 [(Ty.int (0 : Int)), (Ty.bool false), (Ty.bool false), (Ty.grd (false = false) (Ty.nat (rankL (F.getD i [])))), (Ty.grd (false = false) (Ty.bool (decide ((((rankL (F.getD i [])) : Nat) : Int) = (0 : Int))))), (Ty.bool (false || (decide ((((rankL (F.getD i [])) : Nat) : Int) = (0 : Int))))), (Ty.bool (false || (decide ((((rankL (F.getD i [])) : Nat) : Int) = (0 : Int))))), (Ty.grd ((false || (decide ((((rankL (F.getD i [])) : Nat) : Int) = (0 : Int)))) = false) (Ty.val x14_0)), (Ty.grd ((false || (decide ((((rankL (F.getD i [])) : Nat) : Int) = (0 : Int)))) = false) (Ty.nat (rankL (F.getD i [])))), (Ty.grd ((false || (decide ((((rankL (F.getD i [])) : Nat) : Int) = (0 : Int)))) = false) (Ty.bool (((seenBL (F.take i)) (((rankL (F.getD i [])) : Nat) : Int)).getD false))), (Ty.bool ((false || (decide ((((rankL (F.getD i [])) : Nat) : Int) = (0 : Int)))) || (((seenBL (F.take i)) (((rankL (F.getD i [])) : Nat) : Int)).getD false)))] ok14 ⟨?_, ?_, ?_, ?_, ?_, ?_, ?_, ?_, ?_, ?_, ?_, trivial⟩ ?_
      · intro A B E G H; exact rP (y_move (kp (H 17 rfl) E q47))
      · intro A B E G H d0; exact rP ((y_neq (ed d0 rfl rfl rfl) rfl).mono (fun τ _ h => cvb (σ := τ) (by decide) h))
      · intro A B E G H d0; exact rP (y_move (ed d0 rfl rfl rfl))
      · intro A B E G H d0
        refine run_guard G rfl rfl (by decide) (ed d0 rfl rfl rfl) (fun hg => ?_)
        exact y_move (kp (H 16 rfl) E q46)
      · intro A B E G H d0 d1
        refine run_guard G rfl rfl (by decide) (ed d1 rfl rfl rfl) (fun hg => ?_)
        exact y_eql ((ed d0 rfl rfl rfl).1 hg) rfl
      · intro A B E G H d0 d1; exact rP (y_pick_or (ed d0 rfl rfl rfl) rfl (ed d1 rfl rfl rfl))
      · intro A B E G H d0 d1; exact rP (y_move (ed d0 rfl rfl rfl))
      · intro A B E G H d0
        refine run_guard G rfl rfl (by decide) (ed d0 rfl rfl rfl) (fun hg => ?_)
        obtain ⟨d27, d28⟩ := Bool.or_eq_false_iff.mp hg
        have d28 := of_decide_eq_false d28
        exact y_move (kp (H 14 rfl) E q44)
      · intro A B E G H d0
        refine run_guard G rfl rfl (by decide) (ed d0 rfl rfl rfl) (fun hg => ?_)
        obtain ⟨d29, d30⟩ := Bool.or_eq_false_iff.mp hg
        have d30 := of_decide_eq_false d30
        exact y_move (kp (H 16 rfl) E q46)
      · intro A B E G H d0 d1 d2
        refine run_guard G rfl rfl (by decide) (ed d2 rfl rfl rfl) (fun hg => ?_)
        obtain ⟨d31, d32⟩ := Bool.or_eq_false_iff.mp hg
        have d32 := of_decide_eq_false d32
        exact y_lookup (i := (((rankL (F.getD i [])) : Nat) : Int)) (z := false) Try.underlying71 (keyInt Try.underlying3) Try.inf4 (fun _ => rfl) (OwnM.k0 o10 E) ((ed d0 rfl rfl rfl).1 hg) ((ed d1 rfl rfl rfl).1 hg)
      · intro A B E G H d0 d1; exact rP (y_pick_or (ed d0 rfl rfl rfl) rfl (ed d1 rfl rfl rfl))
      intro a16 s15 D13; have ok15 := D13.ok; have F16 := F15.step0 D13.stp; have q48 := D13.kt q43 rfl; have q49 := D13.kt q44 rfl; have q50 := D13.kt q45 rfl; have q51 := D13.kt q46 rfl; have o11 := OwnM.k0 o10 D13.stp; have q52 := D13.dn 10 rfl rfl; clear D13; refine tn ?_
      refine cond_t q52 (fun c5 => ?_) (fun c5 => ?_)
      ·
       exfalso
       have hb_ : (seenBL (List.take i F) ((rankL (F.getD i []) : Nat) : Int)).getD false = false := hbn; rw [hb_] at c5; simp only [ne_eq, not_true_eq_false, decide_false, Bool.false_or, Bool.or_false, decide_eq_true_eq] at c5; omega
      ·
       obtain ⟨d33, d34⟩ := Bool.or_eq_false_iff.mp c5
       obtain ⟨d35, d36⟩ := Bool.or_eq_false_iff.mp d33
       replace d36 := of_decide_eq_false d36
       refine wp_skip ?_
       refine tn ?_
       refine reg2 (a := a16) (σ := s15) rfl 2 (fun i_ => List.getD [(Ty.pr (Ty.val x14_0)), (Ty.pr (Ty.nat (rankL (F.getD i []))))] i_ Pr.any) ok15 rfl (by decide) rfl ⟨?_, ?_, trivial⟩ ?_
       · intro A B E G H; exact rP (y_move (kp (H 14 rfl) E q49))
       · intro A B E G H; exact rP (y_move (kp (H 16 rfl) E q51))
       intro a17 s16 D14; have ok16 := D14.ok; have F17 := F16.step0 D14.stp; have q53 := D14.kt q48 rfl; have q54 := D14.kt q49 rfl; have q55 := D14.kt q50 rfl; have o12 := OwnM.k0 o11 D14.stp
       have q56 : At (Ty.val x14_0) s16 a17 (.tmp 106) := D14.done 0 (by decide)
       have q57 := D14.dn 1 (by decide) rfl rfl; clear D14
       refine tailL0 (L := [6]) (R := (fun _ τ => OwnM Ty.bool kI τ 6 x14_0 (fun x_ => if x_ = (((rankL (F.getD i [])) : Nat) : Int) then some true else (seenBL (F.take i)) x_))) rfl rfl (YldM.toL (m_mapset (i := (((rankL (F.getD i [])) : Nat) : Int)) Try.underlying71 (keyInt Try.underlying3) (by decide) o12 q56 q57 rfl)) (fun v2 s17 hs3 r3 => ?_)
       have F18 := F17.stepL hs3 (by decide); have q58 := kpL hs3 (by decide) rfl q53; have q59 := kpL hs3 (by decide) rfl q54; have q60 := kpL hs3 (by decide) rfl q55
       have o13 : OwnM Ty.bool kI s17 6 x14_0 (fun x_ => if x_ = (((rankL (F.getD i [])) : Nat) : Int) then some true else (seenBL (F.take i)) x_) := r3
       clear r3; refine wpList_nil ?_; refine bn ?_; refine tn ?_
       refine rg a17 s17 [(Ty.nat i), (Ty.nat (i + 1)), (Ty.nat (i + 1))] ok16 ⟨?_, ?_, ?_, trivial⟩ ?_
       · intro A B E G H; exact rP (y_move (kp (H 15 rfl) E q58))
       · intro A B E G H d0; exact rP ((y_add (ed d0 rfl rfl rfl) rfl (w64 (by omega) (by omega))).mono (fun τ _ h => cvi (σ := τ) (by first | omega | exact (Int.natCast_mul _ _).symm) h))
       · intro A B E G H d0 d1 d2; exact rP (y_assign (ed d0 rfl rfl rfl))
       intro a18 s18 D15; have ok17 := D15.ok; have F19 := F18.step0 D15.stp; have q62 := D15.kt q59 rfl; have q63 := D15.kt q60 rfl; have o14 := OwnM.k0 o13 D15.stp; have q64 := D15.dn 2 rfl rfl; clear D15
       exact tn ⟨F.length - ((i+1)), by omega, s18, (i+1), x14_0, rfl, F19, ok17, (cvi (by (first | rfl | omega | (simp_all; done) | (simp_all; omega))) q64), q62, q63, (cvm (by (rw [take_snocD [] (by omega)]; exact seenBL_snoc _ _)) o14), by omega, rfl⟩
     ·
      refine wp_exit ?_; refine tx ?_; refine tx ?_; refine bx ?_; refine tn ?_; refine wp_seq ?_; refine wp_seq ?_
      refine rg a14 s13 [(Ty.int (0 : Int))] ok13 ⟨?_, trivial⟩ ?_
      · intro A B E G H; exact rP (y_assign rfl)
      intro a19 s19 D16; have ok18 := D16.ok; have F20 := F14.step0 D16.stp; have q65 := D16.kt q40 rfl; have q66 := D16.kt q41 rfl; have o15 := OwnM.k0 o9 D16.stp; have q67 := D16.dn 0 rfl rfl; clear D16
      have o16 : OwnM Ty.bool kI s19 6 x14_0 (seenBL F) := (cvm (by (rw [show i = F.length by omega, List.take_length])) o15)
      refine tn ?_
      refine wp_block ?_
      refine loop (fun n3 a20 w3 => ∃ (t3 : GW) (i : Nat), t3.w = w3 ∧ FromL [] s0 t3 ∧ Ok 123 a20 ∧ At (Ty.nat i) t3 a20 (.tmp 18) ∧ At (Ty.val x14_0) t3 a20 (.tmp 14) ∧ At (Ty.lst Ty.ints F) t3 a20 (.tmp 11) ∧ OwnM Ty.bool kI t3 6 x14_0 (seenBL F) ∧ (i ≤ F.length) ∧ n3 = F.length - i) (F.length - (0)) ?_ ?_
      ·
       exact ⟨s19, 0, rfl, F20, ok18, (cvi (by (first | rfl | omega | (simp_all; done) | (simp_all; omega))) q67), q65, q66, o16, by omega, rfl⟩
      ·
       rintro n4 a21 w4 ⟨t4, i, rfl, F21, ok19, q68, q69, q70, o17, hi, rfl⟩
       refine wp_seq ?_; refine wp_seq ?_
       refine reg (a := a21) (σ := t4) rfl (fun i_ => List.getD [(Ty.pr (Ty.nat i)), (Ty.pr (Ty.lst Ty.ints F)), (Ty.pr (Ty.nat (List.length F))), (Ty.pr (Ty.bool (decide (((i : Nat) : Int) < (((List.length F) : Nat) : Int)))))] i_ Pr.any) ok19 rfl ⟨?_, ?_, ?_, ?_, trivial⟩ ?_
       · intro A B E G H; exact rP (y_move (kp (H 18 rfl) E q68))
       · intro A B E G H; exact rP (y_move (kp (H 11 rfl) E q70))
       · intro A B E G H d0; exact rP (y_len Try.underlying29 (ed d0 rfl rfl rfl))
       · intro A B E G H d0 d1; exact rP (y_lss (ed d0 rfl rfl rfl) (ed d1 rfl rfl rfl))
       intro a22 s20 D17; have ok20 := D17.ok; have F22 := F21.step0 D17.stp; have q71 := D17.kt q68 rfl; have q72 := D17.kt q69 rfl; have q73 := D17.kt q70 rfl; have o18 := OwnM.k0 o17 D17.stp; have q74 := D17.dn 3 rfl rfl; clear D17; refine tn ?_
       refine cond_p (p := (((i : Nat) : Int) < (((List.length F) : Nat) : Int))) q74 (fun c6 => ?_) (fun c6 => ?_)
       ·
        obtain ⟨hfr, hfz⟩ := hf3 i (by omega); have hfr1 := hfr.row; have hfu := hfr.undo; have hfu1 := hfu.row; obtain ⟨j_, hj1_, hj2_⟩ := hf5 i (by omega); have hby := seenBL_yes hj1_ hj2_
        refine wp_skip ?_
        refine tn ?_; refine wp_seq ?_
        refine wp_block ?_
        refine wp_seq ?_
        refine rg a22 s20 [(Ty.val x14_0), (Ty.lst Ty.ints F), (Ty.nat i), (Ty.ref [(Ty.lst Ty.int (F.getD i []))]), (Ty.lst Ty.int (F.getD i [])), (Ty.lst Ty.int (undoL ((F.getD i [])))), (Ty.nat (rankL ((undoL ((F.getD i [])))))), (Ty.bool (((seenBL F) (((rankL ((undoL ((F.getD i []))))) : Nat) : Int)).getD false)), (Ty.bool (!(((seenBL F) (((rankL ((undoL ((F.getD i []))))) : Nat) : Int)).getD false)))] ok20 ⟨?_, ?_, ?_, ?_, ?_, ?_, ?_, ?_, ?_, trivial⟩ ?_
        · intro A B E G H; exact rP (y_move (kp (H 14 rfl) E q72))
        · intro A B E G H; exact rP (y_move (kp (H 11 rfl) E q73))
        · intro A B E G H; exact rP (y_move (kp (H 18 rfl) E q71))
        · intro A B E G H d0 d1; exact rP (y_index1 Try.underlying29 Try.inf23 (ed d0 rfl rfl rfl) (ed d1 rfl rfl rfl) (by omega) (lst_get Ty.ints F [] i (by omega)))
        · intro A B E G H d0; exact rP (y_load Try.underlying23 rfl (ed d0 rfl rfl rfl) rfl)
        · intro A B E G H d0; exact rP (y_call #[A.eval (.tmp 118)] Try.func42 rfl rfl (by simp only [List.map_toArray, List.map_cons, List.map_nil]) (rUndo_fn ((F.getD i [])) _ _ (ed d0 rfl rfl rfl) (by assumption)))
        · intro A B E G H d0 d1; exact rP (y_call #[A.eval (.tmp 119)] Try.func41 rfl rfl (by simp only [List.map_toArray, List.map_cons, List.map_nil]) (rRank_fn ((undoL ((F.getD i [])))) _ _ (ed d0 rfl rfl rfl) (by first | omega | assumption)))
        · intro A B E G H d0 d1; exact rP (y_lookup (i := (((rankL ((undoL ((F.getD i []))))) : Nat) : Int)) (z := false) Try.underlying71 (keyInt Try.underlying3) Try.inf4 (fun _ => rfl) (OwnM.k0 o18 E) (ed d0 rfl rfl rfl) (ed d1 rfl rfl rfl))
        · intro A B E G H d0; exact rP (y_not (ed d0 rfl rfl rfl))
        intro a23 s21 D18; have ok21 := D18.ok; have F23 := F22.step0 D18.stp; have q75 := D18.kt q71 rfl; have q76 := D18.kt q72 rfl; have q77 := D18.kt q73 rfl; have o19 := OwnM.k0 o18 D18.stp; have q78 := D18.dn 8 rfl rfl; clear D18; refine tn ?_
        refine cond_t q78 (fun c7 => ?_) (fun c7 => ?_)
        ·
         exfalso
         have hb_ : (seenBL F ((rankL (undoL (F.getD i [])) : Nat) : Int)).getD false = true := hby; rw [hb_] at c7; cases c7
        ·
         refine wp_skip ?_
         refine bn ?_; refine tn ?_
         refine rg a23 s21 [(Ty.nat i), (Ty.nat (i + 1)), (Ty.nat (i + 1))] ok21 ⟨?_, ?_, ?_, trivial⟩ ?_
         · intro A B E G H; exact rP (y_move (kp (H 18 rfl) E q75))
         · intro A B E G H d0; exact rP ((y_add (ed d0 rfl rfl rfl) rfl (w64 (by omega) (by omega))).mono (fun τ _ h => cvi (σ := τ) (by first | omega | exact (Int.natCast_mul _ _).symm) h))
         · intro A B E G H d0 d1 d2; exact rP (y_assign (ed d0 rfl rfl rfl))
         intro a24 s22 D19; have ok22 := D19.ok; have F24 := F23.step0 D19.stp; have q79 := D19.kt q76 rfl; have q80 := D19.kt q77 rfl; have o20 := OwnM.k0 o19 D19.stp; have q81 := D19.dn 2 rfl rfl; clear D19
         exact tn ⟨F.length - ((i+1)), by omega, s22, (i+1), rfl, F24, ok22, (cvi (by (first | rfl | omega | (simp_all; done) | (simp_all; omega))) q81), q79, q80, o20, by omega, rfl⟩
       ·
        refine wp_exit ?_; refine tx ?_; refine tx ?_; refine bx ?_; refine tn ?_; refine wp_seq ?_
        refine rg a22 s20 [(Ty.bool true)] ok20 ⟨?_, trivial⟩ ?_
        · intro A B E G H; exact rP (y_assign rfl)
        intro a25 s23 D20; have ok23 := D20.ok; have F25 := F22.step0 D20.stp; have o21 := OwnM.k0 o18 D20.stp; have q82 := D20.dn 0 rfl rfl; clear D20; refine tn ?_; refine wp_ret ?_
        exact retL1 rfl ok23 F25 q82


end Go.Proofs.Ytbilebfnanlgfaa
