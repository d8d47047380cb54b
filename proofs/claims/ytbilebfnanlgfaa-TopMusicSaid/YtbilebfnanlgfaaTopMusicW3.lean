/- The functions that the law TopMusic reaches, each by its contract. Part 3. -/
import Derived.Test.YtbilebfnanlgfaaTopMusicW2
namespace Go.Proofs.Ytbilebfnanlgfaa
open Go.KL
theorem Try.inf9 : Info Try.prog 9 (.string ByteArray.empty) 1 16 := by unfold Info; kernel_rfl
set_option maxHeartbeats 4000000 in
set_option maxRecDepth 100000 in
theorem mucount_fn (n : Int) (ts : List ByteArray) (rows : List (List Int)) (σ : GW)  (v0 v1 v2 : Value) (hv0 : Ty.has (Ty.int n) σ v0) (hv1 : Ty.has (Ty.lst Ty.str ts) σ v1) (hv2 : Ty.has (Ty.lst Ty.ints rows) σ v2)  (hn64 : -9223372036854775808 ≤ n ∧ n ≤ 9223372036854775807) (hts : ∀ t ∈ ts, t.size ≤ 17592186044416) :
    FnC Try.prog 36 #[v0, v1, v2] σ (Ty.tup2 (Ty.lst Ty.int (if musMay n ts rows = 0 then musL ts rows else [])) (Ty.int (musMay n ts rows))) := by
 refine fn_intro0 Try.func36 rfl Try.ntmps36 (Nat.le_of_ble_eq_true rfl) (fun s0 a0 hle F0 ok0 hargs => ?_)
 have p0 : At (Ty.int n) s0 a0 (.tmp 0) := by have e := hargs 0 _ rfl; show Ty.has _ _ _; rw [e]; exact Ty.up _ hle hv0
 have p1 : At (Ty.lst Ty.str ts) s0 a0 (.tmp 1) := by have e := hargs 1 _ rfl; show Ty.has _ _ _; rw [e]; exact Ty.up _ hle hv1
 have b1 := sl_le p1
 have p2 : At (Ty.lst Ty.ints rows) s0 a0 (.tmp 2) := by have e := hargs 2 _ rfl; show Ty.has _ _ _; rw [e]; exact Ty.up _ hle hv2
 have b2 := sl_le p2
 clear hargs; refine wp_seq ?_
 refine rg a0 s0 [(Ty.val (Value.slice none 0 0)), (Ty.int (0 : Int))] ok0 ⟨?_, ?_, trivial⟩ ?_
 · intro A B E G H; exact rP (y_assign rfl)
 · intro A B E G H d0; exact rP (y_assign rfl)
 intro a1 s1 D1; have ok1 := D1.ok; have F1 := F0.step0 D1.stp; have q1 := D1.kt p0 rfl; have q2 := D1.kt p1 rfl; have q3 := D1.kt p2 rfl; clear D1; refine tn ?_; refine wp_seq ?_; refine wp_seq ?_
 refine rg a1 s1 [(Ty.lst Ty.str ts), (Ty.nat (List.length ts)), (Ty.bool (decide ((50 : Int) < (((List.length ts) : Nat) : Int)))), (Ty.bool (decide ((50 : Int) < (((List.length ts) : Nat) : Int)))), (Ty.grd ((decide ((50 : Int) < (((List.length ts) : Nat) : Int))) = false) (Ty.lst Ty.ints rows)), (Ty.grd ((decide ((50 : Int) < (((List.length ts) : Nat) : Int))) = false) (Ty.nat (List.length rows))), (Ty.grd ((decide ((50 : Int) < (((List.length ts) : Nat) : Int))) = false) (Ty.bool (decide ((20001 : Int) < (((List.length rows) : Nat) : Int))))), (Ty.bool ((decide ((50 : Int) < (((List.length ts) : Nat) : Int))) || (decide ((20001 : Int) < (((List.length rows) : Nat) : Int)))))] ok1 ⟨?_, ?_, ?_, ?_, ?_, ?_, ?_, ?_, trivial⟩ ?_
 · intro A B E G H; exact rP (y_move (kp (H 1 rfl) E q2))
 · intro A B E G H d0; exact rP (y_len Try.underlying65 (ed d0 rfl rfl rfl))
 · intro A B E G H d0; exact rP (y_gtr (ed d0 rfl rfl rfl) rfl)
 · intro A B E G H d0; exact rP (y_move (ed d0 rfl rfl rfl))
 · intro A B E G H d0
   refine run_guard G rfl rfl (by decide) (ed d0 rfl rfl rfl) (fun hg => ?_)
   have hp := of_decide_eq_false hg
   exact y_move (kp (H 2 rfl) E q3)
 · intro A B E G H d0 d1
   refine run_guard G rfl rfl (by decide) (ed d1 rfl rfl rfl) (fun hg => ?_)
   have hp := of_decide_eq_false hg
   exact y_len Try.underlying29 ((ed d0 rfl rfl rfl).1 hg)
 · intro A B E G H d0 d1
   refine run_guard G rfl rfl (by decide) (ed d1 rfl rfl rfl) (fun hg => ?_)
   have hp := of_decide_eq_false hg
   exact y_gtr ((ed d0 rfl rfl rfl).1 hg) rfl
 · intro A B E G H d0 d1; exact rP (y_pick_or (ed d0 rfl rfl rfl) rfl (ed d1 rfl rfl rfl))
 intro a2 s2 D2; have ok2 := D2.ok; have F2 := F1.step0 D2.stp; have q4 := D2.kt q1 rfl; have q5 := D2.kt q2 rfl; have q6 := D2.kt q3 rfl; have q7 := D2.dn 7 rfl rfl; clear D2; refine tn ?_
 refine cond_t q7 (fun c1 => ?_) (fun c1 => ?_)
 ·
  simp only [Bool.or_eq_true, decide_eq_true_eq] at c1; have hm := mus_lim (n := n) (ts := ts) (rows := rows) (by omega)
  refine wp_seq ?_
  refine rg a2 s2 [(Ty.val (Value.slice none 0 0)), (Ty.int (3 : Int))] ok2 ⟨?_, ?_, trivial⟩ ?_
  · intro A B E G H; exact rP (y_assign rfl)
  · intro A B E G H d0 d1; exact rP (y_assign rfl)
  intro a3 s3 D3; have ok3 := D3.ok; have F3 := F2.step0 D3.stp; have q8 := D3.dn 0 rfl rfl; have q9 := D3.dn 1 rfl rfl; clear D3; refine tn ?_; refine wp_ret ?_
  refine tr ?_
  exact retL2 rfl ok3 F3 (hasT2 (nil_lst (by (rw [if_neg (by rw [hm]; decide)])) q8) (cvi (by (exact hm.symm)) q9))
 ·
  obtain ⟨d1, d2⟩ := Bool.or_eq_false_iff.mp c1
  replace d1 := of_decide_eq_false d1
  replace d2 := of_decide_eq_false d2
  simp only [Bool.or_eq_false_iff, decide_eq_false_iff_not] at c1; have hlim : ¬ (50 < ts.length ∨ 20001 < rows.length) := (by omega)
  refine wp_skip ?_
  refine tn ?_; refine wp_seq ?_
  refine rg a2 s2 [(Ty.val (Value.slice none 0 0))] ok2 ⟨?_, trivial⟩ ?_
  · intro A B E G H; exact rP (y_assign rfl)
  intro a4 s4 D4; have ok4 := D4.ok; have F4 := F2.step0 D4.stp; have q10 := D4.kt q4 rfl; have q11 := D4.kt q5 rfl; have q12 := D4.kt q6 rfl; have q13 := D4.dn 0 rfl rfl; clear D4; refine tn ?_; refine wp_seq ?_; refine wp_seq ?_
  refine rg a4 s4 [(Ty.lst Ty.str ts), (Ty.nat (List.length ts)), (Ty.int (0 : Int))] ok4 ⟨?_, ?_, ?_, trivial⟩ ?_
  · intro A B E G H; exact rP (y_move (kp (H 1 rfl) E q11))
  · intro A B E G H d0; exact rP (y_len Try.underlying65 (ed d0 rfl rfl rfl))
  · intro A B E G H; exact rP (y_move rfl)
  intro a5 s5 D5; have ok5 := D5.ok; have F5 := F4.step0 D5.stp; have q14 := D5.kt q10 rfl; have q15 := D5.kt q12 rfl; have q16 := D5.kt q13 rfl; have q17 := D5.dn 0 rfl rfl; have q18 := D5.dn 1 rfl rfl; have q19 := D5.dn 2 rfl rfl; clear D5; refine tn ?_
  refine wp_block ?_
  have o1 : Own s5 6 107 3 (Value.slice none 0 0) 0 (List.flatMap patC ([] : List (List Int × List Int × Bool))) := Own.nil _ _ _ _
  refine loop (fun n1 a6 w1 => ∃ (t1 : GW) (i : Nat) (ps : List (List Int × List Int × Bool)) (x8_0 : Value), t1.w = w1 ∧ FromL [] s0 t1 ∧ Ok 84 a6 ∧ At (Ty.nat i) t1 a6 (.tmp 29) ∧ At (Ty.val x8_0) t1 a6 (.tmp 8) ∧ At (Ty.int n) t1 a6 (.tmp 0) ∧ At (Ty.lst Ty.ints rows) t1 a6 (.tmp 2) ∧ At (Ty.lst Ty.str ts) t1 a6 (.tmp 27) ∧ At (Ty.nat (List.length ts)) t1 a6 (.tmp 28) ∧ Own t1 6 107 3 x8_0 (List.length ps) (List.flatMap patC ps) ∧ (i ≤ ts.length) ∧ (texMay n (ts.drop i) = texMay n ts) ∧ (PatsOk ts ps) ∧ (ps.length = i) ∧ n1 = ts.length - i) (ts.length - (0)) ?_ ?_
  ·
   exact ⟨s5, 0, ([] : List (List Int × List Int × Bool)), (Value.slice none 0 0), rfl, F5, ok5, (cvi (by (first | rfl | omega | (simp_all; done) | (simp_all; omega))) q19), q16, q14, q15, q17, q18, (cvo (by (simp)) (by (simp)) o1), by omega, rfl, pats_nil ts, rfl, rfl⟩
  ·
   rintro n2 a7 w2 ⟨t2, i, ps, x8_0, rfl, F6, ok6, q20, q21, q22, q23, q24, q25, o2, hi, ht, hps, hpl, rfl⟩
   refine wp_seq ?_
   refine reg (a := a7) (σ := t2) rfl (fun i_ => List.getD [(Ty.pr (Ty.bool (decide (((i : Nat) : Int) < (((List.length ts) : Nat) : Int)))))] i_ Pr.any) ok6 rfl ⟨?_, trivial⟩ ?_
   · intro A B E G H; exact rP (y_lss (kp (H 29 rfl) E q20) (kp (H 28 rfl) E q25))
   intro a8 s6 D6; have ok7 := D6.ok; have F7 := F6.step0 D6.stp; have q26 := D6.kt q20 rfl; have q27 := D6.kt q21 rfl; have q28 := D6.kt q22 rfl; have q29 := D6.kt q23 rfl; have q30 := D6.kt q24 rfl; have q31 := D6.kt q25 rfl; have o3 := Own.k0 o2 D6.stp; have q32 := D6.dn 0 rfl rfl; clear D6; refine tn ?_; refine wp_seq ?_
   refine cond_p (p := (((i : Nat) : Int) < (((List.length ts) : Nat) : Int))) q32 (fun c2 => ?_) (fun c2 => ?_)
   ·
    have htz := hts _ (mem_getD ByteArray.empty (show i < ts.length by omega)); rw [drop_cons ts ByteArray.empty (show i < ts.length by omega)] at ht
    refine wp_skip ?_
    refine tn ?_; refine wp_seq ?_
    refine wp_block ?_
    refine wp_seq ?_
    refine rg a8 s6 [(Ty.ref [(Ty.val (Value.string (ts.getD i ByteArray.empty)))]), (Ty.val (Value.string (ts.getD i ByteArray.empty))), (Ty.val (Value.string (ts.getD i ByteArray.empty)))] ok7 ⟨?_, ?_, ?_, trivial⟩ ?_
    · intro A B E G H; exact rP (y_index1 Try.underlying65 Try.inf9 (kp (H 27 rfl) E q30) (kp (H 29 rfl) E q26) (by omega) (lst_get Ty.str ts ByteArray.empty i (by omega)))
    · intro A B E G H d0; exact rP (y_load Try.underlying9 rfl (ed d0 rfl rfl rfl) rfl)
    · intro A B E G H d0 d1 d2; exact rP (y_assign (ed d0 rfl rfl rfl))
    intro a9 s7 D7; have ok8 := D7.ok; have F8 := F7.step0 D7.stp; have q33 := D7.kt q26 rfl; have q34 := D7.kt q27 rfl; have q35 := D7.kt q28 rfl; have q36 := D7.kt q29 rfl; have q37 := D7.kt q30 rfl; have q38 := D7.kt q31 rfl; have o4 := Own.k0 o3 D7.stp; have q39 := D7.dn 2 rfl rfl; clear D7; refine tn ?_; refine wp_seq ?_
    refine reg2 (a := a9) (σ := s7) rfl 2 (fun i_ => List.getD [(Ty.pr (Ty.int n)), (Ty.pr (Ty.val (Value.string (ts.getD i ByteArray.empty))))] i_ Pr.any) ok8 rfl (by decide) rfl ⟨?_, ?_, trivial⟩ ?_
    · intro A B E G H; exact rP (y_move (kp (H 0 rfl) E q35))
    · intro A B E G H; exact rP (y_move (kp (H 10 rfl) E q39))
    intro a10 s8 D8; have ok9 := D8.ok; have F9 := F8.step0 D8.stp; have q40 := D8.kt q33 rfl; have q41 := D8.kt q34 rfl; have q42 := D8.kt q35 rfl; have q43 := D8.kt q36 rfl; have q44 := D8.kt q37 rfl; have q45 := D8.kt q38 rfl; have o5 := Own.k0 o4 D8.stp; have q46 := D8.dn 0 (by decide) rfl rfl; have q47 := D8.dn 1 (by decide) rfl rfl; clear D8
    refine tailL (L := []) (R := (fun v τ' => ∃ τ, (fun v τ => ∃ (fr : List Int), ∃ (bk : List Int), ∃ (st : Bool), (Ty.has (Ty.tup2 (Ty.agg [(Ty.lst Ty.int fr), (Ty.lst Ty.int bk), (Ty.bool st)]) (Ty.int (patMay n (runsL ((ts.getD i ByteArray.empty)))))) τ v) ∧ (patMay n (runsL ((ts.getD i ByteArray.empty))) = 0 → fr = List.map bellQ (frR (runsL ((ts.getD i ByteArray.empty)))) ∧ bk = List.map bellQ (bkR (runsL ((ts.getD i ByteArray.empty)))))) v τ ∧ Back [] τ τ')) rfl rfl (by decide) ok9 (y_callL (L := []) [] [] #[a10.eval (.tmp 34), a10.eval (.tmp 35)] rfl (by decide) Try.func68 rfl rfl (by simp only [List.map_toArray, List.map_cons, List.map_nil]) (mread_fn (n) ((ts.getD i ByteArray.empty)) _ (GW.low_lend _ (by decide)) _ _ (Ty.up _ (GW.le_lend _ _) q46) (Ty.up _ (GW.le_lend _ _) q47)  (by omega) (by omega))) (fun a11 s9 hs1 ok10 r1 sm1 => ?_)
    have F10 := F9.stepL hs1 (by decide); have q48 := kpL hs1 (by decide) (sm1 29 (by decide)) q40; have q49 := kpL hs1 (by decide) (sm1 8 (by decide)) q41; have q50 := kpL hs1 (by decide) (sm1 0 (by decide)) q42; have q51 := kpL hs1 (by decide) (sm1 2 (by decide)) q43; have q52 := kpL hs1 (by decide) (sm1 27 (by decide)) q44; have q53 := kpL hs1 (by decide) (sm1 28 (by decide)) q45; have o6 := Own.keepL o5 hs1 (by decide) (by decide)
    obtain ⟨t3, ⟨g1, g2, g3, hT1, hp1⟩, B1⟩ := r1
    have q54 : At (Ty.tup2 (Ty.agg [(Ty.lst Ty.int (g1)), (Ty.lst Ty.int (g2)), (Ty.bool (g3))]) (Ty.int (patMay n (runsL ((ts.getD i ByteArray.empty)))))) s9 a11 (.tmp 36) := Ty.up _ B1.le hT1
    refine tailL (L := []) (R := (fun v τ => Pr.has (Ty.pr (Ty.tup2 (Ty.agg [(Ty.lst Ty.int (g1)), (Ty.lst Ty.int (g2)), (Ty.bool (g3))]) (Ty.int (patMay n (runsL ((ts.getD i ByteArray.empty))))))) τ v)) rfl rfl (by decide) ok10 (Yld.toL (y_move q54)) (fun a12 s10 hs2 ok11 r2 sm2 => ?_)
    have F11 := F10.stepL hs2 (by decide); have q55 := kpL hs2 (by decide) (sm2 29 (by decide)) q48; have q56 := kpL hs2 (by decide) (sm2 8 (by decide)) q49; have q57 := kpL hs2 (by decide) (sm2 0 (by decide)) q50; have q58 := kpL hs2 (by decide) (sm2 2 (by decide)) q51; have q59 := kpL hs2 (by decide) (sm2 27 (by decide)) q52; have q60 := kpL hs2 (by decide) (sm2 28 (by decide)) q53; have o7 := Own.keepL o6 hs2 (by decide) (by decide)
    have q61 : At (Ty.tup2 (Ty.agg [(Ty.lst Ty.int (g1)), (Ty.lst Ty.int (g2)), (Ty.bool (g3))]) (Ty.int (patMay n (runsL ((ts.getD i ByteArray.empty)))))) s10 a12 (.tmp 33) := r2
    clear r2
    refine tailL (L := []) (R := (fun v τ => Pr.has (Ty.pr (Ty.agg [(Ty.lst Ty.int (g1)), (Ty.lst Ty.int (g2)), (Ty.bool (g3))])) τ v)) rfl rfl (by decide) ok11 (Yld.toL (y_ext2_0 q61)) (fun a13 s11 hs3 ok12 r3 sm3 => ?_)
    have F12 := F11.stepL hs3 (by decide); have q62 := kpL hs3 (by decide) (sm3 29 (by decide)) q55; have q63 := kpL hs3 (by decide) (sm3 8 (by decide)) q56; have q64 := kpL hs3 (by decide) (sm3 0 (by decide)) q57; have q65 := kpL hs3 (by decide) (sm3 2 (by decide)) q58; have q66 := kpL hs3 (by decide) (sm3 27 (by decide)) q59; have q67 := kpL hs3 (by decide) (sm3 28 (by decide)) q60; have q68 := kpL hs3 (by decide) (sm3 33 (by decide)) q61; have o8 := Own.keepL o7 hs3 (by decide) (by decide)
    have q69 : At (Ty.agg [(Ty.lst Ty.int (g1)), (Ty.lst Ty.int (g2)), (Ty.bool (g3))]) s11 a13 (.tmp 37) := r3
    clear r3
    refine tailL (L := []) (R := (fun v τ => Pr.has (Ty.pr (Ty.int (patMay n (runsL ((ts.getD i ByteArray.empty)))))) τ v)) rfl rfl (by decide) ok12 (Yld.toL (y_ext2_1 q68)) (fun a14 s12 hs4 ok13 r4 sm4 => ?_)
    have F13 := F12.stepL hs4 (by decide); have q70 := kpL hs4 (by decide) (sm4 29 (by decide)) q62; have q71 := kpL hs4 (by decide) (sm4 8 (by decide)) q63; have q72 := kpL hs4 (by decide) (sm4 0 (by decide)) q64; have q73 := kpL hs4 (by decide) (sm4 2 (by decide)) q65; have q74 := kpL hs4 (by decide) (sm4 27 (by decide)) q66; have q75 := kpL hs4 (by decide) (sm4 28 (by decide)) q67; have q76 := kpL hs4 (by decide) (sm4 37 (by decide)) q69; have o9 := Own.keepL o8 hs4 (by decide) (by decide)
    have q77 : At (Ty.int (patMay n (runsL ((ts.getD i ByteArray.empty))))) s12 a14 (.tmp 38) := r4
    clear r4
    refine tailL (L := []) (R := (fun v τ => Pr.has (Pr.ownp 20 [(Ty.val (Value.slice none 0 0)), (Ty.val (Value.slice none 0 0)), (Ty.bool false)]) τ v)) rfl rfl (by decide) ok13 (Yld.toL (y_alloc Try.inf107 rfl (alloc_vals (vs := [.slice none 0 0, .slice none 0 0, .bool false]) rfl))) (fun a15 s13 hs5 ok14 r5 sm5 => ?_)
    have F14 := F13.stepL hs5 (by decide); have q78 := kpL hs5 (by decide) (sm5 29 (by decide)) q70; have q79 := kpL hs5 (by decide) (sm5 8 (by decide)) q71; have q80 := kpL hs5 (by decide) (sm5 0 (by decide)) q72; have q81 := kpL hs5 (by decide) (sm5 2 (by decide)) q73; have q82 := kpL hs5 (by decide) (sm5 27 (by decide)) q74; have q83 := kpL hs5 (by decide) (sm5 28 (by decide)) q75; have q84 := kpL hs5 (by decide) (sm5 37 (by decide)) q76; have q85 := kpL hs5 (by decide) (sm5 38 (by decide)) q77; have o11 := Own.keepL o9 hs5 (by decide) (by decide)
    obtain ⟨x1, hx1⟩ : ∃ x, a15.eval (.tmp 11) = x := ⟨_, rfl⟩
    have q86 : At (Ty.val x1) s13 a15 (.tmp 11) := hx1
    have o10 : OwnP s13 20 x1 [(Ty.val (Value.slice none 0 0)), (Ty.val (Value.slice none 0 0)), (Ty.bool false)] := al2 (R := (Pr.ownp 20 [(Ty.val (Value.slice none 0 0)), (Ty.val (Value.slice none 0 0)), (Ty.bool false)])) hx1 r5
    clear r5
    refine tailL0 (L := [20]) (R := (fun _ τ => OwnP τ 20 x1 [(Ty.lst Ty.int (g1)), (Ty.lst Ty.int (g2)), (Ty.bool (g3))])) rfl rfl (YldM.toL (m_storeagg Try.inf107 (by decide) o10 q86 rfl q84 (by intro U hU; simp only [List.mem_cons, List.not_mem_nil, or_false] at hU; rcases hU with rfl | rfl | rfl <;> first | exact one_val rfl | exact one_sl | exact one_ref))) (fun v1 s14 hs6 r6 => ?_)
    have F15 := F14.stepL hs6 (by decide); have q87 := kpL hs6 (by decide) rfl q78; have q88 := kpL hs6 (by decide) rfl q79; have q89 := kpL hs6 (by decide) rfl q80; have q90 := kpL hs6 (by decide) rfl q81; have q91 := kpL hs6 (by decide) rfl q82; have q92 := kpL hs6 (by decide) rfl q83; have q93 := kpL hs6 (by decide) rfl q85; have q94 := kpL hs6 (by decide) rfl q86; have o13 := Own.keepL o11 hs6 (by decide) (by decide)
    have o12 : OwnP s14 20 x1 [(Ty.lst Ty.int (g1)), (Ty.lst Ty.int (g2)), (Ty.bool (g3))] := r6
    clear r6
    refine tailL (L := []) (R := (fun v τ => Pr.has (Ty.pr (Ty.int (patMay n (runsL ((ts.getD i ByteArray.empty)))))) τ v)) rfl rfl (by decide) ok14 (Yld.toL (y_assign q93)) (fun a16 s15 hs7 ok15 r7 sm6 => ?_)
    have F16 := F15.stepL hs7 (by decide); have q96 := kpL hs7 (by decide) (sm6 29 (by decide)) q87; have q97 := kpL hs7 (by decide) (sm6 8 (by decide)) q88; have q98 := kpL hs7 (by decide) (sm6 0 (by decide)) q89; have q99 := kpL hs7 (by decide) (sm6 2 (by decide)) q90; have q100 := kpL hs7 (by decide) (sm6 27 (by decide)) q91; have q101 := kpL hs7 (by decide) (sm6 28 (by decide)) q92; have q102 := kpL hs7 (by decide) (sm6 11 (by decide)) q94; have o14 := Own.keepL o13 hs7 (by decide) (by decide); have o15 := OwnP.keepL o12 hs7 (by decide) (by decide)
    have q103 : At (Ty.int (patMay n (runsL ((ts.getD i ByteArray.empty))))) s15 a16 (.tmp 12) := r7
    clear r7; refine wpList_nil ?_; refine tn ?_; refine wp_seq ?_; refine wp_seq ?_
    refine rg a16 s15 [(Ty.int (patMay n (runsL ((ts.getD i ByteArray.empty))))), (Ty.bool (decide ((patMay n (runsL ((ts.getD i ByteArray.empty)))) ≠ (0 : Int))))] ok15 ⟨?_, ?_, trivial⟩ ?_
    · intro A B E G H; exact rP (y_move (kp (H 12 rfl) E q103))
    · intro A B E G H d0; exact rP (y_neq (ed d0 rfl rfl rfl) rfl)
    intro a17 s16 D9; have ok16 := D9.ok; have F17 := F16.step0 D9.stp; have q104 := D9.kt q96 rfl; have q105 := D9.kt q97 rfl; have q106 := D9.kt q98 rfl; have q107 := D9.kt q99 rfl; have q108 := D9.kt q100 rfl; have q109 := D9.kt q101 rfl; have q110 := D9.kt q102 rfl; have q111 := D9.kt q103 rfl; have o16 := Own.k0 o14 D9.stp; have o17 := OwnP.k0 o15 D9.stp; have q112 := D9.dn 1 rfl rfl; clear D9; refine tn ?_
    refine cond_p (p := ((patMay n (runsL ((ts.getD i ByteArray.empty)))) ≠ (0 : Int))) q112 (fun c3 => ?_) (fun c3 => ?_)
    ·
     have he := tex_stop ht c3; have hm : musMay n ts rows = patMay n (runsL (ts.getD i ByteArray.empty)) := (by rw [mus_tex hlim (by rw [he]; exact c3), he])
     refine wp_seq ?_
     refine rg a17 s16 [(Ty.int (patMay n (runsL ((ts.getD i ByteArray.empty))))), (Ty.val (Value.slice none 0 0)), (Ty.int (patMay n (runsL ((ts.getD i ByteArray.empty)))))] ok16 ⟨?_, ?_, ?_, trivial⟩ ?_
     · intro A B E G H d0; exact rP (y_move (kp (H 12 rfl) E q111))
     · intro A B E G H d0; exact rP (y_assign rfl)
     · intro A B E G H d0 d1 d2 d3; exact rP (y_assign (ed d0 rfl rfl rfl))
     intro a18 s17 D10; have ok17 := D10.ok; have F18 := F17.step0 D10.stp; have o18 := Own.k0 o16 D10.stp; have o19 := OwnP.k0 o17 D10.stp; have q113 := D10.dn 1 rfl rfl; have q114 := D10.dn 2 rfl rfl; clear D10; refine tn ?_; refine wp_ret ?_
     refine tr ?_
     refine br ?_
     refine tr ?_
     refine tr ?_
     refine br ?_
     refine tr ?_
     exact retL2 rfl ok17 F18 (hasT2 (nil_lst (by (rw [if_neg (by rw [hm]; exact c3)])) q113) (cvi (by (exact hm.symm)) q114))
    ·
     have hz := Classical.not_not.1 c3; obtain ⟨hg1, hg2⟩ := hp1 hz; have hl1 : List.length [(g1, g2, g3)] = 1 := rfl
     refine wp_skip ?_
     refine tn ?_
     refine reg2 (a := a17) (σ := s16) rfl 3 (fun i_ => List.getD [(Ty.pr (Ty.val x8_0)), (Ty.pr (Ty.agg [(Ty.lst Ty.int (g1)), (Ty.lst Ty.int (g2)), (Ty.bool (g3))])), (Ty.pr (Ty.lstc 3 patC [((g1), (g2), (g3))]))] i_ Pr.any) ok16 rfl (by decide) rfl ⟨?_, ?_, ?_, trivial⟩ ?_
     · intro A B E G H; exact rP (y_move (kp (H 8 rfl) E q105))
     · intro A B E G H; exact rP (ownp_loadagg Try.underlying107 Try.inf107 (OwnP.k0 o17 E) (kp (H 11 rfl) E q110))
     · intro A B E G H d0; exact rP (y_build1c (c := 3) Try.underlying105 Try.inf107 rfl (by decide) (by decide) rfl (ed d0 rfl rfl rfl))
     intro a19 s18 D11; have ok18 := D11.ok; have F19 := F17.step0 D11.stp; have q115 := D11.kt q104 rfl; have q116 := D11.kt q105 rfl; have q117 := D11.kt q106 rfl; have q118 := D11.kt q107 rfl; have q119 := D11.kt q108 rfl; have q120 := D11.kt q109 rfl; have o20 := Own.k0 o16 D11.stp; have o21 := OwnP.k0 o17 D11.stp
     have q121 : At (Ty.val x8_0) s18 a19 (.tmp 42) := D11.done 0 (by decide)
     have q122 := D11.dn 2 (by decide) rfl rfl
     have b3 := sl_le q122
     clear D11
     refine tailL (L := [6]) (R := (fun v τ => Own τ 6 107 3 v ((List.length ps) + (List.length [((g1), (g2), (g3))])) ((List.flatMap patC ps) ++ (List.flatMap patC [((g1), (g2), (g3))])))) rfl rfl (by decide) ok18 (YldM.toL (m_append Try.underlying105 Try.inf107 (by decide) rfl (by decide) (al (R := (Pr.own 6 107 3 (List.length ps) (List.flatMap patC ps))) q121 o20) q122 (one_flat patOne) (by omega) (by omega))) (fun a20 s19 hs8 ok19 r8 sm7 => ?_)
     have F20 := F19.stepL hs8 (by decide); have q123 := kpL hs8 (by decide) (sm7 29 (by decide)) q115; have q124 := kpL hs8 (by decide) (sm7 8 (by decide)) q116; have q125 := kpL hs8 (by decide) (sm7 0 (by decide)) q117; have q126 := kpL hs8 (by decide) (sm7 2 (by decide)) q118; have q127 := kpL hs8 (by decide) (sm7 27 (by decide)) q119; have q128 := kpL hs8 (by decide) (sm7 28 (by decide)) q120; have o23 := OwnP.keepL o21 hs8 (by decide) (by decide)
     obtain ⟨x2, hx2⟩ : ∃ x, a20.eval (.tmp 45) = x := ⟨_, rfl⟩
     have q129 : At (Ty.val x2) s19 a20 (.tmp 45) := hx2
     have o22 : Own s19 6 107 3 x2 (List.length (ps ++ [((g1), (g2), (g3))])) (List.flatMap patC (ps ++ [((g1), (g2), (g3))])) := al2 (R := (Pr.own 6 107 3 (List.length (ps ++ [((g1), (g2), (g3))])) (List.flatMap patC (ps ++ [((g1), (g2), (g3))])))) hx2 (cvo (by simp) (by first | (rw [List.map_append]; rfl) | simp) r8)
     clear r8
     refine tailL (L := []) (R := (fun v τ => Pr.has (Ty.pr (Ty.val x2)) τ v)) rfl rfl (by decide) ok19 (Yld.toL (y_assign q129)) (fun a21 s20 hs9 ok20 r9 sm8 => ?_)
     have F21 := F20.stepL hs9 (by decide); have q130 := kpL hs9 (by decide) (sm8 29 (by decide)) q123; have q131 := kpL hs9 (by decide) (sm8 0 (by decide)) q125; have q132 := kpL hs9 (by decide) (sm8 2 (by decide)) q126; have q133 := kpL hs9 (by decide) (sm8 27 (by decide)) q127; have q134 := kpL hs9 (by decide) (sm8 28 (by decide)) q128; have o24 := OwnP.keepL o23 hs9 (by decide) (by decide); have o25 := Own.keepL o22 hs9 (by decide) (by decide)
     have q135 : At (Ty.val x2) s20 a21 (.tmp 8) := r9
     clear r9; refine wpList_nil ?_; refine bn ?_; refine tn ?_
     refine rg a21 s20 [(Ty.nat (i + 1)), (Ty.nat (i + 1))] ok20 ⟨?_, ?_, trivial⟩ ?_
     · intro A B E G H; exact rP ((y_add (kp (H 29 rfl) E q130) rfl (w64 (by omega) (by omega))).mono (fun τ _ h => cvi (σ := τ) (by first | omega | exact (Int.natCast_mul _ _).symm) h))
     · intro A B E G H d0; exact rP (y_move (ed d0 rfl rfl rfl))
     intro a22 s21 D12; have ok21 := D12.ok; have F22 := F21.step0 D12.stp; have q136 := D12.kt q131 rfl; have q137 := D12.kt q132 rfl; have q138 := D12.kt q133 rfl; have q139 := D12.kt q134 rfl; have q140 := D12.kt q135 rfl; have o26 := Own.k0 o25 D12.stp; have q141 := D12.dn 1 rfl rfl; clear D12
     exact tn ⟨ts.length - ((i+1)), by omega, s21, (i+1), (ps ++ [(g1, g2, g3)]), x2, rfl, F22, ok21, (cvi (by (first | rfl | omega | (simp_all; done) | (simp_all; omega))) q141), q140, q136, q137, q138, q139, (cvo (by (simp)) (by (simp)) o26), by omega, tex_go ht c3, pats_snoc hps (by rw [hpl]; exact hg1) (by rw [hpl]; exact hg2), by rw [List.length_append, List.length_singleton, hpl], rfl⟩
   ·
    rw [List.drop_eq_nil_of_le (by omega)] at ht; have ht0 : texMay n ts = 0 := ht.symm; have hta := tex_all ht0; have hpt : ps.length = ts.length := (by omega)
    refine wp_exit ?_; refine tx ?_; refine tx ?_; refine bx ?_; refine tn ?_; refine wp_seq ?_
    obtain ⟨t4, e1, h1, q142⟩ := Own.seal o3 (by decide)
    rw [← e1]
    have F23 := F7.step h1 (by decide); have q143 := Ty.up (Ty.nat i) (h1.le (by decide)) q26
    have q144 : At (Ty.lstc 3 patC ps) t4 a8 (.tmp 8) := by have e : a8.eval (.tmp 8) = x8_0 := q27; show Ty.has _ _ _; rw [e]; exact q142
    have q145 := Ty.up (Ty.int n) (h1.le (by decide)) q28; have q146 := Ty.up (Ty.lst Ty.ints rows) (h1.le (by decide)) q29; have q147 := Ty.up (Ty.lst Ty.str ts) (h1.le (by decide)) q30; have q148 := Ty.up (Ty.nat (List.length ts)) (h1.le (by decide)) q31; have q149 := Ty.up (Ty.bool (decide (((i : Nat) : Int) < (((List.length ts) : Nat) : Int)))) (h1.le (by decide)) q32
    refine reg2 (a := a8) (σ := t4) rfl 3 (fun i_ => List.getD [(Ty.pr (Ty.lstc 3 patC ps)), (Ty.pr (Ty.nat (List.length ps))), (Pr.own 11 3 1 (List.length ps) (List.map Ty.int (List.replicate (List.length ps) 0)))] i_ Pr.any) ok7 rfl (by decide) rfl ⟨?_, ?_, ?_, trivial⟩ ?_
    · intro A B E G H; exact rP (y_move (kp (H 8 rfl) E q144))
    · intro A B E G H d0; exact rP (y_len Try.underlying105 (ed d0 rfl rfl rfl))
    · intro A B E G H d0 d1
      have e1 := ed d0 rfl rfl rfl
      exact rP ((y_make (k := 11) (T := Ty.int 0) (n := (List.length ps)) Try.underlying23 Try.inf3 rfl (fun _ => rfl) e1 e1 (by omega) (by omega)).mono (fun _ _ h => cvo (by simp) (by simp) h))
    intro a23 s22 D13; have ok22 := D13.ok; have F24 := F23.step0 D13.stp; have q150 := D13.kt q144 rfl; have q151 := D13.kt q145 rfl; have q152 := D13.kt q146 rfl
    obtain ⟨x3, hx3⟩ : ∃ x, a23.eval (.tmp 49) = x := ⟨_, rfl⟩
    have q153 : At (Ty.val x3) s22 a23 (.tmp 49) := hx3
    have o27 : Own s22 11 3 1 x3 (List.length ps) (List.map Ty.int (List.replicate (List.length ps) 0)) := al2 (R := (Pr.own 11 3 1 (List.length ps) (List.map Ty.int (List.replicate (List.length ps) 0)))) hx3 (D13.done 2 (by decide))
    clear D13
    refine tailL (L := []) (R := (fun v τ => Pr.has (Ty.pr (Ty.val x3)) τ v)) rfl rfl (by decide) ok22 (Yld.toL (y_assign q153)) (fun a24 s23 hs10 ok23 r10 sm9 => ?_)
    have F25 := F24.stepL hs10 (by decide); have q154 := kpL hs10 (by decide) (sm9 8 (by decide)) q150; have q155 := kpL hs10 (by decide) (sm9 0 (by decide)) q151; have q156 := kpL hs10 (by decide) (sm9 2 (by decide)) q152; have o28 := Own.keepL o27 hs10 (by decide) (by decide)
    have q157 : At (Ty.val x3) s23 a24 (.tmp 13) := r10
    clear r10; refine wpList_nil ?_; refine tn ?_; refine wp_seq ?_; refine wp_seq ?_
    refine rg a24 s23 [(Ty.lst Ty.ints rows), (Ty.nat (List.length rows)), (Ty.int (0 : Int))] ok23 ⟨?_, ?_, ?_, trivial⟩ ?_
    · intro A B E G H; exact rP (y_move (kp (H 2 rfl) E q156))
    · intro A B E G H d0; exact rP (y_len Try.underlying29 (ed d0 rfl rfl rfl))
    · intro A B E G H; exact rP (y_move rfl)
    intro a25 s24 D14; have ok24 := D14.ok; have F26 := F25.step0 D14.stp; have q158 := D14.kt q154 rfl; have q159 := D14.kt q155 rfl; have q160 := D14.kt q157 rfl; have o29 := Own.k0 o28 D14.stp; have q161 := D14.dn 0 rfl rfl; have q162 := D14.dn 1 rfl rfl; have q163 := D14.dn 2 rfl rfl; clear D14; refine tn ?_
    refine wp_block ?_
    refine loop (fun n3 a26 w3 => ∃ (t5 : GW) (j : Nat) (x13_1 : Value), t5.w = w3 ∧ FromL [] s0 t5 ∧ Ok 84 a26 ∧ At (Ty.nat j) t5 a26 (.tmp 52) ∧ At (Ty.val x13_1) t5 a26 (.tmp 13) ∧ At (Ty.lstc 3 patC ps) t5 a26 (.tmp 8) ∧ At (Ty.int n) t5 a26 (.tmp 0) ∧ At (Ty.lst Ty.ints rows) t5 a26 (.tmp 50) ∧ At (Ty.nat (List.length rows)) t5 a26 (.tmp 51) ∧ Own t5 11 3 1 x13_1 (List.length (musT ts rows j 0)) (List.map Ty.int (musT ts rows j 0)) ∧ (j ≤ rows.length) ∧ (rowsMay n (rows.drop j) = rowsMay n rows) ∧ n3 = rows.length - j) (rows.length - (0)) ?_ ?_
    ·
     exact ⟨s24, 0, x3, rfl, F26, ok24, (cvi (by (first | rfl | omega | (simp_all; done) | (simp_all; omega))) q163), q160, q158, q159, q161, q162, (cvo (by (rw [musT_zero]; simp [hpt])) (by (rw [musT_zero]; simp [hpt])) o29), by omega, rfl, rfl⟩
    ·
     rintro n4 a27 w4 ⟨t6, j, x13_1, rfl, F27, ok25, q164, q165, q166, q167, q168, q169, o30, hj, hr, rfl⟩
     refine wp_seq ?_
     refine reg (a := a27) (σ := t6) rfl (fun i_ => List.getD [(Ty.pr (Ty.bool (decide (((j : Nat) : Int) < (((List.length rows) : Nat) : Int)))))] i_ Pr.any) ok25 rfl ⟨?_, trivial⟩ ?_
     · intro A B E G H; exact rP (y_lss (kp (H 52 rfl) E q164) (kp (H 51 rfl) E q169))
     intro a28 s25 D15; have ok26 := D15.ok; have F28 := F27.step0 D15.stp; have q170 := D15.kt q164 rfl; have q171 := D15.kt q165 rfl; have q172 := D15.kt q166 rfl; have q173 := D15.kt q167 rfl; have q174 := D15.kt q168 rfl; have q175 := D15.kt q169 rfl; have o31 := Own.k0 o30 D15.stp; have q176 := D15.dn 0 rfl rfl; clear D15; refine tn ?_; refine wp_seq ?_
     refine cond_p (p := (((j : Nat) : Int) < (((List.length rows) : Nat) : Int))) q176 (fun c4 => ?_) (fun c4 => ?_)
     ·
      rw [drop_cons rows [] (show j < rows.length by omega)] at hr; have hjr : j < rows.length := (by omega)
      refine wp_skip ?_
      refine tn ?_; refine wp_seq ?_
      refine wp_block ?_
      refine wp_seq ?_
      refine rg a28 s25 [(Ty.ref [(Ty.lst Ty.int (rows.getD j []))]), (Ty.lst Ty.int (rows.getD j [])), (Ty.lst Ty.int (rows.getD j []))] ok26 ⟨?_, ?_, ?_, trivial⟩ ?_
      · intro A B E G H; exact rP (y_index1 Try.underlying29 Try.inf23 (kp (H 50 rfl) E q174) (kp (H 52 rfl) E q170) (by omega) (lst_get Ty.ints rows [] j (by omega)))
      · intro A B E G H d0; exact rP (y_load Try.underlying23 rfl (ed d0 rfl rfl rfl) rfl)
      · intro A B E G H d0 d1 d2; exact rP (y_assign (ed d0 rfl rfl rfl))
      intro a29 s26 D16; have ok27 := D16.ok; have F29 := F28.step0 D16.stp; have q177 := D16.kt q170 rfl; have q178 := D16.kt q171 rfl; have q179 := D16.kt q172 rfl; have q180 := D16.kt q173 rfl; have q181 := D16.kt q174 rfl; have q182 := D16.kt q175 rfl; have o32 := Own.k0 o31 D16.stp; have q183 := D16.dn 2 rfl rfl; clear D16; refine tn ?_; refine wp_seq ?_; refine wp_seq ?_
      refine rg a29 s26 [(Ty.lst Ty.int (rows.getD j [])), (Ty.int (rowMay ((rows.getD j [])))), (Ty.int (rowMay ((rows.getD j []))))] ok27 ⟨?_, ?_, ?_, trivial⟩ ?_
      · intro A B E G H; exact rP (y_move (kp (H 15 rfl) E q183))
      · intro A B E G H d0; exact rP (y_call #[A.eval (.tmp 56)] Try.func69 rfl rfl (by simp only [List.map_toArray, List.map_cons, List.map_nil]) (rowCheck_fn ((rows.getD j [])) _ _ (ed d0 rfl rfl rfl) ))
      · intro A B E G H d0 d1 d2 d3; exact rP (y_assign (ed d0 rfl rfl rfl))
      intro a30 s27 D17; have ok28 := D17.ok; have F30 := F29.step0 D17.stp; have q184 := D17.kt q177 rfl; have q185 := D17.kt q178 rfl; have q186 := D17.kt q179 rfl; have q187 := D17.kt q180 rfl; have q188 := D17.kt q181 rfl; have q189 := D17.kt q182 rfl; have q190 := D17.kt q183 rfl; have o33 := Own.k0 o32 D17.stp; have q191 := D17.dn 2 rfl rfl; clear D17; refine tn ?_; refine wp_seq ?_
      refine rg a30 s27 [(Ty.int (rowMay ((rows.getD j [])))), (Ty.bool (decide ((rowMay ((rows.getD j []))) ≠ (0 : Int))))] ok28 ⟨?_, ?_, trivial⟩ ?_
      · intro A B E G H; exact rP (y_move (kp (H 16 rfl) E q191))
      · intro A B E G H d0; exact rP (y_neq (ed d0 rfl rfl rfl) rfl)
      intro a31 s28 D18; have ok29 := D18.ok; have F31 := F30.step0 D18.stp; have q192 := D18.kt q184 rfl; have q193 := D18.kt q185 rfl; have q194 := D18.kt q186 rfl; have q195 := D18.kt q187 rfl; have q196 := D18.kt q188 rfl; have q197 := D18.kt q189 rfl; have q198 := D18.kt q190 rfl; have q199 := D18.kt q191 rfl; have o34 := Own.k0 o33 D18.stp; have q200 := D18.dn 1 rfl rfl; clear D18; refine tn ?_
      refine cond_p (p := ((rowMay ((rows.getD j []))) ≠ (0 : Int))) q200 (fun c5 => ?_) (fun c5 => ?_)
      ·
       have hm : musMay n ts rows = rowMay (rows.getD j []) := (by rw [mus_rows hlim ht0]; exact rows_stop hr c5)
       refine wp_seq ?_
       refine rg a31 s28 [(Ty.int (rowMay ((rows.getD j [])))), (Ty.val (Value.slice none 0 0)), (Ty.int (rowMay ((rows.getD j []))))] ok29 ⟨?_, ?_, ?_, trivial⟩ ?_
       · intro A B E G H d0; exact rP (y_move (kp (H 16 rfl) E q199))
       · intro A B E G H d0; exact rP (y_assign rfl)
       · intro A B E G H d0 d1 d2 d3; exact rP (y_assign (ed d0 rfl rfl rfl))
       intro a32 s29 D19; have ok30 := D19.ok; have F32 := F31.step0 D19.stp; have o35 := Own.k0 o34 D19.stp; have q201 := D19.dn 1 rfl rfl; have q202 := D19.dn 2 rfl rfl; clear D19; refine tn ?_; refine wp_ret ?_
       refine tr ?_
       refine br ?_
       refine tr ?_
       refine tr ?_
       refine br ?_
       refine tr ?_
       exact retL2 rfl ok30 F32 (hasT2 (nil_lst (by (rw [if_neg (by rw [hm]; exact c5)])) q201) (cvi (by (exact hm.symm)) q202))
      ·
       refine wp_skip ?_
       refine tn ?_; refine wp_seq ?_; refine wp_seq ?_
       refine rg a31 s28 [(Ty.lst Ty.int (rows.getD j [])), (Ty.nat (List.length (rows.getD j []))), (Ty.int n), (Ty.bool (decide ((((List.length (rows.getD j [])) : Nat) : Int) ≠ n)))] ok29 ⟨?_, ?_, ?_, ?_, trivial⟩ ?_
       · intro A B E G H; exact rP (y_move (kp (H 15 rfl) E q198))
       · intro A B E G H d0; exact rP (y_len Try.underlying23 (ed d0 rfl rfl rfl))
       · intro A B E G H; exact rP (y_move (kp (H 0 rfl) E q195))
       · intro A B E G H d0 d1; exact rP (y_neq (ed d0 rfl rfl rfl) (ed d1 rfl rfl rfl))
       intro a33 s30 D20; have ok31 := D20.ok; have F33 := F31.step0 D20.stp; have q203 := D20.kt q192 rfl; have q204 := D20.kt q193 rfl; have q205 := D20.kt q194 rfl; have q206 := D20.kt q195 rfl; have q207 := D20.kt q196 rfl; have q208 := D20.kt q197 rfl; have q209 := D20.kt q198 rfl; have o36 := Own.k0 o34 D20.stp; have q210 := D20.dn 3 rfl rfl; clear D20; refine tn ?_
       refine cond_p (p := ((((List.length (rows.getD j [])) : Nat) : Int) ≠ n)) q210 (fun c6 => ?_) (fun c6 => ?_)
       ·
        have hm : musMay n ts rows = 1 := (by rw [mus_rows hlim ht0]; exact rows_len hr c5 c6)
        refine wp_seq ?_
        refine rg a33 s30 [(Ty.val (Value.slice none 0 0)), (Ty.int (1 : Int))] ok31 ⟨?_, ?_, trivial⟩ ?_
        · intro A B E G H; exact rP (y_assign rfl)
        · intro A B E G H d0 d1; exact rP (y_assign rfl)
        intro a34 s31 D21; have ok32 := D21.ok; have F34 := F33.step0 D21.stp; have o37 := Own.k0 o36 D21.stp; have q211 := D21.dn 0 rfl rfl; have q212 := D21.dn 1 rfl rfl; clear D21; refine tn ?_; refine wp_ret ?_
        refine tr ?_
        refine br ?_
        refine tr ?_
        refine tr ?_
        refine br ?_
        refine tr ?_
        exact retL2 rfl ok32 F34 (hasT2 (nil_lst (by (rw [if_neg (by rw [hm]; decide)])) q211) (cvi (by (exact hm.symm)) q212))
       ·
        have hln := Classical.not_not.1 c6
        refine wp_skip ?_
        refine tn ?_; refine wp_seq ?_
        refine rg a33 s30 [(Ty.lstc 3 patC ps), (Ty.nat (List.length ps)), (Ty.int (0 : Int))] ok31 ⟨?_, ?_, ?_, trivial⟩ ?_
        · intro A B E G H; exact rP (y_move (kp (H 8 rfl) E q205))
        · intro A B E G H d0; exact rP (y_len Try.underlying105 (ed d0 rfl rfl rfl))
        · intro A B E G H; exact rP (y_move rfl)
        intro a35 s32 D22; have ok33 := D22.ok; have F35 := F33.step0 D22.stp; have q213 := D22.kt q203 rfl; have q214 := D22.kt q204 rfl; have q215 := D22.kt q205 rfl; have q216 := D22.kt q206 rfl; have q217 := D22.kt q207 rfl; have q218 := D22.kt q208 rfl; have q219 := D22.kt q209 rfl; have o38 := Own.k0 o36 D22.stp; have q220 := D22.dn 0 rfl rfl; have q221 := D22.dn 1 rfl rfl; have q222 := D22.dn 2 rfl rfl; clear D22; refine tn ?_
        refine wp_block ?_
        refine loop (fun n5 a36 w5 => ∃ (t7 : GW) (k : Nat) (x13_2 : Value), t7.w = w5 ∧ FromL [] s0 t7 ∧ Ok 84 a36 ∧ At (Ty.nat k) t7 a36 (.tmp 67) ∧ At (Ty.val x13_2) t7 a36 (.tmp 13) ∧ At (Ty.nat j) t7 a36 (.tmp 52) ∧ At (Ty.lstc 3 patC ps) t7 a36 (.tmp 8) ∧ At (Ty.int n) t7 a36 (.tmp 0) ∧ At (Ty.lst Ty.ints rows) t7 a36 (.tmp 50) ∧ At (Ty.nat (List.length rows)) t7 a36 (.tmp 51) ∧ At (Ty.lst Ty.int (rows.getD j [])) t7 a36 (.tmp 15) ∧ At (Ty.lstc 3 patC ps) t7 a36 (.tmp 65) ∧ At (Ty.nat (List.length ps)) t7 a36 (.tmp 66) ∧ Own t7 11 3 1 x13_2 (List.length (musT ts rows j k)) (List.map Ty.int (musT ts rows j k)) ∧ (k ≤ ps.length) ∧ n5 = ps.length - k) (ps.length - (0)) ?_ ?_
        ·
         exact ⟨s32, 0, x13_1, rfl, F35, ok33, (cvi (by (first | rfl | omega | (simp_all; done) | (simp_all; omega))) q222), q214, q213, q215, q216, q217, q218, q219, q220, q221, (cvo (by (simp)) (by (simp)) o38), by omega, rfl⟩
        ·
         rintro n6 a37 w6 ⟨t8, k, x13_2, rfl, F36, ok34, q223, q224, q225, q226, q227, q228, q229, q230, q231, q232, o39, hk, rfl⟩
         have hml := musT_len ts rows j k
         refine wp_seq ?_
         refine reg (a := a37) (σ := t8) rfl (fun i_ => List.getD [(Ty.pr (Ty.bool (decide (((k : Nat) : Int) < (((List.length ps) : Nat) : Int)))))] i_ Pr.any) ok34 rfl ⟨?_, trivial⟩ ?_
         · intro A B E G H; exact rP (y_lss (kp (H 67 rfl) E q223) (kp (H 66 rfl) E q232))
         intro a38 s33 D23; have ok35 := D23.ok; have F37 := F36.step0 D23.stp; have q233 := D23.kt q223 rfl; have q234 := D23.kt q224 rfl; have q235 := D23.kt q225 rfl; have q236 := D23.kt q226 rfl; have q237 := D23.kt q227 rfl; have q238 := D23.kt q228 rfl; have q239 := D23.kt q229 rfl; have q240 := D23.kt q230 rfl; have q241 := D23.kt q231 rfl; have q242 := D23.kt q232 rfl; have o40 := Own.k0 o39 D23.stp; have q243 := D23.dn 0 rfl rfl; clear D23; refine tn ?_; refine wp_seq ?_
         refine cond_p (p := (((k : Nat) : Int) < (((List.length ps) : Nat) : Int))) q243 (fun c7 => ?_) (fun c7 => ?_)
         ·
          have hkt : k < ts.length := (by omega); have hmg := musT_get (ts := ts) (rows := rows) (j := j) (i := k) (k := k) hkt; have hmc := cntL_le (ts.getD k ByteArray.empty) (rows.take (if k < k then j + 1 else j)); have hrl : (rows.take (if k < k then j + 1 else j)).length ≤ rows.length := (by rw [List.length_take]; exact Nat.min_le_right _ _); have htp := hta _ (mem_getD ByteArray.empty hkt); have hlw := like_wants htp hln; obtain ⟨hk1, hk2⟩ := hps k (by omega); have hw1 : (ps.getD k ([], [], false)).1.length ≤ (rows.getD j []).length := (by rw [hk1, List.length_map]; exact hlw.1); have hw2 : (ps.getD k ([], [], false)).2.1.length ≤ (rows.getD j []).length := (by rw [hk2, List.length_map]; exact hlw.2)
          refine wp_skip ?_
          refine tn ?_; refine wp_seq ?_
          refine wp_block ?_
          refine wp_seq ?_
          refine reg2 (a := a38) (σ := s33) rfl 5 (fun i_ => List.getD [(Ty.pr (Ty.nat k)), (Ty.pr (Ty.ref [(Ty.lst Ty.int ((ps.getD k ([], [], false))).1), (Ty.lst Ty.int ((ps.getD k ([], [], false))).2.1), (Ty.bool ((ps.getD k ([], [], false))).2.2)])), (Ty.pr (Ty.agg [(Ty.lst Ty.int ((ps.getD k ([], [], false))).1), (Ty.lst Ty.int ((ps.getD k ([], [], false))).2.1), (Ty.bool ((ps.getD k ([], [], false))).2.2)])), (Pr.ownp 21 [(Ty.val (Value.slice none 0 0)), (Ty.val (Value.slice none 0 0)), (Ty.bool false)]), (Ty.pr (Ty.nat k))] i_ Pr.any) ok35 rfl (by decide) rfl ⟨?_, ?_, ?_, ?_, ?_, trivial⟩ ?_
          · intro A B E G H; exact rP (y_move (kp (H 67 rfl) E q233))
          · intro A B E G H; exact rP (y_indexc (i := ((k : Nat) : Int)) ([], [], false) Try.underlying105 Try.inf107 (kp (H 65 rfl) E q241) (kp (H 67 rfl) E q233) (by omega) (by omega) (by decide) (fun _ => rfl))
          · intro A B E G H d0; exact rP (y_loadagg Try.underlying107 Try.inf107 (ed d0 rfl rfl rfl))
          · intro A B E G H; exact rP (y_alloc Try.inf107 rfl (alloc_vals (vs := [.slice none 0 0, .slice none 0 0, .bool false]) rfl))
          · intro A B E G H d0 d1 d2 d3 d4; exact rP (y_assign (ed d0 rfl rfl rfl))
          intro a39 s34 D24; have ok36 := D24.ok; have F38 := F37.step0 D24.stp; have q244 := D24.kt q233 rfl; have q245 := D24.kt q234 rfl; have q246 := D24.kt q235 rfl; have q247 := D24.kt q236 rfl; have q248 := D24.kt q237 rfl; have q249 := D24.kt q238 rfl; have q250 := D24.kt q239 rfl; have q251 := D24.kt q240 rfl; have q252 := D24.kt q241 rfl; have q253 := D24.kt q242 rfl; have o41 := Own.k0 o40 D24.stp; have q254 := D24.dn 2 (by decide) rfl rfl
          obtain ⟨x4, hx4⟩ : ∃ x, a39.eval (.tmp 18) = x := ⟨_, rfl⟩
          have q255 : At (Ty.val x4) s34 a39 (.tmp 18) := hx4
          have o42 : OwnP s34 21 x4 [(Ty.val (Value.slice none 0 0)), (Ty.val (Value.slice none 0 0)), (Ty.bool false)] := al2 (R := (Pr.ownp 21 [(Ty.val (Value.slice none 0 0)), (Ty.val (Value.slice none 0 0)), (Ty.bool false)])) hx4 (D24.done 3 (by decide))
          have q256 := D24.dn 4 (by decide) rfl rfl; clear D24
          refine tailL0 (L := [21]) (R := (fun _ τ => OwnP τ 21 x4 [(Ty.lst Ty.int ((ps.getD k ([], [], false))).1), (Ty.lst Ty.int ((ps.getD k ([], [], false))).2.1), (Ty.bool ((ps.getD k ([], [], false))).2.2)])) rfl rfl (YldM.toL (m_storeagg Try.inf107 (by decide) o42 q255 rfl q254 (by intro U hU; simp only [List.mem_cons, List.not_mem_nil, or_false] at hU; rcases hU with rfl | rfl | rfl <;> first | exact one_val rfl | exact one_sl | exact one_ref))) (fun v2 s35 hs11 r11 => ?_)
          have F39 := F38.stepL hs11 (by decide); have q257 := kpL hs11 (by decide) rfl q244; have q258 := kpL hs11 (by decide) rfl q245; have q259 := kpL hs11 (by decide) rfl q246; have q260 := kpL hs11 (by decide) rfl q247; have q261 := kpL hs11 (by decide) rfl q248; have q262 := kpL hs11 (by decide) rfl q249; have q263 := kpL hs11 (by decide) rfl q250; have q264 := kpL hs11 (by decide) rfl q251; have q265 := kpL hs11 (by decide) rfl q252; have q266 := kpL hs11 (by decide) rfl q253; have q267 := kpL hs11 (by decide) rfl q255; have q268 := kpL hs11 (by decide) rfl q256; have o44 := Own.keepL o41 hs11 (by decide) (by decide)
          have o43 : OwnP s35 21 x4 [(Ty.lst Ty.int ((ps.getD k ([], [], false))).1), (Ty.lst Ty.int ((ps.getD k ([], [], false))).2.1), (Ty.bool ((ps.getD k ([], [], false))).2.2)] := r11
          clear r11; refine wpList_nil ?_; refine tn ?_; refine wp_seq ?_
          refine rg a39 s35 [(Ty.agg [(Ty.lst Ty.int ((ps.getD k ([], [], false))).1), (Ty.lst Ty.int ((ps.getD k ([], [], false))).2.1), (Ty.bool ((ps.getD k ([], [], false))).2.2)]), (Ty.lst Ty.int (rows.getD j [])), (Ty.bool (likeB (((ps.getD k ([], [], false))).1) (((ps.getD k ([], [], false))).2.1) ((rows.getD j []))))] ok36 ⟨?_, ?_, ?_, trivial⟩ ?_
          · intro A B E G H; exact rP (ownp_loadagg Try.underlying107 Try.inf107 (OwnP.k0 o43 E) (kp (H 18 rfl) E q267))
          · intro A B E G H; exact rP (y_move (kp (H 15 rfl) E q264))
          · intro A B E G H d0 d1; exact rP (y_call #[A.eval (.tmp 72), A.eval (.tmp 73)] Try.func70 rfl rfl (by simp only [List.map_toArray, List.map_cons, List.map_nil]) (fits_fn (((ps.getD k ([], [], false))).1) (((ps.getD k ([], [], false))).2.1) (((ps.getD k ([], [], false))).2.2) ((rows.getD j [])) _ _ _ (ed d0 rfl rfl rfl) (ed d1 rfl rfl rfl) (by omega) (by omega)))
          intro a40 s36 D25; have ok37 := D25.ok; have F40 := F39.step0 D25.stp; have q270 := D25.kt q257 rfl; have q271 := D25.kt q258 rfl; have q272 := D25.kt q259 rfl; have q273 := D25.kt q260 rfl; have q274 := D25.kt q261 rfl; have q275 := D25.kt q262 rfl; have q276 := D25.kt q263 rfl; have q277 := D25.kt q264 rfl; have q278 := D25.kt q265 rfl; have q279 := D25.kt q266 rfl; have q280 := D25.kt q268 rfl; have o45 := Own.k0 o44 D25.stp; have o46 := OwnP.k0 o43 D25.stp; have q281 := D25.dn 2 rfl rfl; clear D25; refine tn ?_
          refine cond_t q281 (fun c8 => ?_) (fun c8 => ?_)
          ·
           have hlt : likeT (ts.getD k ByteArray.empty) (rows.getD j []) = true := (by unfold likeT; rw [← hk1, ← hk2]; exact c8)
           refine reg2 (a := a40) (σ := s36) rfl 6 (fun i_ => List.getD [(Ty.pr (Ty.val x13_2)), (Ty.pr (Ty.nat k)), (Ty.pr (Ty.val (cellPtr x13_2 k))), (Ty.pr (Ty.int ((musT ts rows j k).getD k 0))), (Ty.pr (Ty.int (((musT ts rows j k).getD k 0) + (1 : Int)))), (Ty.pr (Ty.val (cellPtr x13_2 k)))] i_ Pr.any) ok37 rfl (by decide) rfl ⟨?_, ?_, ?_, ?_, ?_, ?_, trivial⟩ ?_
           · intro A B E G H; exact rP (y_move (kp (H 13 rfl) E q271))
           · intro A B E G H; exact rP (y_move (kp (H 17 rfl) E q280))
           · intro A B E G H d0 d1; exact rP (own_index1 (i := ((k : Nat) : Int)) Try.underlying23 Try.inf3 (Own.k0 o45 E) (ed d0 rfl rfl rfl) (ed d1 rfl rfl rfl) (by omega) (by omega))
           · intro A B E G H d0; exact rP (own_load Try.underlying3 rfl (Own.k0 o45 E) (ed d0 rfl rfl rfl) (lst_get Ty.int (musT ts rows j k) 0 k (by omega)))
           · intro A B E G H d0; exact rP (y_add (ed d0 rfl rfl rfl) rfl (w64 (by omega) (by omega)))
           · intro A B E G H d0 d1 d2 d3 d4 d5 d6; exact rP (own_index1 (i := ((k : Nat) : Int)) Try.underlying23 Try.inf3 (Own.k0 o45 E) (ed d0 rfl rfl rfl) (ed d1 rfl rfl rfl) (by omega) (by omega))
           intro a41 s37 D26; have ok38 := D26.ok; have F41 := F40.step0 D26.stp; have q282 := D26.kt q270 rfl; have q283 := D26.kt q271 rfl; have q284 := D26.kt q272 rfl; have q285 := D26.kt q273 rfl; have q286 := D26.kt q274 rfl; have q287 := D26.kt q275 rfl; have q288 := D26.kt q276 rfl; have q289 := D26.kt q277 rfl; have q290 := D26.kt q278 rfl; have q291 := D26.kt q279 rfl; have o47 := Own.k0 o45 D26.stp; have q292 := D26.dn 4 (by decide) rfl rfl; have q293 := D26.dn 5 (by decide) rfl rfl; clear D26
           refine tailL0 (L := [11]) (R := (fun _ τ => Own τ 11 3 1 x13_2 (List.length (musT ts rows j k)) ((List.map Ty.int (musT ts rows j k)).set k (Ty.int (((musT ts rows j k).getD k 0) + (1 : Int)))))) rfl rfl (YldM.toL (m_store Try.inf3 (by decide) o47 q293 (by simp only [List.length_map, List.length_set]; omega) q292 (one_val rfl))) (fun v3 s38 hs12 r12 => ?_)
           have F42 := F41.stepL hs12 (by decide); have q294 := kpL hs12 (by decide) rfl q282; have q295 := kpL hs12 (by decide) rfl q283; have q296 := kpL hs12 (by decide) rfl q284; have q297 := kpL hs12 (by decide) rfl q285; have q298 := kpL hs12 (by decide) rfl q286; have q299 := kpL hs12 (by decide) rfl q287; have q300 := kpL hs12 (by decide) rfl q288; have q301 := kpL hs12 (by decide) rfl q289; have q302 := kpL hs12 (by decide) rfl q290; have q303 := kpL hs12 (by decide) rfl q291
           have o48 : Own s38 11 3 1 x13_2 (List.length ((musT ts rows j k).set k (((musT ts rows j k).getD k 0) + (1 : Int)))) (List.map Ty.int ((musT ts rows j k).set k (((musT ts rows j k).getD k 0) + (1 : Int)))) := (cvo (by simp) (by simp) r12)
           clear r12; refine wpList_nil ?_; refine bn ?_; refine tn ?_
           refine rg a41 s38 [(Ty.nat (k + 1)), (Ty.nat (k + 1))] ok38 ⟨?_, ?_, trivial⟩ ?_
           · intro A B E G H; exact rP ((y_add (kp (H 67 rfl) E q294) rfl (w64 (by omega) (by omega))).mono (fun τ _ h => cvi (σ := τ) (by first | omega | exact (Int.natCast_mul _ _).symm) h))
           · intro A B E G H d0; exact rP (y_move (ed d0 rfl rfl rfl))
           intro a42 s39 D27; have ok39 := D27.ok; have F43 := F42.step0 D27.stp; have q305 := D27.kt q295 rfl; have q306 := D27.kt q296 rfl; have q307 := D27.kt q297 rfl; have q308 := D27.kt q298 rfl; have q309 := D27.kt q299 rfl; have q310 := D27.kt q300 rfl; have q311 := D27.kt q301 rfl; have q312 := D27.kt q302 rfl; have q313 := D27.kt q303 rfl; have o49 := Own.k0 o48 D27.stp; have q314 := D27.dn 1 rfl rfl; clear D27
           exact tn ⟨ps.length - ((k+1)), by omega, s39, (k+1), x13_2, rfl, F43, ok39, (cvi (by (first | rfl | omega | (simp_all; done) | (simp_all; omega))) q314), q305, q306, q307, q308, q309, q310, q311, q312, q313, (cvo (by (first | rw [← musT_yes hkt hjr hlt] | (rw [← musT_yes hkt hjr hlt]; simp))) (by (first | rw [← musT_yes hkt hjr hlt] | (rw [← musT_yes hkt hjr hlt]; simp))) o49), by omega, rfl⟩
          ·
           have hlt : likeT (ts.getD k ByteArray.empty) (rows.getD j []) = false := (by unfold likeT; rw [← hk1, ← hk2]; exact c8)
           refine wp_skip ?_
           refine bn ?_; refine tn ?_
           refine rg a40 s36 [(Ty.nat (k + 1)), (Ty.nat (k + 1))] ok37 ⟨?_, ?_, trivial⟩ ?_
           · intro A B E G H; exact rP ((y_add (kp (H 67 rfl) E q270) rfl (w64 (by omega) (by omega))).mono (fun τ _ h => cvi (σ := τ) (by first | omega | exact (Int.natCast_mul _ _).symm) h))
           · intro A B E G H d0; exact rP (y_move (ed d0 rfl rfl rfl))
           intro a43 s40 D28; have ok40 := D28.ok; have F44 := F40.step0 D28.stp; have q315 := D28.kt q271 rfl; have q316 := D28.kt q272 rfl; have q317 := D28.kt q273 rfl; have q318 := D28.kt q274 rfl; have q319 := D28.kt q275 rfl; have q320 := D28.kt q276 rfl; have q321 := D28.kt q277 rfl; have q322 := D28.kt q278 rfl; have q323 := D28.kt q279 rfl; have o50 := Own.k0 o45 D28.stp; have q324 := D28.dn 1 rfl rfl; clear D28
           exact tn ⟨ps.length - ((k+1)), by omega, s40, (k+1), x13_2, rfl, F44, ok40, (cvi (by (first | rfl | omega | (simp_all; done) | (simp_all; omega))) q324), q315, q316, q317, q318, q319, q320, q321, q322, q323, (cvo (by (rw [← musT_no hkt hjr hlt])) (by (rw [← musT_no hkt hjr hlt])) o50), by omega, rfl⟩
         ·
          have hie : k = ts.length := (by omega)
          refine wp_exit ?_; refine tx ?_; refine tx ?_; refine bx ?_; refine bn ?_; refine tn ?_
          refine rg a38 s33 [(Ty.nat (j + 1)), (Ty.nat (j + 1))] ok35 ⟨?_, ?_, trivial⟩ ?_
          · intro A B E G H; exact rP ((y_add (kp (H 52 rfl) E q235) rfl (w64 (by omega) (by omega))).mono (fun τ _ h => cvi (σ := τ) (by first | omega | exact (Int.natCast_mul _ _).symm) h))
          · intro A B E G H d0; exact rP (y_move (ed d0 rfl rfl rfl))
          intro a44 s41 D29; have ok41 := D29.ok; have F45 := F37.step0 D29.stp; have q325 := D29.kt q234 rfl; have q326 := D29.kt q236 rfl; have q327 := D29.kt q237 rfl; have q328 := D29.kt q238 rfl; have q329 := D29.kt q239 rfl; have o51 := Own.k0 o40 D29.stp; have q330 := D29.dn 1 rfl rfl; clear D29
          exact tn ⟨rows.length - ((j+1)), by omega, s41, (j+1), x13_2, rfl, F45, ok41, (cvi (by (first | rfl | omega | (simp_all; done) | (simp_all; omega))) q330), q325, q326, q327, q328, q329, (cvo (by (rw [← musT_next, ← hie])) (by (rw [← musT_next, ← hie])) o51), by omega, rows_go hr c5 c6, rfl⟩
     ·
      rw [List.drop_eq_nil_of_le (by omega)] at hr; have hr0 : rowsMay n rows = 0 := hr.symm; have hm : musMay n ts rows = 0 := (by rw [mus_rows hlim ht0, hr0]); have hje : j = rows.length := (by omega)
      refine wp_exit ?_; refine tx ?_; refine tx ?_; refine bx ?_; refine tn ?_; refine wp_seq ?_
      refine rg a28 s25 [(Ty.val x13_1), (Ty.val x13_1), (Ty.int (0 : Int))] ok26 ⟨?_, ?_, ?_, trivial⟩ ?_
      · intro A B E G H; exact rP (y_move (kp (H 13 rfl) E q171))
      · intro A B E G H d0 d1; exact rP (y_assign (ed d0 rfl rfl rfl))
      · intro A B E G H d0 d1 d2; exact rP (y_assign rfl)
      intro a45 s42 D30; have ok42 := D30.ok; have F46 := F28.step0 D30.stp; have o52 := Own.k0 o31 D30.stp
      have q331 : At (Ty.val x13_1) s42 a45 (.tmp 6) := D30.done 1
      have q332 := D30.dn 2 rfl rfl; clear D30; refine tn ?_; refine wp_ret ?_
      obtain ⟨t9, e2, h2, q333⟩ := Own.seal o52 (by decide)
      rw [← e2]
      have F47 := F46.step h2 (by decide)
      have q334 : At (Ty.lst Ty.int (musT ts rows j 0)) t9 a45 (.tmp 6) := by have e : a45.eval (.tmp 6) = x13_1 := q331; show Ty.has _ _ _; rw [e]; exact q333
      have q335 := Ty.up (Ty.int (0 : Int)) (h2.le (by decide)) q332
      exact retL2 rfl ok42 F47 (hasT2 (cvt (by (rw [if_pos hm, hje, musT_all])) q334) (cvi (by (exact hm.symm)) q335))


set_option maxHeartbeats 4000000 in
set_option maxRecDepth 100000 in
theorem rowAll_fn (n : Nat) (σ : GW)  (v0 : Value) (hv0 : Ty.has (Ty.nat n) σ v0)  (hn : n ≤ 12) :
    FnC Try.prog 71 #[v0] σ (Ty.nat (fct n)) := by
 refine fn_intro0 Try.func71 rfl Try.ntmps71 (Nat.le_of_ble_eq_true rfl) (fun s0 a0 hle F0 ok0 hargs => ?_)
 have p0 : At (Ty.nat n) s0 a0 (.tmp 0) := by have e := hargs 0 _ rfl; show Ty.has _ _ _; rw [e]; exact Ty.up _ hle hv0
 clear hargs; refine wp_seq ?_
 refine rg a0 s0 [(Ty.int (0 : Int))] ok0 ⟨?_, trivial⟩ ?_
 · intro A B E G H; exact rP (y_assign rfl)
 intro a1 s1 D1; have ok1 := D1.ok; have F1 := F0.step0 D1.stp; have q1 := D1.kt p0 rfl; clear D1; refine tn ?_; refine wp_seq ?_
 refine rg a1 s1 [(Ty.int (1 : Int))] ok1 ⟨?_, trivial⟩ ?_
 · intro A B E G H; exact rP (y_assign rfl)
 intro a2 s2 D2; have ok2 := D2.ok; have F2 := F1.step0 D2.stp; have q2 := D2.kt q1 rfl; have q3 := D2.dn 0 rfl rfl; clear D2; refine tn ?_; refine wp_seq ?_; refine wp_seq ?_
 refine rg a2 s2 [(Ty.int (2 : Int))] ok2 ⟨?_, trivial⟩ ?_
 · intro A B E G H; exact rP (y_assign rfl)
 intro a3 s3 D3; have ok3 := D3.ok; have F3 := F2.step0 D3.stp; have q4 := D3.kt q2 rfl; have q5 := D3.kt q3 rfl; have q6 := D3.dn 0 rfl rfl; clear D3; refine tn ?_
 refine wp_block ?_
 refine loop (fun n1 a4 w1 => ∃ (t1 : GW) (j : Nat), t1.w = w1 ∧ FromL [] s0 t1 ∧ Ok 14 a4 ∧ At (Ty.nat (fct j)) t1 a4 (.tmp 3) ∧ At (Ty.nat (j + 1)) t1 a4 (.tmp 4) ∧ At (Ty.nat n) t1 a4 (.tmp 0) ∧ (1 ≤ j) ∧ (j ≤ n ∨ j = 1) ∧ n1 = n + 1 - j) (n + 1 - (1)) ?_ ?_
 ·
  exact ⟨s3, 1, rfl, F3, ok3, (cvi (by (rfl)) q5), (cvi (by (rfl)) q6), q4, by omega, by omega, rfl⟩
 ·
  rintro n2 a5 w2 ⟨t2, j, rfl, F4, ok4, q7, q8, q9, hj, hj2, rfl⟩
  refine wp_seq ?_; refine wp_seq ?_
  refine reg (a := a5) (σ := t2) rfl (fun i_ => List.getD [(Ty.pr (Ty.nat (j + 1))), (Ty.pr (Ty.nat n)), (Ty.pr (Ty.bool (decide ((((j + 1) : Nat) : Int) ≤ ((n : Nat) : Int)))))] i_ Pr.any) ok4 rfl ⟨?_, ?_, ?_, trivial⟩ ?_
  · intro A B E G H; exact rP (y_move (kp (H 4 rfl) E q8))
  · intro A B E G H; exact rP (y_move (kp (H 0 rfl) E q9))
  · intro A B E G H d0 d1; exact rP (y_leq (ed d0 rfl rfl rfl) (ed d1 rfl rfl rfl))
  intro a6 s4 D4; have ok5 := D4.ok; have F5 := F4.step0 D4.stp; have q10 := D4.kt q7 rfl; have q11 := D4.kt q8 rfl; have q12 := D4.kt q9 rfl; have q13 := D4.dn 2 rfl rfl; clear D4; refine tn ?_
  refine cond_p (p := ((((j + 1) : Nat) : Int) ≤ ((n : Nat) : Int))) q13 (fun c1 => ?_) (fun c1 => ?_)
  ·
   have hm : ((fct j : Nat) : Int) * ((j + 1 : Nat) : Int) ≤ 479001600 ∧ 0 ≤ ((fct j : Nat) : Int) * ((j + 1 : Nat) : Int) := (by have := fct_le12 (n := j + 1) (by omega); rw [fct, Nat.mul_comm] at this; rw [← Int.natCast_mul]; omega)
   refine wp_skip ?_
   refine tn ?_; refine wp_seq ?_
   refine wp_block ?_
   refine rg a6 s4 [(Ty.nat (fct j)), (Ty.nat (j + 1)), (Ty.nat ((fct j) * (j + 1))), (Ty.nat ((fct j) * (j + 1)))] ok5 ⟨?_, ?_, ?_, ?_, trivial⟩ ?_
   · intro A B E G H; exact rP (y_move (kp (H 3 rfl) E q10))
   · intro A B E G H; exact rP (y_move (kp (H 4 rfl) E q11))
   · intro A B E G H d0 d1; exact rP ((y_mul (ed d0 rfl rfl rfl) (ed d1 rfl rfl rfl) (w64 (by omega) (by omega))).mono (fun τ _ h => cvi (σ := τ) (by first | omega | exact (Int.natCast_mul _ _).symm) h))
   · intro A B E G H d0 d1 d2 d3; exact rP (y_assign (ed d0 rfl rfl rfl))
   intro a7 s5 D5; have ok6 := D5.ok; have F6 := F5.step0 D5.stp; have q14 := D5.kt q11 rfl; have q15 := D5.kt q12 rfl; have q16 := D5.dn 3 rfl rfl; clear D5; refine bn ?_; refine tn ?_
   refine rg a7 s5 [(Ty.nat (j + 1)), (Ty.nat ((j + 1) + 1)), (Ty.nat ((j + 1) + 1))] ok6 ⟨?_, ?_, ?_, trivial⟩ ?_
   · intro A B E G H; exact rP (y_move (kp (H 4 rfl) E q14))
   · intro A B E G H d0; exact rP ((y_add (ed d0 rfl rfl rfl) rfl (w64 (by omega) (by omega))).mono (fun τ _ h => cvi (σ := τ) (by first | omega | exact (Int.natCast_mul _ _).symm) h))
   · intro A B E G H d0 d1 d2; exact rP (y_assign (ed d0 rfl rfl rfl))
   intro a8 s6 D6; have ok7 := D6.ok; have F7 := F6.step0 D6.stp; have q17 := D6.kt q15 rfl; have q18 := D6.kt q16 rfl; have q19 := D6.dn 2 rfl rfl; clear D6
   exact tn ⟨n + 1 - ((j + 1)), by omega, s6, (j + 1), rfl, F7, ok7, (cvi (by (rw [fct, Nat.mul_comm])) q18), (cvi (by (omega)) q19), q17, by omega, by omega, rfl⟩
  ·
   refine wp_exit ?_; refine tx ?_; refine tx ?_; refine bx ?_; refine tn ?_; refine wp_seq ?_
   refine rg a6 s4 [(Ty.nat (fct j)), (Ty.nat (fct j))] ok5 ⟨?_, ?_, trivial⟩ ?_
   · intro A B E G H; exact rP (y_move (kp (H 3 rfl) E q10))
   · intro A B E G H d0 d1; exact rP (y_assign (ed d0 rfl rfl rfl))
   intro a9 s7 D7; have ok8 := D7.ok; have F8 := F5.step0 D7.stp; have q20 := D7.dn 1 rfl rfl; clear D7; refine tn ?_; refine wp_ret ?_
   exact retL1 rfl ok8 F8 (cvi (by (rw [fct_all hj hj2 (by omega)])) q20)

theorem Try.inf112 : Info Try.prog 112 (.agg (Array.replicate 2 (.slice none 0 0))) 2 48 := by unfold Info; kernel_rfl
set_option maxHeartbeats 4000000 in
set_option maxRecDepth 100000 in
theorem muall_fn (n : Int) (s : ByteArray) (σ : GW)  (v0 v1 : Value) (hv0 : Ty.has (Ty.int n) σ v0) (hv1 : Ty.has (Ty.val (Value.string s)) σ v1)  (hn64 : -9223372036854775808 ≤ n ∧ n ≤ 9223372036854775807) (E : s.size ≤ 17592186044416) :
    FnC Try.prog 37 #[v0, v1] σ (Ty.tup2 (Ty.nat (if patMay n (runsL s) = 0 then fct ((n).toNat - (fixL (List.map bellQ (frR (runsL s))) + fixL (List.map bellQ (bkR (runsL s))))) else 0)) (Ty.int (patMay n (runsL s)))) := by
 refine fn_intro0 Try.func37 rfl Try.ntmps37 (Nat.le_of_ble_eq_true rfl) (fun s0 a0 hle F0 ok0 hargs => ?_)
 have p0 : At (Ty.int n) s0 a0 (.tmp 0) := by have e := hargs 0 _ rfl; show Ty.has _ _ _; rw [e]; exact Ty.up _ hle hv0
 have p1 : At (Ty.val (Value.string s)) s0 a0 (.tmp 1) := by have e := hargs 1 _ rfl; show Ty.has _ _ _; rw [e]; exact Ty.up _ hle hv1
 clear hargs; refine wp_seq ?_
 refine rg a0 s0 [(Ty.int (0 : Int)), (Ty.int (0 : Int))] ok0 ⟨?_, ?_, trivial⟩ ?_
 · intro A B E G H; exact rP (y_assign rfl)
 · intro A B E G H d0; exact rP (y_assign rfl)
 intro a1 s1 D1; have ok1 := D1.ok; have F1 := F0.step0 D1.stp; have q1 := D1.kt p0 rfl; have q2 := D1.kt p1 rfl; clear D1; refine tn ?_; refine wp_seq ?_
 refine reg2 (a := a1) (σ := s1) rfl 2 (fun i_ => List.getD [(Ty.pr (Ty.int n)), (Ty.pr (Ty.val (Value.string s)))] i_ Pr.any) ok1 rfl (by decide) rfl ⟨?_, ?_, trivial⟩ ?_
 · intro A B E G H; exact rP (y_move (kp (H 0 rfl) E q1))
 · intro A B E G H; exact rP (y_move (kp (H 1 rfl) E q2))
 intro a2 s2 D2; have ok2 := D2.ok; have F2 := F1.step0 D2.stp; have q3 := D2.kt q1 rfl; have q4 := D2.dn 0 (by decide) rfl rfl; have q5 := D2.dn 1 (by decide) rfl rfl; clear D2
 refine tailL (L := []) (R := (fun v τ' => ∃ τ, (fun v τ => ∃ (fr : List Int), ∃ (bk : List Int), ∃ (st : Bool), (Ty.has (Ty.tup2 (Ty.agg [(Ty.lst Ty.int fr), (Ty.lst Ty.int bk), (Ty.bool st)]) (Ty.int (patMay n (runsL s)))) τ v) ∧ (patMay n (runsL s) = 0 → fr = List.map bellQ (frR (runsL s)) ∧ bk = List.map bellQ (bkR (runsL s)))) v τ ∧ Back [] τ τ')) rfl rfl (by decide) ok2 (y_callL (L := []) [] [] #[a2.eval (.tmp 14), a2.eval (.tmp 15)] rfl (by decide) Try.func68 rfl rfl (by simp only [List.map_toArray, List.map_cons, List.map_nil]) (mread_fn (n) (s) _ (GW.low_lend _ (by decide)) _ _ (Ty.up _ (GW.le_lend _ _) q4) (Ty.up _ (GW.le_lend _ _) q5)  (by omega) (by omega))) (fun a3 s3 hs1 ok3 r1 sm1 => ?_)
 have F3 := F2.stepL hs1 (by decide); have q6 := kpL hs1 (by decide) (sm1 0 (by decide)) q3
 obtain ⟨t1, ⟨g1, g2, g3, hT1, hp1⟩, B1⟩ := r1
 have q7 : At (Ty.tup2 (Ty.agg [(Ty.lst Ty.int (g1)), (Ty.lst Ty.int (g2)), (Ty.bool (g3))]) (Ty.int (patMay n (runsL s)))) s3 a3 (.tmp 16) := Ty.up _ B1.le hT1
 refine tailL (L := []) (R := (fun v τ => Pr.has (Ty.pr (Ty.tup2 (Ty.agg [(Ty.lst Ty.int (g1)), (Ty.lst Ty.int (g2)), (Ty.bool (g3))]) (Ty.int (patMay n (runsL s))))) τ v)) rfl rfl (by decide) ok3 (Yld.toL (y_move q7)) (fun a4 s4 hs2 ok4 r2 sm2 => ?_)
 have F4 := F3.stepL hs2 (by decide); have q8 := kpL hs2 (by decide) (sm2 0 (by decide)) q6
 have q9 : At (Ty.tup2 (Ty.agg [(Ty.lst Ty.int (g1)), (Ty.lst Ty.int (g2)), (Ty.bool (g3))]) (Ty.int (patMay n (runsL s)))) s4 a4 (.tmp 13) := r2
 clear r2
 refine tailL (L := []) (R := (fun v τ => Pr.has (Ty.pr (Ty.agg [(Ty.lst Ty.int (g1)), (Ty.lst Ty.int (g2)), (Ty.bool (g3))])) τ v)) rfl rfl (by decide) ok4 (Yld.toL (y_ext2_0 q9)) (fun a5 s5 hs3 ok5 r3 sm3 => ?_)
 have F5 := F4.stepL hs3 (by decide); have q10 := kpL hs3 (by decide) (sm3 0 (by decide)) q8; have q11 := kpL hs3 (by decide) (sm3 13 (by decide)) q9
 have q12 : At (Ty.agg [(Ty.lst Ty.int (g1)), (Ty.lst Ty.int (g2)), (Ty.bool (g3))]) s5 a5 (.tmp 17) := r3
 clear r3
 refine tailL (L := []) (R := (fun v τ => Pr.has (Ty.pr (Ty.int (patMay n (runsL s)))) τ v)) rfl rfl (by decide) ok5 (Yld.toL (y_ext2_1 q11)) (fun a6 s6 hs4 ok6 r4 sm4 => ?_)
 have F6 := F5.stepL hs4 (by decide); have q13 := kpL hs4 (by decide) (sm4 0 (by decide)) q10; have q14 := kpL hs4 (by decide) (sm4 17 (by decide)) q12
 have q15 : At (Ty.int (patMay n (runsL s))) s6 a6 (.tmp 18) := r4
 clear r4
 refine tailL (L := []) (R := (fun v τ => Pr.has (Pr.ownp 4 [(Ty.val (Value.slice none 0 0)), (Ty.val (Value.slice none 0 0)), (Ty.bool false)]) τ v)) rfl rfl (by decide) ok6 (Yld.toL (y_alloc Try.inf107 rfl (alloc_vals (vs := [.slice none 0 0, .slice none 0 0, .bool false]) rfl))) (fun a7 s7 hs5 ok7 r5 sm5 => ?_)
 have F7 := F6.stepL hs5 (by decide); have q16 := kpL hs5 (by decide) (sm5 0 (by decide)) q13; have q17 := kpL hs5 (by decide) (sm5 17 (by decide)) q14; have q18 := kpL hs5 (by decide) (sm5 18 (by decide)) q15
 obtain ⟨x1, hx1⟩ : ∃ x, a7.eval (.tmp 6) = x := ⟨_, rfl⟩
 have q19 : At (Ty.val x1) s7 a7 (.tmp 6) := hx1
 have o1 : OwnP s7 4 x1 [(Ty.val (Value.slice none 0 0)), (Ty.val (Value.slice none 0 0)), (Ty.bool false)] := al2 (R := (Pr.ownp 4 [(Ty.val (Value.slice none 0 0)), (Ty.val (Value.slice none 0 0)), (Ty.bool false)])) hx1 r5
 clear r5
 refine tailL0 (L := [4]) (R := (fun _ τ => OwnP τ 4 x1 [(Ty.lst Ty.int (g1)), (Ty.lst Ty.int (g2)), (Ty.bool (g3))])) rfl rfl (YldM.toL (m_storeagg Try.inf107 (by decide) o1 q19 rfl q17 (by intro U hU; simp only [List.mem_cons, List.not_mem_nil, or_false] at hU; rcases hU with rfl | rfl | rfl <;> first | exact one_val rfl | exact one_sl | exact one_ref))) (fun v1 s8 hs6 r6 => ?_)
 have F8 := F7.stepL hs6 (by decide); have q20 := kpL hs6 (by decide) rfl q16; have q21 := kpL hs6 (by decide) rfl q18; have q22 := kpL hs6 (by decide) rfl q19
 have o2 : OwnP s8 4 x1 [(Ty.lst Ty.int (g1)), (Ty.lst Ty.int (g2)), (Ty.bool (g3))] := r6
 clear r6
 refine tailL (L := []) (R := (fun v τ => Pr.has (Ty.pr (Ty.int (patMay n (runsL s)))) τ v)) rfl rfl (by decide) ok7 (Yld.toL (y_assign q21)) (fun a8 s9 hs7 ok8 r7 sm6 => ?_)
 have F9 := F8.stepL hs7 (by decide); have q24 := kpL hs7 (by decide) (sm6 0 (by decide)) q20; have q25 := kpL hs7 (by decide) (sm6 6 (by decide)) q22; have o3 := OwnP.keepL o2 hs7 (by decide) (by decide)
 have q26 : At (Ty.int (patMay n (runsL s))) s9 a8 (.tmp 7) := r7
 clear r7; refine wpList_nil ?_; refine tn ?_; refine wp_seq ?_; refine wp_seq ?_
 refine rg a8 s9 [(Ty.int (patMay n (runsL s))), (Ty.bool (decide ((patMay n (runsL s)) ≠ (0 : Int))))] ok8 ⟨?_, ?_, trivial⟩ ?_
 · intro A B E G H; exact rP (y_move (kp (H 7 rfl) E q26))
 · intro A B E G H d0; exact rP (y_neq (ed d0 rfl rfl rfl) rfl)
 intro a9 s10 D3; have ok9 := D3.ok; have F10 := F9.step0 D3.stp; have q27 := D3.kt q24 rfl; have q28 := D3.kt q25 rfl; have q29 := D3.kt q26 rfl; have o4 := OwnP.k0 o3 D3.stp; have q30 := D3.dn 1 rfl rfl; clear D3; refine tn ?_
 refine cond_p (p := ((patMay n (runsL s)) ≠ (0 : Int))) q30 (fun c1 => ?_) (fun c1 => ?_)
 ·
  refine wp_seq ?_
  refine rg a9 s10 [(Ty.int (patMay n (runsL s))), (Ty.int (0 : Int)), (Ty.int (patMay n (runsL s)))] ok9 ⟨?_, ?_, ?_, trivial⟩ ?_
  · intro A B E G H d0; exact rP (y_move (kp (H 7 rfl) E q29))
  · intro A B E G H d0; exact rP (y_assign rfl)
  · intro A B E G H d0 d1 d2 d3; exact rP (y_assign (ed d0 rfl rfl rfl))
  intro a10 s11 D4; have ok10 := D4.ok; have F11 := F10.step0 D4.stp; have o5 := OwnP.k0 o4 D4.stp; have q31 := D4.dn 1 rfl rfl; have q32 := D4.dn 2 rfl rfl; clear D4; refine tn ?_; refine wp_ret ?_
  refine tr ?_
  exact retL2 rfl ok10 F11 (hasT2 (cvi (by (rw [if_neg c1]; rfl)) q31) q32)
 ·
  have h0 := Classical.not_not.1 c1; obtain ⟨hg1, hg2⟩ := hp1 h0; have hpf := pat_facts h0; have hf1 : fixL g1 ≤ (frR (runsL s)).length := (by rw [hg1]; exact Nat.le_trans (fixL_le _) (by rw [List.length_map]; exact Nat.le_refl _)); have hf3 : fixL g2 ≤ (bkR (runsL s)).length := (by rw [hg2]; exact Nat.le_trans (fixL_le _) (by rw [List.length_map]; exact Nat.le_refl _))
  refine wp_skip ?_
  refine tn ?_; refine wp_seq ?_
  refine rg a9 s10 [(Ty.int n), (Ty.int n)] ok9 ⟨?_, ?_, trivial⟩ ?_
  · intro A B E G H; exact rP (y_move (kp (H 0 rfl) E q27))
  · intro A B E G H d0 d1; exact rP (y_assign (ed d0 rfl rfl rfl))
  intro a11 s12 D5; have ok11 := D5.ok; have F12 := F10.step0 D5.stp; have q33 := D5.kt q28 rfl; have o6 := OwnP.k0 o4 D5.stp; have q34 := D5.dn 1 rfl rfl; clear D5; refine tn ?_; refine wp_seq ?_; refine wp_seq ?_
  refine rg a11 s12 [(Ty.val (ptrAt x1 0)), (Ty.lst Ty.int (g1)), (Ty.val (ptrAt x1 1)), (Ty.lst Ty.int (g2)), (Ty.agg [(Ty.lst Ty.int (g1)), (Ty.lst Ty.int (g2))]), (Ty.int (0 : Int))] ok11 ⟨?_, ?_, ?_, ?_, ?_, ?_, trivial⟩ ?_
  · intro A B E G H; exact rP (ownp_field Try.fld107_0 Try.inf23 (by decide) (OwnP.k0 o6 E) (kp (H 6 rfl) E q33))
  · intro A B E G H d0; exact rP (ownp_load Try.underlying23 rfl (OwnP.k0 o6 E) (ed d0 rfl rfl rfl) rfl)
  · intro A B E G H; exact rP (ownp_field Try.fld107_1 Try.inf23 (by decide) (OwnP.k0 o6 E) (kp (H 6 rfl) E q33))
  · intro A B E G H d0; exact rP (ownp_load Try.underlying23 rfl (OwnP.k0 o6 E) (ed d0 rfl rfl rfl) rfl)
  · intro A B E G H d0 d1; exact rP (y_arr2 Try.underlying112 Try.inf23 Try.inf112 (by simp [Value.cells]) one_sl one_sl (ed d0 rfl rfl rfl) (ed d1 rfl rfl rfl))
  · intro A B E G H; exact rP (y_move rfl)
  intro a12 s13 D6; have ok12 := D6.ok; have F13 := F12.step0 D6.stp; have q35 := D6.kt q34 rfl; have o7 := OwnP.k0 o6 D6.stp; have q36 := D6.dn 4 rfl rfl; have q37 := D6.dn 5 rfl rfl; clear D6; refine tn ?_
  refine wp_block ?_
  refine loop (fun n1 a13 w1 => ∃ (t2 : GW) (k : Nat), t2.w = w1 ∧ FromL [] s0 t2 ∧ Ok 45 a13 ∧ At (Ty.nat k) t2 a13 (.tmp 28) ∧ At (Ty.int (n - ((fix2 g1 g2 k : Nat) : Int))) t2 a13 (.tmp 8) ∧ At (Ty.agg [(Ty.lst Ty.int (g1)), (Ty.lst Ty.int (g2))]) t2 a13 (.tmp 27) ∧ (k ≤ 2) ∧ n1 = 2 - k) (2 - (0)) ?_ ?_
  ·
   exact ⟨s13, 0, rfl, F13, ok12, (cvi (by (first | rfl | omega | (simp_all; done) | (simp_all; omega))) q37), (cvi (by (show n = n - ((0 : Nat) : Int); omega)) q35), q36, by omega, rfl⟩
  ·
   rintro n2 a14 w2 ⟨t3, k, rfl, F14, ok13, q38, q39, q40, hk, rfl⟩
   have hf2 := fix2_le (f := g1) (b := g2) (k := k)
   refine wp_seq ?_
   refine reg (a := a14) (σ := t3) rfl (fun i_ => List.getD [(Ty.pr (Ty.bool (decide (((k : Nat) : Int) < (2 : Int)))))] i_ Pr.any) ok13 rfl ⟨?_, trivial⟩ ?_
   · intro A B E G H; exact rP (y_lss (kp (H 28 rfl) E q38) rfl)
   intro a15 s14 D7; have ok14 := D7.ok; have F15 := F14.step0 D7.stp; have q41 := D7.kt q38 rfl; have q42 := D7.kt q39 rfl; have q43 := D7.kt q40 rfl; have q44 := D7.dn 0 rfl rfl; clear D7; refine tn ?_; refine wp_seq ?_
   refine cond_p (p := (((k : Nat) : Int) < (2 : Int))) q44 (fun c2 => ?_) (fun c2 => ?_)
   ·
    have e1_ : g1.length = (frR (runsL s)).length := (by rw [hg1, List.length_map]); have e2_ : g2.length = (bkR (runsL s)).length := (by rw [hg2, List.length_map]); have hlk : (List.getD [(g1), (g2)] k []).length ≤ 12 := (by rcases (show k = 0 ∨ k = 1 by omega) with h_ | h_ <;> rw [h_]; (show g1.length ≤ 12; omega); (show g2.length ≤ 12; omega))
    refine wp_skip ?_
    refine tn ?_; refine wp_seq ?_
    refine wp_block ?_
    refine wp_seq ?_
    refine rg a15 s14 [(Ty.lst Ty.int ([(g1), (g2)].getD k [])), (Ty.lst Ty.int ([(g1), (g2)].getD k []))] ok14 ⟨?_, ?_, trivial⟩ ?_
    · intro A B E G H; exact rP (y_arri (f := (Ty.lst Ty.int)) (xs := [(g1), (g2)]) (i := k) [] Try.underlying112 Try.underlying23 rfl Try.inf23 (kp (H 27 rfl) E q43) (kp (H 28 rfl) E q41) (by show k < 2; omega) rfl)
    · intro A B E G H d0 d1; exact rP (y_assign (ed d0 rfl rfl rfl))
    intro a16 s15 D8; have ok15 := D8.ok; have F16 := F15.step0 D8.stp; have q45 := D8.kt q41 rfl; have q46 := D8.kt q42 rfl; have q47 := D8.kt q43 rfl; have q48 := D8.dn 1 rfl rfl; clear D8; refine tn ?_; refine wp_seq ?_
    refine rg a16 s15 [(Ty.lst Ty.int ([(g1), (g2)].getD k [])), (Ty.nat (List.length ([(g1), (g2)].getD k []))), (Ty.int (0 : Int))] ok15 ⟨?_, ?_, ?_, trivial⟩ ?_
    · intro A B E G H; exact rP (y_move (kp (H 10 rfl) E q48))
    · intro A B E G H d0; exact rP (y_len Try.underlying23 (ed d0 rfl rfl rfl))
    · intro A B E G H; exact rP (y_move rfl)
    intro a17 s16 D9; have ok16 := D9.ok; have F17 := F16.step0 D9.stp; have q49 := D9.kt q45 rfl; have q50 := D9.kt q46 rfl; have q51 := D9.kt q47 rfl; have q52 := D9.dn 0 rfl rfl; have q53 := D9.dn 1 rfl rfl; have q54 := D9.dn 2 rfl rfl; clear D9; refine tn ?_
    refine wp_block ?_
    refine loop (fun n3 a18 w3 => ∃ (t4 : GW) (i : Nat), t4.w = w3 ∧ FromL [] s0 t4 ∧ Ok 45 a18 ∧ At (Ty.nat i) t4 a18 (.tmp 33) ∧ At (Ty.int ((n - ((fix2 g1 g2 k : Nat) : Int)) - ((fixL ((List.getD [(g1), (g2)] k []).take i) : Nat) : Int))) t4 a18 (.tmp 8) ∧ At (Ty.nat k) t4 a18 (.tmp 28) ∧ At (Ty.agg [(Ty.lst Ty.int (g1)), (Ty.lst Ty.int (g2))]) t4 a18 (.tmp 27) ∧ At (Ty.lst Ty.int ([(g1), (g2)].getD k [])) t4 a18 (.tmp 31) ∧ At (Ty.nat (List.length ([(g1), (g2)].getD k []))) t4 a18 (.tmp 32) ∧ (i ≤ (List.getD [(g1), (g2)] k []).length) ∧ n3 = (List.getD [(g1), (g2)] k []).length - i) ((List.getD [(g1), (g2)] k []).length - (0)) ?_ ?_
    ·
     exact ⟨s16, 0, rfl, F17, ok16, (cvi (by (first | rfl | omega | (simp_all; done) | (simp_all; omega))) q54), (cvi (by (show _ = _ - ((0 : Nat) : Int); omega)) q50), q49, q51, q52, q53, by omega, rfl⟩
    ·
     rintro n4 a19 w4 ⟨t5, i, rfl, F18, ok17, q55, q56, q57, q58, q59, q60, hi, rfl⟩
     have hfl := fixL_le ((List.getD [(g1), (g2)] k []).take i)
     have htl := List.length_take_le i (List.getD [(g1), (g2)] k [])
     refine wp_seq ?_
     refine reg (a := a19) (σ := t5) rfl (fun i_ => List.getD [(Ty.pr (Ty.bool (decide (((i : Nat) : Int) < (((List.length ([(g1), (g2)].getD k [])) : Nat) : Int)))))] i_ Pr.any) ok17 rfl ⟨?_, trivial⟩ ?_
     · intro A B E G H; exact rP (y_lss (kp (H 33 rfl) E q55) (kp (H 32 rfl) E q60))
     intro a20 s17 D10; have ok18 := D10.ok; have F19 := F18.step0 D10.stp; have q61 := D10.kt q55 rfl; have q62 := D10.kt q56 rfl; have q63 := D10.kt q57 rfl; have q64 := D10.kt q58 rfl; have q65 := D10.kt q59 rfl; have q66 := D10.kt q60 rfl; have q67 := D10.dn 0 rfl rfl; clear D10; refine tn ?_; refine wp_seq ?_
     refine cond_p (p := (((i : Nat) : Int) < (((List.length ([(g1), (g2)].getD k [])) : Nat) : Int))) q67 (fun c3 => ?_) (fun c3 => ?_)
     ·
      refine wp_skip ?_
      refine tn ?_; refine wp_seq ?_
      refine wp_block ?_
      refine wp_seq ?_
      refine rg a20 s17 [(Ty.ref [(Ty.int (([(g1), (g2)].getD k []).getD i 0))]), (Ty.int (([(g1), (g2)].getD k []).getD i 0)), (Ty.int (([(g1), (g2)].getD k []).getD i 0))] ok18 ⟨?_, ?_, ?_, trivial⟩ ?_
      · intro A B E G H; exact rP (y_index1 Try.underlying23 Try.inf3 (kp (H 31 rfl) E q65) (kp (H 33 rfl) E q61) (by omega) (lst_get Ty.int ([(g1), (g2)].getD k []) 0 i (by omega)))
      · intro A B E G H d0; exact rP (y_load Try.underlying3 rfl (ed d0 rfl rfl rfl) rfl)
      · intro A B E G H d0 d1 d2; exact rP (y_assign (ed d0 rfl rfl rfl))
      intro a21 s18 D11; have ok19 := D11.ok; have F20 := F19.step0 D11.stp; have q68 := D11.kt q61 rfl; have q69 := D11.kt q62 rfl; have q70 := D11.kt q63 rfl; have q71 := D11.kt q64 rfl; have q72 := D11.kt q65 rfl; have q73 := D11.kt q66 rfl; have q74 := D11.dn 2 rfl rfl; clear D11; refine tn ?_; refine wp_seq ?_
      refine rg a21 s18 [(Ty.int (([(g1), (g2)].getD k []).getD i 0)), (Ty.bool (decide ((0 : Int) ≤ (([(g1), (g2)].getD k []).getD i 0))))] ok19 ⟨?_, ?_, trivial⟩ ?_
      · intro A B E G H; exact rP (y_move (kp (H 12 rfl) E q74))
      · intro A B E G H d0; exact rP (y_geq (ed d0 rfl rfl rfl) rfl)
      intro a22 s19 D12; have ok20 := D12.ok; have F21 := F20.step0 D12.stp; have q75 := D12.kt q68 rfl; have q76 := D12.kt q69 rfl; have q77 := D12.kt q70 rfl; have q78 := D12.kt q71 rfl; have q79 := D12.kt q72 rfl; have q80 := D12.kt q73 rfl; have q81 := D12.dn 1 rfl rfl; clear D12; refine tn ?_
      refine cond_p (p := ((0 : Int) ≤ (([(g1), (g2)].getD k []).getD i 0))) q81 (fun c4 => ?_) (fun c4 => ?_)
      ·
       refine rg a22 s19 [(Ty.int ((n - ((fix2 g1 g2 k : Nat) : Int)) - ((fixL ((List.getD [(g1), (g2)] k []).take i) : Nat) : Int))), (Ty.int (((n - ((fix2 g1 g2 k : Nat) : Int)) - ((fixL ((List.getD [(g1), (g2)] k []).take i) : Nat) : Int)) - (1 : Int))), (Ty.int (((n - ((fix2 g1 g2 k : Nat) : Int)) - ((fixL ((List.getD [(g1), (g2)] k []).take i) : Nat) : Int)) - (1 : Int)))] ok20 ⟨?_, ?_, ?_, trivial⟩ ?_
       · intro A B E G H; exact rP (y_move (kp (H 8 rfl) E q76))
       · intro A B E G H d0; exact rP (y_sub (ed d0 rfl rfl rfl) rfl (w64 (by omega) (by omega)))
       · intro A B E G H d0 d1 d2; exact rP (y_assign (ed d0 rfl rfl rfl))
       intro a23 s20 D13; have ok21 := D13.ok; have F22 := F21.step0 D13.stp; have q82 := D13.kt q75 rfl; have q83 := D13.kt q77 rfl; have q84 := D13.kt q78 rfl; have q85 := D13.kt q79 rfl; have q86 := D13.kt q80 rfl; have q87 := D13.dn 2 rfl rfl; clear D13; refine bn ?_; refine tn ?_
       refine rg a23 s20 [(Ty.nat (i + 1)), (Ty.nat (i + 1))] ok21 ⟨?_, ?_, trivial⟩ ?_
       · intro A B E G H; exact rP ((y_add (kp (H 33 rfl) E q82) rfl (w64 (by omega) (by omega))).mono (fun τ _ h => cvi (σ := τ) (by first | omega | exact (Int.natCast_mul _ _).symm) h))
       · intro A B E G H d0; exact rP (y_move (ed d0 rfl rfl rfl))
       intro a24 s21 D14; have ok22 := D14.ok; have F23 := F22.step0 D14.stp; have q88 := D14.kt q83 rfl; have q89 := D14.kt q84 rfl; have q90 := D14.kt q85 rfl; have q91 := D14.kt q86 rfl; have q92 := D14.kt q87 rfl; have q93 := D14.dn 1 rfl rfl; clear D14
       exact tn ⟨(List.getD [(g1), (g2)] k []).length - ((i+1)), by omega, s21, (i+1), rfl, F23, ok22, (cvi (by (first | rfl | omega | (simp_all; done) | (simp_all; omega))) q93), (cvi (by (rw [fix_yes (by omega) c4]; omega)) q92), q88, q89, q90, q91, by omega, rfl⟩
      ·
       refine wp_skip ?_
       refine bn ?_; refine tn ?_
       refine rg a22 s19 [(Ty.nat (i + 1)), (Ty.nat (i + 1))] ok20 ⟨?_, ?_, trivial⟩ ?_
       · intro A B E G H; exact rP ((y_add (kp (H 33 rfl) E q75) rfl (w64 (by omega) (by omega))).mono (fun τ _ h => cvi (σ := τ) (by first | omega | exact (Int.natCast_mul _ _).symm) h))
       · intro A B E G H d0; exact rP (y_move (ed d0 rfl rfl rfl))
       intro a25 s22 D15; have ok23 := D15.ok; have F24 := F21.step0 D15.stp; have q94 := D15.kt q76 rfl; have q95 := D15.kt q77 rfl; have q96 := D15.kt q78 rfl; have q97 := D15.kt q79 rfl; have q98 := D15.kt q80 rfl; have q99 := D15.dn 1 rfl rfl; clear D15
       exact tn ⟨(List.getD [(g1), (g2)] k []).length - ((i+1)), by omega, s22, (i+1), rfl, F24, ok23, (cvi (by (first | rfl | omega | (simp_all; done) | (simp_all; omega))) q99), (cvi (by (rw [fix_no (by omega) c4])) q94), q95, q96, q97, q98, by omega, rfl⟩
     ·
      have hie : i = (List.getD [(g1), (g2)] k []).length := (by omega)
      refine wp_exit ?_; refine tx ?_; refine tx ?_; refine bx ?_; refine bn ?_; refine tn ?_
      refine rg a20 s17 [(Ty.nat (k + 1)), (Ty.nat (k + 1))] ok18 ⟨?_, ?_, trivial⟩ ?_
      · intro A B E G H; exact rP ((y_add (kp (H 28 rfl) E q63) rfl (w64 (by omega) (by omega))).mono (fun τ _ h => cvi (σ := τ) (by first | omega | exact (Int.natCast_mul _ _).symm) h))
      · intro A B E G H d0; exact rP (y_move (ed d0 rfl rfl rfl))
      intro a26 s23 D16; have ok24 := D16.ok; have F25 := F19.step0 D16.stp; have q100 := D16.kt q62 rfl; have q101 := D16.kt q64 rfl; have q102 := D16.dn 1 rfl rfl; clear D16
      exact tn ⟨2 - ((k+1)), by omega, s23, (k+1), rfl, F25, ok24, (cvi (by (first | rfl | omega | (simp_all; done) | (simp_all; omega))) q102), (cvi (by (rw [fix2_succ (by omega)]; rw [hie, List.take_length]; omega)) q100), q101, by omega, rfl⟩
   ·
    have hk2 : fix2 g1 g2 k = fixL g1 + fixL g2 := (by rw [show k = 2 by omega]; rfl)
    refine wp_exit ?_; refine tx ?_; refine tx ?_; refine bx ?_; refine tn ?_; refine wp_seq ?_
    refine rg a15 s14 [(Ty.int (n - ((fix2 g1 g2 k : Nat) : Int))), (Ty.nat (fct (((n - ((fix2 g1 g2 k : Nat) : Int))).toNat))), (Ty.nat (fct (((n - ((fix2 g1 g2 k : Nat) : Int))).toNat))), (Ty.int (0 : Int))] ok14 ⟨?_, ?_, ?_, ?_, trivial⟩ ?_
    · intro A B E G H; exact rP (y_move (kp (H 8 rfl) E q42))
    · intro A B E G H d0; exact rP (y_call #[A.eval (.tmp 43)] Try.func71 rfl rfl (by simp only [List.map_toArray, List.map_cons, List.map_nil]) (rowAll_fn (((n - ((fix2 g1 g2 k : Nat) : Int))).toNat) _ _ (cvi (σ := B) (by omega) (ed d0 rfl rfl rfl)) (by omega)))
    · intro A B E G H d0 d1 d2 d3; exact rP (y_assign (ed d0 rfl rfl rfl))
    · intro A B E G H d0 d1 d2 d3; exact rP (y_assign rfl)
    intro a27 s24 D17; have ok25 := D17.ok; have F26 := F15.step0 D17.stp; have q103 := D17.dn 2 rfl rfl; have q104 := D17.dn 3 rfl rfl; clear D17; refine tn ?_; refine wp_ret ?_
    exact retL2 rfl ok25 F26 (hasT2 (cvi (by (rw [if_pos h0, ← hg1, ← hg2, ← hk2, show (n - ((fix2 g1 g2 k : Nat) : Int)).toNat = (n).toNat - fix2 g1 g2 k by omega])) q103) (cvi (by (exact h0.symm)) q104))


end Go.Proofs.Ytbilebfnanlgfaa
