/- The functions that the law TruthMade reaches, each by its contract. Part 6. -/
import Derived.Test.YtbilebfnanlgfaaTruthMadeW5
namespace Go.Proofs.Ytbilebfnanlgfaa
open Go.KL

set_option maxHeartbeats 4000000 in
set_option maxRecDepth 100000 in
theorem heads_fn (nm : ByteArray) (n : Int) (l : List (List Int)) (cs : List BCall) (leads : List Int) (σ : GW)  (v0 v1 v2 : Value) (hv0 : Ty.has (Ty.agg [(Ty.val (Value.string nm)), (Ty.int n), (Ty.lst Ty.ints l)]) σ v0) (hv1 : Ty.has (Ty.lstc 2 callC cs) σ v1) (hv2 : Ty.has (Ty.lst Ty.int leads) σ v2)  (hnm : nm.size ≤ 1099511627776) (hn : -9223372036854775808 ≤ n ∧ n ≤ 9223372036854775807) :
    FnC Try.prog 23 #[v0, v1, v2] σ (Ty.tup2 (Ty.lst Ty.ints (if touchMay nm n l cs leads = 0 then (tHds n.toNat l cs leads leads.length) else [])) (Ty.int (touchMay nm n l cs leads))) := by
 refine fn_intro0 Try.func23 rfl Try.ntmps23 (Nat.le_of_ble_eq_true rfl) (fun s0 a0 hle F0 ok0 hargs => ?_)
 have p0 : At (Ty.agg [(Ty.val (Value.string nm)), (Ty.int n), (Ty.lst Ty.ints l)]) s0 a0 (.tmp 0) := by have e := hargs 0 _ rfl; show Ty.has _ _ _; rw [e]; exact Ty.up _ hle hv0
 have p1 : At (Ty.lstc 2 callC cs) s0 a0 (.tmp 1) := by have e := hargs 1 _ rfl; show Ty.has _ _ _; rw [e]; exact Ty.up _ hle hv1
 have b1 := sl_le p1
 have p2 : At (Ty.lst Ty.int leads) s0 a0 (.tmp 2) := by have e := hargs 2 _ rfl; show Ty.has _ _ _; rw [e]; exact Ty.up _ hle hv2
 have b2 := sl_le p2
 clear hargs; refine wp_seq ?_
 refine rg a0 s0 [(Ty.ref [(Ty.val (Value.string nm)), (Ty.int n), (Ty.lst Ty.ints l)]), (Ty.val (Value.slice none 0 0)), (Ty.int (0 : Int))] ok0 ⟨?_, ?_, ?_, trivial⟩ ?_
 · intro A B E G H; exact rP (y_boxagg (kp (H 0 rfl) E p0))
 · intro A B E G H; exact rP (y_assign rfl)
 · intro A B E G H d0; exact rP (y_assign rfl)
 intro a1 s1 D1; have ok1 := D1.ok; have F1 := F0.step0 D1.stp; have q1 := D1.kt p1 rfl; have q2 := D1.kt p2 rfl; have q3 := D1.dn 0 rfl rfl; clear D1; refine tn ?_; refine wp_seq ?_
 refine rg a1 s1 [(Ty.agg [(Ty.val (Value.string nm)), (Ty.int n), (Ty.lst Ty.ints l)]), (Ty.lstc 2 callC cs), (Ty.lst Ty.int leads), (Ty.tup2 (Ty.lst Ty.ints (if touchMay nm n l cs leads = 0 then (tRows n.toNat l cs leads leads.length) else [])) (Ty.int (touchMay nm n l cs leads))), (Ty.tup2 (Ty.lst Ty.ints (if touchMay nm n l cs leads = 0 then (tRows n.toNat l cs leads leads.length) else [])) (Ty.int (touchMay nm n l cs leads))), (Ty.lst Ty.ints (if touchMay nm n l cs leads = 0 then (tRows n.toNat l cs leads leads.length) else [])), (Ty.int (touchMay nm n l cs leads)), (Ty.lst Ty.ints (if touchMay nm n l cs leads = 0 then (tRows n.toNat l cs leads leads.length) else [])), (Ty.int (touchMay nm n l cs leads))] ok1 ⟨?_, ?_, ?_, ?_, ?_, ?_, ?_, ?_, ?_, trivial⟩ ?_
 · intro A B E G H; exact rP (y_loadagg Try.underlying31 Try.inf31 (kp (H 3 rfl) E q3))
 · intro A B E G H; exact rP (y_move (kp (H 1 rfl) E q1))
 · intro A B E G H; exact rP (y_move (kp (H 2 rfl) E q2))
 · intro A B E G H d0 d1 d2; exact rP (y_call #[A.eval (.tmp 13), A.eval (.tmp 14), A.eval (.tmp 15)] Try.func54 rfl rfl (by simp only [List.map_toArray, List.map_cons, List.map_nil]) (callRows_fn (nm) (n) (l) (cs) (leads) _ _ _ _ (ed d0 rfl rfl rfl) (ed d1 rfl rfl rfl) (ed d2 rfl rfl rfl) (by first | omega | assumption) (by first | omega | assumption)))
 · intro A B E G H d0; exact rP (y_move (ed d0 rfl rfl rfl))
 · intro A B E G H d0; exact rP (y_ext2_0 (ed d0 rfl rfl rfl))
 · intro A B E G H d0 d1; exact rP (y_ext2_1 (ed d0 rfl rfl rfl))
 · intro A B E G H d0 d1 d2 d3 d4 d5 d6 d7 d8; exact rP (y_assign (ed d0 rfl rfl rfl))
 · intro A B E G H d0 d1 d2 d3 d4 d5 d6 d7 d8 d9; exact rP (y_assign (ed d0 rfl rfl rfl))
 intro a2 s2 D2; have ok2 := D2.ok; have F2 := F1.step0 D2.stp; have q4 := D2.kt q2 rfl; have q5 := D2.kt q3 rfl; have q6 := D2.dn 7 rfl rfl; have q7 := D2.dn 8 rfl rfl; clear D2; refine tn ?_; refine wp_seq ?_; refine wp_seq ?_
 refine rg a2 s2 [(Ty.int (touchMay nm n l cs leads)), (Ty.bool (decide ((touchMay nm n l cs leads) ≠ (0 : Int))))] ok2 ⟨?_, ?_, trivial⟩ ?_
 · intro A B E G H; exact rP (y_move (kp (H 9 rfl) E q7))
 · intro A B E G H d0; exact rP (y_neq (ed d0 rfl rfl rfl) rfl)
 intro a3 s3 D3; have ok3 := D3.ok; have F3 := F2.step0 D3.stp; have q8 := D3.kt q4 rfl; have q9 := D3.kt q5 rfl; have q10 := D3.kt q6 rfl; have q11 := D3.kt q7 rfl; have q12 := D3.dn 1 rfl rfl; clear D3; refine tn ?_
 refine cond_p (p := ((touchMay nm n l cs leads) ≠ (0 : Int))) q12 (fun c1 => ?_) (fun c1 => ?_)
 ·
  refine wp_seq ?_
  refine rg a3 s3 [(Ty.int (touchMay nm n l cs leads)), (Ty.val (Value.slice none 0 0)), (Ty.int (touchMay nm n l cs leads))] ok3 ⟨?_, ?_, ?_, trivial⟩ ?_
  · intro A B E G H d0; exact rP (y_move (kp (H 9 rfl) E q11))
  · intro A B E G H d0; exact rP (y_assign rfl)
  · intro A B E G H d0 d1 d2 d3; exact rP (y_assign (ed d0 rfl rfl rfl))
  intro a4 s4 D4; have ok4 := D4.ok; have F4 := F3.step0 D4.stp; have q13 := D4.dn 1 rfl rfl; have q14 := D4.dn 2 rfl rfl; clear D4; refine tn ?_; refine wp_ret ?_; refine tr ?_
  exact retL2 rfl ok4 F4 (hasT2 (nil_lst (by (rw [if_neg c1])) q13) q14)
 ·
  have h0 := Classical.not_not.1 c1; obtain ⟨hok, hnn, hlo, hlh, hin, hlim⟩ := touchMay_ok h0; have hl1 := hok.meth.l1; have hl2 := hok.meth.l2; have hn1 := hok.meth.n1; have hn2 := hok.meth.n2; obtain ⟨R, hR⟩ : ∃ R, R = (tRows n.toNat l cs leads leads.length) := ⟨_, rfl⟩; have hRl : R.length = leads.length * l.length + 1 := (by rw [hR]; exact tRows_len hok hin _ (Nat.le_refl _))
  have q15 : At (Ty.lst Ty.ints R) s3 a3 (.tmp 8) := cvt (T := (Ty.lst Ty.ints (if touchMay nm n l cs leads = 0 then (tRows n.toNat l cs leads leads.length) else []))) (U := (Ty.lst Ty.ints R)) (by rw [if_pos h0, hR]) q10
  refine wp_skip ?_; refine tn ?_; refine wp_seq ?_
  refine rg a3 s3 [(Ty.val (Value.slice none 0 0))] ok3 ⟨?_, trivial⟩ ?_
  · intro A B E G H; exact rP (y_assign rfl)
  intro a5 s5 D5; have ok5 := D5.ok; have F5 := F3.step0 D5.stp; have q16 := D5.kt q8 rfl; have q17 := D5.kt q9 rfl; have q18 := D5.kt q15 rfl; have q19 := D5.dn 0 rfl rfl; clear D5; refine tn ?_; refine wp_seq ?_; refine wp_seq ?_
  refine rg a5 s5 [(Ty.lst Ty.int leads), (Ty.nat (List.length leads)), (Ty.int (0 : Int))] ok5 ⟨?_, ?_, ?_, trivial⟩ ?_
  · intro A B E G H; exact rP (y_move (kp (H 2 rfl) E q16))
  · intro A B E G H d0; exact rP (y_len Try.underlying23 (ed d0 rfl rfl rfl))
  · intro A B E G H; exact rP (y_move rfl)
  intro a6 s6 D6; have ok6 := D6.ok; have F6 := F5.step0 D6.stp; have q20 := D6.kt q17 rfl; have q21 := D6.kt q18 rfl; have q22 := D6.kt q19 rfl; have q23 := D6.dn 1 rfl rfl; have q24 := D6.dn 2 rfl rfl; clear D6; refine tn ?_; refine wp_block ?_
  have o1 : Own s6 5 23 1 (Value.slice none 0 0) 0 (List.map Ty.ints ([] : List (List Int))) := Own.nil _ _ _ _
  refine loop (fun n1 a7 w1 => ∃ (t1 : GW) (k : Nat) (x10_0 : Value), t1.w = w1 ∧ FromL [] s0 t1 ∧ Ok 40 a7 ∧ At (Ty.nat k) t1 a7 (.tmp 24) ∧ At (Ty.val x10_0) t1 a7 (.tmp 10) ∧ At (Ty.ref [(Ty.val (Value.string nm)), (Ty.int n), (Ty.lst Ty.ints l)]) t1 a7 (.tmp 3) ∧ At (Ty.lst Ty.ints R) t1 a7 (.tmp 8) ∧ At (Ty.nat (List.length leads)) t1 a7 (.tmp 23) ∧ Own t1 5 23 1 x10_0 (List.length (tHds n.toNat l cs leads k)) (List.map Ty.ints (tHds n.toNat l cs leads k)) ∧ (k ≤ leads.length) ∧ n1 = leads.length - k) (leads.length - (0)) ?_ ?_
  ·
   exact ⟨s6, 0, (Value.slice none 0 0), rfl, F6, ok6, (cvi (by (first | rfl | omega | (simp_all; done) | (simp_all; omega))) q24), q22, q20, q21, q23, (cvo (by (rfl)) (by (rfl)) o1), by omega, rfl⟩
  ·
   rintro n2 a8 w2 ⟨t2, k, x10_0, rfl, F7, ok7, q25, q26, q27, q28, q29, o2, hk, rfl⟩
   have hhl := tHds_len n.toNat l cs leads k
   refine wp_seq ?_
   refine reg (a := a8) (σ := t2) rfl (fun i_ => List.getD [(Ty.pr (Ty.bool (decide (((k : Nat) : Int) < (((List.length leads) : Nat) : Int)))))] i_ Pr.any) ok7 rfl ⟨?_, trivial⟩ ?_
   · intro A B E G H; exact rP (y_lss (kp (H 24 rfl) E q25) (kp (H 23 rfl) E q29))
   intro a9 s7 D7; have ok8 := D7.ok; have F8 := F7.step0 D7.stp; have q30 := D7.kt q25 rfl; have q31 := D7.kt q26 rfl; have q32 := D7.kt q27 rfl; have q33 := D7.kt q28 rfl; have q34 := D7.kt q29 rfl; have o3 := Own.k0 o2 D7.stp; have q35 := D7.dn 0 rfl rfl; clear D7; refine tn ?_; refine wp_seq ?_
   refine cond_p (p := (((k : Nat) : Int) < (((List.length leads) : Nat) : Int))) q35 (fun c2 => ?_) (fun c2 => ?_)
   ·
    have hkm : k * l.length ≤ leads.length * l.length := Nat.mul_le_mul_right _ (by omega); have hkc : ((k : Nat) : Int) * ((l.length : Nat) : Int) = ((k * l.length : Nat) : Int) := (Int.natCast_mul _ _).symm
    refine wp_skip ?_; refine tn ?_; refine wp_seq ?_; refine wp_block ?_; refine wp_seq ?_
    refine rg a9 s7 [(Ty.nat k), (Ty.nat k)] ok8 ⟨?_, ?_, trivial⟩ ?_
    · intro A B E G H; exact rP (y_move (kp (H 24 rfl) E q30))
    · intro A B E G H d0 d1; exact rP (y_assign (ed d0 rfl rfl rfl))
    intro a10 s8 D8; have ok9 := D8.ok; have F9 := F8.step0 D8.stp; have q36 := D8.kt q30 rfl; have q37 := D8.kt q31 rfl; have q38 := D8.kt q32 rfl; have q39 := D8.kt q33 rfl; have q40 := D8.kt q34 rfl; have o4 := Own.k0 o3 D8.stp; have q41 := D8.dn 1 rfl rfl; clear D8; refine tn ?_
    refine reg2 (a := a10) (σ := s8) rfl 10 (fun i_ => List.getD [(Ty.pr (Ty.val x10_0)), (Ty.pr (Ty.lst Ty.ints R)), (Ty.pr (Ty.nat k)), (Ty.pr (Ty.ref [(Ty.lst Ty.ints l)])), (Ty.pr (Ty.lst Ty.ints l)), (Ty.pr (Ty.nat (List.length l))), (Ty.pr (Ty.nat (k * (List.length l)))), (Ty.pr (Ty.ref [(Ty.lst Ty.int (R.getD (k * (List.length l)) []))])), (Ty.pr (Ty.lst Ty.int (R.getD (k * (List.length l)) []))), (Ty.pr (Ty.sl 1 1 [(Ty.lst Ty.int (R.getD (k * (List.length l)) []))]))] i_ Pr.any) ok9 rfl (by decide) rfl ⟨?_, ?_, ?_, ?_, ?_, ?_, ?_, ?_, ?_, ?_, trivial⟩ ?_
    · intro A B E G H; exact rP (y_move (kp (H 10 rfl) E q37))
    · intro A B E G H; exact rP (y_move (kp (H 8 rfl) E q39))
    · intro A B E G H; exact rP (y_move (kp (H 11 rfl) E q41))
    · intro A B E G H; exact rP (y_field Try.fld31_2 Try.inf29 (by decide) (kp (H 3 rfl) E q38) rfl)
    · intro A B E G H d0; exact rP (y_load Try.underlying29 rfl (ed d0 rfl rfl rfl) rfl)
    · intro A B E G H d0; exact rP (y_len Try.underlying29 (ed d0 rfl rfl rfl))
    · intro A B E G H d0 d1; exact rP ((y_mul (ed d0 rfl rfl rfl) (ed d1 rfl rfl rfl) (w64 (by omega) (by omega))).mono (fun τ _ h => cvi (σ := τ) (by first | omega | exact (Int.natCast_mul _ _).symm) h))
    · intro A B E G H d0 d1; exact rP (y_index1 Try.underlying29 Try.inf23 (ed d0 rfl rfl rfl) (ed d1 rfl rfl rfl) (by omega) (lst_get Ty.ints R [] (k * (List.length l)) (by omega)))
    · intro A B E G H d0; exact rP (y_load Try.underlying23 rfl (ed d0 rfl rfl rfl) rfl)
    · intro A B E G H d0; exact rP (y_build1o Try.underlying29 Try.inf23 rfl (one_sl) (ed d0 rfl rfl rfl))
    intro a11 s9 D9; have ok10 := D9.ok; have F10 := F9.step0 D9.stp; have q42 := D9.kt q36 rfl; have q43 := D9.kt q37 rfl; have q44 := D9.kt q38 rfl; have q45 := D9.kt q39 rfl; have q46 := D9.kt q40 rfl; have o5 := Own.k0 o4 D9.stp
    have q47 : At (Ty.val x10_0) s9 a11 (.tmp 27) := D9.done 0 (by decide)
    have q48 := D9.dn 9 (by decide) rfl rfl
    have b3 := sl_le q48
    clear D9
    refine tailL (L := [5]) (R := (fun v τ => Own τ 5 23 1 v ((List.length (tHds n.toNat l cs leads k)) + 1) ((List.map Ty.ints (tHds n.toNat l cs leads k)) ++ [(Ty.lst Ty.int (R.getD (k * (List.length l)) []))]))) rfl rfl (by decide) ok10 (YldM.toL (m_append Try.underlying29 Try.inf23 (by decide) rfl (by decide) (al (R := (Pr.own 5 23 1 (List.length (tHds n.toNat l cs leads k)) (List.map Ty.ints (tHds n.toNat l cs leads k)))) q47 o5) q48 (by intro U hU; simp at hU; subst hU; exact one_sl) (by omega) (by omega))) (fun a12 s10 hs1 ok11 r1 sm1 => ?_)
    have F11 := F10.stepL hs1 (by decide); have q49 := kpL hs1 (by decide) (sm1 24 (by decide)) q42; have q50 := kpL hs1 (by decide) (sm1 10 (by decide)) q43; have q51 := kpL hs1 (by decide) (sm1 3 (by decide)) q44; have q52 := kpL hs1 (by decide) (sm1 8 (by decide)) q45; have q53 := kpL hs1 (by decide) (sm1 23 (by decide)) q46
    obtain ⟨x1, hx1⟩ : ∃ x, a12.eval (.tmp 37) = x := ⟨_, rfl⟩
    have q54 : At (Ty.val x1) s10 a12 (.tmp 37) := hx1
    have o6 : Own s10 5 23 1 x1 (List.length ((tHds n.toNat l cs leads k) ++ [(R.getD (k * (List.length l)) [])])) (List.map Ty.ints ((tHds n.toNat l cs leads k) ++ [(R.getD (k * (List.length l)) [])])) := al2 (R := (Pr.own 5 23 1 (List.length ((tHds n.toNat l cs leads k) ++ [(R.getD (k * (List.length l)) [])])) (List.map Ty.ints ((tHds n.toNat l cs leads k) ++ [(R.getD (k * (List.length l)) [])])))) hx1 (cvo (by simp) (by first | (rw [List.map_append]; rfl) | simp) r1)
    clear r1
    refine tailL (L := []) (R := (fun v τ => Pr.has (Ty.pr (Ty.val x1)) τ v)) rfl rfl (by decide) ok11 (Yld.toL (y_assign q54)) (fun a13 s11 hs2 ok12 r2 sm2 => ?_)
    have F12 := F11.stepL hs2 (by decide); have q55 := kpL hs2 (by decide) (sm2 24 (by decide)) q49; have q56 := kpL hs2 (by decide) (sm2 3 (by decide)) q51; have q57 := kpL hs2 (by decide) (sm2 8 (by decide)) q52; have q58 := kpL hs2 (by decide) (sm2 23 (by decide)) q53; have o7 := Own.keepL o6 hs2 (by decide) (by decide)
    have q59 : At (Ty.val x1) s11 a13 (.tmp 10) := r2
    clear r2; refine wpList_nil ?_; refine bn ?_; refine tn ?_
    refine rg a13 s11 [(Ty.nat (k + 1)), (Ty.nat (k + 1))] ok12 ⟨?_, ?_, trivial⟩ ?_
    · intro A B E G H; exact rP ((y_add (kp (H 24 rfl) E q55) rfl (w64 (by omega) (by omega))).mono (fun τ _ h => cvi (σ := τ) (by first | omega | exact (Int.natCast_mul _ _).symm) h))
    · intro A B E G H d0; exact rP (y_move (ed d0 rfl rfl rfl))
    intro a14 s12 D10; have ok13 := D10.ok; have F13 := F12.step0 D10.stp; have q60 := D10.kt q56 rfl; have q61 := D10.kt q57 rfl; have q62 := D10.kt q58 rfl; have q63 := D10.kt q59 rfl; have o8 := Own.k0 o7 D10.stp; have q64 := D10.dn 1 rfl rfl; clear D10
    exact tn ⟨leads.length - ((k+1)), by omega, s12, (k+1), x1, rfl, F13, ok13, (cvi (by (first | rfl | omega | (simp_all; done) | (simp_all; omega))) q64), q63, q60, q61, q62, (cvo (by (rw [tHds_succ, hR, tRows_head hok hin (by omega)])) (by (rw [tHds_succ, hR, tRows_head hok hin (by omega)])) o8), by omega, rfl⟩
   ·
    refine wp_exit ?_; refine tx ?_; refine tx ?_; refine bx ?_; refine tn ?_; refine wp_seq ?_
    refine rg a9 s7 [(Ty.val x10_0), (Ty.val x10_0), (Ty.int (0 : Int))] ok8 ⟨?_, ?_, ?_, trivial⟩ ?_
    · intro A B E G H; exact rP (y_move (kp (H 10 rfl) E q31))
    · intro A B E G H d0 d1; exact rP (y_assign (ed d0 rfl rfl rfl))
    · intro A B E G H d0 d1 d2; exact rP (y_assign rfl)
    intro a15 s13 D11; have ok14 := D11.ok; have F14 := F8.step0 D11.stp; have o9 := Own.k0 o3 D11.stp
    have q65 : At (Ty.val x10_0) s13 a15 (.tmp 6) := D11.done 1
    have q66 := D11.dn 2 rfl rfl; clear D11; refine tn ?_; refine wp_ret ?_
    obtain ⟨t3, e1, h1, q67⟩ := Own.seal o9 (by decide)
    rw [← e1]
    have F15 := F14.step h1 (by decide)
    have q68 : At (Ty.lst Ty.ints (tHds n.toNat l cs leads k)) t3 a15 (.tmp 6) := by have e : a15.eval (.tmp 6) = x10_0 := q65; show Ty.has _ _ _; rw [e]; exact q67
    have q69 := Ty.up (Ty.int (0 : Int)) (h1.le (by decide)) q66
    exact retL2 rfl ok14 F15 (hasT2 (cvt (by (rw [if_pos h0, show k = leads.length by omega])) q68) (cvi (by (exact h0.symm)) q69))


set_option maxRecDepth 100000 in
theorem lead_fn (nm : ByteArray) (n : Int) (l : List (List Int)) (σ : GW) (v0 : Value) (hv0 : Ty.has (Ty.agg [(Ty.val (Value.string nm)), (Ty.int n), (Ty.lst Ty.ints l)]) σ v0) (hnm : nm.size ≤ 1099511627776) (hn : -9223372036854775808 ≤ n ∧ n ≤ 9223372036854775807) :
    FnC Try.prog 58 #[v0] σ (Ty.tup2 (Ty.lst Ty.ints (if methMay nm n l = 0 then fromL (roundsL n.toNat) l else [])) (Ty.int (methMay nm n l))) := by
 refine fn_intro Try.func58 rfl Try.ntmps58 (Nat.le_of_ble_eq_true rfl) (fun s0 a0 hle F0 ok0 hargs => ?_)
 have p0 : At (Ty.agg [(Ty.val (Value.string nm)), (Ty.int n), (Ty.lst Ty.ints l)]) s0 a0 (.tmp 0) := by have e := hargs 0 _ rfl; show Ty.has _ _ _; rw [e]; exact Ty.up _ hle hv0
 clear hargs; refine wp_seq ?_
 refine rg a0 s0 [(Ty.ref [(Ty.val (Value.string nm)), (Ty.int n), (Ty.lst Ty.ints l)]), (Ty.val (Value.slice none 0 0)), (Ty.int (0 : Int))] ok0 ⟨?_, ?_, ?_, trivial⟩ ?_
 · intro A B E G H; exact rP (y_boxagg (kp (H 0 rfl) E p0))
 · intro A B E G H; exact rP (y_assign rfl)
 · intro A B E G H d0; exact rP (y_assign rfl)
 intro a1 s1 D1; have ok1 := D1.ok; have F1 := F0.step0 D1.stp; have q1 := D1.dn 0 rfl rfl; clear D1; refine tn ?_; refine wp_seq ?_; refine wp_seq ?_
 refine rg a1 s1 [(Ty.agg [(Ty.val (Value.string nm)), (Ty.int n), (Ty.lst Ty.ints l)]), (Ty.int (methMay nm n l)), (Ty.int (methMay nm n l))] ok1 ⟨?_, ?_, ?_, trivial⟩ ?_
 · intro A B E G H; exact rP (y_loadagg Try.underlying31 Try.inf31 (kp (H 1 rfl) E q1))
 · intro A B E G H d0; exact rP (y_call #[A.eval (.tmp 7)] Try.func75 rfl rfl (by simp only [List.map_toArray, List.map_cons, List.map_nil]) (mCheck_fn (nm) (n) (l) _ _ (ed d0 rfl rfl rfl) (by first | omega | assumption) (by first | omega | assumption)))
 · intro A B E G H d0 d1 d2 d3; exact rP (y_assign (ed d0 rfl rfl rfl))
 intro a2 s2 D2; have ok2 := D2.ok; have F2 := F1.step0 D2.stp; have q2 := D2.kt q1 rfl; have q3 := D2.dn 2 rfl rfl; clear D2; refine tn ?_; refine wp_seq ?_
 refine rg a2 s2 [(Ty.int (methMay nm n l)), (Ty.bool (decide ((methMay nm n l) ≠ (0 : Int))))] ok2 ⟨?_, ?_, trivial⟩ ?_
 · intro A B E G H; exact rP (y_move (kp (H 4 rfl) E q3))
 · intro A B E G H d0; exact rP (y_neq (ed d0 rfl rfl rfl) rfl)
 intro a3 s3 D3; have ok3 := D3.ok; have F3 := F2.step0 D3.stp; have q4 := D3.kt q2 rfl; have q5 := D3.kt q3 rfl; have q6 := D3.dn 1 rfl rfl; clear D3; refine tn ?_
 refine cond_p (p := ((methMay nm n l) ≠ (0 : Int))) q6 (fun c1 => ?_) (fun c1 => ?_)
 ·
  refine wp_seq ?_
  refine rg a3 s3 [(Ty.int (methMay nm n l)), (Ty.val (Value.slice none 0 0)), (Ty.int (methMay nm n l))] ok3 ⟨?_, ?_, ?_, trivial⟩ ?_
  · intro A B E G H d0; exact rP (y_move (kp (H 4 rfl) E q5))
  · intro A B E G H d0; exact rP (y_assign rfl)
  · intro A B E G H d0 d1 d2 d3; exact rP (y_assign (ed d0 rfl rfl rfl))
  intro a4 s4 D4; have ok4 := D4.ok; have F4 := F3.step0 D4.stp; have q7 := D4.dn 1 rfl rfl; have q8 := D4.dn 2 rfl rfl; clear D4; refine tn ?_; refine wp_ret ?_; refine tr ?_
  exact ret2 rfl ok4 F4 (nil_lst (by (rw [if_neg c1])) q7) q8
 ·
  have h0 := Classical.not_not.1 c1; obtain ⟨m, hnm, hmo⟩ := methMay_ok.1 h0; have hm1 := hmo.n1; have hm2 := hmo.n2; have hml := hmo.l2; have hrl := roundsL_len n.toNat; have hok : ∀ k, k < l.length → okL 0 (l.getD k []) (roundsL n.toNat).length := (fun k hk => by rw [hrl, hnm]; exact hmo.ok k hk)
  refine wp_skip ?_; refine tn ?_; refine wp_seq ?_
  refine rg a3 s3 [(Ty.ref [(Ty.int n), (Ty.lst Ty.ints l)]), (Ty.int n), (Ty.tup2 (Ty.lst Ty.int (roundsL ((n).toNat))) (Ty.int (0 : Int))), (Ty.tup2 (Ty.lst Ty.int (roundsL ((n).toNat))) (Ty.int (0 : Int))), (Ty.lst Ty.int (roundsL ((n).toNat))), (Ty.int (0 : Int)), (Ty.lst Ty.int (roundsL ((n).toNat))), (Ty.int (0 : Int))] ok3 ⟨?_, ?_, ?_, ?_, ?_, ?_, ?_, ?_, trivial⟩ ?_
  · intro A B E G H; exact rP (y_field Try.fld31_1 Try.inf3 (by decide) (kp (H 1 rfl) E q4) rfl)
  · intro A B E G H d0; exact rP (y_load Try.underlying3 rfl (ed d0 rfl rfl rfl) rfl)
  · intro A B E G H d0; exact rP (y_call #[A.eval (.tmp 14)] Try.func49 rfl rfl (by simp only [List.map_toArray, List.map_cons, List.map_nil]) (rounds_fn ((n).toNat) _ _ (cvi (σ := B) (by omega) (ed d0 rfl rfl rfl)) (by omega)))
  · intro A B E G H d0; exact rP (y_move (ed d0 rfl rfl rfl))
  · intro A B E G H d0; exact rP (y_ext2_0 (ed d0 rfl rfl rfl))
  · intro A B E G H d0 d1; exact rP (y_ext2_1 (ed d0 rfl rfl rfl))
  · intro A B E G H d0 d1 d2 d3 d4 d5 d6 d7; exact rP (y_assign (ed d0 rfl rfl rfl))
  · intro A B E G H d0 d1 d2 d3 d4 d5 d6 d7 d8; exact rP (y_assign (ed d0 rfl rfl rfl))
  intro a5 s5 D5; have ok5 := D5.ok; have F5 := F3.step0 D5.stp; have q9 := D5.kt q4 rfl; have q10 := D5.dn 6 rfl rfl; clear D5; refine tn ?_; refine wp_seq ?_
  refine rg a5 s5 [(Ty.lst Ty.int (roundsL ((n).toNat))), (Ty.ref [(Ty.lst Ty.ints l)]), (Ty.lst Ty.ints l), (Ty.lst Ty.ints (fromL ((roundsL ((n).toNat))) l)), (Ty.lst Ty.ints (fromL ((roundsL ((n).toNat))) l)), (Ty.int (0 : Int))] ok5 ⟨?_, ?_, ?_, ?_, ?_, ?_, trivial⟩ ?_
  · intro A B E G H; exact rP (y_move (kp (H 5 rfl) E q10))
  · intro A B E G H; exact rP (y_field Try.fld31_2 Try.inf29 (by decide) (kp (H 1 rfl) E q9) rfl)
  · intro A B E G H d0; exact rP (y_load Try.underlying29 rfl (ed d0 rfl rfl rfl) rfl)
  · intro A B E G H d0 d1; exact rP (y_call #[A.eval (.tmp 18), A.eval (.tmp 20)] Try.func83 rfl rfl (by simp only [List.map_toArray, List.map_cons, List.map_nil]) (from_fn ((roundsL ((n).toNat))) (l) _ _ _ (ed d0 rfl rfl rfl) (ed d1 rfl rfl rfl) (by first | omega | assumption) (by first | omega | assumption) (by first | omega | assumption)))
  · intro A B E G H d0 d1 d2 d3 d4 d5; exact rP (y_assign (ed d0 rfl rfl rfl))
  · intro A B E G H d0 d1 d2 d3 d4 d5; exact rP (y_assign rfl)
  intro a6 s6 D6; have ok6 := D6.ok; have F6 := F5.step0 D6.stp; have q11 := D6.dn 4 rfl rfl; have q12 := D6.dn 5 rfl rfl; clear D6; refine tn ?_; refine wp_ret ?_
  exact ret2 rfl ok6 F6 (cvt (by (rw [if_pos h0])) q11) (cvi (by (exact h0.symm)) q12)


set_option maxRecDepth 100000 in
theorem inverse_fn (r : List Int) (σ : GW) (v0 : Value) (hv0 : Ty.has (Ty.lst Ty.int r) σ v0) (hr : IsRow r) :
    FnC Try.prog 56 #[v0] σ (Ty.lst Ty.int (undoL r)) := by
 have hln := hr.le
 refine fn_intro Try.func56 rfl Try.ntmps56 (Nat.le_of_ble_eq_true rfl) (fun s0 a0 hle F0 ok0 hargs => ?_)
 have p0 : At (Ty.lst Ty.int r) s0 a0 (.tmp 0) := by have e := hargs 0 _ rfl; show Ty.has _ _ _; rw [e]; exact Ty.up _ hle hv0
 have b1 := sl_le p0
 clear hargs; refine wp_seq ?_
 refine rg a0 s0 [(Ty.val (Value.slice none 0 0))] ok0 ⟨?_, trivial⟩ ?_
 · intro A B E G H; exact rP (y_assign rfl)
 intro a1 s1 D1; have ok1 := D1.ok; have F1 := F0.step0 D1.stp; have q1 := D1.kt p0 rfl; clear D1; refine tn ?_; refine wp_seq ?_
 refine reg (a := a1) (σ := s1) rfl (fun i_ => List.getD [(Ty.pr (Ty.lst Ty.int r)), (Ty.pr (Ty.nat (List.length r))), (Pr.own 11 3 1 (List.length r) (List.map Ty.int (List.replicate (List.length r) 0))), (Pr.own 11 3 1 (List.length r) (List.map Ty.int (List.replicate (List.length r) 0)))] i_ Pr.any) ok1 rfl ⟨?_, ?_, ?_, ?_, trivial⟩ ?_
 · intro A B E G H; exact rP (y_move (kp (H 0 rfl) E q1))
 · intro A B E G H d0; exact rP (y_len Try.underlying23 (ed d0 rfl rfl rfl))
 · intro A B E G H d0 d1
   have e1 := ed d0 rfl rfl rfl
   exact rP ((y_make (k := 11) (T := Ty.int 0) (n := (List.length r)) Try.underlying23 Try.inf3 rfl (fun _ => rfl) e1 e1 (by omega) (by omega)).mono (fun _ _ h => cvo (by simp) (by simp) h))
 · intro A B E G H d0 d1 d2 d3
   have e2 : (Pr.own 11 3 1 (List.length r) (List.map Ty.int (List.replicate (List.length r) 0))).has B (A.eval (.tmp 8)) := d0 rfl
   exact rP (y_assign e2)
 intro a2 s2 D2; have ok2 := D2.ok; have F2 := F1.step0 D2.stp; have q2 := D2.kt q1 rfl
 have q3 : (Pr.own 11 3 1 (List.length r) (List.map Ty.int (List.replicate (List.length r) 0))).has s2 (a2.eval (.tmp 3)) := D2.done 3
 clear D2; refine tn ?_; refine wp_seq ?_; refine wp_seq ?_
 refine rg a2 s2 [(Ty.lst Ty.int r), (Ty.nat (List.length r)), (Ty.int (0 : Int))] ok2 ⟨?_, ?_, ?_, trivial⟩ ?_
 · intro A B E G H; exact rP (y_move (kp (H 0 rfl) E q2))
 · intro A B E G H d0; exact rP (y_len Try.underlying23 (ed d0 rfl rfl rfl))
 · intro A B E G H; exact rP (y_move rfl)
 intro a3 s3 D3; have ok3 := D3.ok; have F3 := F2.step0 D3.stp
 have q4 : (Pr.own 11 3 1 (List.length r) (List.map Ty.int (List.replicate (List.length r) 0))).has s3 (a3.eval (.tmp 3)) := D3.ko q3 rfl
 have q5 := D3.dn 0 rfl rfl; have q6 := D3.dn 1 rfl rfl; have q7 := D3.dn 2 rfl rfl; clear D3; refine tn ?_; refine wp_block ?_
 refine loop (fun n1 a4 w1 => ∃ (t1 : GW) (k : Nat), t1.w = w1 ∧ From s0 t1 ∧ Ok 22 a4 ∧ At (Ty.nat k) t1 a4 (.tmp 11) ∧ (Pr.own 11 3 1 (List.length (undoTo r k)) (List.map Ty.int (undoTo r k))).has t1 (a4.eval (.tmp 3)) ∧ At (Ty.lst Ty.int r) t1 a4 (.tmp 9) ∧ At (Ty.nat (List.length r)) t1 a4 (.tmp 10) ∧ (k ≤ r.length) ∧ n1 = r.length - k) (r.length - (0)) ?_ ?_
 ·
  exact ⟨s3, 0, rfl, F3, ok3, (cvi (by (first | rfl | omega | (simp_all; done) | (simp_all; omega))) q7), (cvo (by (simp [undoTo_zero])) (by (simp [undoTo_zero])) q4), q5, q6, by omega, rfl⟩
 ·
  rintro n2 a5 w2 ⟨t2, k, rfl, F4, ok4, q8, q9, q10, q11, hk, rfl⟩
  have hp := undoTo_len r k
  refine wp_seq ?_
  refine reg (a := a5) (σ := t2) rfl (fun i_ => List.getD [(Ty.pr (Ty.bool (decide (((k : Nat) : Int) < (((List.length r) : Nat) : Int)))))] i_ Pr.any) ok4 rfl ⟨?_, trivial⟩ ?_
  · intro A B E G H; exact rP (y_lss (kp (H 11 rfl) E q8) (kp (H 10 rfl) E q11))
  intro a6 s4 D4; have ok5 := D4.ok; have F5 := F4.step0 D4.stp; have q12 := D4.kt q8 rfl
  have q13 : (Pr.own 11 3 1 (List.length (undoTo r k)) (List.map Ty.int (undoTo r k))).has s4 (a6.eval (.tmp 3)) := D4.ko q9 rfl
  have q14 := D4.kt q10 rfl; have q15 := D4.kt q11 rfl; have q16 := D4.dn 0 rfl rfl; clear D4; refine tn ?_; refine wp_seq ?_
  refine cond_p (p := (((k : Nat) : Int) < (((List.length r) : Nat) : Int))) q16 (fun c1 => ?_) (fun c1 => ?_)
  ·
   have hq := hr.at (i := k) (by omega)
   refine wp_skip ?_; refine tn ?_; refine wp_seq ?_; refine wp_block ?_; refine wp_seq ?_
   refine rg a6 s4 [(Ty.nat k), (Ty.ref [(Ty.int (r.getD k 0))]), (Ty.int (r.getD k 0)), (Ty.nat k), (Ty.int (r.getD k 0))] ok5 ⟨?_, ?_, ?_, ?_, ?_, trivial⟩ ?_
   · intro A B E G H; exact rP (y_move (kp (H 11 rfl) E q12))
   · intro A B E G H; exact rP (y_index1 Try.underlying23 Try.inf3 (kp (H 9 rfl) E q14) (kp (H 11 rfl) E q12) (by omega) (lst_get Ty.int r 0 k (by omega)))
   · intro A B E G H d0; exact rP (y_load Try.underlying3 rfl (ed d0 rfl rfl rfl) rfl)
   · intro A B E G H d0 d1 d2 d3; exact rP (y_assign (ed d0 rfl rfl rfl))
   · intro A B E G H d0 d1 d2 d3 d4 d5; exact rP (y_assign (ed d0 rfl rfl rfl))
   intro a7 s5 D5; have ok6 := D5.ok; have F6 := F5.step0 D5.stp; have q17 := D5.kt q12 rfl
   have q18 : (Pr.own 11 3 1 (List.length (undoTo r k)) (List.map Ty.int (undoTo r k))).has s5 (a7.eval (.tmp 3)) := D5.ko q13 rfl
   have q19 := D5.kt q14 rfl; have q20 := D5.kt q15 rfl; have q21 := D5.dn 3 rfl rfl; have q22 := D5.dn 4 rfl rfl; clear D5; refine tn ?_
   refine reg2 (a := a7) (σ := s5) rfl 4 (fun i_ => List.getD [(Ty.pr (Ty.val (a7.eval (.tmp 3)))), (Ty.pr (Ty.int (r.getD k 0))), (Ty.pr (Ty.nat k)), (Ty.pr (Ty.val (cellPtr (a7.eval (.tmp 3)) ((r.getD k 0)).toNat)))] i_ Pr.any) ok6 rfl (by decide) rfl ⟨?_, ?_, ?_, ?_, trivial⟩ ?_
   · intro A B E G H; exact rP (y_move (H 3 rfl))
   · intro A B E G H; exact rP (y_move (kp (H 5 rfl) E q22))
   · intro A B E G H; exact rP (y_move (kp (H 4 rfl) E q21))
   · intro A B E G H d0 d1 d2 d3 d4; exact rP (own_index1 (i := (r.getD k 0)) Try.underlying23 Try.inf3 ((Pr.own 11 3 1 (List.length (undoTo r k)) (List.map Ty.int (undoTo r k))).up E q18) (ed d0 rfl rfl rfl) (ed d1 rfl rfl rfl) (by omega) (by omega))
   intro a8 s6 D6; have ok7 := D6.ok; have F7 := F6.step0 D6.stp; have q23 := (Pr.own 11 3 1 (List.length (undoTo r k)) (List.map Ty.int (undoTo r k))).up D6.stp q18; have q24 := D6.kt q17 rfl
   have q25 : a8.eval (.tmp 3) = a7.eval (.tmp 3) := D6.same 3 rfl
   have q26 := D6.kt q19 rfl; have q27 := D6.kt q20 rfl; have q28 := D6.dn 2 (by decide) rfl rfl; have q29 := D6.dn 3 (by decide) rfl rfl; clear D6
   refine tail_step0 (m := 11) (R := (fun _ τ => Own τ 11 3 1 (a7.eval (.tmp 3)) (List.length (undoTo r k)) ((List.map Ty.int (undoTo r k)).set ((r.getD k 0)).toNat (Ty.nat k)))) rfl rfl (m_store Try.inf3 (by decide) q23 q29 (by simp only [List.length_map, List.length_set]; omega) q28 (one_val rfl)) (fun v1 s7 hs1 r1 => ?_)
   have F8 := F7.step hs1 (by decide)
   have q30 : At (Ty.nat k) s7 a8 (.tmp 11) := kpm hs1 (by decide) rfl q24
   have q31 : At (Ty.lst Ty.int r) s7 a8 (.tmp 9) := kpm hs1 (by decide) rfl q26
   have q32 : At (Ty.nat (List.length r)) s7 a8 (.tmp 10) := kpm hs1 (by decide) rfl q27
   have q33 : At (Ty.nat k) s7 a8 (.tmp 18) := kpm hs1 (by decide) rfl q28
   have q34 : (Pr.own 11 3 1 (List.length ((undoTo r k).set ((r.getD k 0)).toNat ((k : Nat) : Int))) (List.map Ty.int ((undoTo r k).set ((r.getD k 0)).toNat ((k : Nat) : Int)))).has s7 (a7.eval (.tmp 3)) := (cvo (by simp) (by simp) r1)
   refine wpList_nil ?_
   have q35 : (Pr.own 11 3 1 (List.length ((undoTo r k).set ((r.getD k 0)).toNat ((k : Nat) : Int))) (List.map Ty.int ((undoTo r k).set ((r.getD k 0)).toNat ((k : Nat) : Int)))).has s7 (a8.eval (.tmp 3)) := al q25 q34
   refine bn ?_; refine tn ?_
   refine rg a8 s7 [(Ty.int (((k : Nat) : Int) + (1 : Int))), (Ty.int (((k : Nat) : Int) + (1 : Int)))] ok7 ⟨?_, ?_, trivial⟩ ?_
   · intro A B E G H; exact rP (y_add (kp (H 11 rfl) E q30) rfl (w64 (by omega) (by omega)))
   · intro A B E G H d0; exact rP (y_move (ed d0 rfl rfl rfl))
   intro a10 s8 D7; have ok9 := D7.ok; have F9 := F8.step0 D7.stp
   have q36 : (Pr.own 11 3 1 (List.length ((undoTo r k).set ((r.getD k 0)).toNat ((k : Nat) : Int))) (List.map Ty.int ((undoTo r k).set ((r.getD k 0)).toNat ((k : Nat) : Int)))).has s8 (a10.eval (.tmp 3)) := D7.ko q35 rfl
   have q37 := D7.kt q31 rfl; have q38 := D7.kt q32 rfl; have q39 := D7.dn 1 rfl rfl; clear D7
   exact tn ⟨r.length - ((k+1)), by omega, s8, (k+1), rfl, F9, ok9, (cvi (by (first | rfl | omega | (simp_all; done) | (simp_all; omega))) q39), (cvo (by (rw [undoTo_step r k hr (by omega)])) (by (rw [undoTo_step r k hr (by omega)])) q36), q37, q38, by omega, rfl⟩
  ·
   refine wp_exit ?_; refine tx ?_; refine tx ?_; refine bx ?_; refine tn ?_; refine wp_seq ?_
   refine rg a6 s4 [(Ty.val (a6.eval (.tmp 3))), (Ty.val (a6.eval (.tmp 3)))] ok5 ⟨?_, ?_, trivial⟩ ?_
   · intro A B E G H; exact rP (y_move (H 3 rfl))
   · intro A B E G H d0 d1; exact rP (y_assign (ed d0 rfl rfl rfl))
   intro a11 s9 D8; have ok10 := D8.ok; have F10 := F5.step0 D8.stp
   have q40 : (Pr.own 11 3 1 (List.length (undoTo r k)) (List.map Ty.int (undoTo r k))).has s9 (a11.eval (.tmp 2)) := al (show _ = _ from D8.done 1) ((Pr.own 11 3 1 (List.length (undoTo r k)) (List.map Ty.int (undoTo r k))).up D8.stp q13)
   clear D8; refine tn ?_; refine wp_ret ?_
   obtain ⟨t3, e1, h1, q41⟩ := Own.seal q40 (by decide)
   rw [← e1]
   have F11 := F10.step h1 (by decide)
   exact ret1 rfl ok10 F11 (cvt (by (obtain rfl : k = r.length := (by omega); rw [undoTo_all r hr])) q41)


set_option maxHeartbeats 4000000 in
set_option maxRecDepth 100000 in
theorem isNaN_fn (x : Int) (σ : GW)  (v0 : Value) (hv0 : Ty.has (Ty.int x) σ v0)   :
    FnC Try.prog 113 #[v0] σ (Ty.bool false) := by
 refine fn_intro0 Try.func113 rfl Try.ntmps113 (Nat.le_of_ble_eq_true rfl) (fun s0 a0 hle F0 ok0 hargs => ?_)
 have p0 : At (Ty.int x) s0 a0 (.tmp 0) := by have e := hargs 0 _ rfl; show Ty.has _ _ _; rw [e]; exact Ty.up _ hle hv0
 clear hargs; refine wp_seq ?_
 refine rg a0 s0 [(Ty.bool false)] ok0 ⟨?_, trivial⟩ ?_
 · intro A B E G H; exact rP (y_assign rfl)
 intro a1 s1 D1; have ok1 := D1.ok; have F1 := F0.step0 D1.stp; have q1 := D1.kt p0 rfl; clear D1; refine tn ?_; refine wp_seq ?_
 refine rg a1 s1 [(Ty.int x), (Ty.int x), (Ty.bool (decide (x ≠ x))), (Ty.bool (decide (x ≠ x)))] ok1 ⟨?_, ?_, ?_, ?_, trivial⟩ ?_
 · intro A B E G H; exact rP (y_move (kp (H 0 rfl) E q1))
 · intro A B E G H; exact rP (y_move (kp (H 0 rfl) E q1))
 · intro A B E G H d0 d1; exact rP (y_neq (ed d0 rfl rfl rfl) (ed d1 rfl rfl rfl))
 · intro A B E G H d0 d1 d2 d3; exact rP (y_assign (ed d0 rfl rfl rfl))
 intro a2 s2 D2; have ok2 := D2.ok; have F2 := F1.step0 D2.stp; have q2 := D2.dn 3 rfl rfl; clear D2; refine tn ?_; refine wp_ret ?_
 exact retL1 rfl ok2 F2 (cvb (by (simp)) q2)


set_option maxHeartbeats 4000000 in
set_option maxRecDepth 100000 in
theorem cmpInt_fn (x : Int) (y : Int) (σ : GW)  (v0 v1 : Value) (hv0 : Ty.has (Ty.int x) σ v0) (hv1 : Ty.has (Ty.int y) σ v1)   :
    FnC Try.prog 91 #[v0, v1] σ (Ty.int (cmpI x y)) := by
 refine fn_intro0 Try.func91 rfl Try.ntmps91 (Nat.le_of_ble_eq_true rfl) (fun s0 a0 hle F0 ok0 hargs => ?_)
 have p0 : At (Ty.int x) s0 a0 (.tmp 0) := by have e := hargs 0 _ rfl; show Ty.has _ _ _; rw [e]; exact Ty.up _ hle hv0
 have p1 : At (Ty.int y) s0 a0 (.tmp 1) := by have e := hargs 1 _ rfl; show Ty.has _ _ _; rw [e]; exact Ty.up _ hle hv1
 clear hargs; refine wp_seq ?_
 refine rg a0 s0 [(Ty.int (0 : Int))] ok0 ⟨?_, trivial⟩ ?_
 · intro A B E G H; exact rP (y_assign rfl)
 intro a1 s1 D1; have ok1 := D1.ok; have F1 := F0.step0 D1.stp; have q1 := D1.kt p0 rfl; have q2 := D1.kt p1 rfl; clear D1; refine tn ?_; refine wp_seq ?_
 refine rg a1 s1 [(Ty.int x), (Ty.bool false), (Ty.bool false)] ok1 ⟨?_, ?_, ?_, trivial⟩ ?_
 · intro A B E G H; exact rP (y_move (kp (H 0 rfl) E q1))
 · intro A B E G H d0; exact rP (y_call #[A.eval (.tmp 7)] Try.func113 rfl rfl (by simp only [List.map_toArray, List.map_cons, List.map_nil]) (isNaN_fn (x) _ _ (ed d0 rfl rfl rfl) ))
 · intro A B E G H d0 d1 d2 d3; exact rP (y_assign (ed d0 rfl rfl rfl))
 intro a2 s2 D2; have ok2 := D2.ok; have F2 := F1.step0 D2.stp; have q3 := D2.kt q1 rfl; have q4 := D2.kt q2 rfl; have q5 := D2.dn 2 rfl rfl; clear D2; refine tn ?_; refine wp_seq ?_
 refine rg a2 s2 [(Ty.int y), (Ty.bool false), (Ty.bool false)] ok2 ⟨?_, ?_, ?_, trivial⟩ ?_
 · intro A B E G H; exact rP (y_move (kp (H 1 rfl) E q4))
 · intro A B E G H d0; exact rP (y_call #[A.eval (.tmp 9)] Try.func113 rfl rfl (by simp only [List.map_toArray, List.map_cons, List.map_nil]) (isNaN_fn (y) _ _ (cvi (σ := B) (by omega) (ed d0 rfl rfl rfl)) ))
 · intro A B E G H d0 d1 d2 d3; exact rP (y_assign (ed d0 rfl rfl rfl))
 intro a3 s3 D3; have ok3 := D3.ok; have F3 := F2.step0 D3.stp; have q6 := D3.kt q3 rfl; have q7 := D3.kt q4 rfl; have q8 := D3.kt q5 rfl; have q9 := D3.dn 2 rfl rfl; clear D3; refine tn ?_; refine wp_seq ?_; refine wp_seq ?_
 refine rg a3 s3 [(Ty.bool false)] ok3 ⟨?_, trivial⟩ ?_
 · intro A B E G H; exact rP (y_move (kp (H 5 rfl) E q8))
 intro a4 s4 D4; have ok4 := D4.ok; have F4 := F3.step0 D4.stp; have q10 := D4.kt q6 rfl; have q11 := D4.kt q7 rfl; have q12 := D4.kt q9 rfl; have q13 := D4.dn 0 rfl rfl; clear D4; refine tn ?_
 refine cond_t q13 (fun c1 => (by cases c1)) (fun _ => ?_)
 refine wp_skip ?_; refine tn ?_; refine wp_seq ?_; refine wp_seq ?_
 refine rg a4 s4 [(Ty.bool false)] ok4 ⟨?_, trivial⟩ ?_
 · intro A B E G H; exact rP (y_move (kp (H 6 rfl) E q12))
 intro a5 s5 D5; have ok5 := D5.ok; have F5 := F4.step0 D5.stp; have q14 := D5.kt q10 rfl; have q15 := D5.kt q11 rfl; have q16 := D5.dn 0 rfl rfl; clear D5; refine tn ?_
 refine cond_t q16 (fun c2 => (by cases c2)) (fun _ => ?_)
 refine wp_skip ?_; refine tn ?_; refine wp_seq ?_; refine wp_seq ?_
 refine rg a5 s5 [(Ty.int x), (Ty.int y), (Ty.bool (decide (x < y)))] ok5 ⟨?_, ?_, ?_, trivial⟩ ?_
 · intro A B E G H; exact rP (y_move (kp (H 0 rfl) E q14))
 · intro A B E G H; exact rP (y_move (kp (H 1 rfl) E q15))
 · intro A B E G H d0 d1; exact rP (y_lss (ed d0 rfl rfl rfl) (ed d1 rfl rfl rfl))
 intro a6 s6 D6; have ok6 := D6.ok; have F6 := F5.step0 D6.stp; have q17 := D6.kt q14 rfl; have q18 := D6.kt q15 rfl; have q19 := D6.dn 2 rfl rfl; clear D6; refine tn ?_
 refine cond_p (p := (x < y)) q19 (fun c3 => ?_) (fun c3 => ?_)
 ·
  refine wp_seq ?_
  refine rg a6 s6 [(Ty.int (-1 : Int))] ok6 ⟨?_, trivial⟩ ?_
  · intro A B E G H; exact rP (y_assign rfl)
  intro a7 s7 D7; have ok7 := D7.ok; have F7 := F6.step0 D7.stp; have q20 := D7.dn 0 rfl rfl; clear D7; refine tn ?_; refine wp_ret ?_; refine tr ?_
  exact retL1 rfl ok7 F7 (cvi (by (unfold cmpI; split <;> (try split) <;> omega)) q20)
 ·
  refine wp_skip ?_; refine tn ?_; refine wp_seq ?_; refine wp_seq ?_
  refine rg a6 s6 [(Ty.int x), (Ty.int y), (Ty.bool (decide (y < x)))] ok6 ⟨?_, ?_, ?_, trivial⟩ ?_
  · intro A B E G H; exact rP (y_move (kp (H 0 rfl) E q17))
  · intro A B E G H; exact rP (y_move (kp (H 1 rfl) E q18))
  · intro A B E G H d0 d1; exact rP (y_gtr (ed d0 rfl rfl rfl) (ed d1 rfl rfl rfl))
  intro a8 s8 D8; have ok8 := D8.ok; have F8 := F6.step0 D8.stp; have q21 := D8.dn 2 rfl rfl; clear D8; refine tn ?_
  refine cond_p (p := (y < x)) q21 (fun c4 => ?_) (fun c4 => ?_)
  ·
   refine wp_seq ?_
   refine rg a8 s8 [(Ty.int (1 : Int))] ok8 ⟨?_, trivial⟩ ?_
   · intro A B E G H; exact rP (y_assign rfl)
   intro a9 s9 D9; have ok9 := D9.ok; have F9 := F8.step0 D9.stp; have q22 := D9.dn 0 rfl rfl; clear D9; refine tn ?_; refine wp_ret ?_; refine tr ?_
   exact retL1 rfl ok9 F9 (cvi (by (unfold cmpI; split <;> (try split) <;> omega)) q22)
  ·
   refine wp_skip ?_; refine tn ?_; refine wp_seq ?_
   refine rg a8 s8 [(Ty.int (0 : Int))] ok8 ⟨?_, trivial⟩ ?_
   · intro A B E G H; exact rP (y_assign rfl)
   intro a10 s10 D10; have ok10 := D10.ok; have F10 := F8.step0 D10.stp; have q23 := D10.dn 0 rfl rfl; clear D10; refine tn ?_; refine wp_ret ?_
   exact retL1 rfl ok10 F10 (cvi (by (unfold cmpI; split <;> (try split) <;> omega)) q23)


set_option maxHeartbeats 4000000 in
set_option maxRecDepth 100000 in
theorem slCompare_fn (xs : List Int) (ys : List Int) (σ : GW)  (v0 v1 : Value) (hv0 : Ty.has (Ty.lst Ty.int xs) σ v0) (hv1 : Ty.has (Ty.lst Ty.int ys) σ v1)   :
    FnC Try.prog 60 #[v0, v1] σ (Ty.int (cmpL xs ys)) := by
 refine fn_intro0 Try.func60 rfl Try.ntmps60 (Nat.le_of_ble_eq_true rfl) (fun s0 a0 hle F0 ok0 hargs => ?_)
 have p0 : At (Ty.lst Ty.int xs) s0 a0 (.tmp 0) := by have e := hargs 0 _ rfl; show Ty.has _ _ _; rw [e]; exact Ty.up _ hle hv0
 have b1 := sl_le p0
 have p1 : At (Ty.lst Ty.int ys) s0 a0 (.tmp 1) := by have e := hargs 1 _ rfl; show Ty.has _ _ _; rw [e]; exact Ty.up _ hle hv1
 have b2 := sl_le p1
 clear hargs; refine wp_seq ?_
 refine rg a0 s0 [(Ty.int (0 : Int))] ok0 ⟨?_, trivial⟩ ?_
 · intro A B E G H; exact rP (y_assign rfl)
 intro a1 s1 D1; have ok1 := D1.ok; have F1 := F0.step0 D1.stp; have q1 := D1.kt p0 rfl; have q2 := D1.kt p1 rfl; clear D1; refine tn ?_; refine wp_seq ?_; refine wp_seq ?_
 refine rg a1 s1 [(Ty.lst Ty.int xs), (Ty.nat (List.length xs)), (Ty.int (0 : Int))] ok1 ⟨?_, ?_, ?_, trivial⟩ ?_
 · intro A B E G H; exact rP (y_move (kp (H 0 rfl) E q1))
 · intro A B E G H d0; exact rP (y_len Try.underlying23 (ed d0 rfl rfl rfl))
 · intro A B E G H; exact rP (y_move rfl)
 intro a2 s2 D2; have ok2 := D2.ok; have F2 := F1.step0 D2.stp; have q3 := D2.kt q1 rfl; have q4 := D2.kt q2 rfl; have q5 := D2.dn 0 rfl rfl; have q6 := D2.dn 1 rfl rfl; have q7 := D2.dn 2 rfl rfl; clear D2; refine tn ?_; refine wp_block ?_
 refine loop (fun n1 a3 w1 => ∃ (t1 : GW) (i : Nat), t1.w = w1 ∧ FromL [] s0 t1 ∧ Ok 36 a3 ∧ At (Ty.nat i) t1 a3 (.tmp 11) ∧ At (Ty.lst Ty.int xs) t1 a3 (.tmp 0) ∧ At (Ty.lst Ty.int ys) t1 a3 (.tmp 1) ∧ At (Ty.lst Ty.int xs) t1 a3 (.tmp 9) ∧ At (Ty.nat (List.length xs)) t1 a3 (.tmp 10) ∧ (i ≤ xs.length) ∧ (cmpL (xs.drop i) (ys.drop i) = cmpL xs ys) ∧ n1 = xs.length - i) (xs.length - (0)) ?_ ?_
 ·
  exact ⟨s2, 0, rfl, F2, ok2, (cvi (by (first | rfl | omega | (simp_all; done) | (simp_all; omega))) q7), q3, q4, q5, q6, by omega, rfl, rfl⟩
 ·
  rintro n2 a4 w2 ⟨t2, i, rfl, F3, ok3, q8, q9, q10, q11, q12, hi, hc, rfl⟩
  refine wp_seq ?_
  refine reg (a := a4) (σ := t2) rfl (fun i_ => List.getD [(Ty.pr (Ty.bool (decide (((i : Nat) : Int) < (((List.length xs) : Nat) : Int)))))] i_ Pr.any) ok3 rfl ⟨?_, trivial⟩ ?_
  · intro A B E G H; exact rP (y_lss (kp (H 11 rfl) E q8) (kp (H 10 rfl) E q12))
  intro a5 s3 D3; have ok4 := D3.ok; have F4 := F3.step0 D3.stp; have q13 := D3.kt q8 rfl; have q14 := D3.kt q9 rfl; have q15 := D3.kt q10 rfl; have q16 := D3.kt q11 rfl; have q17 := D3.kt q12 rfl; have q18 := D3.dn 0 rfl rfl; clear D3; refine tn ?_; refine wp_seq ?_
  refine cond_p (p := (((i : Nat) : Int) < (((List.length xs) : Nat) : Int))) q18 (fun c1 => ?_) (fun c1 => ?_)
  ·
   refine wp_skip ?_; refine tn ?_; refine wp_seq ?_; refine wp_block ?_; refine wp_seq ?_
   refine rg a5 s3 [(Ty.nat i), (Ty.ref [(Ty.int (xs.getD i 0))]), (Ty.int (xs.getD i 0)), (Ty.nat i), (Ty.int (xs.getD i 0))] ok4 ⟨?_, ?_, ?_, ?_, ?_, trivial⟩ ?_
   · intro A B E G H; exact rP (y_move (kp (H 11 rfl) E q13))
   · intro A B E G H; exact rP (y_index1 Try.underlying23 Try.inf3 (kp (H 9 rfl) E q16) (kp (H 11 rfl) E q13) (by omega) (lst_get Ty.int xs 0 i (by omega)))
   · intro A B E G H d0; exact rP (y_load Try.underlying3 rfl (ed d0 rfl rfl rfl) rfl)
   · intro A B E G H d0 d1 d2 d3; exact rP (y_assign (ed d0 rfl rfl rfl))
   · intro A B E G H d0 d1 d2 d3 d4 d5; exact rP (y_assign (ed d0 rfl rfl rfl))
   intro a6 s4 D4; have ok5 := D4.ok; have F5 := F4.step0 D4.stp; have q19 := D4.kt q13 rfl; have q20 := D4.kt q14 rfl; have q21 := D4.kt q15 rfl; have q22 := D4.kt q16 rfl; have q23 := D4.kt q17 rfl; have q24 := D4.dn 3 rfl rfl; have q25 := D4.dn 4 rfl rfl; clear D4; refine tn ?_; refine wp_seq ?_; refine wp_seq ?_
   refine rg a6 s4 [(Ty.nat i), (Ty.lst Ty.int ys), (Ty.nat (List.length ys)), (Ty.bool (decide ((((List.length ys) : Nat) : Int) ≤ ((i : Nat) : Int))))] ok5 ⟨?_, ?_, ?_, ?_, trivial⟩ ?_
   · intro A B E G H; exact rP (y_move (kp (H 5 rfl) E q24))
   · intro A B E G H; exact rP (y_move (kp (H 1 rfl) E q21))
   · intro A B E G H d0; exact rP (y_len Try.underlying23 (ed d0 rfl rfl rfl))
   · intro A B E G H d0 d1; exact rP (y_geq (ed d0 rfl rfl rfl) (ed d1 rfl rfl rfl))
   intro a7 s5 D5; have ok6 := D5.ok; have F6 := F5.step0 D5.stp; have q26 := D5.kt q19 rfl; have q27 := D5.kt q20 rfl; have q28 := D5.kt q21 rfl; have q29 := D5.kt q22 rfl; have q30 := D5.kt q23 rfl; have q31 := D5.kt q24 rfl; have q32 := D5.kt q25 rfl; have q33 := D5.dn 3 rfl rfl; clear D5; refine tn ?_
   refine cond_p (p := ((((List.length ys) : Nat) : Int) ≤ ((i : Nat) : Int))) q33 (fun c2 => ?_) (fun c2 => ?_)
   ·
    refine wp_seq ?_
    refine rg a7 s5 [(Ty.int (1 : Int))] ok6 ⟨?_, trivial⟩ ?_
    · intro A B E G H; exact rP (y_assign rfl)
    intro a8 s6 D6; have ok7 := D6.ok; have F7 := F6.step0 D6.stp; have q34 := D6.dn 0 rfl rfl; clear D6; refine tn ?_; refine wp_ret ?_; refine tr ?_; refine br ?_; refine tr ?_; refine tr ?_; refine br ?_; refine tr ?_
    exact retL1 rfl ok7 F7 (cvi (by (exact (cmp_long hc (by omega) (by omega)).symm)) q34)
   ·
    refine wp_skip ?_; refine tn ?_; refine wp_seq ?_
    refine rg a7 s5 [(Ty.lst Ty.int ys), (Ty.nat i), (Ty.ref [(Ty.int (ys.getD i 0))]), (Ty.int (ys.getD i 0)), (Ty.int (ys.getD i 0))] ok6 ⟨?_, ?_, ?_, ?_, ?_, trivial⟩ ?_
    · intro A B E G H; exact rP (y_move (kp (H 1 rfl) E q28))
    · intro A B E G H; exact rP (y_move (kp (H 5 rfl) E q31))
    · intro A B E G H d0 d1; exact rP (y_index1 Try.underlying23 Try.inf3 (ed d0 rfl rfl rfl) (ed d1 rfl rfl rfl) (by omega) (lst_get Ty.int ys 0 i (by omega)))
    · intro A B E G H d0; exact rP (y_load Try.underlying3 rfl (ed d0 rfl rfl rfl) rfl)
    · intro A B E G H d0 d1 d2 d3 d4; exact rP (y_assign (ed d0 rfl rfl rfl))
    intro a9 s7 D7; have ok8 := D7.ok; have F8 := F6.step0 D7.stp; have q35 := D7.kt q26 rfl; have q36 := D7.kt q27 rfl; have q37 := D7.kt q28 rfl; have q38 := D7.kt q29 rfl; have q39 := D7.kt q30 rfl; have q40 := D7.kt q32 rfl; have q41 := D7.dn 4 rfl rfl; clear D7; refine tn ?_; refine wp_seq ?_
    refine rg a9 s7 [(Ty.int (xs.getD i 0)), (Ty.int (ys.getD i 0)), (Ty.int (cmpI ((xs.getD i 0)) ((ys.getD i 0)))), (Ty.int (cmpI ((xs.getD i 0)) ((ys.getD i 0))))] ok8 ⟨?_, ?_, ?_, ?_, trivial⟩ ?_
    · intro A B E G H; exact rP (y_move (kp (H 6 rfl) E q40))
    · intro A B E G H; exact rP (y_move (kp (H 7 rfl) E q41))
    · intro A B E G H d0 d1; exact rP (y_call #[A.eval (.tmp 24), A.eval (.tmp 25)] Try.func91 rfl rfl (by simp only [List.map_toArray, List.map_cons, List.map_nil]) (cmpInt_fn ((xs.getD i 0)) ((ys.getD i 0)) _ _ _ (cvi (σ := B) (by omega) (ed d0 rfl rfl rfl)) (cvi (σ := B) (by omega) (ed d1 rfl rfl rfl)) ))
    · intro A B E G H d0 d1 d2 d3 d4; exact rP (y_assign (ed d0 rfl rfl rfl))
    intro a10 s8 D8; have ok9 := D8.ok; have F9 := F8.step0 D8.stp; have q42 := D8.kt q35 rfl; have q43 := D8.kt q36 rfl; have q44 := D8.kt q37 rfl; have q45 := D8.kt q38 rfl; have q46 := D8.kt q39 rfl; have q47 := D8.dn 3 rfl rfl; clear D8; refine tn ?_; refine wp_seq ?_
    refine rg a10 s8 [(Ty.int (cmpI ((xs.getD i 0)) ((ys.getD i 0)))), (Ty.bool (decide ((cmpI ((xs.getD i 0)) ((ys.getD i 0))) ≠ (0 : Int))))] ok9 ⟨?_, ?_, trivial⟩ ?_
    · intro A B E G H; exact rP (y_move (kp (H 8 rfl) E q47))
    · intro A B E G H d0; exact rP (y_neq (ed d0 rfl rfl rfl) rfl)
    intro a11 s9 D9; have ok10 := D9.ok; have F10 := F9.step0 D9.stp; have q48 := D9.kt q42 rfl; have q49 := D9.kt q43 rfl; have q50 := D9.kt q44 rfl; have q51 := D9.kt q45 rfl; have q52 := D9.kt q46 rfl; have q53 := D9.kt q47 rfl; have q54 := D9.dn 1 rfl rfl; clear D9; refine tn ?_
    refine cond_p (p := ((cmpI ((xs.getD i 0)) ((ys.getD i 0))) ≠ (0 : Int))) q54 (fun c3 => ?_) (fun c3 => ?_)
    ·
     refine wp_seq ?_
     refine rg a11 s9 [(Ty.int (cmpI ((xs.getD i 0)) ((ys.getD i 0)))), (Ty.int (cmpI ((xs.getD i 0)) ((ys.getD i 0))))] ok10 ⟨?_, ?_, trivial⟩ ?_
     · intro A B E G H; exact rP (y_move (kp (H 8 rfl) E q53))
     · intro A B E G H d0 d1; exact rP (y_assign (ed d0 rfl rfl rfl))
     intro a12 s10 D10; have ok11 := D10.ok; have F11 := F10.step0 D10.stp; have q55 := D10.dn 1 rfl rfl; clear D10; refine tn ?_; refine wp_ret ?_; refine br ?_; refine tr ?_; refine tr ?_; refine br ?_; refine tr ?_
     exact retL1 rfl ok11 F11 (cvi (by (exact cmp_ne hc (by omega) (by omega) c3)) q55)
    ·
     refine wp_skip ?_; refine bn ?_; refine tn ?_
     refine rg a11 s9 [(Ty.int (((i : Nat) : Int) + (1 : Int))), (Ty.int (((i : Nat) : Int) + (1 : Int)))] ok10 ⟨?_, ?_, trivial⟩ ?_
     · intro A B E G H; exact rP (y_add (kp (H 11 rfl) E q48) rfl (w64 (by omega) (by omega)))
     · intro A B E G H d0; exact rP (y_move (ed d0 rfl rfl rfl))
     intro a13 s11 D11; have ok12 := D11.ok; have F12 := F10.step0 D11.stp; have q56 := D11.kt q49 rfl; have q57 := D11.kt q50 rfl; have q58 := D11.kt q51 rfl; have q59 := D11.kt q52 rfl; have q60 := D11.dn 1 rfl rfl; clear D11
     exact tn ⟨xs.length - ((i+1)), by omega, s11, (i+1), rfl, F12, ok12, (cvi (by (first | rfl | omega | (simp_all; done) | (simp_all; omega))) q60), q56, q57, q58, q59, by omega, cmp_step hc (by omega) (by omega) c3, rfl⟩
  ·
   refine wp_exit ?_; refine tx ?_; refine tx ?_; refine bx ?_; refine tn ?_; refine wp_seq ?_; refine wp_seq ?_
   refine rg a5 s3 [(Ty.lst Ty.int xs), (Ty.nat (List.length xs)), (Ty.lst Ty.int ys), (Ty.nat (List.length ys)), (Ty.bool (decide ((((List.length xs) : Nat) : Int) < (((List.length ys) : Nat) : Int))))] ok4 ⟨?_, ?_, ?_, ?_, ?_, trivial⟩ ?_
   · intro A B E G H; exact rP (y_move (kp (H 0 rfl) E q14))
   · intro A B E G H d0; exact rP (y_len Try.underlying23 (ed d0 rfl rfl rfl))
   · intro A B E G H; exact rP (y_move (kp (H 1 rfl) E q15))
   · intro A B E G H d0; exact rP (y_len Try.underlying23 (ed d0 rfl rfl rfl))
   · intro A B E G H d0 d1; exact rP (y_lss (ed d0 rfl rfl rfl) (ed d1 rfl rfl rfl))
   intro a14 s12 D12; have ok13 := D12.ok; have F13 := F4.step0 D12.stp; have q61 := D12.dn 4 rfl rfl; clear D12; refine tn ?_
   refine cond_p (p := ((((List.length xs) : Nat) : Int) < (((List.length ys) : Nat) : Int))) q61 (fun c4 => ?_) (fun c4 => ?_)
   ·
    refine wp_seq ?_
    refine rg a14 s12 [(Ty.int (-1 : Int))] ok13 ⟨?_, trivial⟩ ?_
    · intro A B E G H; exact rP (y_assign rfl)
    intro a15 s13 D13; have ok14 := D13.ok; have F14 := F13.step0 D13.stp; have q62 := D13.dn 0 rfl rfl; clear D13; refine tn ?_; refine wp_ret ?_; refine tr ?_
    exact retL1 rfl ok14 F14 (cvi (by (exact (cmp_short hc (by omega) (by omega)).symm)) q62)
   ·
    refine wp_skip ?_; refine tn ?_; refine wp_seq ?_
    refine rg a14 s12 [(Ty.int (0 : Int))] ok13 ⟨?_, trivial⟩ ?_
    · intro A B E G H; exact rP (y_assign rfl)
    intro a16 s14 D14; have ok15 := D14.ok; have F15 := F13.step0 D14.stp; have q63 := D14.dn 0 rfl rfl; clear D14; refine tn ?_; refine wp_ret ?_
    exact retL1 rfl ok15 F15 (cvi (by (exact (cmp_same hc (by omega) (by omega)).symm)) q63)


set_option maxHeartbeats 4000000 in
set_option maxRecDepth 100000 in
theorem false_fn (nm : ByteArray) (n : Int) (l : List (List Int)) (σ : GW)  (v0 : Value) (hv0 : Ty.has (Ty.agg [(Ty.val (Value.string nm)), (Ty.int n), (Ty.lst Ty.ints l)]) σ v0)  (hnm : nm.size ≤ 1099511627776) (hn : -9223372036854775808 ≤ n ∧ n ≤ 9223372036854775807) :
    FnC Try.prog 25 #[v0] σ (Ty.tup3 (Ty.lst Ty.ints (if methMay nm n l = 0 then (onceL (enTo ((fromL (roundsL n.toNat) l).take l.length) ((fromL (roundsL n.toNat) l).take l.length).length ((fromL (roundsL n.toNat) l).take l.length).length)) else [])) (Ty.bool (if methMay nm n l = 0 then (sfTo ((fromL (roundsL n.toNat) l).take l.length) ((fromL (roundsL n.toNat) l).take l.length).length ((fromL (roundsL n.toNat) l).take l.length).length) else false)) (Ty.int (methMay nm n l))) := by
 refine fn_intro0 Try.func25 rfl Try.ntmps25 (Nat.le_of_ble_eq_true rfl) (fun s0 a0 hle F0 ok0 hargs => ?_)
 have p0 : At (Ty.agg [(Ty.val (Value.string nm)), (Ty.int n), (Ty.lst Ty.ints l)]) s0 a0 (.tmp 0) := by have e := hargs 0 _ rfl; show Ty.has _ _ _; rw [e]; exact Ty.up _ hle hv0
 clear hargs; refine wp_seq ?_
 refine rg a0 s0 [(Ty.ref [(Ty.val (Value.string nm)), (Ty.int n), (Ty.lst Ty.ints l)]), (Ty.val (Value.slice none 0 0)), (Ty.bool false), (Ty.int (0 : Int))] ok0 ⟨?_, ?_, ?_, ?_, trivial⟩ ?_
 · intro A B E G H; exact rP (y_boxagg (kp (H 0 rfl) E p0))
 · intro A B E G H; exact rP (y_assign rfl)
 · intro A B E G H d0; exact rP (y_assign rfl)
 · intro A B E G H d0; exact rP (y_assign rfl)
 intro a1 s1 D1; have ok1 := D1.ok; have F1 := F0.step0 D1.stp; have q1 := D1.dn 0 rfl rfl; have q2 := D1.dn 1 rfl rfl; have q3 := D1.dn 2 rfl rfl; clear D1; refine tn ?_; refine wp_seq ?_
 refine rg a1 s1 [(Ty.agg [(Ty.val (Value.string nm)), (Ty.int n), (Ty.lst Ty.ints l)]), (Ty.tup2 (Ty.lst Ty.ints (if methMay nm n l = 0 then fromL (roundsL n.toNat) l else [])) (Ty.int (methMay nm n l))), (Ty.tup2 (Ty.lst Ty.ints (if methMay nm n l = 0 then fromL (roundsL n.toNat) l else [])) (Ty.int (methMay nm n l))), (Ty.lst Ty.ints (if methMay nm n l = 0 then fromL (roundsL n.toNat) l else [])), (Ty.int (methMay nm n l)), (Ty.lst Ty.ints (if methMay nm n l = 0 then fromL (roundsL n.toNat) l else [])), (Ty.int (methMay nm n l))] ok1 ⟨?_, ?_, ?_, ?_, ?_, ?_, ?_, trivial⟩ ?_
 · intro A B E G H; exact rP (y_loadagg Try.underlying31 Try.inf31 (kp (H 1 rfl) E q1))
 · intro A B E G H d0; exact rP (y_call #[A.eval (.tmp 14)] Try.func58 rfl rfl (by simp only [List.map_toArray, List.map_cons, List.map_nil]) (lead_fn (nm) (n) (l) _ _ (ed d0 rfl rfl rfl) (by first | omega | assumption) (by first | omega | assumption)))
 · intro A B E G H d0; exact rP (y_move (ed d0 rfl rfl rfl))
 · intro A B E G H d0; exact rP (y_ext2_0 (ed d0 rfl rfl rfl))
 · intro A B E G H d0 d1; exact rP (y_ext2_1 (ed d0 rfl rfl rfl))
 · intro A B E G H d0 d1 d2 d3 d4 d5 d6; exact rP (y_assign (ed d0 rfl rfl rfl))
 · intro A B E G H d0 d1 d2 d3 d4 d5 d6 d7; exact rP (y_assign (ed d0 rfl rfl rfl))
 intro a2 s2 D2; have ok2 := D2.ok; have F2 := F1.step0 D2.stp; have q4 := D2.kt q2 rfl; have q5 := D2.kt q3 rfl; have q6 := D2.dn 5 rfl rfl; have q7 := D2.dn 6 rfl rfl; clear D2; refine tn ?_; refine wp_seq ?_; refine wp_seq ?_
 refine rg a2 s2 [(Ty.int (methMay nm n l)), (Ty.bool (decide ((methMay nm n l) ≠ (0 : Int))))] ok2 ⟨?_, ?_, trivial⟩ ?_
 · intro A B E G H; exact rP (y_move (kp (H 4 rfl) E q7))
 · intro A B E G H d0; exact rP (y_neq (ed d0 rfl rfl rfl) rfl)
 intro a3 s3 D3; have ok3 := D3.ok; have F3 := F2.step0 D3.stp; have q8 := D3.kt q4 rfl; have q9 := D3.kt q5 rfl; have q10 := D3.kt q6 rfl; have q11 := D3.kt q7 rfl; have q12 := D3.dn 1 rfl rfl; clear D3; refine tn ?_
 refine cond_p (p := ((methMay nm n l) ≠ (0 : Int))) q12 (fun c1 => ?_) (fun c1 => ?_)
 ·
  refine wp_seq ?_
  refine rg a3 s3 [(Ty.int (methMay nm n l)), (Ty.val (Value.slice none 0 0)), (Ty.bool false), (Ty.int (methMay nm n l))] ok3 ⟨?_, ?_, ?_, ?_, trivial⟩ ?_
  · intro A B E G H d0; exact rP (y_move (kp (H 4 rfl) E q11))
  · intro A B E G H d0; exact rP (y_assign rfl)
  · intro A B E G H d0 d1 d2; exact rP (y_assign rfl)
  · intro A B E G H d0 d1 d2 d3 d4; exact rP (y_assign (ed d0 rfl rfl rfl))
  intro a4 s4 D4; have ok4 := D4.ok; have F4 := F3.step0 D4.stp; have q13 := D4.dn 1 rfl rfl; have q14 := D4.dn 2 rfl rfl; have q15 := D4.dn 3 rfl rfl; clear D4; refine tn ?_; refine wp_ret ?_; refine tr ?_
  exact retL3 rfl ok4 F4 (hasT3 (nil_lst (by (rw [if_neg c1])) q13) (cvb (by (rw [if_neg c1])) q14) q15)
 ·
  have h0 := Classical.not_not.1 c1; obtain ⟨hmo, hnn⟩ := methMay_ok' h0; have hm1 := hmo.n1; have hm2 := hmo.n2; have hml := hmo.l2; have hml1 := hmo.l1; have hrl := roundsL_len n.toNat; have hfl := fromL_len (roundsL n.toNat) l; obtain ⟨hhr, hhl⟩ := hmo.head; have hrm := rowMay_ok.2 hhr; have hol := ordTo_le hhr _ (Nat.le_refl _); have hn1 := hmo.n1; have hn2 := hmo.n2; obtain ⟨RT, hRT⟩ : ∃ RT, RT = ((fromL (roundsL n.toNat) l).take l.length) := ⟨_, rfl⟩; have hfl := fromL_len (roundsL n.toNat) l; have hRl : RT.length = l.length := (by rw [hRT, List.length_take]; omega); have hrw : ∀ i, i < RT.length → IsRow (RT.getD i []) ∧ (RT.getD i []).length = n.toNat := (fun i hi => by (rw [hRT, getD_takeD [] (by omega), fromL_get (by omega)]; exact curL_row (by omega) (by omega) hmo.ok i (by omega))); have hmm : RT.length * RT.length ≤ 200 * 200 := Nat.mul_le_mul (by omega) (by omega)
  have q16 : At (Ty.lst Ty.ints (fromL (roundsL n.toNat) l)) s3 a3 (.tmp 5) := cvt (T := (Ty.lst Ty.ints (if methMay nm n l = 0 then fromL (roundsL n.toNat) l else []))) (U := (Ty.lst Ty.ints (fromL (roundsL n.toNat) l))) (by rw [if_pos h0]) q10
  refine wp_skip ?_; refine tn ?_; refine wp_seq ?_
  refine rg a3 s3 [(Ty.lst Ty.ints (fromL (roundsL n.toNat) l)), (Ty.lst Ty.ints (fromL (roundsL n.toNat) l)), (Ty.nat (List.length (fromL (roundsL n.toNat) l))), (Ty.nat ((List.length (fromL (roundsL n.toNat) l)) - 1)), (Ty.lst Ty.ints ((fromL (roundsL n.toNat) l).take ((List.length (fromL (roundsL n.toNat) l)) - 1))), (Ty.lst Ty.ints ((fromL (roundsL n.toNat) l).take ((List.length (fromL (roundsL n.toNat) l)) - 1)))] ok3 ⟨?_, ?_, ?_, ?_, ?_, ?_, trivial⟩ ?_
  · intro A B E G H; exact rP (y_move (kp (H 5 rfl) E q16))
  · intro A B E G H; exact rP (y_move (kp (H 5 rfl) E q16))
  · intro A B E G H d0; exact rP (y_len Try.underlying29 (ed d0 rfl rfl rfl))
  · intro A B E G H d0; exact rP ((y_sub (ed d0 rfl rfl rfl) rfl (w64 (by omega) (by omega))).mono (fun τ _ h => cvi (σ := τ) (by omega) h))
  · intro A B E G H d0 d1; exact rP (y_take Try.underlying29 Try.inf23 (ed d0 rfl rfl rfl) (ed d1 rfl rfl rfl) (by omega))
  · intro A B E G H d0 d1 d2 d3 d4 d5; exact rP (y_assign (ed d0 rfl rfl rfl))
  intro a5 s5 D5; have ok5 := D5.ok; have F5 := F3.step0 D5.stp; have q17 := D5.kt q8 rfl; have q18 := D5.kt q9 rfl; have q19 := D5.dn 5 rfl rfl; clear D5
  have q20 : At (Ty.lst Ty.ints RT) s5 a5 (.tmp 5) := (cvt (by (rw [hRT, hfl]; rfl)) q19)
  refine tn ?_; refine wp_seq ?_
  refine reg2 (a := a5) (σ := s5) rfl 1 (fun i_ => List.getD [(Pr.ownm Ty.int kI 6 (fun _ => none : Int → Option Int))] i_ Pr.any) ok5 rfl (by decide) rfl ⟨?_, trivial⟩ ?_
  · intro A B E G H; exact rP (y_makemap 6)
  intro a6 s6 D6; have ok6 := D6.ok; have F6 := F5.step0 D6.stp; have q21 := D6.kt q17 rfl; have q22 := D6.kt q18 rfl; have q23 := D6.kt q20 rfl
  obtain ⟨x1, hx1⟩ : ∃ x, a6.eval (.tmp 26) = x := ⟨_, rfl⟩
  have q24 : At (Ty.val x1) s6 a6 (.tmp 26) := hx1
  have o1 : OwnM Ty.int kI s6 6 x1 (fun _ => none : Int → Option Int) := al2 (R := (Pr.ownm Ty.int kI 6 (fun _ => none : Int → Option Int))) hx1 (D6.done 0 (by decide))
  clear D6
  refine tailL (L := []) (R := (fun v τ => Pr.has (Ty.pr (Ty.val x1)) τ v)) rfl rfl (by decide) ok6 (Yld.toL (y_assign q24)) (fun a7 s7 hs1 ok7 r1 sm1 => ?_)
  have F7 := F6.stepL hs1 (by decide); have q25 := kpL hs1 (by decide) (sm1 2 (by decide)) q21; have q26 := kpL hs1 (by decide) (sm1 3 (by decide)) q22; have q27 := kpL hs1 (by decide) (sm1 5 (by decide)) q23; have o2 := OwnM.keepL o1 hs1 (by decide) (by decide)
  have q28 : At (Ty.val x1) s7 a7 (.tmp 6) := r1
  clear r1; refine wpList_nil ?_; refine tn ?_; refine wp_seq ?_; refine wp_seq ?_
  refine rg a7 s7 [(Ty.lst Ty.ints RT), (Ty.nat (List.length RT)), (Ty.int (0 : Int))] ok7 ⟨?_, ?_, ?_, trivial⟩ ?_
  · intro A B E G H; exact rP (y_move (kp (H 5 rfl) E q27))
  · intro A B E G H d0; exact rP (y_len Try.underlying29 (ed d0 rfl rfl rfl))
  · intro A B E G H; exact rP (y_move rfl)
  intro a8 s8 D7; have ok8 := D7.ok; have F8 := F7.step0 D7.stp; have q29 := D7.kt q25 rfl; have q30 := D7.kt q26 rfl; have q31 := D7.kt q27 rfl; have q32 := D7.kt q28 rfl; have o3 := OwnM.k0 o2 D7.stp; have q33 := D7.dn 0 rfl rfl; have q34 := D7.dn 1 rfl rfl; have q35 := D7.dn 2 rfl rfl; clear D7; refine tn ?_; refine wp_block ?_
  have o4 : Own s8 5 23 1 (Value.slice none 0 0) 0 (List.map Ty.ints ([] : List (List Int))) := Own.nil _ _ _ _
  refine loop (fun n1 a9 w1 => ∃ (t1 : GW) (i : Nat) (D : List (List Int)) (f1 : Int → Option Int) (x2_0 x6_0 : Value), t1.w = w1 ∧ FromL [] s0 t1 ∧ Ok 73 a9 ∧ At (Ty.nat i) t1 a9 (.tmp 29) ∧ At (Ty.bool (sfTo RT RT.length i)) t1 a9 (.tmp 3) ∧ At (Ty.val x2_0) t1 a9 (.tmp 2) ∧ At (Ty.val x6_0) t1 a9 (.tmp 6) ∧ At (Ty.lst Ty.ints RT) t1 a9 (.tmp 5) ∧ At (Ty.lst Ty.ints RT) t1 a9 (.tmp 27) ∧ At (Ty.nat (List.length RT)) t1 a9 (.tmp 28) ∧ Own t1 5 23 1 x2_0 (List.length D) (List.map Ty.ints D) ∧ OwnM Ty.int kI t1 6 x6_0 f1 ∧ (i ≤ RT.length) ∧ (Cnt (enTo RT RT.length i) D f1 (i * RT.length)) ∧ (D.length ≤ i * RT.length) ∧ n1 = RT.length - i) (RT.length - (0)) ?_ ?_
  ·
   exact ⟨s8, 0, ([] : List (List Int)), (fun _ => none), (Value.slice none 0 0), x1, rfl, F8, ok8, (cvi (by (first | rfl | omega | (simp_all; done) | (simp_all; omega))) q35), (cvb (by (rfl)) q30), q29, q32, q31, q33, q34, (cvo (by (simp)) (by (simp)) o4), (cvm (by (rfl)) o3), by omega, by rw [Nat.zero_mul]; exact cnt_zero, by simp, rfl⟩
  ·
   rintro n2 a10 w2 ⟨t2, i, D, f1, x2_0, x6_0, rfl, F9, ok9, q36, q37, q38, q39, q40, q41, q42, o5, o6, hi, hc, hDl, rfl⟩
   refine wp_seq ?_
   refine reg (a := a10) (σ := t2) rfl (fun i_ => List.getD [(Ty.pr (Ty.bool (decide (((i : Nat) : Int) < (((List.length RT) : Nat) : Int)))))] i_ Pr.any) ok9 rfl ⟨?_, trivial⟩ ?_
   · intro A B E G H; exact rP (y_lss (kp (H 29 rfl) E q36) (kp (H 28 rfl) E q42))
   intro a11 s9 D8; have ok10 := D8.ok; have F10 := F9.step0 D8.stp; have q43 := D8.kt q36 rfl; have q44 := D8.kt q37 rfl; have q45 := D8.kt q38 rfl; have q46 := D8.kt q39 rfl; have q47 := D8.kt q40 rfl; have q48 := D8.kt q41 rfl; have q49 := D8.kt q42 rfl; have o7 := Own.k0 o5 D8.stp; have o8 := OwnM.k0 o6 D8.stp; have q50 := D8.dn 0 rfl rfl; clear D8; refine tn ?_; refine wp_seq ?_
   refine cond_p (p := (((i : Nat) : Int) < (((List.length RT) : Nat) : Int))) q50 (fun c2 => ?_) (fun c2 => ?_)
   ·
    refine wp_skip ?_; refine tn ?_; refine wp_seq ?_; refine wp_block ?_; refine wp_seq ?_
    refine rg a11 s9 [(Ty.nat i), (Ty.ref [(Ty.lst Ty.int (RT.getD i []))]), (Ty.lst Ty.int (RT.getD i [])), (Ty.nat i), (Ty.lst Ty.int (RT.getD i []))] ok10 ⟨?_, ?_, ?_, ?_, ?_, trivial⟩ ?_
    · intro A B E G H; exact rP (y_move (kp (H 29 rfl) E q43))
    · intro A B E G H; exact rP (y_index1 Try.underlying29 Try.inf23 (kp (H 27 rfl) E q48) (kp (H 29 rfl) E q43) (by omega) (lst_get Ty.ints RT [] i (by omega)))
    · intro A B E G H d0; exact rP (y_load Try.underlying23 rfl (ed d0 rfl rfl rfl) rfl)
    · intro A B E G H d0 d1 d2 d3; exact rP (y_assign (ed d0 rfl rfl rfl))
    · intro A B E G H d0 d1 d2 d3 d4 d5; exact rP (y_assign (ed d0 rfl rfl rfl))
    intro a12 s10 D9; have ok11 := D9.ok; have F11 := F10.step0 D9.stp; have q51 := D9.kt q43 rfl; have q52 := D9.kt q44 rfl; have q53 := D9.kt q45 rfl; have q54 := D9.kt q46 rfl; have q55 := D9.kt q47 rfl; have q56 := D9.kt q48 rfl; have q57 := D9.kt q49 rfl; have o9 := Own.k0 o7 D9.stp; have o10 := OwnM.k0 o8 D9.stp; have q58 := D9.dn 3 rfl rfl; have q59 := D9.dn 4 rfl rfl; clear D9; refine tn ?_; refine wp_seq ?_
    refine rg a12 s10 [(Ty.lst Ty.ints RT), (Ty.nat (List.length RT)), (Ty.int (0 : Int))] ok11 ⟨?_, ?_, ?_, trivial⟩ ?_
    · intro A B E G H; exact rP (y_move (kp (H 5 rfl) E q55))
    · intro A B E G H d0; exact rP (y_len Try.underlying29 (ed d0 rfl rfl rfl))
    · intro A B E G H; exact rP (y_move rfl)
    intro a13 s11 D10; have ok12 := D10.ok; have F12 := F11.step0 D10.stp; have q60 := D10.kt q51 rfl; have q61 := D10.kt q52 rfl; have q62 := D10.kt q53 rfl; have q63 := D10.kt q54 rfl; have q64 := D10.kt q55 rfl; have q65 := D10.kt q56 rfl; have q66 := D10.kt q57 rfl; have q67 := D10.kt q58 rfl; have q68 := D10.kt q59 rfl; have o11 := Own.k0 o9 D10.stp; have o12 := OwnM.k0 o10 D10.stp; have q69 := D10.dn 0 rfl rfl; have q70 := D10.dn 1 rfl rfl; have q71 := D10.dn 2 rfl rfl; clear D10; refine tn ?_; refine wp_block ?_
    refine loop (fun n3 a14 w3 => ∃ (t3 : GW) (k : Nat) (D2 : List (List Int)) (f2 : Int → Option Int) (x2_1 x6_1 : Value), t3.w = w3 ∧ FromL [] s0 t3 ∧ Ok 73 a14 ∧ At (Ty.nat k) t3 a14 (.tmp 36) ∧ At (Ty.bool (sfTo RT RT.length i || sfRow RT i k)) t3 a14 (.tmp 3) ∧ At (Ty.val x2_1) t3 a14 (.tmp 2) ∧ At (Ty.val x6_1) t3 a14 (.tmp 6) ∧ At (Ty.nat i) t3 a14 (.tmp 29) ∧ At (Ty.lst Ty.ints RT) t3 a14 (.tmp 5) ∧ At (Ty.lst Ty.ints RT) t3 a14 (.tmp 27) ∧ At (Ty.nat (List.length RT)) t3 a14 (.tmp 28) ∧ At (Ty.nat i) t3 a14 (.tmp 7) ∧ At (Ty.lst Ty.int (RT.getD i [])) t3 a14 (.tmp 8) ∧ At (Ty.lst Ty.ints RT) t3 a14 (.tmp 34) ∧ At (Ty.nat (List.length RT)) t3 a14 (.tmp 35) ∧ Own t3 5 23 1 x2_1 (List.length D2) (List.map Ty.ints D2) ∧ OwnM Ty.int kI t3 6 x6_1 f2 ∧ (k ≤ RT.length) ∧ (Cnt (enTo RT RT.length i ++ enRow RT i k) D2 f2 (i * RT.length + k)) ∧ (D2.length ≤ i * RT.length + k) ∧ n3 = RT.length - k) (RT.length - (0)) ?_ ?_
    ·
     exact ⟨s11, 0, D, f1, x2_0, x6_0, rfl, F12, ok12, (cvi (by (first | rfl | omega | (simp_all; done) | (simp_all; omega))) q71), (cvb (by (rw [sfRow_zero, Bool.or_false])) q61), q62, q63, q60, q64, q65, q66, q67, q68, q69, q70, (cvo (by (simp)) (by (simp)) o11), (cvm (by (rfl)) o12), by omega, by rw [enRow_zero, List.append_nil]; exact hc, by omega, rfl⟩
    ·
     rintro n4 a15 w4 ⟨t4, k, D2, f2, x2_1, x6_1, rfl, F13, ok13, q72, q73, q74, q75, q76, q77, q78, q79, q80, q81, q82, q83, o13, o14, hk, hc2, hDl2, rfl⟩
     refine wp_seq ?_
     refine reg (a := a15) (σ := t4) rfl (fun i_ => List.getD [(Ty.pr (Ty.bool (decide (((k : Nat) : Int) < (((List.length RT) : Nat) : Int)))))] i_ Pr.any) ok13 rfl ⟨?_, trivial⟩ ?_
     · intro A B E G H; exact rP (y_lss (kp (H 36 rfl) E q72) (kp (H 35 rfl) E q83))
     intro a16 s12 D11; have ok14 := D11.ok; have F14 := F13.step0 D11.stp; have q84 := D11.kt q72 rfl; have q85 := D11.kt q73 rfl; have q86 := D11.kt q74 rfl; have q87 := D11.kt q75 rfl; have q88 := D11.kt q76 rfl; have q89 := D11.kt q77 rfl; have q90 := D11.kt q78 rfl; have q91 := D11.kt q79 rfl; have q92 := D11.kt q80 rfl; have q93 := D11.kt q81 rfl; have q94 := D11.kt q82 rfl; have q95 := D11.kt q83 rfl; have o15 := Own.k0 o13 D11.stp; have o16 := OwnM.k0 o14 D11.stp; have q96 := D11.dn 0 rfl rfl; clear D11; refine tn ?_; refine wp_seq ?_
     refine cond_p (p := (((k : Nat) : Int) < (((List.length RT) : Nat) : Int))) q96 (fun c3 => ?_) (fun c3 => ?_)
     ·
      obtain ⟨hri, hli⟩ := hrw i (by omega); obtain ⟨hrk, hlk⟩ := hrw k (by omega); obtain ⟨hu1, hu2⟩ := undo_row hrk; have hul := undoL_len (RT.getD k []); have hbd_ : ∀ j, j < (undoL (RT.getD k [])).length → 0 ≤ (undoL (RT.getD k [])).getD j 0 ∧ (undoL (RT.getD k [])).getD j 0 < ((RT.getD i []).length : Int) := (fun j hj => by have := hu1.bds j hj; omega); have hln := hri.le; have hHr : IsRow (hhL RT i k) ∧ (hhL RT i k).length = n.toNat := hh_row hri hrk (by omega) hlk; have hHl := hHr.2; have hikm : i * RT.length + RT.length ≤ RT.length * RT.length := (by rw [← Nat.succ_mul]; exact Nat.mul_le_mul_right _ (by omega)); have hHr1 := hHr.1
      refine wp_skip ?_; refine tn ?_; refine wp_seq ?_; refine wp_block ?_; refine wp_seq ?_
      refine rg a16 s12 [(Ty.nat k), (Ty.ref [(Ty.lst Ty.int (RT.getD k []))]), (Ty.lst Ty.int (RT.getD k [])), (Ty.nat k), (Ty.lst Ty.int (RT.getD k []))] ok14 ⟨?_, ?_, ?_, ?_, ?_, trivial⟩ ?_
      · intro A B E G H; exact rP (y_move (kp (H 36 rfl) E q84))
      · intro A B E G H; exact rP (y_index1 Try.underlying29 Try.inf23 (kp (H 34 rfl) E q94) (kp (H 36 rfl) E q84) (by omega) (lst_get Ty.ints RT [] k (by omega)))
      · intro A B E G H d0; exact rP (y_load Try.underlying23 rfl (ed d0 rfl rfl rfl) rfl)
      · intro A B E G H d0 d1 d2 d3; exact rP (y_assign (ed d0 rfl rfl rfl))
      · intro A B E G H d0 d1 d2 d3 d4 d5; exact rP (y_assign (ed d0 rfl rfl rfl))
      intro a17 s13 D12; have ok15 := D12.ok; have F15 := F14.step0 D12.stp; have q97 := D12.kt q84 rfl; have q98 := D12.kt q85 rfl; have q99 := D12.kt q86 rfl; have q100 := D12.kt q87 rfl; have q101 := D12.kt q88 rfl; have q102 := D12.kt q89 rfl; have q103 := D12.kt q90 rfl; have q104 := D12.kt q91 rfl; have q105 := D12.kt q92 rfl; have q106 := D12.kt q93 rfl; have q107 := D12.kt q94 rfl; have q108 := D12.kt q95 rfl; have o17 := Own.k0 o15 D12.stp; have o18 := OwnM.k0 o16 D12.stp; have q109 := D12.dn 3 rfl rfl; have q110 := D12.dn 4 rfl rfl; clear D12; refine tn ?_; refine wp_seq ?_
      refine rg a17 s13 [(Ty.lst Ty.int (RT.getD i [])), (Ty.lst Ty.int (RT.getD k [])), (Ty.lst Ty.int (undoL ((RT.getD k [])))), (Ty.lst Ty.int (hhL RT i k)), (Ty.lst Ty.int (hhL RT i k))] ok15 ⟨?_, ?_, ?_, ?_, ?_, trivial⟩ ?_
      · intro A B E G H; exact rP (y_move (kp (H 8 rfl) E q106))
      · intro A B E G H; exact rP (y_move (kp (H 10 rfl) E q110))
      · intro A B E G H d0; exact rP (y_call #[A.eval (.tmp 42)] Try.func56 rfl rfl (by simp only [List.map_toArray, List.map_cons, List.map_nil]) (inverse_fn ((RT.getD k [])) _ _ (ed d0 rfl rfl rfl) (by assumption)))
      · intro A B E G H d0 d1 d2; exact rP ((y_call #[A.eval (.tmp 41), A.eval (.tmp 43)] Try.func57 rfl rfl (by simp only [List.map_toArray, List.map_cons, List.map_nil]) (product_fn ((RT.getD i [])) ((undoL ((RT.getD k [])))) _ _ _ (ed d0 rfl rfl rfl) (ed d1 rfl rfl rfl) (by first | assumption | omega) (by first | assumption | omega) (by first | assumption | omega))).mono (fun τ _ h => cvt (σ := τ) (T := (Ty.lst Ty.int (byL ((RT.getD i [])) ((undoL ((RT.getD k []))))))) (U := (Ty.lst Ty.int (hhL RT i k))) (by rfl) h))
      · intro A B E G H d0 d1 d2 d3 d4 d5; exact rP (y_assign (ed d0 rfl rfl rfl))
      intro a18 s14 D13; have ok16 := D13.ok; have F16 := F15.step0 D13.stp; have q111 := D13.kt q97 rfl; have q112 := D13.kt q98 rfl; have q113 := D13.kt q99 rfl; have q114 := D13.kt q100 rfl; have q115 := D13.kt q101 rfl; have q116 := D13.kt q102 rfl; have q117 := D13.kt q103 rfl; have q118 := D13.kt q104 rfl; have q119 := D13.kt q105 rfl; have q120 := D13.kt q106 rfl; have q121 := D13.kt q107 rfl; have q122 := D13.kt q108 rfl; have q123 := D13.kt q109 rfl; have o19 := Own.k0 o17 D13.stp; have o20 := OwnM.k0 o18 D13.stp; have q124 := D13.dn 4 rfl rfl; clear D13; refine tn ?_; refine wp_seq ?_
      refine rg a18 s14 [(Ty.lst Ty.int (hhL RT i k)), (Ty.nat (rankL ((hhL RT i k)))), (Ty.nat (rankL ((hhL RT i k))))] ok16 ⟨?_, ?_, ?_, trivial⟩ ?_
      · intro A B E G H; exact rP (y_move (kp (H 11 rfl) E q124))
      · intro A B E G H d0; exact rP (y_call #[A.eval (.tmp 45)] Try.func55 rfl rfl (by simp only [List.map_toArray, List.map_cons, List.map_nil]) (rowPlace_fn ((hhL RT i k)) _ _ (ed d0 rfl rfl rfl) (by omega)))
      · intro A B E G H d0 d1 d2 d3; exact rP (y_assign (ed d0 rfl rfl rfl))
      intro a19 s15 D14; have ok17 := D14.ok; have F17 := F16.step0 D14.stp; have q125 := D14.kt q111 rfl; have q126 := D14.kt q112 rfl; have q127 := D14.kt q113 rfl; have q128 := D14.kt q114 rfl; have q129 := D14.kt q115 rfl; have q130 := D14.kt q116 rfl; have q131 := D14.kt q117 rfl; have q132 := D14.kt q118 rfl; have q133 := D14.kt q119 rfl; have q134 := D14.kt q120 rfl; have q135 := D14.kt q121 rfl; have q136 := D14.kt q122 rfl; have q137 := D14.kt q123 rfl; have q138 := D14.kt q124 rfl; have o21 := Own.k0 o19 D14.stp; have o22 := OwnM.k0 o20 D14.stp; have q139 := D14.dn 2 rfl rfl; clear D14; refine tn ?_; refine wp_seq ?_; refine wp_seq ?_
      refine rg a19 s15 [(Ty.nat (rankL ((hhL RT i k)))), (Ty.bool (decide ((((rankL ((hhL RT i k))) : Nat) : Int) = (0 : Int))))] ok17 ⟨?_, ?_, trivial⟩ ?_
      · intro A B E G H; exact rP (y_move (kp (H 12 rfl) E q139))
      · intro A B E G H d0; exact rP (y_eql (ed d0 rfl rfl rfl) rfl)
      intro a20 s16 D15; have ok18 := D15.ok; have F18 := F17.step0 D15.stp; have q140 := D15.kt q125 rfl; have q141 := D15.kt q126 rfl; have q142 := D15.kt q127 rfl; have q143 := D15.kt q128 rfl; have q144 := D15.kt q129 rfl; have q145 := D15.kt q130 rfl; have q146 := D15.kt q131 rfl; have q147 := D15.kt q132 rfl; have q148 := D15.kt q133 rfl; have q149 := D15.kt q134 rfl; have q150 := D15.kt q135 rfl; have q151 := D15.kt q136 rfl; have q152 := D15.kt q137 rfl; have q153 := D15.kt q138 rfl; have q154 := D15.kt q139 rfl; have o23 := Own.k0 o21 D15.stp; have o24 := OwnM.k0 o22 D15.stp; have q155 := D15.dn 1 rfl rfl; clear D15; refine tn ?_
      refine cond_p (p := ((((rankL ((hhL RT i k))) : Nat) : Int) = (0 : Int))) q155 (fun c4 => ?_) (fun c4 => ?_)
      ·
       have hz : rankL (hhL RT i k) = 0 := (by omega)
       refine wp_seq ?_
       refine rg a20 s16 [(Ty.bool (sfTo RT RT.length i || sfRow RT i k)), (Ty.bool (sfTo RT RT.length i || sfRow RT i k)), (Ty.grd ((sfTo RT RT.length i || sfRow RT i k) = false) (Ty.nat i)), (Ty.grd ((sfTo RT RT.length i || sfRow RT i k) = false) (Ty.nat k)), (Ty.grd ((sfTo RT RT.length i || sfRow RT i k) = false) (Ty.bool (decide (((i : Nat) : Int) ≠ ((k : Nat) : Int))))), (Ty.bool ((sfTo RT RT.length i || sfRow RT i k) || (decide (((i : Nat) : Int) ≠ ((k : Nat) : Int))))), (Ty.bool ((sfTo RT RT.length i || sfRow RT i k) || (decide (((i : Nat) : Int) ≠ ((k : Nat) : Int)))))] ok18 ⟨?_, ?_, ?_, ?_, ?_, ?_, ?_, trivial⟩ ?_
       · intro A B E G H; exact rP (y_move (kp (H 3 rfl) E q141))
       · intro A B E G H d0; exact rP (y_move (ed d0 rfl rfl rfl))
       · intro A B E G H d0
         refine run_guard G rfl rfl (by decide) (ed d0 rfl rfl rfl) (fun hg => ?_)
         exact y_move (kp (H 7 rfl) E q148)
       · intro A B E G H d0
         refine run_guard G rfl rfl (by decide) (ed d0 rfl rfl rfl) (fun hg => ?_)
         exact y_move (kp (H 9 rfl) E q152)
       · intro A B E G H d0 d1 d2
         refine run_guard G rfl rfl (by decide) (ed d2 rfl rfl rfl) (fun hg => ?_)
         exact y_neq ((ed d0 rfl rfl rfl).1 hg) ((ed d1 rfl rfl rfl).1 hg)
       · intro A B E G H d0 d1; exact rP (y_pick_or (ed d0 rfl rfl rfl) rfl (ed d1 rfl rfl rfl))
       · intro A B E G H d0 d1 d2 d3 d4 d5 d6 d7; exact rP (y_assign (ed d0 rfl rfl rfl))
       intro a21 s17 D16; have ok19 := D16.ok; have F19 := F18.step0 D16.stp; have q156 := D16.kt q140 rfl; have q157 := D16.kt q142 rfl; have q158 := D16.kt q143 rfl; have q159 := D16.kt q144 rfl; have q160 := D16.kt q145 rfl; have q161 := D16.kt q146 rfl; have q162 := D16.kt q147 rfl; have q163 := D16.kt q148 rfl; have q164 := D16.kt q149 rfl; have q165 := D16.kt q150 rfl; have q166 := D16.kt q151 rfl; have o25 := Own.k0 o23 D16.stp; have o26 := OwnM.k0 o24 D16.stp; have q167 := D16.dn 6 rfl rfl; clear D16; refine tn ?_; refine wp_exit ?_; refine tx ?_; refine bx ?_; refine tn ?_
       refine rg a21 s17 [(Ty.nat (k + 1)), (Ty.nat (k + 1))] ok19 ⟨?_, ?_, trivial⟩ ?_
       · intro A B E G H; exact rP ((y_add (kp (H 36 rfl) E q156) rfl (w64 (by omega) (by omega))).mono (fun τ _ h => cvi (σ := τ) (by first | omega | exact (Int.natCast_mul _ _).symm) h))
       · intro A B E G H d0; exact rP (y_move (ed d0 rfl rfl rfl))
       intro a22 s18 D17; have ok20 := D17.ok; have F20 := F19.step0 D17.stp; have q168 := D17.kt q157 rfl; have q169 := D17.kt q158 rfl; have q170 := D17.kt q159 rfl; have q171 := D17.kt q160 rfl; have q172 := D17.kt q161 rfl; have q173 := D17.kt q162 rfl; have q174 := D17.kt q163 rfl; have q175 := D17.kt q164 rfl; have q176 := D17.kt q165 rfl; have q177 := D17.kt q166 rfl; have q178 := D17.kt q167 rfl; have o27 := Own.k0 o25 D17.stp; have o28 := OwnM.k0 o26 D17.stp; have q179 := D17.dn 1 rfl rfl; clear D17
       exact tn ⟨RT.length - ((k+1)), by omega, s18, (k+1), D2, f2, x2_1, x6_1, rfl, F20, ok20, (cvi (by (first | rfl | omega | (simp_all; done) | (simp_all; omega))) q179), (cvb (by (rw [sfRow_yes hz, Bool.or_assoc])) q178), q168, q169, q170, q171, q172, q173, q174, q175, q176, q177, o27, o28, by omega, by rw [enRow_no hz]; exact cnt_more hc2 (by omega), by omega, rfl⟩
      ·
       have hz : ¬ rankL (hhL RT i k) = 0 := (by omega); have hlo : 0 ≤ (f2 ((rankL (hhL RT i k) : Nat) : Int)).getD 0 := hc2.lo _; have hhi : (f2 ((rankL (hhL RT i k) : Nat) : Int)).getD 0 ≤ ((i * RT.length + k : Nat) : Int) := hc2.hi _
       refine wp_skip ?_; refine tn ?_; refine wp_seq ?_
       refine reg2 (a := a20) (σ := s16) rfl 4 (fun i_ => List.getD [(Ty.pr (Ty.val x6_1)), (Ty.pr (Ty.nat (rankL ((hhL RT i k))))), (Ty.pr (Ty.int ((f2 (((rankL ((hhL RT i k))) : Nat) : Int)).getD 0))), (Ty.pr (Ty.int (((f2 (((rankL ((hhL RT i k))) : Nat) : Int)).getD 0) + (1 : Int))))] i_ Pr.any) ok18 rfl (by decide) rfl ⟨?_, ?_, ?_, ?_, trivial⟩ ?_
       · intro A B E G H; exact rP (y_move (kp (H 6 rfl) E q143))
       · intro A B E G H; exact rP (y_move (kp (H 12 rfl) E q154))
       · intro A B E G H d0 d1; exact rP (y_lookup (i := (((rankL ((hhL RT i k))) : Nat) : Int)) (z := 0) Try.underlying86 (keyInt Try.underlying3) Try.inf3 (fun _ => rfl) (OwnM.k0 o24 E) (ed d0 rfl rfl rfl) (ed d1 rfl rfl rfl))
       · intro A B E G H d0; exact rP (y_add (ed d0 rfl rfl rfl) rfl (w64 (by omega) (by omega)))
       intro a23 s19 D18; have ok21 := D18.ok; have F21 := F18.step0 D18.stp; have q180 := D18.kt q140 rfl; have q181 := D18.kt q141 rfl; have q182 := D18.kt q142 rfl; have q183 := D18.kt q143 rfl; have q184 := D18.kt q144 rfl; have q185 := D18.kt q145 rfl; have q186 := D18.kt q146 rfl; have q187 := D18.kt q147 rfl; have q188 := D18.kt q148 rfl; have q189 := D18.kt q149 rfl; have q190 := D18.kt q150 rfl; have q191 := D18.kt q151 rfl; have q192 := D18.kt q153 rfl; have q193 := D18.kt q154 rfl; have o29 := Own.k0 o23 D18.stp; have o30 := OwnM.k0 o24 D18.stp
       have q194 : At (Ty.val x6_1) s19 a23 (.tmp 55) := D18.done 0 (by decide)
       have q195 := D18.dn 1 (by decide) rfl rfl; have q196 := D18.dn 3 (by decide) rfl rfl; clear D18
       refine tailL0 (L := [6]) (R := (fun _ τ => OwnM Ty.int kI τ 6 x6_1 (fun x_ => if x_ = (((rankL ((hhL RT i k))) : Nat) : Int) then some (((f2 (((rankL ((hhL RT i k))) : Nat) : Int)).getD 0) + (1 : Int)) else f2 x_))) rfl rfl (YldM.toL (m_mapset (i := (((rankL ((hhL RT i k))) : Nat) : Int)) Try.underlying86 (keyInt Try.underlying3) (by decide) o30 q194 q195 q196)) (fun v1 s20 hs2 r2 => ?_)
       have F22 := F21.stepL hs2 (by decide); have q197 := kpL hs2 (by decide) rfl q180; have q198 := kpL hs2 (by decide) rfl q181; have q199 := kpL hs2 (by decide) rfl q182; have q200 := kpL hs2 (by decide) rfl q183; have q201 := kpL hs2 (by decide) rfl q184; have q202 := kpL hs2 (by decide) rfl q185; have q203 := kpL hs2 (by decide) rfl q186; have q204 := kpL hs2 (by decide) rfl q187; have q205 := kpL hs2 (by decide) rfl q188; have q206 := kpL hs2 (by decide) rfl q189; have q207 := kpL hs2 (by decide) rfl q190; have q208 := kpL hs2 (by decide) rfl q191; have q209 := kpL hs2 (by decide) rfl q192; have q210 := kpL hs2 (by decide) rfl q193; have o32 := Own.keepL o29 hs2 (by decide) (by decide)
       have o31 : OwnM Ty.int kI s20 6 x6_1 (fun x_ => if x_ = (((rankL ((hhL RT i k))) : Nat) : Int) then some (((f2 (((rankL ((hhL RT i k))) : Nat) : Int)).getD 0) + (1 : Int)) else f2 x_) := r2
       clear r2; refine wpList_nil ?_; refine tn ?_; refine wp_seq ?_
       refine rg a23 s20 [(Ty.val x6_1), (Ty.nat (rankL ((hhL RT i k)))), (Ty.int (((fun x_ => if x_ = (((rankL ((hhL RT i k))) : Nat) : Int) then some (((f2 (((rankL ((hhL RT i k))) : Nat) : Int)).getD 0) + (1 : Int)) else f2 x_) (((rankL ((hhL RT i k))) : Nat) : Int)).getD 0)), (Ty.bool (decide ((((fun x_ => if x_ = (((rankL ((hhL RT i k))) : Nat) : Int) then some (((f2 (((rankL ((hhL RT i k))) : Nat) : Int)).getD 0) + (1 : Int)) else f2 x_) (((rankL ((hhL RT i k))) : Nat) : Int)).getD 0) = (1 : Int))))] ok21 ⟨?_, ?_, ?_, ?_, trivial⟩ ?_
       · intro A B E G H; exact rP (y_move (kp (H 6 rfl) E q200))
       · intro A B E G H; exact rP (y_move (kp (H 12 rfl) E q210))
       · intro A B E G H d0 d1; exact rP (y_lookup (i := (((rankL ((hhL RT i k))) : Nat) : Int)) (z := 0) Try.underlying86 (keyInt Try.underlying3) Try.inf3 (fun _ => rfl) (OwnM.k0 o31 E) (ed d0 rfl rfl rfl) (ed d1 rfl rfl rfl))
       · intro A B E G H d0; exact rP (y_eql (ed d0 rfl rfl rfl) rfl)
       intro a24 s21 D19; have ok22 := D19.ok; have F23 := F22.step0 D19.stp; have q212 := D19.kt q197 rfl; have q213 := D19.kt q198 rfl; have q214 := D19.kt q199 rfl; have q215 := D19.kt q200 rfl; have q216 := D19.kt q201 rfl; have q217 := D19.kt q202 rfl; have q218 := D19.kt q203 rfl; have q219 := D19.kt q204 rfl; have q220 := D19.kt q205 rfl; have q221 := D19.kt q206 rfl; have q222 := D19.kt q207 rfl; have q223 := D19.kt q208 rfl; have q224 := D19.kt q209 rfl; have o33 := Own.k0 o32 D19.stp; have o34 := OwnM.k0 o31 D19.stp; have q225 := D19.dn 3 rfl rfl; clear D19; refine tn ?_
       refine cond_p (p := ((((fun x_ => if x_ = (((rankL ((hhL RT i k))) : Nat) : Int) then some (((f2 (((rankL ((hhL RT i k))) : Nat) : Int)).getD 0) + (1 : Int)) else f2 x_) (((rankL ((hhL RT i k))) : Nat) : Int)).getD 0) = (1 : Int))) q225 (fun c5 => ?_) (fun c5 => ?_)
       ·
        have h61 : (f2 (rkI (hhL RT i k))).getD 0 + 1 = 1 := (by simpa using c5)
        refine reg2 (a := a24) (σ := s21) rfl 3 (fun i_ => List.getD [(Ty.pr (Ty.val x2_1)), (Ty.pr (Ty.lst Ty.int (hhL RT i k))), (Ty.pr (Ty.sl 1 1 [(Ty.lst Ty.int (hhL RT i k))]))] i_ Pr.any) ok22 rfl (by decide) rfl ⟨?_, ?_, ?_, trivial⟩ ?_
        · intro A B E G H; exact rP (y_move (kp (H 2 rfl) E q214))
        · intro A B E G H; exact rP (y_move (kp (H 11 rfl) E q224))
        · intro A B E G H d0; exact rP (y_build1o Try.underlying29 Try.inf23 rfl (one_sl) (ed d0 rfl rfl rfl))
        intro a25 s22 D20; have ok23 := D20.ok; have F24 := F23.step0 D20.stp; have q226 := D20.kt q212 rfl; have q227 := D20.kt q213 rfl; have q228 := D20.kt q214 rfl; have q229 := D20.kt q215 rfl; have q230 := D20.kt q216 rfl; have q231 := D20.kt q217 rfl; have q232 := D20.kt q218 rfl; have q233 := D20.kt q219 rfl; have q234 := D20.kt q220 rfl; have q235 := D20.kt q221 rfl; have q236 := D20.kt q222 rfl; have q237 := D20.kt q223 rfl; have o35 := Own.k0 o33 D20.stp; have o36 := OwnM.k0 o34 D20.stp
        have q238 : At (Ty.val x2_1) s22 a25 (.tmp 63) := D20.done 0 (by decide)
        have q239 := D20.dn 2 (by decide) rfl rfl
        have b1 := sl_le q239
        clear D20
        refine tailL (L := [5]) (R := (fun v τ => Own τ 5 23 1 v ((List.length D2) + 1) ((List.map Ty.ints D2) ++ [(Ty.lst Ty.int (hhL RT i k))]))) rfl rfl (by decide) ok23 (YldM.toL (m_append Try.underlying29 Try.inf23 (by decide) rfl (by decide) (al (R := (Pr.own 5 23 1 (List.length D2) (List.map Ty.ints D2))) q238 o35) q239 (by intro U hU; simp at hU; subst hU; exact one_sl) (by omega) (by omega))) (fun a26 s23 hs3 ok24 r3 sm2 => ?_)
        have F25 := F24.stepL hs3 (by decide); have q240 := kpL hs3 (by decide) (sm2 36 (by decide)) q226; have q241 := kpL hs3 (by decide) (sm2 3 (by decide)) q227; have q242 := kpL hs3 (by decide) (sm2 2 (by decide)) q228; have q243 := kpL hs3 (by decide) (sm2 6 (by decide)) q229; have q244 := kpL hs3 (by decide) (sm2 29 (by decide)) q230; have q245 := kpL hs3 (by decide) (sm2 5 (by decide)) q231; have q246 := kpL hs3 (by decide) (sm2 27 (by decide)) q232; have q247 := kpL hs3 (by decide) (sm2 28 (by decide)) q233; have q248 := kpL hs3 (by decide) (sm2 7 (by decide)) q234; have q249 := kpL hs3 (by decide) (sm2 8 (by decide)) q235; have q250 := kpL hs3 (by decide) (sm2 34 (by decide)) q236; have q251 := kpL hs3 (by decide) (sm2 35 (by decide)) q237; have o38 := OwnM.keepL o36 hs3 (by decide) (by decide)
        obtain ⟨x2, hx2⟩ : ∃ x, a26.eval (.tmp 66) = x := ⟨_, rfl⟩
        have q252 : At (Ty.val x2) s23 a26 (.tmp 66) := hx2
        have o37 : Own s23 5 23 1 x2 (List.length (D2 ++ [(hhL RT i k)])) (List.map Ty.ints (D2 ++ [(hhL RT i k)])) := al2 (R := (Pr.own 5 23 1 (List.length (D2 ++ [(hhL RT i k)])) (List.map Ty.ints (D2 ++ [(hhL RT i k)])))) hx2 (cvo (by simp) (by first | (rw [List.map_append]; rfl) | simp) r3)
        clear r3
        refine tailL (L := []) (R := (fun v τ => Pr.has (Ty.pr (Ty.val x2)) τ v)) rfl rfl (by decide) ok24 (Yld.toL (y_assign q252)) (fun a27 s24 hs4 ok25 r4 sm3 => ?_)
        have F26 := F25.stepL hs4 (by decide); have q253 := kpL hs4 (by decide) (sm3 36 (by decide)) q240; have q254 := kpL hs4 (by decide) (sm3 3 (by decide)) q241; have q255 := kpL hs4 (by decide) (sm3 6 (by decide)) q243; have q256 := kpL hs4 (by decide) (sm3 29 (by decide)) q244; have q257 := kpL hs4 (by decide) (sm3 5 (by decide)) q245; have q258 := kpL hs4 (by decide) (sm3 27 (by decide)) q246; have q259 := kpL hs4 (by decide) (sm3 28 (by decide)) q247; have q260 := kpL hs4 (by decide) (sm3 7 (by decide)) q248; have q261 := kpL hs4 (by decide) (sm3 8 (by decide)) q249; have q262 := kpL hs4 (by decide) (sm3 34 (by decide)) q250; have q263 := kpL hs4 (by decide) (sm3 35 (by decide)) q251; have o39 := OwnM.keepL o38 hs4 (by decide) (by decide); have o40 := Own.keepL o37 hs4 (by decide) (by decide)
        have q264 : At (Ty.val x2) s24 a27 (.tmp 2) := r4
        clear r4; refine wpList_nil ?_; refine bn ?_; refine tn ?_
        refine rg a27 s24 [(Ty.nat (k + 1)), (Ty.nat (k + 1))] ok25 ⟨?_, ?_, trivial⟩ ?_
        · intro A B E G H; exact rP ((y_add (kp (H 36 rfl) E q253) rfl (w64 (by omega) (by omega))).mono (fun τ _ h => cvi (σ := τ) (by first | omega | exact (Int.natCast_mul _ _).symm) h))
        · intro A B E G H d0; exact rP (y_move (ed d0 rfl rfl rfl))
        intro a28 s25 D21; have ok26 := D21.ok; have F27 := F26.step0 D21.stp; have q265 := D21.kt q254 rfl; have q266 := D21.kt q255 rfl; have q267 := D21.kt q256 rfl; have q268 := D21.kt q257 rfl; have q269 := D21.kt q258 rfl; have q270 := D21.kt q259 rfl; have q271 := D21.kt q260 rfl; have q272 := D21.kt q261 rfl; have q273 := D21.kt q262 rfl; have q274 := D21.kt q263 rfl; have q275 := D21.kt q264 rfl; have o41 := OwnM.k0 o39 D21.stp; have o42 := Own.k0 o40 D21.stp; have q276 := D21.dn 1 rfl rfl; clear D21
        exact tn ⟨RT.length - ((k+1)), by omega, s25, (k+1), (D2 ++ [hhL RT i k]), (fun x_ => if x_ = rkI (hhL RT i k) then some ((f2 (rkI (hhL RT i k))).getD 0 + 1) else f2 x_), x2, x6_1, rfl, F27, ok26, (cvi (by (first | rfl | omega | (simp_all; done) | (simp_all; omega))) q276), (cvb (by (rw [sfRow_no hz])) q265), q275, q266, q267, q268, q269, q270, q271, q272, q273, q274, (cvo (by (simp)) (by (simp)) o42), (cvm (by (rfl)) o41), by omega, by rw [enRow_yes hz, ← List.append_assoc]; exact cnt_new hc2 h61, by rw [List.length_append, List.length_singleton]; omega, rfl⟩
       ·
        have h61 : ¬ (f2 (rkI (hhL RT i k))).getD 0 + 1 = 1 := (by simpa using c5)
        refine wp_skip ?_; refine bn ?_; refine tn ?_
        refine rg a24 s21 [(Ty.nat (k + 1)), (Ty.nat (k + 1))] ok22 ⟨?_, ?_, trivial⟩ ?_
        · intro A B E G H; exact rP ((y_add (kp (H 36 rfl) E q212) rfl (w64 (by omega) (by omega))).mono (fun τ _ h => cvi (σ := τ) (by first | omega | exact (Int.natCast_mul _ _).symm) h))
        · intro A B E G H d0; exact rP (y_move (ed d0 rfl rfl rfl))
        intro a29 s26 D22; have ok27 := D22.ok; have F28 := F23.step0 D22.stp; have q277 := D22.kt q213 rfl; have q278 := D22.kt q214 rfl; have q279 := D22.kt q215 rfl; have q280 := D22.kt q216 rfl; have q281 := D22.kt q217 rfl; have q282 := D22.kt q218 rfl; have q283 := D22.kt q219 rfl; have q284 := D22.kt q220 rfl; have q285 := D22.kt q221 rfl; have q286 := D22.kt q222 rfl; have q287 := D22.kt q223 rfl; have o43 := Own.k0 o33 D22.stp; have o44 := OwnM.k0 o34 D22.stp; have q288 := D22.dn 1 rfl rfl; clear D22
        exact tn ⟨RT.length - ((k+1)), by omega, s26, (k+1), D2, (fun x_ => if x_ = rkI (hhL RT i k) then some ((f2 (rkI (hhL RT i k))).getD 0 + 1) else f2 x_), x2_1, x6_1, rfl, F28, ok27, (cvi (by (first | rfl | omega | (simp_all; done) | (simp_all; omega))) q288), (cvb (by (rw [sfRow_no hz])) q277), q278, q279, q280, q281, q282, q283, q284, q285, q286, q287, o43, (cvm (by (rfl)) o44), by omega, by rw [enRow_yes hz, ← List.append_assoc]; exact cnt_again hc2 h61, by omega, rfl⟩
     ·
      refine wp_exit ?_; refine tx ?_; refine tx ?_; refine bx ?_; refine bn ?_; refine tn ?_
      refine rg a16 s12 [(Ty.nat (i + 1)), (Ty.nat (i + 1))] ok14 ⟨?_, ?_, trivial⟩ ?_
      · intro A B E G H; exact rP ((y_add (kp (H 29 rfl) E q88) rfl (w64 (by omega) (by omega))).mono (fun τ _ h => cvi (σ := τ) (by first | omega | exact (Int.natCast_mul _ _).symm) h))
      · intro A B E G H d0; exact rP (y_move (ed d0 rfl rfl rfl))
      intro a30 s27 D23; have ok28 := D23.ok; have F29 := F14.step0 D23.stp; have q289 := D23.kt q85 rfl; have q290 := D23.kt q86 rfl; have q291 := D23.kt q87 rfl; have q292 := D23.kt q89 rfl; have q293 := D23.kt q90 rfl; have q294 := D23.kt q91 rfl; have o45 := Own.k0 o15 D23.stp; have o46 := OwnM.k0 o16 D23.stp; have q295 := D23.dn 1 rfl rfl; clear D23
      exact tn ⟨RT.length - ((i+1)), by omega, s27, (i+1), D2, f2, x2_1, x6_1, rfl, F29, ok28, (cvi (by (first | rfl | omega | (simp_all; done) | (simp_all; omega))) q295), (cvb (by (rw [sfTo_succ, show k = RT.length by omega])) q289), q290, q291, q292, q293, q294, (cvo (by (simp)) (by (simp)) o45), (cvm (by (rfl)) o46), by omega, by rw [enTo_succ, Nat.succ_mul, show RT.length = k by omega]; rw [show RT.length = k by omega] at hc2; exact hc2, by rw [Nat.succ_mul]; omega, rfl⟩
   ·
    refine wp_exit ?_; refine tx ?_; refine tx ?_; refine bx ?_; refine tn ?_; refine wp_seq ?_
    have hie : i = RT.length := by omega
    have him : i * RT.length ≤ RT.length * RT.length := Nat.mul_le_mul_right _ (by omega)
    refine reg2 (a := a11) (σ := s9) rfl 1 (fun i_ => List.getD [(Ty.pr (Ty.val x2_0))] i_ Pr.any) ok10 rfl (by decide) rfl ⟨?_, trivial⟩ ?_
    · intro A B E G H; exact rP (y_move (kp (H 2 rfl) E q45))
    intro a31 s28 D24; have ok29 := D24.ok; have F30 := F10.step0 D24.stp; have q296 := D24.kt q44 rfl; have q297 := D24.kt q45 rfl; have o47 := Own.k0 o7 D24.stp; have o48 := OwnM.k0 o8 D24.stp
    have q298 : At (Ty.val x2_0) s28 a31 (.tmp 69) := D24.done 0 (by decide)
    clear D24
    refine tailL (L := [5]) (R := (fun _ τ => ∃ S_ : List (List Int), S_.Perm D ∧ S_.Pairwise (fun x_ y_ => leL x_ y_ = true) ∧ Own τ 5 23 1 x2_0 (List.length D) (List.map Ty.ints S_))) rfl rfl (by decide) ok29 (m_sort (D := D) (by decide) o47 q298 (by omega) Try.func59 rfl rfl sort_all sort_nil (fun σ_ u_ w_ xs_ ys_ h1_ h2_ => slCompare_fn xs_ ys_ σ_ u_ w_ h1_ h2_)) (fun a32 s29 hs5 ok30 r5 sm4 => ?_)
    have F31 := F30.stepL hs5 (by decide); have q299 := kpL hs5 (by decide) (sm4 3 (by decide)) q296; have q300 := kpL hs5 (by decide) (sm4 2 (by decide)) q297; have o51 := OwnM.keepL o48 hs5 (by decide) (by decide)
    obtain ⟨SL, hSP, hSS, o49⟩ := r5
    have o50 : Own s29 5 23 1 x2_0 (List.length SL) (List.map Ty.ints SL) := cvo (by rw [hSP.length_eq]) rfl o49
    refine wpList_nil ?_; refine tn ?_; refine wp_seq ?_
    refine rg a32 s29 [(Ty.val x2_0), (Ty.bool (sfTo RT RT.length i)), (Ty.val x2_0), (Ty.bool (sfTo RT RT.length i)), (Ty.int (0 : Int))] ok30 ⟨?_, ?_, ?_, ?_, ?_, trivial⟩ ?_
    · intro A B E G H; exact rP (y_move (kp (H 2 rfl) E q300))
    · intro A B E G H d0; exact rP (y_move (kp (H 3 rfl) E q299))
    · intro A B E G H d0 d1 d2; exact rP (y_assign (ed d0 rfl rfl rfl))
    · intro A B E G H d0 d1 d2 d3 d4; exact rP (y_assign (ed d0 rfl rfl rfl))
    · intro A B E G H d0 d1 d2 d3 d4; exact rP (y_assign rfl)
    intro a33 s30 D25; have ok31 := D25.ok; have F32 := F31.step0 D25.stp; have o52 := Own.k0 o50 D25.stp
    have q302 : At (Ty.val x2_0) s30 a33 (.tmp 2) := D25.done 2
    have q303 := D25.dn 3 rfl rfl; have q304 := D25.dn 4 rfl rfl; clear D25; refine tn ?_; refine wp_ret ?_
    obtain ⟨t5, e1, h1, q305⟩ := Own.seal o52 (by decide)
    rw [← e1]
    have F33 := F32.step h1 (by decide)
    have q306 : At (Ty.lst Ty.ints SL) t5 a33 (.tmp 2) := by have e : a33.eval (.tmp 2) = x2_0 := q302; show Ty.has _ _ _; rw [e]; exact q305
    have q307 := Ty.up (Ty.bool (sfTo RT RT.length i)) (h1.le (by decide)) q303; have q308 := Ty.up (Ty.int (0 : Int)) (h1.le (by decide)) q304
    exact retL3 rfl ok31 F33 (hasT3 (cvt (by (rw [if_pos h0, ← hRT]; rw [hie] at hc; rw [cnt_sorted hc (hh_rows hrw) hSP hSS])) q306) (cvb (by (rw [if_pos h0, ← hRT, hie])) q307) (cvi (by (exact h0.symm)) q308))


end Go.Proofs.Ytbilebfnanlgfaa
