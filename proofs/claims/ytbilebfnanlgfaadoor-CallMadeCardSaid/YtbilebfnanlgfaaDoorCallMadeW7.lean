/- The functions that the law CallMade reaches, each by its contract. Part 7. -/
import Derived.Test.YtbilebfnanlgfaaDoorCallMadeW6
namespace Go.Proofs.YtbilebfnanlgfaaDoor
open Go.KL

set_option maxHeartbeats 4000000 in
set_option maxRecDepth 100000 in
theorem rFrom_fn (r : List Int) (l : List (List Int)) (σ : GW)  (v0 v1 : Value) (hv0 : Ty.has (Ty.lst Ty.int r) σ v0) (hv1 : Ty.has (Ty.lst Ty.ints l) σ v1)  (hr : r.length ≤ 12) (hok : ∀ k, k < l.length → okL 0 (l.getD k []) r.length) (hl : l.length ≤ 200) :
    FnC Tryd.prog 38 #[v0, v1] σ (Ty.lst Ty.ints (fromL r l)) := by
 refine fn_intro0 Tryd.func38 rfl Tryd.ntmps38 (Nat.le_of_ble_eq_true rfl) (fun s0 a0 hle F0 ok0 hargs => ?_)
 have p0 : At (Ty.lst Ty.int r) s0 a0 (.tmp 0) := by have e := hargs 0 _ rfl; show Ty.has _ _ _; rw [e]; exact Ty.up _ hle hv0
 have b1 := sl_le p0
 have p1 : At (Ty.lst Ty.ints l) s0 a0 (.tmp 1) := by have e := hargs 1 _ rfl; show Ty.has _ _ _; rw [e]; exact Ty.up _ hle hv1
 have b2 := sl_le p1
 clear hargs; refine wp_seq ?_
 refine rg a0 s0 [(Ty.val (Value.slice none 0 0))] ok0 ⟨?_, trivial⟩ ?_
 · intro A B G H I; exact rP (y_assign rfl)
 intro a1 s1 D1; have ok1 := D1.ok; have F1 := F0.step0 D1.stp; have q1 := D1.kt p0 rfl; have q2 := D1.kt p1 rfl; clear D1; refine tn ?_; refine wp_seq ?_
 refine reg2 (a := a1) (σ := s1) rfl 2 (fun i_ => List.getD [(Ty.pr (Ty.lst Ty.int r)), (Pr.own 5 26 1 1 (List.map Ty.ints [r]))] i_ Pr.any) ok1 rfl (by decide) rfl ⟨?_, ?_, trivial⟩ ?_
 · intro A B G H I; exact rP (y_move (kp (I 0 rfl) G q1))
 · intro A B G H I d0; exact rP ((y_lit1 (k := 5) Tryd.underlying22 Tryd.inf26 rfl (one_sl) (ed d0 rfl rfl rfl)).mono (fun _ _ h => cvo (by simp) (by simp) h))
 intro a2 s2 D2; have ok2 := D2.ok; have F2 := F1.step0 D2.stp; have q3 := D2.kt q1 rfl; have q4 := D2.kt q2 rfl
 obtain ⟨x1, hx1⟩ : ∃ x, a2.eval (.tmp 9) = x := ⟨_, rfl⟩
 have q5 : At (Ty.val x1) s2 a2 (.tmp 9) := hx1
 have o1 : Own s2 5 26 1 x1 1 (List.map Ty.ints [r]) := al2 (R := (Pr.own 5 26 1 1 (List.map Ty.ints [r]))) hx1 (D2.done 1 (by decide))
 clear D2
 refine tailL (L := []) (R := (fun v τ => Pr.has (Ty.pr (Ty.val x1)) τ v)) rfl rfl (by decide) ok2 (Yld.toL (y_assign q5)) (fun a3 s3 hs1 ok3 r1 sm1 => ?_)
 have F3 := F2.stepL hs1 (by decide); have q6 := kpL hs1 (by decide) (sm1 0 (by decide)) q3; have q7 := kpL hs1 (by decide) (sm1 1 (by decide)) q4; have o2 := Own.keepL o1 hs1 (by decide) (by decide)
 have q8 : At (Ty.val x1) s3 a3 (.tmp 5) := r1
 clear r1; refine wpList_nil ?_; refine tn ?_; refine wp_seq ?_; refine wp_seq ?_
 refine rg a3 s3 [(Ty.int (0 : Int))] ok3 ⟨?_, trivial⟩ ?_
 · intro A B G H I; exact rP (y_assign rfl)
 intro a4 s4 D3; have ok4 := D3.ok; have F4 := F3.step0 D3.stp; have q9 := D3.kt q6 rfl; have q10 := D3.kt q7 rfl; have q11 := D3.kt q8 rfl; have o3 := Own.k0 o2 D3.stp; have q12 := D3.dn 0 rfl rfl; clear D3; refine tn ?_; refine wp_block ?_
 refine loop (fun n1 a5 w1 => ∃ (t1 : GW) (k : Nat) (x5_0 : Value), t1.w = w1 ∧ FromL [] s0 t1 ∧ Ok 31 a5 ∧ At (Ty.nat k) t1 a5 (.tmp 6) ∧ At (Ty.lst Ty.int (curL r l k)) t1 a5 (.tmp 0) ∧ At (Ty.val x5_0) t1 a5 (.tmp 5) ∧ At (Ty.lst Ty.ints l) t1 a5 (.tmp 1) ∧ Own t1 5 26 1 x5_0 (List.length (fromTo r l k)) (List.map Ty.ints (fromTo r l k)) ∧ (k ≤ l.length) ∧ n1 = l.length - k) (l.length - (0)) ?_ ?_
 ·
  exact ⟨s4, 0, x1, rfl, F4, ok4, (cvi (by (first | rfl | omega | (simp_all; done) | (simp_all; omega))) q12), (cvt (by (rfl)) q9), q11, q10, (cvo (by (simp [fromTo_zero])) (by (simp [fromTo_zero])) o3), by omega, rfl⟩
 ·
  rintro n2 a6 w2 ⟨t2, k, x5_0, rfl, F5, ok5, q13, q14, q15, q16, o4, hk, rfl⟩
  have hcl := curL_len hok k hk
  have hfl := fromTo_len r l k
  refine wp_seq ?_; refine wp_seq ?_
  refine reg (a := a6) (σ := t2) rfl (fun i_ => List.getD [(Ty.pr (Ty.nat k)), (Ty.pr (Ty.lst Ty.ints l)), (Ty.pr (Ty.nat (List.length l))), (Ty.pr (Ty.bool (decide (((k : Nat) : Int) < (((List.length l) : Nat) : Int)))))] i_ Pr.any) ok5 rfl ⟨?_, ?_, ?_, ?_, trivial⟩ ?_
  · intro A B G H I; exact rP (y_move (kp (I 6 rfl) G q13))
  · intro A B G H I; exact rP (y_move (kp (I 1 rfl) G q16))
  · intro A B G H I d0; exact rP (y_len Tryd.underlying22 (ed d0 rfl rfl rfl))
  · intro A B G H I d0 d1; exact rP (y_lss (ed d0 rfl rfl rfl) (ed d1 rfl rfl rfl))
  intro a7 s5 D4; have ok6 := D4.ok; have F6 := F5.step0 D4.stp; have q17 := D4.kt q13 rfl; have q18 := D4.kt q14 rfl; have q19 := D4.kt q15 rfl; have q20 := D4.kt q16 rfl; have o5 := Own.k0 o4 D4.stp; have q21 := D4.dn 3 rfl rfl; clear D4; refine tn ?_
  refine cond_p (p := (((k : Nat) : Int) < (((List.length l) : Nat) : Int))) q21 (fun c1 => ?_) (fun c1 => ?_)
  ·
   have hokk := hok k (by omega); rw [← hcl] at hokk; have hcc := chgRow_len hokk; have hcd := hcc.symm; have hcl0 : (curL r l k).length ≤ 12 := (by omega); have hbd : ∀ i, i < (chgRow (curL r l k).length (l.getD k [])).length → 0 ≤ (chgRow (curL r l k).length (l.getD k [])).getD i 0 ∧ (chgRow (curL r l k).length (l.getD k [])).getD i 0 < ((curL r l k).length : Int) := (fun i hi => chgRow_bd hokk hi)
   refine wp_skip ?_; refine tn ?_; refine wp_seq ?_; refine wp_block ?_; refine wp_seq ?_
   refine rg a7 s5 [(Ty.lst Ty.int (curL r l k)), (Ty.nat (List.length (curL r l k))), (Ty.lst Ty.ints l), (Ty.nat k), (Ty.ref [(Ty.lst Ty.int (l.getD k []))]), (Ty.lst Ty.int (l.getD k [])), (Ty.lst Ty.int (chgRow ((List.length (curL r l k))) ((l.getD k [])))), (Ty.lst Ty.int (chgRow ((List.length (curL r l k))) ((l.getD k []))))] ok6 ⟨?_, ?_, ?_, ?_, ?_, ?_, ?_, ?_, trivial⟩ ?_
   · intro A B G H I; exact rP (y_move (kp (I 0 rfl) G q18))
   · intro A B G H I d0; exact rP (y_len Tryd.underlying26 (ed d0 rfl rfl rfl))
   · intro A B G H I; exact rP (y_move (kp (I 1 rfl) G q20))
   · intro A B G H I; exact rP (y_move (kp (I 6 rfl) G q17))
   · intro A B G H I d0 d1; exact rP (y_index1 Tryd.underlying22 Tryd.inf26 (ed d0 rfl rfl rfl) (ed d1 rfl rfl rfl) (by omega) (lst_get Ty.ints l [] k (by omega)))
   · intro A B G H I d0; exact rP (y_load Tryd.underlying26 rfl (ed d0 rfl rfl rfl) rfl)
   · intro A B G H I d0 d1; exact rP (y_call #[A.eval (.tmp 17), A.eval (.tmp 21)] Tryd.func54 rfl rfl (by simp only [List.map_toArray, List.map_cons, List.map_nil]) (rChangeRow_fn ((List.length (curL r l k))) ((l.getD k [])) _ _ _ (cvi (σ := B) (by omega) (ed d0 rfl rfl rfl)) (ed d1 rfl rfl rfl) (by omega)))
   · intro A B G H I d0 d1 d2 d3 d4 d5 d6 d7 d8; exact rP (y_assign (ed d0 rfl rfl rfl))
   intro a8 s6 D5; have ok7 := D5.ok; have F7 := F6.step0 D5.stp; have q22 := D5.kt q17 rfl; have q23 := D5.kt q18 rfl; have q24 := D5.kt q19 rfl; have q25 := D5.kt q20 rfl; have o6 := Own.k0 o5 D5.stp; have q26 := D5.dn 7 rfl rfl; clear D5; refine tn ?_; refine wp_seq ?_
   refine rg a8 s6 [(Ty.lst Ty.int (curL r l k)), (Ty.lst Ty.int (chgRow ((List.length (curL r l k))) ((l.getD k [])))), (Ty.lst Ty.int (byL ((curL r l k)) ((chgRow ((List.length (curL r l k))) ((l.getD k [])))))), (Ty.lst Ty.int (byL ((curL r l k)) ((chgRow ((List.length (curL r l k))) ((l.getD k []))))))] ok7 ⟨?_, ?_, ?_, ?_, trivial⟩ ?_
   · intro A B G H I; exact rP (y_move (kp (I 0 rfl) G q23))
   · intro A B G H I; exact rP (y_move (kp (I 7 rfl) G q26))
   · intro A B G H I d0 d1; exact rP (y_call #[A.eval (.tmp 23), A.eval (.tmp 24)] Tryd.func55 rfl rfl (by simp only [List.map_toArray, List.map_cons, List.map_nil]) (rBy_fn ((curL r l k)) ((chgRow ((List.length (curL r l k))) ((l.getD k [])))) _ _ _ (ed d0 rfl rfl rfl) (ed d1 rfl rfl rfl) (by first | assumption | omega) (by first | assumption | omega)))
   · intro A B G H I d0 d1 d2 d3 d4; exact rP (y_assign (ed d0 rfl rfl rfl))
   intro a9 s7 D6; have ok8 := D6.ok; have F8 := F7.step0 D6.stp; have q27 := D6.kt q22 rfl; have q28 := D6.kt q24 rfl; have q29 := D6.kt q25 rfl; have o7 := Own.k0 o6 D6.stp; have q30 := D6.dn 3 rfl rfl; clear D6; refine tn ?_
   refine reg2 (a := a9) (σ := s7) rfl 3 (fun i_ => List.getD [(Ty.pr (Ty.val x5_0)), (Ty.pr (Ty.lst Ty.int (byL ((curL r l k)) ((chgRow ((List.length (curL r l k))) ((l.getD k []))))))), (Ty.pr (Ty.sl 1 1 [(Ty.lst Ty.int (byL ((curL r l k)) ((chgRow ((List.length (curL r l k))) ((l.getD k []))))))]))] i_ Pr.any) ok8 rfl (by decide) rfl ⟨?_, ?_, ?_, trivial⟩ ?_
   · intro A B G H I; exact rP (y_move (kp (I 5 rfl) G q28))
   · intro A B G H I; exact rP (y_move (kp (I 0 rfl) G q30))
   · intro A B G H I d0; exact rP (y_build1o Tryd.underlying22 Tryd.inf26 rfl (one_sl) (ed d0 rfl rfl rfl))
   intro a10 s8 D7; have ok9 := D7.ok; have F9 := F8.step0 D7.stp; have q31 := D7.kt q27 rfl; have q32 := D7.kt q28 rfl; have q33 := D7.kt q29 rfl; have q34 := D7.kt q30 rfl; have o8 := Own.k0 o7 D7.stp
   have q35 : At (Ty.val x5_0) s8 a10 (.tmp 26) := D7.done 0 (by decide)
   have q36 := D7.dn 2 (by decide) rfl rfl
   have b3 := sl_le q36
   clear D7
   refine tailL (L := [5]) (R := (fun v τ => Own τ 5 26 1 v ((List.length (fromTo r l k)) + 1) ((List.map Ty.ints (fromTo r l k)) ++ [(Ty.lst Ty.int (byL ((curL r l k)) ((chgRow ((List.length (curL r l k))) ((l.getD k []))))))]))) rfl rfl (by decide) ok9 (YldM.toL (m_append Tryd.underlying22 Tryd.inf26 (by decide) rfl (by decide) (al (R := (Pr.own 5 26 1 (List.length (fromTo r l k)) (List.map Ty.ints (fromTo r l k)))) q35 o8) q36 (by intro U hU; simp at hU; subst hU; exact one_sl) (by omega) (by omega))) (fun a11 s9 hs2 ok10 r2 sm2 => ?_)
   have F10 := F9.stepL hs2 (by decide); have q37 := kpL hs2 (by decide) (sm2 6 (by decide)) q31; have q38 := kpL hs2 (by decide) (sm2 5 (by decide)) q32; have q39 := kpL hs2 (by decide) (sm2 1 (by decide)) q33; have q40 := kpL hs2 (by decide) (sm2 0 (by decide)) q34
   obtain ⟨x2, hx2⟩ : ∃ x, a11.eval (.tmp 29) = x := ⟨_, rfl⟩
   have q41 : At (Ty.val x2) s9 a11 (.tmp 29) := hx2
   have o9 : Own s9 5 26 1 x2 (List.length ((fromTo r l k) ++ [(byL ((curL r l k)) ((chgRow ((List.length (curL r l k))) ((l.getD k [])))))])) (List.map Ty.ints ((fromTo r l k) ++ [(byL ((curL r l k)) ((chgRow ((List.length (curL r l k))) ((l.getD k [])))))])) := al2 (R := (Pr.own 5 26 1 (List.length ((fromTo r l k) ++ [(byL ((curL r l k)) ((chgRow ((List.length (curL r l k))) ((l.getD k [])))))])) (List.map Ty.ints ((fromTo r l k) ++ [(byL ((curL r l k)) ((chgRow ((List.length (curL r l k))) ((l.getD k [])))))])))) hx2 (cvo (by simp) (by first | (rw [List.map_append]; rfl) | simp) r2)
   clear r2
   refine tailL (L := []) (R := (fun v τ => Pr.has (Ty.pr (Ty.val x2)) τ v)) rfl rfl (by decide) ok10 (Yld.toL (y_assign q41)) (fun a12 s10 hs3 ok11 r3 sm3 => ?_)
   have F11 := F10.stepL hs3 (by decide); have q42 := kpL hs3 (by decide) (sm3 6 (by decide)) q37; have q43 := kpL hs3 (by decide) (sm3 1 (by decide)) q39; have q44 := kpL hs3 (by decide) (sm3 0 (by decide)) q40; have o10 := Own.keepL o9 hs3 (by decide) (by decide)
   have q45 : At (Ty.val x2) s10 a12 (.tmp 5) := r3
   clear r3; refine wpList_nil ?_; refine bn ?_; refine tn ?_
   refine rg a12 s10 [(Ty.nat k), (Ty.int (((k : Nat) : Int) + (1 : Int))), (Ty.int (((k : Nat) : Int) + (1 : Int)))] ok11 ⟨?_, ?_, ?_, trivial⟩ ?_
   · intro A B G H I; exact rP (y_move (kp (I 6 rfl) G q42))
   · intro A B G H I d0; exact rP (y_add (ed d0 rfl rfl rfl) rfl (w64 (by omega) (by omega)))
   · intro A B G H I d0 d1 d2; exact rP (y_assign (ed d0 rfl rfl rfl))
   intro a13 s11 D8; have ok12 := D8.ok; have F12 := F11.step0 D8.stp; have q46 := D8.kt q43 rfl; have q47 := D8.kt q44 rfl; have q48 := D8.kt q45 rfl; have o11 := Own.k0 o10 D8.stp; have q49 := D8.dn 2 rfl rfl; clear D8
   exact tn ⟨l.length - ((k+1)), by omega, s11, (k+1), x2, rfl, F12, ok12, (cvi (by (first | rfl | omega | (simp_all; done) | (simp_all; omega))) q49), (cvt (by (rw [curL_succ r l k (by omega)])) q47), q48, q46, (cvo (by (rw [fromTo_succ, curL_succ r l k (by omega)])) (by (rw [fromTo_succ, curL_succ r l k (by omega)])) o11), by omega, rfl⟩
  ·
   refine wp_exit ?_; refine tx ?_; refine tx ?_; refine bx ?_; refine tn ?_; refine wp_seq ?_
   refine rg a7 s5 [(Ty.val x5_0), (Ty.val x5_0)] ok6 ⟨?_, ?_, trivial⟩ ?_
   · intro A B G H I; exact rP (y_move (kp (I 5 rfl) G q19))
   · intro A B G H I d0 d1; exact rP (y_assign (ed d0 rfl rfl rfl))
   intro a14 s12 D9; have ok13 := D9.ok; have F13 := F6.step0 D9.stp; have o12 := Own.k0 o5 D9.stp
   have q50 : At (Ty.val x5_0) s12 a14 (.tmp 4) := D9.done 1
   clear D9; refine tn ?_; refine wp_ret ?_
   obtain ⟨t3, e1, h1, q51⟩ := Own.seal o12 (by decide)
   rw [← e1]
   have F14 := F13.step h1 (by decide)
   have q52 : At (Ty.lst Ty.ints (fromTo r l k)) t3 a14 (.tmp 4) := by have e : a14.eval (.tmp 4) = x5_0 := q50; show Ty.has _ _ _; rw [e]; exact q51
   exact retL1 rfl ok13 F14 (cvt (by (obtain rfl : k = l.length := (by omega); rfl)) q52)


set_option maxHeartbeats 4000000 in
set_option maxRecDepth 100000 in
theorem rTouchRows_fn (nm : ByteArray) (n : Int) (l : List (List Int)) (cs : List BCall) (leads : List Int) (σ : GW)  (v0 v1 v2 : Value) (hv0 : Ty.has (Ty.agg [(Ty.val (Value.string nm)), (Ty.int n), (Ty.lst Ty.ints l)]) σ v0) (hv1 : Ty.has (Ty.lstc 2 callC cs) σ v1) (hv2 : Ty.has (Ty.lst Ty.int leads) σ v2)  (h0 : touchMay nm n l cs leads = 0) :
    FnC Tryd.prog 16 #[v0, v1, v2] σ (Ty.lst Ty.ints (tRows n.toNat l cs leads leads.length)) := by
 obtain ⟨hok, hnn, hlo, hlh, hin, hlim⟩ := touchMay_ok h0; have hl1 := hok.meth.l1; have hl2 := hok.meth.l2; have hn1 := hok.meth.n1; have hn2 := hok.meth.n2
 refine fn_intro0 Tryd.func16 rfl Tryd.ntmps16 (Nat.le_of_ble_eq_true rfl) (fun s0 a0 hle F0 ok0 hargs => ?_)
 have p0 : At (Ty.agg [(Ty.val (Value.string nm)), (Ty.int n), (Ty.lst Ty.ints l)]) s0 a0 (.tmp 0) := by have e := hargs 0 _ rfl; show Ty.has _ _ _; rw [e]; exact Ty.up _ hle hv0
 have p1 : At (Ty.lstc 2 callC cs) s0 a0 (.tmp 1) := by have e := hargs 1 _ rfl; show Ty.has _ _ _; rw [e]; exact Ty.up _ hle hv1
 have b1 := sl_le p1
 have p2 : At (Ty.lst Ty.int leads) s0 a0 (.tmp 2) := by have e := hargs 2 _ rfl; show Ty.has _ _ _; rw [e]; exact Ty.up _ hle hv2
 have b2 := sl_le p2
 clear hargs; refine wp_seq ?_
 refine rg a0 s0 [(Ty.ref [(Ty.val (Value.string nm)), (Ty.int n), (Ty.lst Ty.ints l)]), (Ty.val (Value.slice none 0 0))] ok0 ⟨?_, ?_, trivial⟩ ?_
 · intro A B G H I; exact rP (y_boxagg (kp (I 0 rfl) G p0))
 · intro A B G H I; exact rP (y_assign rfl)
 intro a1 s1 D1; have ok1 := D1.ok; have F1 := F0.step0 D1.stp; have q1 := D1.kt p1 rfl; have q2 := D1.kt p2 rfl; have q3 := D1.dn 0 rfl rfl; clear D1; refine tn ?_; refine wp_seq ?_
 refine reg2 (a := a1) (σ := s1) rfl 4 (fun i_ => List.getD [(Ty.pr (Ty.ref [(Ty.int n), (Ty.lst Ty.ints l)])), (Ty.pr (Ty.int n)), (Ty.pr (Ty.lst Ty.int (roundsL ((n).toNat)))), (Pr.own 5 26 1 1 (List.map Ty.ints [(roundsL ((n).toNat))]))] i_ Pr.any) ok1 rfl (by decide) rfl ⟨?_, ?_, ?_, ?_, trivial⟩ ?_
 · intro A B G H I; exact rP (y_field Tryd.fld24_1 Tryd.inf3 (by decide) (kp (I 3 rfl) G q3) rfl)
 · intro A B G H I d0; exact rP (y_load Tryd.underlying3 rfl (ed d0 rfl rfl rfl) rfl)
 · intro A B G H I d0; exact rP (y_call #[A.eval (.tmp 11)] Tryd.func37 rfl rfl (by simp only [List.map_toArray, List.map_cons, List.map_nil]) (rRounds_fn ((n).toNat) _ _ (cvi (σ := B) (by omega) (ed d0 rfl rfl rfl)) (by omega)))
 · intro A B G H I d0; exact rP ((y_lit1 (k := 5) Tryd.underlying22 Tryd.inf26 rfl (one_sl) (ed d0 rfl rfl rfl)).mono (fun _ _ h => cvo (by simp) (by simp) h))
 intro a2 s2 D2; have ok2 := D2.ok; have F2 := F1.step0 D2.stp; have q4 := D2.kt q1 rfl; have q5 := D2.kt q2 rfl; have q6 := D2.kt q3 rfl
 obtain ⟨x1, hx1⟩ : ∃ x, a2.eval (.tmp 13) = x := ⟨_, rfl⟩
 have q7 : At (Ty.val x1) s2 a2 (.tmp 13) := hx1
 have o1 : Own s2 5 26 1 x1 1 (List.map Ty.ints [(roundsL ((n).toNat))]) := al2 (R := (Pr.own 5 26 1 1 (List.map Ty.ints [(roundsL ((n).toNat))]))) hx1 (D2.done 3 (by decide))
 clear D2
 refine tailL (L := []) (R := (fun v τ => Pr.has (Ty.pr (Ty.val x1)) τ v)) rfl rfl (by decide) ok2 (Yld.toL (y_assign q7)) (fun a3 s3 hs1 ok3 r1 sm1 => ?_)
 have F3 := F2.stepL hs1 (by decide); have q8 := kpL hs1 (by decide) (sm1 1 (by decide)) q4; have q9 := kpL hs1 (by decide) (sm1 2 (by decide)) q5; have q10 := kpL hs1 (by decide) (sm1 3 (by decide)) q6; have o2 := Own.keepL o1 hs1 (by decide) (by decide)
 have q11 : At (Ty.val x1) s3 a3 (.tmp 7) := r1
 clear r1; refine wpList_nil ?_; refine tn ?_; refine wp_seq ?_; refine wp_seq ?_
 refine rg a3 s3 [(Ty.int (0 : Int))] ok3 ⟨?_, trivial⟩ ?_
 · intro A B G H I; exact rP (y_assign rfl)
 intro a4 s4 D3; have ok4 := D3.ok; have F4 := F3.step0 D3.stp; have q12 := D3.kt q8 rfl; have q13 := D3.kt q9 rfl; have q14 := D3.kt q10 rfl; have q15 := D3.kt q11 rfl; have o3 := Own.k0 o2 D3.stp; have q16 := D3.dn 0 rfl rfl; clear D3; refine tn ?_; refine wp_block ?_
 refine loop (fun n1 a5 w1 => ∃ (t1 : GW) (k : Nat) (x7_0 : Value), t1.w = w1 ∧ FromL [] s0 t1 ∧ Ok 41 a5 ∧ At (Ty.nat k) t1 a5 (.tmp 8) ∧ At (Ty.val x7_0) t1 a5 (.tmp 7) ∧ At (Ty.lstc 2 callC cs) t1 a5 (.tmp 1) ∧ At (Ty.lst Ty.int leads) t1 a5 (.tmp 2) ∧ At (Ty.ref [(Ty.val (Value.string nm)), (Ty.int n), (Ty.lst Ty.ints l)]) t1 a5 (.tmp 3) ∧ Own t1 5 26 1 x7_0 (List.length (tRows n.toNat l cs leads k)) (List.map Ty.ints (tRows n.toNat l cs leads k)) ∧ (k ≤ leads.length) ∧ n1 = leads.length - k) (leads.length - (0)) ?_ ?_
 ·
  exact ⟨s4, 0, x1, rfl, F4, ok4, (cvi (by (first | rfl | omega | (simp_all; done) | (simp_all; omega))) q16), q15, q12, q13, q14, (cvo (by (rfl)) (by (rfl)) o3), by omega, rfl⟩
 ·
  rintro n2 a6 w2 ⟨t2, k, x7_0, rfl, F5, ok5, q17, q18, q19, q20, q21, o4, hk, rfl⟩
  have htl := tRows_len hok hin k hk
  refine wp_seq ?_; refine wp_seq ?_
  refine reg (a := a6) (σ := t2) rfl (fun i_ => List.getD [(Ty.pr (Ty.nat k)), (Ty.pr (Ty.lst Ty.int leads)), (Ty.pr (Ty.nat (List.length leads))), (Ty.pr (Ty.bool (decide (((k : Nat) : Int) < (((List.length leads) : Nat) : Int)))))] i_ Pr.any) ok5 rfl ⟨?_, ?_, ?_, ?_, trivial⟩ ?_
  · intro A B G H I; exact rP (y_move (kp (I 8 rfl) G q17))
  · intro A B G H I; exact rP (y_move (kp (I 2 rfl) G q20))
  · intro A B G H I d0; exact rP (y_len Tryd.underlying26 (ed d0 rfl rfl rfl))
  · intro A B G H I d0 d1; exact rP (y_lss (ed d0 rfl rfl rfl) (ed d1 rfl rfl rfl))
  intro a7 s5 D4; have ok6 := D4.ok; have F6 := F5.step0 D4.stp; have q22 := D4.kt q17 rfl; have q23 := D4.kt q18 rfl; have q24 := D4.kt q19 rfl; have q25 := D4.kt q20 rfl; have q26 := D4.kt q21 rfl; have o5 := Own.k0 o4 D4.stp; have q27 := D4.dn 3 rfl rfl; clear D4; refine tn ?_
  refine cond_p (p := (((k : Nat) : Int) < (((List.length leads) : Nat) : Int))) q27 (fun c1 => ?_) (fun c1 => ?_)
  ·
   have hkl : k < leads.length := (by omega); obtain ⟨hk0, hkc⟩ := hin k hkl; obtain ⟨E, hE⟩ : ∃ E, E = leadE l cs leads k := ⟨_, rfl⟩; have hsh := hok.short (leads.getD k 0).toNat (by omega); obtain ⟨hHr, hHl⟩ := tHd_row hok hin k (by omega); have hR : ((tRows n.toNat l cs leads k).getD ((((((tRows n.toNat l cs leads k).length : Nat) : Int) - (1 : Int))).toNat) []) = tHd n.toNat l cs leads k := (by rw [htl, show ((((k * l.length + 1 : Nat) : Int) - (1 : Int))).toNat = k * l.length by omega]; exact tRows_last hok hin k (by omega)); have hRl : ((tRows n.toNat l cs leads k).getD ((((((tRows n.toNat l cs leads k).length : Nat) : Int) - (1 : Int))).toNat) []).length = n.toNat := (by rw [hR, hHl]); have hokE : ∀ j, j < E.length → okL 0 (E.getD j []) ((tRows n.toNat l cs leads k).getD ((((((tRows n.toNat l cs leads k).length : Nat) : Int) - (1 : Int))).toNat) []).length := (by rw [hRl, hE]; exact leadE_ok hok hin hkl); have hEl : E.length = l.length := (by rw [hE]; exact leadE_len hok hin hkl); have hfl := fromL_len (tHd n.toNat l cs leads k) E; have hfd : ((fromL (tHd n.toNat l cs leads k) E).drop 1).length = E.length := (by rw [List.length_drop, hfl]; omega); have hkm : k * l.length ≤ 400 * 200 := Nat.mul_le_mul (by omega) hl2
   refine wp_skip ?_; refine tn ?_; refine wp_seq ?_; refine wp_block ?_; refine wp_seq ?_
   refine rg a7 s5 [(Ty.val x7_0), (Ty.val x7_0), (Ty.nat (List.length (tRows n.toNat l cs leads k))), (Ty.int ((((List.length (tRows n.toNat l cs leads k)) : Nat) : Int) - (1 : Int))), (Ty.val (cellPtr x7_0 (((((List.length (tRows n.toNat l cs leads k)) : Nat) : Int) - (1 : Int))).toNat)), (Ty.lst Ty.int ((tRows n.toNat l cs leads k).getD (((((List.length (tRows n.toNat l cs leads k)) : Nat) : Int) - (1 : Int))).toNat [])), (Ty.agg [(Ty.val (Value.string nm)), (Ty.int n), (Ty.lst Ty.ints l)]), (Ty.lstc 2 callC cs), (Ty.lst Ty.int leads), (Ty.nat k), (Ty.ref [(Ty.int (leads.getD k 0))]), (Ty.int (leads.getD k 0)), (Ty.ref [(Ty.val (Value.int .i32 ((cs.getD ((leads.getD k 0)).toNat D0)).1)), (Ty.lst Ty.ints ((cs.getD ((leads.getD k 0)).toNat D0)).2)]), (Ty.agg [(Ty.val (Value.int .i32 ((cs.getD ((leads.getD k 0)).toNat D0)).1)), (Ty.lst Ty.ints ((cs.getD ((leads.getD k 0)).toNat D0)).2)]), (Ty.lst Ty.ints E), (Ty.lst Ty.ints (fromL (tHd n.toNat l cs leads k) E)), (Ty.lst Ty.ints (fromL (tHd n.toNat l cs leads k) E))] ok6 ⟨?_, ?_, ?_, ?_, ?_, ?_, ?_, ?_, ?_, ?_, ?_, ?_, ?_, ?_, ?_, ?_, ?_, trivial⟩ ?_
   · intro A B G H I; exact rP (y_move (kp (I 7 rfl) G q23))
   · intro A B G H I; exact rP (y_move (kp (I 7 rfl) G q23))
   · intro A B G H I d0; exact rP (own_len Tryd.underlying22 (al (R := (Pr.own 5 26 1 (List.length (tRows n.toNat l cs leads k)) (List.map Ty.ints (tRows n.toNat l cs leads k)))) (ed d0 rfl rfl rfl) (Own.k0 o5 G)))
   · intro A B G H I d0; exact rP (y_sub (ed d0 rfl rfl rfl) rfl (w64 (by omega) (by omega)))
   · intro A B G H I d0 d1; exact rP (own_index1 (i := ((((List.length (tRows n.toNat l cs leads k)) : Nat) : Int) - (1 : Int))) Tryd.underlying22 Tryd.inf26 (Own.k0 o5 G) (ed d0 rfl rfl rfl) (ed d1 rfl rfl rfl) (by omega) (by omega))
   · intro A B G H I d0; exact rP (own_load Tryd.underlying26 rfl (Own.k0 o5 G) (ed d0 rfl rfl rfl) (lst_get Ty.ints (tRows n.toNat l cs leads k) [] (((((List.length (tRows n.toNat l cs leads k)) : Nat) : Int) - (1 : Int))).toNat (by omega)))
   · intro A B G H I; exact rP (y_loadagg Tryd.underlying24 Tryd.inf24 (kp (I 3 rfl) G q26))
   · intro A B G H I; exact rP (y_move (kp (I 1 rfl) G q24))
   · intro A B G H I; exact rP (y_move (kp (I 2 rfl) G q25))
   · intro A B G H I; exact rP (y_move (kp (I 8 rfl) G q22))
   · intro A B G H I d0 d1; exact rP (y_index1 Tryd.underlying26 Tryd.inf3 (ed d0 rfl rfl rfl) (ed d1 rfl rfl rfl) (by omega) (lst_get Ty.int leads 0 k (by omega)))
   · intro A B G H I d0; exact rP (y_load Tryd.underlying3 rfl (ed d0 rfl rfl rfl) rfl)
   · intro A B G H I d0 d1; exact rP (y_indexc (i := (leads.getD k 0)) D0 Tryd.underlying25 Tryd.inf50 (ed d0 rfl rfl rfl) (ed d1 rfl rfl rfl) (by omega) (by omega) (by decide) (fun _ => rfl))
   · intro A B G H I d0; exact rP (y_loadagg Tryd.underlying50 Tryd.inf50 (ed d0 rfl rfl rfl))
   · intro A B G H I d0 d1; exact rP ((y_call #[A.eval (.tmp 26), A.eval (.tmp 33)] Tryd.func39 rfl rfl (by simp only [List.map_toArray, List.map_cons, List.map_nil]) (rEnds_fn (nm) (n) (l) (((cs.getD ((leads.getD k 0)).toNat D0)).1) (((cs.getD ((leads.getD k 0)).toNat D0)).2) _ _ _ (ed d0 rfl rfl rfl) (ed d1 rfl rfl rfl) (by first | omega | assumption) (by first | omega | assumption))).mono (fun τ _ h => cvt (σ := τ) (T := (Ty.lst Ty.ints (endsL l ((((cs.getD ((leads.getD k 0)).toNat D0)).1), (((cs.getD ((leads.getD k 0)).toNat D0)).2))))) (U := (Ty.lst Ty.ints E)) (by rw [hE]; rfl) h))
   · intro A B G H I d0 d1 d2; exact rP ((y_call #[A.eval (.tmp 25), A.eval (.tmp 34)] Tryd.func38 rfl rfl (by simp only [List.map_toArray, List.map_cons, List.map_nil]) (rFrom_fn (((tRows n.toNat l cs leads k).getD (((((List.length (tRows n.toNat l cs leads k)) : Nat) : Int) - (1 : Int))).toNat [])) (E) _ _ _ (ed d0 rfl rfl rfl) (ed d1 rfl rfl rfl) (by first | omega | assumption) (by first | omega | assumption) (by first | omega | assumption))).mono (fun τ _ h => cvt (σ := τ) (T := (Ty.lst Ty.ints (fromL (((tRows n.toNat l cs leads k).getD (((((List.length (tRows n.toNat l cs leads k)) : Nat) : Int) - (1 : Int))).toNat [])) (E)))) (U := (Ty.lst Ty.ints (fromL (tHd n.toNat l cs leads k) E))) (by rw [hR]) h))
   · intro A B G H I d0 d1 d2 d3 d4 d5 d6 d7 d8 d9 d10 d11 d12 d13 d14 d15 d16 d17; exact rP (y_assign (ed d0 rfl rfl rfl))
   intro a8 s6 D5; have ok7 := D5.ok; have F7 := F6.step0 D5.stp; have q28 := D5.kt q22 rfl; have q29 := D5.kt q23 rfl; have q30 := D5.kt q24 rfl; have q31 := D5.kt q25 rfl; have q32 := D5.kt q26 rfl; have o6 := Own.k0 o5 D5.stp; have q33 := D5.dn 16 rfl rfl; clear D5; refine tn ?_
   refine reg2 (a := a8) (σ := s6) rfl 3 (fun i_ => List.getD [(Ty.pr (Ty.val x7_0)), (Ty.pr (Ty.lst Ty.ints (fromL (tHd n.toNat l cs leads k) E))), (Ty.pr (Ty.lst Ty.ints ((fromL (tHd n.toNat l cs leads k) E).drop 1)))] i_ Pr.any) ok7 rfl (by decide) rfl ⟨?_, ?_, ?_, trivial⟩ ?_
   · intro A B G H I; exact rP (y_move (kp (I 7 rfl) G q29))
   · intro A B G H I; exact rP (y_move (kp (I 9 rfl) G q33))
   · intro A B G H I d0; exact rP (y_drop Tryd.underlying22 Tryd.inf26 (ed d0 rfl rfl rfl) (toN (σ := B) rfl (by omega)) (by omega))
   intro a9 s7 D6; have ok8 := D6.ok; have F8 := F7.step0 D6.stp; have q34 := D6.kt q28 rfl; have q35 := D6.kt q29 rfl; have q36 := D6.kt q30 rfl; have q37 := D6.kt q31 rfl; have q38 := D6.kt q32 rfl; have o7 := Own.k0 o6 D6.stp
   have q39 : At (Ty.val x7_0) s7 a9 (.tmp 36) := D6.done 0 (by decide)
   have q40 := D6.dn 2 (by decide) rfl rfl
   have b3 := sl_le q40
   clear D6
   refine tailL (L := [5]) (R := (fun v τ => Own τ 5 26 1 v ((List.length (tRows n.toNat l cs leads k)) + (List.length ((fromL (tHd n.toNat l cs leads k) E).drop 1))) ((List.map Ty.ints (tRows n.toNat l cs leads k)) ++ (List.map Ty.ints ((fromL (tHd n.toNat l cs leads k) E).drop 1))))) rfl rfl (by decide) ok8 (YldM.toL (m_append Tryd.underlying22 Tryd.inf26 (by decide) rfl (by decide) (al (R := (Pr.own 5 26 1 (List.length (tRows n.toNat l cs leads k)) (List.map Ty.ints (tRows n.toNat l cs leads k)))) q39 o7) q40 (one_map (fun _ => one_sl)) (by omega) (by omega))) (fun a10 s8 hs2 ok9 r2 sm2 => ?_)
   have F9 := F8.stepL hs2 (by decide); have q41 := kpL hs2 (by decide) (sm2 8 (by decide)) q34; have q42 := kpL hs2 (by decide) (sm2 7 (by decide)) q35; have q43 := kpL hs2 (by decide) (sm2 1 (by decide)) q36; have q44 := kpL hs2 (by decide) (sm2 2 (by decide)) q37; have q45 := kpL hs2 (by decide) (sm2 3 (by decide)) q38
   obtain ⟨x2, hx2⟩ : ∃ x, a10.eval (.tmp 39) = x := ⟨_, rfl⟩
   have q46 : At (Ty.val x2) s8 a10 (.tmp 39) := hx2
   have o8 : Own s8 5 26 1 x2 (List.length ((tRows n.toNat l cs leads k) ++ ((fromL (tHd n.toNat l cs leads k) E).drop 1))) (List.map Ty.ints ((tRows n.toNat l cs leads k) ++ ((fromL (tHd n.toNat l cs leads k) E).drop 1))) := al2 (R := (Pr.own 5 26 1 (List.length ((tRows n.toNat l cs leads k) ++ ((fromL (tHd n.toNat l cs leads k) E).drop 1))) (List.map Ty.ints ((tRows n.toNat l cs leads k) ++ ((fromL (tHd n.toNat l cs leads k) E).drop 1))))) hx2 (cvo (by simp) (by first | (rw [List.map_append]; rfl) | simp) r2)
   clear r2
   refine tailL (L := []) (R := (fun v τ => Pr.has (Ty.pr (Ty.val x2)) τ v)) rfl rfl (by decide) ok9 (Yld.toL (y_assign q46)) (fun a11 s9 hs3 ok10 r3 sm3 => ?_)
   have F10 := F9.stepL hs3 (by decide); have q47 := kpL hs3 (by decide) (sm3 8 (by decide)) q41; have q48 := kpL hs3 (by decide) (sm3 1 (by decide)) q43; have q49 := kpL hs3 (by decide) (sm3 2 (by decide)) q44; have q50 := kpL hs3 (by decide) (sm3 3 (by decide)) q45; have o9 := Own.keepL o8 hs3 (by decide) (by decide)
   have q51 : At (Ty.val x2) s9 a11 (.tmp 7) := r3
   clear r3; refine wpList_nil ?_; refine bn ?_; refine tn ?_
   refine rg a11 s9 [(Ty.nat k), (Ty.nat (k + 1)), (Ty.nat (k + 1))] ok10 ⟨?_, ?_, ?_, trivial⟩ ?_
   · intro A B G H I; exact rP (y_move (kp (I 8 rfl) G q47))
   · intro A B G H I d0; exact rP ((y_add (ed d0 rfl rfl rfl) rfl (w64 (by omega) (by omega))).mono (fun τ _ h => cvi (σ := τ) (by first | omega | exact (Int.natCast_mul _ _).symm) h))
   · intro A B G H I d0 d1 d2; exact rP (y_assign (ed d0 rfl rfl rfl))
   intro a12 s10 D7; have ok11 := D7.ok; have F11 := F10.step0 D7.stp; have q52 := D7.kt q48 rfl; have q53 := D7.kt q49 rfl; have q54 := D7.kt q50 rfl; have q55 := D7.kt q51 rfl; have o10 := Own.k0 o9 D7.stp; have q56 := D7.dn 2 rfl rfl; clear D7
   exact tn ⟨leads.length - ((k+1)), by omega, s10, (k+1), x2, rfl, F11, ok11, (cvi (by (first | rfl | omega | (simp_all; done) | (simp_all; omega))) q56), q55, q52, q53, q54, (cvo (by (rw [tRows, ← hE])) (by (rw [tRows, ← hE])) o10), by omega, rfl⟩
  ·
   refine wp_exit ?_; refine tx ?_; refine tx ?_; refine bx ?_; refine tn ?_; refine wp_seq ?_
   refine rg a7 s5 [(Ty.val x7_0), (Ty.val x7_0)] ok6 ⟨?_, ?_, trivial⟩ ?_
   · intro A B G H I; exact rP (y_move (kp (I 7 rfl) G q23))
   · intro A B G H I d0 d1; exact rP (y_assign (ed d0 rfl rfl rfl))
   intro a13 s11 D8; have ok12 := D8.ok; have F12 := F6.step0 D8.stp; have o11 := Own.k0 o5 D8.stp
   have q57 : At (Ty.val x7_0) s11 a13 (.tmp 6) := D8.done 1
   clear D8; refine tn ?_; refine wp_ret ?_
   obtain ⟨t3, e1, h1, q58⟩ := Own.seal o11 (by decide)
   rw [← e1]
   have F13 := F12.step h1 (by decide)
   have q59 : At (Ty.lst Ty.ints (tRows n.toNat l cs leads k)) t3 a13 (.tmp 6) := by have e : a13.eval (.tmp 6) = x7_0 := q57; show Ty.has _ _ _; rw [e]; exact q58
   exact retL1 rfl ok12 F13 (cvt (by (rw [show k = leads.length by omega])) q59)


set_option maxRecDepth 100000 in
theorem rsame_fn (xs : List Int) (ys : List Int) (σ : GW) (v0 v1 : Value) (hv0 : Ty.has (Ty.lst Ty.int xs) σ v0) (hv1 : Ty.has (Ty.lst Ty.int ys) σ v1)  :
    FnC Tryd.prog 22 #[v0, v1] σ (Ty.bool (decide (xs = ys))) := by
 refine fn_intro Tryd.func22 rfl Tryd.ntmps22 (Nat.le_of_ble_eq_true rfl) (fun s0 a0 hle F0 ok0 hargs => ?_)
 have p0 : At (Ty.lst Ty.int xs) s0 a0 (.tmp 0) := by have e := hargs 0 _ rfl; show Ty.has _ _ _; rw [e]; exact Ty.up _ hle hv0
 have b1 := sl_le p0
 have p1 : At (Ty.lst Ty.int ys) s0 a0 (.tmp 1) := by have e := hargs 1 _ rfl; show Ty.has _ _ _; rw [e]; exact Ty.up _ hle hv1
 have b2 := sl_le p1
 clear hargs; refine wp_seq ?_
 refine rg a0 s0 [(Ty.bool false)] ok0 ⟨?_, trivial⟩ ?_
 · intro A B G H I; exact rP (y_assign rfl)
 intro a1 s1 D1; have ok1 := D1.ok; have F1 := F0.step0 D1.stp; have q1 := D1.kt p0 rfl; have q2 := D1.kt p1 rfl; clear D1; refine tn ?_; refine wp_seq ?_; refine wp_seq ?_
 refine rg a1 s1 [(Ty.lst Ty.int xs), (Ty.nat (List.length xs)), (Ty.lst Ty.int ys), (Ty.nat (List.length ys)), (Ty.bool (decide ((((List.length xs) : Nat) : Int) ≠ (((List.length ys) : Nat) : Int))))] ok1 ⟨?_, ?_, ?_, ?_, ?_, trivial⟩ ?_
 · intro A B G H I; exact rP (y_move (kp (I 0 rfl) G q1))
 · intro A B G H I d0; exact rP (y_len Tryd.underlying26 (ed d0 rfl rfl rfl))
 · intro A B G H I; exact rP (y_move (kp (I 1 rfl) G q2))
 · intro A B G H I d0; exact rP (y_len Tryd.underlying26 (ed d0 rfl rfl rfl))
 · intro A B G H I d0 d1; exact rP (y_neq (ed d0 rfl rfl rfl) (ed d1 rfl rfl rfl))
 intro a2 s2 D2; have ok2 := D2.ok; have F2 := F1.step0 D2.stp; have q3 := D2.kt q1 rfl; have q4 := D2.kt q2 rfl; have q5 := D2.dn 4 rfl rfl; clear D2; refine tn ?_
 refine cond_p (p := ((((List.length xs) : Nat) : Int) ≠ (((List.length ys) : Nat) : Int))) q5 (fun c1 => ?_) (fun c1 => ?_)
 ·
  refine wp_seq ?_
  refine rg a2 s2 [(Ty.bool false)] ok2 ⟨?_, trivial⟩ ?_
  · intro A B G H I; exact rP (y_assign rfl)
  intro a3 s3 D3; have ok3 := D3.ok; have F3 := F2.step0 D3.stp; have q6 := D3.dn 0 rfl rfl; clear D3; refine tn ?_; refine wp_ret ?_; refine tr ?_
  exact ret1 rfl ok3 F3 (cvb (by (rw [decide_eq_false]; intro e; subst e; omega)) q6)
 ·
  refine wp_skip ?_; refine tn ?_; refine wp_seq ?_; refine wp_seq ?_
  refine rg a2 s2 [(Ty.int (0 : Int))] ok2 ⟨?_, trivial⟩ ?_
  · intro A B G H I; exact rP (y_assign rfl)
  intro a4 s4 D4; have ok4 := D4.ok; have F4 := F2.step0 D4.stp; have q7 := D4.kt q3 rfl; have q8 := D4.kt q4 rfl; have q9 := D4.dn 0 rfl rfl; clear D4; refine tn ?_; refine wp_block ?_
  refine loop (fun n1 a5 w1 => ∃ (t1 : GW) (k : Nat), t1.w = w1 ∧ From s0 t1 ∧ Ok 26 a5 ∧ At (Ty.nat k) t1 a5 (.tmp 5) ∧ At (Ty.lst Ty.int xs) t1 a5 (.tmp 0) ∧ At (Ty.lst Ty.int ys) t1 a5 (.tmp 1) ∧ (k ≤ xs.length) ∧ (xs.length = ys.length) ∧ (∀ j, j < k → xs.getD j 0 = ys.getD j 0) ∧ n1 = xs.length - k) (xs.length - (0)) ?_ ?_
  ·
   exact ⟨s4, 0, rfl, F4, ok4, (cvi (by (first | rfl | omega | (simp_all; done) | (simp_all; omega))) q9), q7, q8, by omega, by omega, fun j hj => absurd hj (Nat.not_lt_zero j), rfl⟩
  ·
   rintro n2 a6 w2 ⟨t2, k, rfl, F5, ok5, q10, q11, q12, hk, hl, heq, rfl⟩
   refine wp_seq ?_; refine wp_seq ?_
   refine reg (a := a6) (σ := t2) rfl (fun i_ => List.getD [(Ty.pr (Ty.nat k)), (Ty.pr (Ty.lst Ty.int xs)), (Ty.pr (Ty.nat (List.length xs))), (Ty.pr (Ty.bool (decide (((k : Nat) : Int) < (((List.length xs) : Nat) : Int)))))] i_ Pr.any) ok5 rfl ⟨?_, ?_, ?_, ?_, trivial⟩ ?_
   · intro A B G H I; exact rP (y_move (kp (I 5 rfl) G q10))
   · intro A B G H I; exact rP (y_move (kp (I 0 rfl) G q11))
   · intro A B G H I d0; exact rP (y_len Tryd.underlying26 (ed d0 rfl rfl rfl))
   · intro A B G H I d0 d1; exact rP (y_lss (ed d0 rfl rfl rfl) (ed d1 rfl rfl rfl))
   intro a7 s5 D5; have ok6 := D5.ok; have F6 := F5.step0 D5.stp; have q13 := D5.kt q10 rfl; have q14 := D5.kt q11 rfl; have q15 := D5.kt q12 rfl; have q16 := D5.dn 3 rfl rfl; clear D5; refine tn ?_
   refine cond_p (p := (((k : Nat) : Int) < (((List.length xs) : Nat) : Int))) q16 (fun c2 => ?_) (fun c2 => ?_)
   ·
    refine wp_skip ?_; refine tn ?_; refine wp_seq ?_; refine wp_block ?_; refine wp_seq ?_
    refine rg a7 s5 [(Ty.lst Ty.int xs), (Ty.nat k), (Ty.ref [(Ty.int (xs.getD k 0))]), (Ty.int (xs.getD k 0)), (Ty.lst Ty.int ys), (Ty.nat k), (Ty.ref [(Ty.int (ys.getD k 0))]), (Ty.int (ys.getD k 0)), (Ty.bool (decide ((xs.getD k 0) ≠ (ys.getD k 0))))] ok6 ⟨?_, ?_, ?_, ?_, ?_, ?_, ?_, ?_, ?_, trivial⟩ ?_
    · intro A B G H I; exact rP (y_move (kp (I 0 rfl) G q14))
    · intro A B G H I; exact rP (y_move (kp (I 5 rfl) G q13))
    · intro A B G H I d0 d1; exact rP (y_index1 Tryd.underlying26 Tryd.inf3 (ed d0 rfl rfl rfl) (ed d1 rfl rfl rfl) (by omega) (lst_get Ty.int xs 0 k (by omega)))
    · intro A B G H I d0; exact rP (y_load Tryd.underlying3 rfl (ed d0 rfl rfl rfl) rfl)
    · intro A B G H I; exact rP (y_move (kp (I 1 rfl) G q15))
    · intro A B G H I; exact rP (y_move (kp (I 5 rfl) G q13))
    · intro A B G H I d0 d1; exact rP (y_index1 Tryd.underlying26 Tryd.inf3 (ed d0 rfl rfl rfl) (ed d1 rfl rfl rfl) (by omega) (lst_get Ty.int ys 0 k (by omega)))
    · intro A B G H I d0; exact rP (y_load Tryd.underlying3 rfl (ed d0 rfl rfl rfl) rfl)
    · intro A B G H I d0 d1; exact rP (y_neq (ed d0 rfl rfl rfl) (ed d1 rfl rfl rfl))
    intro a8 s6 D6; have ok7 := D6.ok; have F7 := F6.step0 D6.stp; have q17 := D6.kt q13 rfl; have q18 := D6.kt q14 rfl; have q19 := D6.kt q15 rfl; have q20 := D6.dn 8 rfl rfl; clear D6; refine tn ?_
    refine cond_p (p := ((xs.getD k 0) ≠ (ys.getD k 0))) q20 (fun c3 => ?_) (fun c3 => ?_)
    ·
     refine wp_seq ?_
     refine rg a8 s6 [(Ty.bool false)] ok7 ⟨?_, trivial⟩ ?_
     · intro A B G H I; exact rP (y_assign rfl)
     intro a9 s7 D7; have ok8 := D7.ok; have F8 := F7.step0 D7.stp; have q21 := D7.dn 0 rfl rfl; clear D7; refine tn ?_; refine wp_ret ?_; refine br ?_; refine tr ?_; refine tr ?_; refine br ?_; refine tr ?_
     exact ret1 rfl ok8 F8 (cvb (by (exact (decide_eq_false (fun e => by subst e; simp_all)).symm)) q21)
    ·
     refine wp_skip ?_; refine bn ?_; refine tn ?_
     refine rg a8 s6 [(Ty.nat k), (Ty.int (((k : Nat) : Int) + (1 : Int))), (Ty.int (((k : Nat) : Int) + (1 : Int)))] ok7 ⟨?_, ?_, ?_, trivial⟩ ?_
     · intro A B G H I; exact rP (y_move (kp (I 5 rfl) G q17))
     · intro A B G H I d0; exact rP (y_add (ed d0 rfl rfl rfl) rfl (w64 (by omega) (by omega)))
     · intro A B G H I d0 d1 d2; exact rP (y_assign (ed d0 rfl rfl rfl))
     intro a10 s8 D8; have ok9 := D8.ok; have F9 := F7.step0 D8.stp; have q22 := D8.kt q18 rfl; have q23 := D8.kt q19 rfl; have q24 := D8.dn 2 rfl rfl; clear D8
     exact tn ⟨xs.length - ((k+1)), by omega, s8, (k+1), rfl, F9, ok9, (cvi (by (first | rfl | omega | (simp_all; done) | (simp_all; omega))) q24), q22, q23, by omega, by omega, all_snoc heq (by assumption), rfl⟩
   ·
    refine wp_exit ?_; refine tx ?_; refine tx ?_; refine bx ?_; refine tn ?_; refine wp_seq ?_
    refine rg a7 s5 [(Ty.bool true)] ok6 ⟨?_, trivial⟩ ?_
    · intro A B G H I; exact rP (y_assign rfl)
    intro a11 s9 D9; have ok10 := D9.ok; have F10 := F6.step0 D9.stp; have q25 := D9.dn 0 rfl rfl; clear D9; refine tn ?_; refine wp_ret ?_
    exact ret1 rfl ok10 F10 (cvb (by (exact (decide_eq_true (list_ext (by omega) (fun j hj => heq j (by omega)))).symm)) q25)


set_option maxHeartbeats 4000000 in
set_option maxRecDepth 100000 in
theorem rSameAll_fn (a : List (List Int)) (b : List (List Int)) (σ : GW)  (v0 v1 : Value) (hv0 : Ty.has (Ty.lst Ty.ints a) σ v0) (hv1 : Ty.has (Ty.lst Ty.ints b) σ v1)   :
    FnC Tryd.prog 15 #[v0, v1] σ (Ty.bool (decide (a = b))) := by
 refine fn_intro0 Tryd.func15 rfl Tryd.ntmps15 (Nat.le_of_ble_eq_true rfl) (fun s0 a0 hle F0 ok0 hargs => ?_)
 have p0 : At (Ty.lst Ty.ints a) s0 a0 (.tmp 0) := by have e := hargs 0 _ rfl; show Ty.has _ _ _; rw [e]; exact Ty.up _ hle hv0
 have b1 := sl_le p0
 have p1 : At (Ty.lst Ty.ints b) s0 a0 (.tmp 1) := by have e := hargs 1 _ rfl; show Ty.has _ _ _; rw [e]; exact Ty.up _ hle hv1
 have b2 := sl_le p1
 clear hargs; refine wp_seq ?_
 refine rg a0 s0 [(Ty.bool false)] ok0 ⟨?_, trivial⟩ ?_
 · intro A B G H I; exact rP (y_assign rfl)
 intro a1 s1 D1; have ok1 := D1.ok; have F1 := F0.step0 D1.stp; have q1 := D1.kt p0 rfl; have q2 := D1.kt p1 rfl; clear D1; refine tn ?_; refine wp_seq ?_; refine wp_seq ?_
 refine rg a1 s1 [(Ty.lst Ty.ints a), (Ty.nat (List.length a)), (Ty.lst Ty.ints b), (Ty.nat (List.length b)), (Ty.bool (decide ((((List.length a) : Nat) : Int) ≠ (((List.length b) : Nat) : Int))))] ok1 ⟨?_, ?_, ?_, ?_, ?_, trivial⟩ ?_
 · intro A B G H I; exact rP (y_move (kp (I 0 rfl) G q1))
 · intro A B G H I d0; exact rP (y_len Tryd.underlying22 (ed d0 rfl rfl rfl))
 · intro A B G H I; exact rP (y_move (kp (I 1 rfl) G q2))
 · intro A B G H I d0; exact rP (y_len Tryd.underlying22 (ed d0 rfl rfl rfl))
 · intro A B G H I d0 d1; exact rP (y_neq (ed d0 rfl rfl rfl) (ed d1 rfl rfl rfl))
 intro a2 s2 D2; have ok2 := D2.ok; have F2 := F1.step0 D2.stp; have q3 := D2.kt q1 rfl; have q4 := D2.kt q2 rfl; have q5 := D2.dn 4 rfl rfl; clear D2; refine tn ?_
 refine cond_p (p := ((((List.length a) : Nat) : Int) ≠ (((List.length b) : Nat) : Int))) q5 (fun c1 => ?_) (fun c1 => ?_)
 ·
  refine wp_seq ?_
  refine rg a2 s2 [(Ty.bool false)] ok2 ⟨?_, trivial⟩ ?_
  · intro A B G H I; exact rP (y_assign rfl)
  intro a3 s3 D3; have ok3 := D3.ok; have F3 := F2.step0 D3.stp; have q6 := D3.dn 0 rfl rfl; clear D3; refine tn ?_; refine wp_ret ?_; refine tr ?_
  exact retL1 rfl ok3 F3 (cvb (by (rw [decide_eq_false]; intro e; subst e; omega)) q6)
 ·
  refine wp_skip ?_; refine tn ?_; refine wp_seq ?_; refine wp_seq ?_
  refine rg a2 s2 [(Ty.int (0 : Int))] ok2 ⟨?_, trivial⟩ ?_
  · intro A B G H I; exact rP (y_assign rfl)
  intro a4 s4 D4; have ok4 := D4.ok; have F4 := F2.step0 D4.stp; have q7 := D4.kt q3 rfl; have q8 := D4.kt q4 rfl; have q9 := D4.dn 0 rfl rfl; clear D4; refine tn ?_; refine wp_block ?_
  refine loop (fun n1 a5 w1 => ∃ (t1 : GW) (k : Nat), t1.w = w1 ∧ FromL [] s0 t1 ∧ Ok 29 a5 ∧ At (Ty.nat k) t1 a5 (.tmp 5) ∧ At (Ty.lst Ty.ints a) t1 a5 (.tmp 0) ∧ At (Ty.lst Ty.ints b) t1 a5 (.tmp 1) ∧ (k ≤ a.length) ∧ (a.length = b.length) ∧ (∀ j, j < k → a.getD j [] = b.getD j []) ∧ n1 = a.length - k) (a.length - (0)) ?_ ?_
  ·
   exact ⟨s4, 0, rfl, F4, ok4, (cvi (by (first | rfl | omega | (simp_all; done) | (simp_all; omega))) q9), q7, q8, by omega, by omega, fun j hj => absurd hj (Nat.not_lt_zero j), rfl⟩
  ·
   rintro n2 a6 w2 ⟨t2, k, rfl, F5, ok5, q10, q11, q12, hk, hl, heq, rfl⟩
   refine wp_seq ?_; refine wp_seq ?_
   refine reg (a := a6) (σ := t2) rfl (fun i_ => List.getD [(Ty.pr (Ty.nat k)), (Ty.pr (Ty.lst Ty.ints a)), (Ty.pr (Ty.nat (List.length a))), (Ty.pr (Ty.bool (decide (((k : Nat) : Int) < (((List.length a) : Nat) : Int)))))] i_ Pr.any) ok5 rfl ⟨?_, ?_, ?_, ?_, trivial⟩ ?_
   · intro A B G H I; exact rP (y_move (kp (I 5 rfl) G q10))
   · intro A B G H I; exact rP (y_move (kp (I 0 rfl) G q11))
   · intro A B G H I d0; exact rP (y_len Tryd.underlying22 (ed d0 rfl rfl rfl))
   · intro A B G H I d0 d1; exact rP (y_lss (ed d0 rfl rfl rfl) (ed d1 rfl rfl rfl))
   intro a7 s5 D5; have ok6 := D5.ok; have F6 := F5.step0 D5.stp; have q13 := D5.kt q10 rfl; have q14 := D5.kt q11 rfl; have q15 := D5.kt q12 rfl; have q16 := D5.dn 3 rfl rfl; clear D5; refine tn ?_
   refine cond_p (p := (((k : Nat) : Int) < (((List.length a) : Nat) : Int))) q16 (fun c2 => ?_) (fun c2 => ?_)
   ·
    refine wp_skip ?_; refine tn ?_; refine wp_seq ?_; refine wp_block ?_; refine wp_seq ?_
    refine rg a7 s5 [(Ty.lst Ty.ints a), (Ty.nat k), (Ty.ref [(Ty.lst Ty.int (a.getD k []))]), (Ty.lst Ty.int (a.getD k [])), (Ty.lst Ty.ints b), (Ty.nat k), (Ty.ref [(Ty.lst Ty.int (b.getD k []))]), (Ty.lst Ty.int (b.getD k [])), (Ty.bool (decide (((a.getD k [])) = ((b.getD k []))))), (Ty.bool (decide (((a.getD k [])) = ((b.getD k [])))))] ok6 ⟨?_, ?_, ?_, ?_, ?_, ?_, ?_, ?_, ?_, ?_, trivial⟩ ?_
    · intro A B G H I; exact rP (y_move (kp (I 0 rfl) G q14))
    · intro A B G H I; exact rP (y_move (kp (I 5 rfl) G q13))
    · intro A B G H I d0 d1; exact rP (y_index1 Tryd.underlying22 Tryd.inf26 (ed d0 rfl rfl rfl) (ed d1 rfl rfl rfl) (by omega) (lst_get Ty.ints a [] k (by omega)))
    · intro A B G H I d0; exact rP (y_load Tryd.underlying26 rfl (ed d0 rfl rfl rfl) rfl)
    · intro A B G H I; exact rP (y_move (kp (I 1 rfl) G q15))
    · intro A B G H I; exact rP (y_move (kp (I 5 rfl) G q13))
    · intro A B G H I d0 d1; exact rP (y_index1 Tryd.underlying22 Tryd.inf26 (ed d0 rfl rfl rfl) (ed d1 rfl rfl rfl) (by omega) (lst_get Ty.ints b [] k (by omega)))
    · intro A B G H I d0; exact rP (y_load Tryd.underlying26 rfl (ed d0 rfl rfl rfl) rfl)
    · intro A B G H I d0 d1; exact rP (y_call #[A.eval (.tmp 21), A.eval (.tmp 25)] Tryd.func22 rfl rfl (by simp only [List.map_toArray, List.map_cons, List.map_nil]) (rsame_fn ((a.getD k [])) ((b.getD k [])) _ _ _ (ed d0 rfl rfl rfl) (ed d1 rfl rfl rfl) ))
    · intro A B G H I d0 d1 d2 d3 d4 d5 d6 d7 d8 d9 d10; exact rP (y_assign (ed d0 rfl rfl rfl))
    intro a8 s6 D6; have ok7 := D6.ok; have F7 := F6.step0 D6.stp; have q17 := D6.kt q13 rfl; have q18 := D6.kt q14 rfl; have q19 := D6.kt q15 rfl; have q20 := D6.dn 9 rfl rfl; clear D6; refine tn ?_; refine wp_seq ?_
    refine rg a8 s6 [(Ty.bool (decide (((a.getD k [])) = ((b.getD k []))))), (Ty.bool (!(decide (((a.getD k [])) = ((b.getD k []))))))] ok7 ⟨?_, ?_, trivial⟩ ?_
    · intro A B G H I; exact rP (y_move (kp (I 6 rfl) G q20))
    · intro A B G H I d0; exact rP (y_not (ed d0 rfl rfl rfl))
    intro a9 s7 D7; have ok8 := D7.ok; have F8 := F7.step0 D7.stp; have q21 := D7.kt q17 rfl; have q22 := D7.kt q18 rfl; have q23 := D7.kt q19 rfl; have q24 := D7.dn 1 rfl rfl; clear D7; refine tn ?_
    refine cond_t q24 (fun c3 => ?_) (fun c3 => ?_)
    ·
     refine wp_seq ?_
     refine rg a9 s7 [(Ty.bool false)] ok8 ⟨?_, trivial⟩ ?_
     · intro A B G H I; exact rP (y_assign rfl)
     intro a10 s8 D8; have ok9 := D8.ok; have F9 := F8.step0 D8.stp; have q25 := D8.dn 0 rfl rfl; clear D8; refine tn ?_; refine wp_ret ?_; refine br ?_; refine tr ?_; refine tr ?_; refine br ?_; refine tr ?_
     exact retL1 rfl ok9 F9 (cvb (by (exact (decide_eq_false (fun e => by subst e; simp at c3)).symm)) q25)
    ·
     refine wp_skip ?_; refine bn ?_; refine tn ?_
     refine rg a9 s7 [(Ty.nat k), (Ty.int (((k : Nat) : Int) + (1 : Int))), (Ty.int (((k : Nat) : Int) + (1 : Int)))] ok8 ⟨?_, ?_, ?_, trivial⟩ ?_
     · intro A B G H I; exact rP (y_move (kp (I 5 rfl) G q21))
     · intro A B G H I d0; exact rP (y_add (ed d0 rfl rfl rfl) rfl (w64 (by omega) (by omega)))
     · intro A B G H I d0 d1 d2; exact rP (y_assign (ed d0 rfl rfl rfl))
     intro a11 s9 D9; have ok10 := D9.ok; have F10 := F8.step0 D9.stp; have q26 := D9.kt q22 rfl; have q27 := D9.kt q23 rfl; have q28 := D9.dn 2 rfl rfl; clear D9
     exact tn ⟨a.length - ((k+1)), by omega, s9, (k+1), rfl, F10, ok10, (cvi (by (first | rfl | omega | (simp_all; done) | (simp_all; omega))) q28), q26, q27, by omega, by omega, all_snocs heq (by simpa using c3), rfl⟩
   ·
    refine wp_exit ?_; refine tx ?_; refine tx ?_; refine bx ?_; refine tn ?_; refine wp_seq ?_
    refine rg a7 s5 [(Ty.bool true)] ok6 ⟨?_, trivial⟩ ?_
    · intro A B G H I; exact rP (y_assign rfl)
    intro a12 s10 D10; have ok11 := D10.ok; have F11 := F6.step0 D10.stp; have q29 := D10.dn 0 rfl rfl; clear D10; refine tn ?_; refine wp_ret ?_
    exact retL1 rfl ok11 F11 (cvb (by (exact (decide_eq_true (lists_ext (by omega) (fun j hj => heq j (by omega)))).symm)) q29)


set_option maxHeartbeats 4000000 in
set_option maxRecDepth 100000 in
theorem callSays_fn (nm : ByteArray) (n : Int) (l : List (List Int)) (cs : List BCall) (leads : List Int) (c : Int) (σ : GW)  (v0 v1 v2 v3 : Value) (hv0 : Ty.has (Ty.agg [(Ty.val (Value.string nm)), (Ty.int n), (Ty.lst Ty.ints l)]) σ v0) (hv1 : Ty.has (Ty.lstc 2 callC cs) σ v1) (hv2 : Ty.has (Ty.lst Ty.int leads) σ v2) (hv3 : Ty.has (Ty.val (Value.int .i32 c)) σ v3)  (hnm : nm.size ≤ 1099511627776) (hn : -9223372036854775808 ≤ n ∧ n ≤ 9223372036854775807) (hasc : ∀ c ∈ cs, -2147483648 ≤ c.1 ∧ c.1 ≤ 2147483647) :
    FnC Tryd.prog 3 #[v0, v1, v2, v3] σ (Ty.bool true) := by
 refine fn_intro0 Tryd.func3 rfl Tryd.ntmps3 (Nat.le_of_ble_eq_true rfl) (fun s0 a0 hle F0 ok0 hargs => ?_)
 have p0 : At (Ty.agg [(Ty.val (Value.string nm)), (Ty.int n), (Ty.lst Ty.ints l)]) s0 a0 (.tmp 0) := by have e := hargs 0 _ rfl; show Ty.has _ _ _; rw [e]; exact Ty.up _ hle hv0
 have p1 : At (Ty.lstc 2 callC cs) s0 a0 (.tmp 1) := by have e := hargs 1 _ rfl; show Ty.has _ _ _; rw [e]; exact Ty.up _ hle hv1
 have b1 := sl_le p1
 have p2 : At (Ty.lst Ty.int leads) s0 a0 (.tmp 2) := by have e := hargs 2 _ rfl; show Ty.has _ _ _; rw [e]; exact Ty.up _ hle hv2
 have b2 := sl_le p2
 have p3 : At (Ty.val (Value.int .i32 c)) s0 a0 (.tmp 3) := by have e := hargs 3 _ rfl; show Ty.has _ _ _; rw [e]; exact Ty.up _ hle hv3
 clear hargs; refine wp_seq ?_
 refine rg a0 s0 [(Ty.ref [(Ty.val (Value.string nm)), (Ty.int n), (Ty.lst Ty.ints l)]), (Ty.bool false)] ok0 ⟨?_, ?_, trivial⟩ ?_
 · intro A B G H I; exact rP (y_boxagg (kp (I 0 rfl) G p0))
 · intro A B G H I; exact rP (y_assign rfl)
 intro a1 s1 D1; have ok1 := D1.ok; have F1 := F0.step0 D1.stp; have q1 := D1.kt p1 rfl; have q2 := D1.kt p2 rfl; have q3 := D1.kt p3 rfl; have q4 := D1.dn 0 rfl rfl; clear D1; refine tn ?_; refine wp_seq ?_; refine wp_seq ?_
 refine rg a1 s1 [(Ty.lstc 2 callC cs), (Ty.nat (List.length cs)), (Ty.bool (decide ((12 : Int) < (((List.length cs) : Nat) : Int)))), (Ty.bool (decide ((12 : Int) < (((List.length cs) : Nat) : Int)))), (Ty.grd ((decide ((12 : Int) < (((List.length cs) : Nat) : Int))) = false) (Ty.lst Ty.int leads)), (Ty.grd ((decide ((12 : Int) < (((List.length cs) : Nat) : Int))) = false) (Ty.nat (List.length leads))), (Ty.grd ((decide ((12 : Int) < (((List.length cs) : Nat) : Int))) = false) (Ty.bool (decide ((60 : Int) < (((List.length leads) : Nat) : Int))))), (Ty.grd ((decide ((12 : Int) < (((List.length cs) : Nat) : Int))) = false) (Ty.bool (decide ((60 : Int) < (((List.length leads) : Nat) : Int))))), (Ty.grd (((decide ((12 : Int) < (((List.length cs) : Nat) : Int))) = false) ∧ (decide ((60 : Int) < (((List.length leads) : Nat) : Int))) = true) (Ty.lst Ty.int leads)), (Ty.grd (((decide ((12 : Int) < (((List.length cs) : Nat) : Int))) = false) ∧ (decide ((60 : Int) < (((List.length leads) : Nat) : Int))) = true) (Ty.nat (List.length leads))), (Ty.grd (((decide ((12 : Int) < (((List.length cs) : Nat) : Int))) = false) ∧ (decide ((60 : Int) < (((List.length leads) : Nat) : Int))) = true) (Ty.bool (decide ((((List.length leads) : Nat) : Int) < (401 : Int))))), (Ty.grd ((decide ((12 : Int) < (((List.length cs) : Nat) : Int))) = false) (Ty.bool ((decide ((60 : Int) < (((List.length leads) : Nat) : Int))) && (decide ((((List.length leads) : Nat) : Int) < (401 : Int)))))), (Ty.bool ((decide ((12 : Int) < (((List.length cs) : Nat) : Int))) || ((decide ((60 : Int) < (((List.length leads) : Nat) : Int))) && (decide ((((List.length leads) : Nat) : Int) < (401 : Int)))))), (Ty.bool ((decide ((12 : Int) < (((List.length cs) : Nat) : Int))) || ((decide ((60 : Int) < (((List.length leads) : Nat) : Int))) && (decide ((((List.length leads) : Nat) : Int) < (401 : Int)))))), (Ty.grd (((decide ((12 : Int) < (((List.length cs) : Nat) : Int))) || ((decide ((60 : Int) < (((List.length leads) : Nat) : Int))) && (decide ((((List.length leads) : Nat) : Int) < (401 : Int))))) = false) (Ty.lst Ty.int leads)), (Ty.grd (((decide ((12 : Int) < (((List.length cs) : Nat) : Int))) || ((decide ((60 : Int) < (((List.length leads) : Nat) : Int))) && (decide ((((List.length leads) : Nat) : Int) < (401 : Int))))) = false) (Ty.nat (List.length leads))), (Ty.grd (((decide ((12 : Int) < (((List.length cs) : Nat) : Int))) || ((decide ((60 : Int) < (((List.length leads) : Nat) : Int))) && (decide ((((List.length leads) : Nat) : Int) < (401 : Int))))) = false) (Ty.bool (decide ((500 : Int) < (((List.length leads) : Nat) : Int))))), (Ty.bool (((decide ((12 : Int) < (((List.length cs) : Nat) : Int))) || ((decide ((60 : Int) < (((List.length leads) : Nat) : Int))) && (decide ((((List.length leads) : Nat) : Int) < (401 : Int))))) || (decide ((500 : Int) < (((List.length leads) : Nat) : Int)))))] ok1 ⟨?_, ?_, ?_, ?_, ?_, ?_, ?_, ?_, ?_, ?_, ?_, ?_, ?_, ?_, ?_, ?_, ?_, ?_, trivial⟩ ?_
 · intro A B G H I; exact rP (y_move (kp (I 1 rfl) G q1))
 · intro A B G H I d0; exact rP (y_len Tryd.underlying25 (ed d0 rfl rfl rfl))
 · intro A B G H I d0; exact rP (y_gtr (ed d0 rfl rfl rfl) rfl)
 · intro A B G H I d0; exact rP (y_move (ed d0 rfl rfl rfl))
 · intro A B G H I d0
   refine run_guard H rfl rfl (by decide) (ed d0 rfl rfl rfl) (fun hg => ?_)
   have hp := of_decide_eq_false hg
   exact y_move (kp (I 2 rfl) G q2)
 · intro A B G H I d0 d1
   refine run_guard H rfl rfl (by decide) (ed d1 rfl rfl rfl) (fun hg => ?_)
   have hp := of_decide_eq_false hg
   exact y_len Tryd.underlying26 ((ed d0 rfl rfl rfl).1 hg)
 · intro A B G H I d0 d1
   refine run_guard H rfl rfl (by decide) (ed d1 rfl rfl rfl) (fun hg => ?_)
   have hp := of_decide_eq_false hg
   exact y_gtr ((ed d0 rfl rfl rfl).1 hg) rfl
 · intro A B G H I d0 d1 d2
   refine run_guard H rfl rfl (by decide) (ed d1 rfl rfl rfl) (fun hg => ?_)
   have hp := of_decide_eq_false hg
   exact y_move ((ed d0 rfl rfl rfl).1 hg)
 · intro A B G H I d0
   refine run_guard2 H rfl rfl (by decide) (ed d0 rfl rfl rfl) (fun hg => ?_)
   have hp := of_decide_eq_true hg.2
   have hp0 := hg.1; try simp only [Bool.and_eq_true, Bool.or_eq_true, decide_eq_true_eq, decide_eq_false_iff_not] at hp0
   exact y_move (kp (I 2 rfl) G q2)
 · intro A B G H I d0 d1
   refine run_guard2 H rfl rfl (by decide) (ed d1 rfl rfl rfl) (fun hg => ?_)
   have hp := of_decide_eq_true hg.2
   have hp0 := hg.1; try simp only [Bool.and_eq_true, Bool.or_eq_true, decide_eq_true_eq, decide_eq_false_iff_not] at hp0
   exact y_len Tryd.underlying26 ((ed d0 rfl rfl rfl).1 hg)
 · intro A B G H I d0 d1
   refine run_guard2 H rfl rfl (by decide) (ed d1 rfl rfl rfl) (fun hg => ?_)
   have hp := of_decide_eq_true hg.2
   have hp0 := hg.1; try simp only [Bool.and_eq_true, Bool.or_eq_true, decide_eq_true_eq, decide_eq_false_iff_not] at hp0
   exact y_lss ((ed d0 rfl rfl rfl).1 hg) rfl
 · intro A B G H I d0 d1 d2
   refine run_guard H rfl rfl (by decide) (ed d2 rfl rfl rfl) (fun hg => ?_)
   have hp := of_decide_eq_false hg
   exact y_pick_and ((ed d0 rfl rfl rfl).1 hg) (grd_part hg (ed d1 rfl rfl rfl)) rfl
 · intro A B G H I d0 d1; exact rP (y_pick_or (ed d0 rfl rfl rfl) rfl (ed d1 rfl rfl rfl))
 · intro A B G H I d0 d1; exact rP (y_move (ed d0 rfl rfl rfl))
 · intro A B G H I d0
   refine run_guard H rfl rfl (by decide) (ed d0 rfl rfl rfl) (fun hg => ?_)
   obtain ⟨d1, d2⟩ := Bool.or_eq_false_iff.mp hg
   have d1 := of_decide_eq_false d1
   exact y_move (kp (I 2 rfl) G q2)
 · intro A B G H I d0 d1
   refine run_guard H rfl rfl (by decide) (ed d1 rfl rfl rfl) (fun hg => ?_)
   obtain ⟨d3, d4⟩ := Bool.or_eq_false_iff.mp hg
   have d3 := of_decide_eq_false d3
   exact y_len Tryd.underlying26 ((ed d0 rfl rfl rfl).1 hg)
 · intro A B G H I d0 d1
   refine run_guard H rfl rfl (by decide) (ed d1 rfl rfl rfl) (fun hg => ?_)
   obtain ⟨d5, d6⟩ := Bool.or_eq_false_iff.mp hg
   have d5 := of_decide_eq_false d5
   exact y_gtr ((ed d0 rfl rfl rfl).1 hg) rfl
 · intro A B G H I d0 d1; exact rP (y_pick_or (ed d0 rfl rfl rfl) rfl (ed d1 rfl rfl rfl))
 intro a2 s2 D2; have ok2 := D2.ok; have F2 := F1.step0 D2.stp; have q5 := D2.kt q1 rfl; have q6 := D2.kt q2 rfl; have q7 := D2.kt q3 rfl; have q8 := D2.kt q4 rfl; have q9 := D2.dn 17 rfl rfl; clear D2; refine tn ?_
 refine cond_t q9 (fun c1 => ?_) (fun c1 => ?_)
 ·
  refine wp_seq ?_
  refine rg a2 s2 [(Ty.bool true)] ok2 ⟨?_, trivial⟩ ?_
  · intro A B G H I; exact rP (y_assign rfl)
  intro a3 s3 D3; have ok3 := D3.ok; have F3 := F2.step0 D3.stp; have q10 := D3.dn 0 rfl rfl; clear D3; refine tn ?_; refine wp_ret ?_; refine tr ?_
  exact retL1 rfl ok3 F3 q10
 ·
  obtain ⟨d7, d8⟩ := Bool.or_eq_false_iff.mp c1
  obtain ⟨d9, d10⟩ := Bool.or_eq_false_iff.mp d7
  replace d9 := of_decide_eq_false d9
  replace d8 := of_decide_eq_false d8
  refine wp_skip ?_; refine tn ?_; refine wp_seq ?_; refine wp_seq ?_
  refine rg a2 s2 [(Ty.val (Value.int .i32 c)), (Ty.bool (signMay c)), (Ty.val (Value.int .i32 c)), (Ty.bool (signMay c)), (Ty.bool ((signMay c) != (signMay c))), (Ty.bool ((signMay c) != (signMay c))), (Ty.grd (((signMay c) != (signMay c)) = false) (Ty.agg [(Ty.val (Value.string nm)), (Ty.int n), (Ty.lst Ty.ints l)])), (Ty.grd (((signMay c) != (signMay c)) = false) (Ty.lstc 2 callC cs)), (Ty.grd (((signMay c) != (signMay c)) = false) (Ty.int (callsMay nm n l cs))), (Ty.grd (((signMay c) != (signMay c)) = false) (Ty.agg [(Ty.val (Value.string nm)), (Ty.int n), (Ty.lst Ty.ints l)])), (Ty.grd (((signMay c) != (signMay c)) = false) (Ty.lstc 2 callC cs)), (Ty.grd (((signMay c) != (signMay c)) = false) (Ty.int (callsMay nm n l cs))), (Ty.grd (((signMay c) != (signMay c)) = false) (Ty.bool (decide ((callsMay nm n l cs) ≠ (callsMay nm n l cs))))), (Ty.bool (((signMay c) != (signMay c)) || (decide ((callsMay nm n l cs) ≠ (callsMay nm n l cs)))))] ok2 ⟨?_, ?_, ?_, ?_, ?_, ?_, ?_, ?_, ?_, ?_, ?_, ?_, ?_, ?_, trivial⟩ ?_
  · intro A B G H I; exact rP (y_move (kp (I 3 rfl) G q7))
  · intro A B G H I d0; exact rP (y_call #[A.eval (.tmp 32)] Tryd.func6 rfl rfl (by simp only [List.map_toArray, List.map_cons, List.map_nil]) (callSign_fn (c) _ _ (ed d0 rfl rfl rfl) ))
  · intro A B G H I; exact rP (y_move (kp (I 3 rfl) G q7))
  · intro A B G H I d0 d1; exact rP (y_call #[A.eval (.tmp 34)] Tryd.func7 rfl rfl (by simp only [List.map_toArray, List.map_cons, List.map_nil]) (rSignMay_fn (c) _ _ (ed d0 rfl rfl rfl) ))
  · intro A B G H I d0 d1; exact rP (y_neqB Tryd.underlying4 (ed d0 rfl rfl rfl) (ed d1 rfl rfl rfl))
  · intro A B G H I d0 d1; exact rP (y_move (ed d0 rfl rfl rfl))
  · intro A B G H I d0
    refine run_guard H rfl rfl (by decide) (ed d0 rfl rfl rfl) (fun hg => ?_)
    exact y_loadagg Tryd.underlying24 Tryd.inf24 (kp (I 4 rfl) G q8)
  · intro A B G H I d0
    refine run_guard H rfl rfl (by decide) (ed d0 rfl rfl rfl) (fun hg => ?_)
    exact y_move (kp (I 1 rfl) G q5)
  · intro A B G H I d0 d1 d2 d3
    refine run_guard H rfl rfl (by decide) (ed d2 rfl rfl rfl) (fun hg => ?_)
    exact y_call #[A.eval (.tmp 38), A.eval (.tmp 39)] Tryd.func8 rfl rfl (by simp only [List.map_toArray, List.map_cons, List.map_nil]) (callCheck_fn (nm) (n) (l) (cs) _ _ _ ((ed d0 rfl rfl rfl).1 hg) ((ed d1 rfl rfl rfl).1 hg) (by first | omega | assumption) (by first | omega | assumption))
  · intro A B G H I d0
    refine run_guard H rfl rfl (by decide) (ed d0 rfl rfl rfl) (fun hg => ?_)
    exact y_loadagg Tryd.underlying24 Tryd.inf24 (kp (I 4 rfl) G q8)
  · intro A B G H I d0
    refine run_guard H rfl rfl (by decide) (ed d0 rfl rfl rfl) (fun hg => ?_)
    exact y_move (kp (I 1 rfl) G q5)
  · intro A B G H I d0 d1 d2 d3
    refine run_guard H rfl rfl (by decide) (ed d3 rfl rfl rfl) (fun hg => ?_)
    exact y_call #[A.eval (.tmp 41), A.eval (.tmp 42)] Tryd.func9 rfl rfl (by simp only [List.map_toArray, List.map_cons, List.map_nil]) (rCallsMay_fn (nm) (n) (l) (cs) _ _ _ ((ed d0 rfl rfl rfl).1 hg) ((ed d1 rfl rfl rfl).1 hg) (by first | omega | assumption) (by first | omega | assumption))
  · intro A B G H I d0 d1 d2
    refine run_guard H rfl rfl (by decide) (ed d2 rfl rfl rfl) (fun hg => ?_)
    exact y_neq ((ed d0 rfl rfl rfl).1 hg) ((ed d1 rfl rfl rfl).1 hg)
  · intro A B G H I d0 d1; exact rP (y_pick_or (ed d0 rfl rfl rfl) rfl (ed d1 rfl rfl rfl))
  intro a4 s4 D4; have ok4 := D4.ok; have F4 := F2.step0 D4.stp; have q11 := D4.kt q5 rfl; have q12 := D4.kt q6 rfl; have q13 := D4.kt q8 rfl; have q14 := D4.dn 13 rfl rfl; clear D4; refine tn ?_
  refine cond_t q14 (fun c2 => ?_) (fun c2 => ?_)
  ·
   exfalso
   simp at c2
  ·
   obtain ⟨d11, d12⟩ := Bool.or_eq_false_iff.mp c2
   replace d12 := of_decide_eq_false d12
   refine wp_skip ?_; refine tn ?_; refine wp_seq ?_
   refine rg a4 s4 [(Ty.lstc 2 callC cs), (Ty.lst Ty.int leads), (Ty.tup2 (Ty.val (Value.string (ptT cs (leads)))) (Ty.int (ptE cs (leads)))), (Ty.tup2 (Ty.val (Value.string (ptT cs (leads)))) (Ty.int (ptE cs (leads)))), (Ty.val (Value.string (ptT cs (leads)))), (Ty.int (ptE cs (leads))), (Ty.val (Value.string (ptT cs (leads)))), (Ty.int (ptE cs (leads)))] ok4 ⟨?_, ?_, ?_, ?_, ?_, ?_, ?_, ?_, trivial⟩ ?_
   · intro A B G H I; exact rP (y_move (kp (I 1 rfl) G q11))
   · intro A B G H I; exact rP (y_move (kp (I 2 rfl) G q12))
   · intro A B G H I d0 d1; exact rP (y_call #[A.eval (.tmp 47), A.eval (.tmp 48)] Tryd.func10 rfl rfl (by simp only [List.map_toArray, List.map_cons, List.map_nil]) (print_fn (cs) (leads) _ _ _ (ed d0 rfl rfl rfl) (ed d1 rfl rfl rfl) (by first | omega | assumption | rfl)))
   · intro A B G H I d0; exact rP (y_move (ed d0 rfl rfl rfl))
   · intro A B G H I d0; exact rP (y_ext2_0 (ed d0 rfl rfl rfl))
   · intro A B G H I d0 d1; exact rP (y_ext2_1 (ed d0 rfl rfl rfl))
   · intro A B G H I d0 d1 d2 d3 d4 d5 d6 d7; exact rP (y_assign (ed d0 rfl rfl rfl))
   · intro A B G H I d0 d1 d2 d3 d4 d5 d6 d7 d8; exact rP (y_assign (ed d0 rfl rfl rfl))
   intro a5 s5 D5; have ok5 := D5.ok; have F5 := F4.step0 D5.stp; have q15 := D5.kt q11 rfl; have q16 := D5.kt q12 rfl; have q17 := D5.kt q13 rfl; have q18 := D5.dn 6 rfl rfl; have q19 := D5.dn 7 rfl rfl; clear D5; refine tn ?_; refine wp_seq ?_
   refine rg a5 s5 [(Ty.lstc 2 callC cs), (Ty.lst Ty.int leads), (Ty.tup2 (Ty.val (Value.string (ptT cs (leads)))) (Ty.int (ptE cs (leads)))), (Ty.tup2 (Ty.val (Value.string (ptT cs (leads)))) (Ty.int (ptE cs (leads)))), (Ty.val (Value.string (ptT cs (leads)))), (Ty.int (ptE cs (leads))), (Ty.val (Value.string (ptT cs (leads)))), (Ty.int (ptE cs (leads)))] ok5 ⟨?_, ?_, ?_, ?_, ?_, ?_, ?_, ?_, trivial⟩ ?_
   · intro A B G H I; exact rP (y_move (kp (I 1 rfl) G q15))
   · intro A B G H I; exact rP (y_move (kp (I 2 rfl) G q16))
   · intro A B G H I d0 d1; exact rP (y_call #[A.eval (.tmp 53), A.eval (.tmp 54)] Tryd.func11 rfl rfl (by simp only [List.map_toArray, List.map_cons, List.map_nil]) (rPrintTouch_fn (cs) (leads) _ _ _ (ed d0 rfl rfl rfl) (ed d1 rfl rfl rfl) ))
   · intro A B G H I d0; exact rP (y_move (ed d0 rfl rfl rfl))
   · intro A B G H I d0; exact rP (y_ext2_0 (ed d0 rfl rfl rfl))
   · intro A B G H I d0 d1; exact rP (y_ext2_1 (ed d0 rfl rfl rfl))
   · intro A B G H I d0 d1 d2 d3 d4 d5 d6 d7; exact rP (y_assign (ed d0 rfl rfl rfl))
   · intro A B G H I d0 d1 d2 d3 d4 d5 d6 d7 d8; exact rP (y_assign (ed d0 rfl rfl rfl))
   intro a6 s6 D6; have ok6 := D6.ok; have F6 := F5.step0 D6.stp; have q20 := D6.kt q15 rfl; have q21 := D6.kt q16 rfl; have q22 := D6.kt q17 rfl; have q23 := D6.kt q18 rfl; have q24 := D6.kt q19 rfl; have q25 := D6.dn 6 rfl rfl; have q26 := D6.dn 7 rfl rfl; clear D6; refine tn ?_; refine wp_seq ?_; refine wp_seq ?_
   refine rg a6 s6 [(Ty.val (Value.string (ptT cs (leads)))), (Ty.val (Value.string (ptT cs (leads)))), (Ty.bool (!(decide ((ptT cs (leads)) = (ptT cs (leads)))))), (Ty.bool (!(decide ((ptT cs (leads)) = (ptT cs (leads)))))), (Ty.grd ((!(decide ((ptT cs (leads)) = (ptT cs (leads))))) = false) (Ty.int (ptE cs (leads)))), (Ty.grd ((!(decide ((ptT cs (leads)) = (ptT cs (leads))))) = false) (Ty.int (ptE cs (leads)))), (Ty.grd ((!(decide ((ptT cs (leads)) = (ptT cs (leads))))) = false) (Ty.bool (decide ((ptE cs (leads)) ≠ (ptE cs (leads)))))), (Ty.bool ((!(decide ((ptT cs (leads)) = (ptT cs (leads))))) || (decide ((ptE cs (leads)) ≠ (ptE cs (leads))))))] ok6 ⟨?_, ?_, ?_, ?_, ?_, ?_, ?_, ?_, trivial⟩ ?_
   · intro A B G H I; exact rP (y_move (kp (I 9 rfl) G q23))
   · intro A B G H I; exact rP (y_move (kp (I 11 rfl) G q25))
   · intro A B G H I d0 d1; exact rP (y_sneq Tryd.underlying9 (ed d0 rfl rfl rfl) (ed d1 rfl rfl rfl))
   · intro A B G H I d0; exact rP (y_move (ed d0 rfl rfl rfl))
   · intro A B G H I d0
     refine run_guard H rfl rfl (by decide) (ed d0 rfl rfl rfl) (fun hg => ?_)
     exact y_move (kp (I 10 rfl) G q24)
   · intro A B G H I d0
     refine run_guard H rfl rfl (by decide) (ed d0 rfl rfl rfl) (fun hg => ?_)
     exact y_move (kp (I 12 rfl) G q26)
   · intro A B G H I d0 d1 d2
     refine run_guard H rfl rfl (by decide) (ed d2 rfl rfl rfl) (fun hg => ?_)
     exact y_neq ((ed d0 rfl rfl rfl).1 hg) ((ed d1 rfl rfl rfl).1 hg)
   · intro A B G H I d0 d1; exact rP (y_pick_or (ed d0 rfl rfl rfl) rfl (ed d1 rfl rfl rfl))
   intro a7 s7 D7; have ok7 := D7.ok; have F7 := F6.step0 D7.stp; have q27 := D7.kt q20 rfl; have q28 := D7.kt q21 rfl; have q29 := D7.kt q22 rfl; have q30 := D7.dn 7 rfl rfl; clear D7; refine tn ?_
   refine cond_t q30 (fun c3 => ?_) (fun c3 => ?_)
   ·
    exfalso
    simp at c3
   ·
    obtain ⟨d13, d14⟩ := Bool.or_eq_false_iff.mp c3
    replace d14 := of_decide_eq_false d14
    refine wp_skip ?_; refine tn ?_; refine wp_seq ?_
    refine rg a7 s7 [(Ty.agg [(Ty.val (Value.string nm)), (Ty.int n), (Ty.lst Ty.ints l)]), (Ty.lstc 2 callC cs), (Ty.lst Ty.int leads), (Ty.int (touchMay nm n l cs leads)), (Ty.int (touchMay nm n l cs leads))] ok7 ⟨?_, ?_, ?_, ?_, ?_, trivial⟩ ?_
    · intro A B G H I; exact rP (y_loadagg Tryd.underlying24 Tryd.inf24 (kp (I 4 rfl) G q29))
    · intro A B G H I; exact rP (y_move (kp (I 1 rfl) G q27))
    · intro A B G H I; exact rP (y_move (kp (I 2 rfl) G q28))
    · intro A B G H I d0 d1 d2; exact rP (y_call #[A.eval (.tmp 66), A.eval (.tmp 67), A.eval (.tmp 68)] Tryd.func12 rfl rfl (by simp only [List.map_toArray, List.map_cons, List.map_nil]) (rTouchMay_fn (nm) (n) (l) (cs) (leads) _ _ _ _ (ed d0 rfl rfl rfl) (ed d1 rfl rfl rfl) (ed d2 rfl rfl rfl) (by first | omega | assumption) (by first | omega | assumption)))
    · intro A B G H I d0 d1 d2 d3 d4 d5; exact rP (y_assign (ed d0 rfl rfl rfl))
    intro a8 s8 D8; have ok8 := D8.ok; have F8 := F7.step0 D8.stp; have q31 := D8.kt q27 rfl; have q32 := D8.kt q28 rfl; have q33 := D8.kt q29 rfl; have q34 := D8.dn 4 rfl rfl; clear D8; refine tn ?_; refine wp_seq ?_
    refine rg a8 s8 [(Ty.agg [(Ty.val (Value.string nm)), (Ty.int n), (Ty.lst Ty.ints l)]), (Ty.lstc 2 callC cs), (Ty.lst Ty.int leads), (Ty.tup2 (Ty.lst Ty.ints (if touchMay nm n l cs leads = 0 then (tRows n.toNat l cs leads leads.length) else [])) (Ty.int (touchMay nm n l cs leads))), (Ty.tup2 (Ty.lst Ty.ints (if touchMay nm n l cs leads = 0 then (tRows n.toNat l cs leads leads.length) else [])) (Ty.int (touchMay nm n l cs leads))), (Ty.lst Ty.ints (if touchMay nm n l cs leads = 0 then (tRows n.toNat l cs leads leads.length) else [])), (Ty.int (touchMay nm n l cs leads)), (Ty.lst Ty.ints (if touchMay nm n l cs leads = 0 then (tRows n.toNat l cs leads leads.length) else [])), (Ty.int (touchMay nm n l cs leads))] ok8 ⟨?_, ?_, ?_, ?_, ?_, ?_, ?_, ?_, ?_, trivial⟩ ?_
    · intro A B G H I; exact rP (y_loadagg Tryd.underlying24 Tryd.inf24 (kp (I 4 rfl) G q33))
    · intro A B G H I; exact rP (y_move (kp (I 1 rfl) G q31))
    · intro A B G H I; exact rP (y_move (kp (I 2 rfl) G q32))
    · intro A B G H I d0 d1 d2; exact rP (y_call #[A.eval (.tmp 71), A.eval (.tmp 72), A.eval (.tmp 73)] Tryd.func13 rfl rfl (by simp only [List.map_toArray, List.map_cons, List.map_nil]) (callRows_fn (nm) (n) (l) (cs) (leads) _ _ _ _ (ed d0 rfl rfl rfl) (ed d1 rfl rfl rfl) (ed d2 rfl rfl rfl) (by first | omega | assumption) (by first | omega | assumption)))
    · intro A B G H I d0; exact rP (y_move (ed d0 rfl rfl rfl))
    · intro A B G H I d0; exact rP (y_ext2_0 (ed d0 rfl rfl rfl))
    · intro A B G H I d0 d1; exact rP (y_ext2_1 (ed d0 rfl rfl rfl))
    · intro A B G H I d0 d1 d2 d3 d4 d5 d6 d7 d8; exact rP (y_assign (ed d0 rfl rfl rfl))
    · intro A B G H I d0 d1 d2 d3 d4 d5 d6 d7 d8 d9; exact rP (y_assign (ed d0 rfl rfl rfl))
    intro a9 s9 D9; have ok9 := D9.ok; have F9 := F8.step0 D9.stp; have q35 := D9.kt q31 rfl; have q36 := D9.kt q32 rfl; have q37 := D9.kt q33 rfl; have q38 := D9.kt q34 rfl; have q39 := D9.dn 7 rfl rfl; have q40 := D9.dn 8 rfl rfl; clear D9; refine tn ?_; refine wp_seq ?_; refine wp_seq ?_
    refine rg a9 s9 [(Ty.agg [(Ty.val (Value.string nm)), (Ty.int n), (Ty.lst Ty.ints l)]), (Ty.lstc 2 callC cs), (Ty.lst Ty.int leads), (Ty.int (touchMay nm n l cs leads)), (Ty.int (touchMay nm n l cs leads)), (Ty.bool (decide ((touchMay nm n l cs leads) ≠ (touchMay nm n l cs leads)))), (Ty.bool (decide ((touchMay nm n l cs leads) ≠ (touchMay nm n l cs leads)))), (Ty.grd ((decide ((touchMay nm n l cs leads) ≠ (touchMay nm n l cs leads))) = false) (Ty.int (touchMay nm n l cs leads))), (Ty.grd ((decide ((touchMay nm n l cs leads) ≠ (touchMay nm n l cs leads))) = false) (Ty.int (touchMay nm n l cs leads))), (Ty.grd ((decide ((touchMay nm n l cs leads) ≠ (touchMay nm n l cs leads))) = false) (Ty.bool (decide ((touchMay nm n l cs leads) ≠ (touchMay nm n l cs leads))))), (Ty.bool ((decide ((touchMay nm n l cs leads) ≠ (touchMay nm n l cs leads))) || (decide ((touchMay nm n l cs leads) ≠ (touchMay nm n l cs leads)))))] ok9 ⟨?_, ?_, ?_, ?_, ?_, ?_, ?_, ?_, ?_, ?_, ?_, trivial⟩ ?_
    · intro A B G H I; exact rP (y_loadagg Tryd.underlying24 Tryd.inf24 (kp (I 4 rfl) G q37))
    · intro A B G H I; exact rP (y_move (kp (I 1 rfl) G q35))
    · intro A B G H I; exact rP (y_move (kp (I 2 rfl) G q36))
    · intro A B G H I d0 d1 d2; exact rP (y_call #[A.eval (.tmp 77), A.eval (.tmp 78), A.eval (.tmp 79)] Tryd.func14 rfl rfl (by simp only [List.map_toArray, List.map_cons, List.map_nil]) (callMay_fn (nm) (n) (l) (cs) (leads) _ _ _ _ (ed d0 rfl rfl rfl) (ed d1 rfl rfl rfl) (ed d2 rfl rfl rfl) (by first | omega | assumption) (by first | omega | assumption)))
    · intro A B G H I; exact rP (y_move (kp (I 12 rfl) G q38))
    · intro A B G H I d0 d1; exact rP (y_neq (ed d0 rfl rfl rfl) (ed d1 rfl rfl rfl))
    · intro A B G H I d0 d1; exact rP (y_move (ed d0 rfl rfl rfl))
    · intro A B G H I d0
      refine run_guard H rfl rfl (by decide) (ed d0 rfl rfl rfl) (fun hg => ?_)
      have hp := of_decide_eq_false hg
      exact y_move (kp (I 10 rfl) G q40)
    · intro A B G H I d0
      refine run_guard H rfl rfl (by decide) (ed d0 rfl rfl rfl) (fun hg => ?_)
      have hp := of_decide_eq_false hg
      exact y_move (kp (I 12 rfl) G q38)
    · intro A B G H I d0 d1 d2
      refine run_guard H rfl rfl (by decide) (ed d2 rfl rfl rfl) (fun hg => ?_)
      have hp := of_decide_eq_false hg
      exact y_neq ((ed d0 rfl rfl rfl).1 hg) ((ed d1 rfl rfl rfl).1 hg)
    · intro A B G H I d0 d1; exact rP (y_pick_or (ed d0 rfl rfl rfl) rfl (ed d1 rfl rfl rfl))
    intro a10 s10 D10; have ok10 := D10.ok; have F10 := F9.step0 D10.stp; have q41 := D10.kt q35 rfl; have q42 := D10.kt q36 rfl; have q43 := D10.kt q37 rfl; have q44 := D10.kt q38 rfl; have q45 := D10.kt q39 rfl; have q46 := D10.dn 10 rfl rfl; clear D10; refine tn ?_
    refine cond_t q46 (fun c4 => ?_) (fun c4 => ?_)
    ·
     exfalso
     simp at c4
    ·
     obtain ⟨d15, d16⟩ := Bool.or_eq_false_iff.mp c4
     replace d15 := of_decide_eq_false d15
     replace d16 := of_decide_eq_false d16
     refine wp_skip ?_; refine tn ?_; refine wp_seq ?_; refine wp_seq ?_
     refine rg a10 s10 [(Ty.int (touchMay nm n l cs leads)), (Ty.bool (decide ((touchMay nm n l cs leads) ≠ (0 : Int))))] ok10 ⟨?_, ?_, trivial⟩ ?_
     · intro A B G H I; exact rP (y_move (kp (I 12 rfl) G q44))
     · intro A B G H I d0; exact rP (y_neq (ed d0 rfl rfl rfl) rfl)
     intro a11 s11 D11; have ok11 := D11.ok; have F11 := F10.step0 D11.stp; have q47 := D11.kt q41 rfl; have q48 := D11.kt q42 rfl; have q49 := D11.kt q43 rfl; have q50 := D11.kt q45 rfl; have q51 := D11.dn 1 rfl rfl; clear D11; refine tn ?_
     refine cond_p (p := ((touchMay nm n l cs leads) ≠ (0 : Int))) q51 (fun c5 => ?_) (fun c5 => ?_)
     ·
      refine wp_seq ?_
      refine rg a11 s11 [(Ty.lst Ty.ints (if touchMay nm n l cs leads = 0 then (tRows n.toNat l cs leads leads.length) else [])), (Ty.nat (List.length (if touchMay nm n l cs leads = 0 then (tRows n.toNat l cs leads leads.length) else []))), (Ty.bool (decide ((((List.length (if touchMay nm n l cs leads = 0 then (tRows n.toNat l cs leads leads.length) else [])) : Nat) : Int) = (0 : Int)))), (Ty.bool (decide ((((List.length (if touchMay nm n l cs leads = 0 then (tRows n.toNat l cs leads leads.length) else [])) : Nat) : Int) = (0 : Int))))] ok11 ⟨?_, ?_, ?_, ?_, trivial⟩ ?_
      · intro A B G H I; exact rP (y_move (kp (I 13 rfl) G q50))
      · intro A B G H I d0; exact rP (y_len Tryd.underlying22 (ed d0 rfl rfl rfl))
      · intro A B G H I d0; exact rP (y_eql (ed d0 rfl rfl rfl) rfl)
      · intro A B G H I d0 d1 d2 d3; exact rP (y_assign (ed d0 rfl rfl rfl))
      intro a12 s12 D12; have ok12 := D12.ok; have F12 := F11.step0 D12.stp; have q52 := D12.dn 3 rfl rfl; clear D12; refine tn ?_; refine wp_ret ?_; refine tr ?_
      exact retL1 rfl ok12 F12 (cvb (by (simp [c5])) q52)
     ·
      refine wp_skip ?_; refine tn ?_; refine wp_seq ?_
      refine rg a11 s11 [(Ty.lst Ty.ints (if touchMay nm n l cs leads = 0 then (tRows n.toNat l cs leads leads.length) else [])), (Ty.agg [(Ty.val (Value.string nm)), (Ty.int n), (Ty.lst Ty.ints l)]), (Ty.lstc 2 callC cs), (Ty.lst Ty.int leads), (Ty.lst Ty.ints (tRows n.toNat l cs leads leads.length)), (Ty.bool (decide (((if touchMay nm n l cs leads = 0 then (tRows n.toNat l cs leads leads.length) else [])) = ((tRows n.toNat l cs leads leads.length))))), (Ty.bool (decide (((if touchMay nm n l cs leads = 0 then (tRows n.toNat l cs leads leads.length) else [])) = ((tRows n.toNat l cs leads leads.length)))))] ok11 ⟨?_, ?_, ?_, ?_, ?_, ?_, ?_, trivial⟩ ?_
      · intro A B G H I; exact rP (y_move (kp (I 13 rfl) G q50))
      · intro A B G H I; exact rP (y_loadagg Tryd.underlying24 Tryd.inf24 (kp (I 4 rfl) G q49))
      · intro A B G H I; exact rP (y_move (kp (I 1 rfl) G q47))
      · intro A B G H I; exact rP (y_move (kp (I 2 rfl) G q48))
      · intro A B G H I d0 d1 d2; exact rP (y_call #[A.eval (.tmp 94), A.eval (.tmp 95), A.eval (.tmp 96)] Tryd.func16 rfl rfl (by simp only [List.map_toArray, List.map_cons, List.map_nil]) (rTouchRows_fn (nm) (n) (l) (cs) (leads) _ _ _ _ (ed d0 rfl rfl rfl) (ed d1 rfl rfl rfl) (ed d2 rfl rfl rfl) (by first | omega | assumption)))
      · intro A B G H I d0 d1 d2; exact rP (y_call #[A.eval (.tmp 93), A.eval (.tmp 97)] Tryd.func15 rfl rfl (by simp only [List.map_toArray, List.map_cons, List.map_nil]) (rSameAll_fn ((if touchMay nm n l cs leads = 0 then (tRows n.toNat l cs leads leads.length) else [])) ((tRows n.toNat l cs leads leads.length)) _ _ _ (ed d0 rfl rfl rfl) (ed d1 rfl rfl rfl) ))
      · intro A B G H I d0 d1 d2 d3 d4 d5 d6 d7; exact rP (y_assign (ed d0 rfl rfl rfl))
      intro a13 s13 D13; have ok13 := D13.ok; have F13 := F11.step0 D13.stp; have q53 := D13.dn 6 rfl rfl; clear D13; refine tn ?_; refine wp_ret ?_
      exact retL1 rfl ok13 F13 (cvb (by (simp [c5])) q53)


set_option maxHeartbeats 4000000 in
set_option maxRecDepth 100000 in
theorem callMade_fn (raw : List Int) (n : Int) (changes : Int) (many : Int) (leads : Int) (σ : GW)  (v0 v1 v2 v3 v4 : Value) (hv0 : Ty.has (Ty.lst Ty.int raw) σ v0) (hv1 : Ty.has (Ty.int n) σ v1) (hv2 : Ty.has (Ty.int changes) σ v2) (hv3 : Ty.has (Ty.int many) σ v3) (hv4 : Ty.has (Ty.int leads) σ v4)  (hraw : ∀ x ∈ raw, -9223372036854775808 ≤ x ∧ x ≤ 9223372036854775807) (hn : -9223372036854775808 ≤ n ∧ n ≤ 9223372036854775807) (hchanges : -9223372036854775808 ≤ changes ∧ changes ≤ 9223372036854775807) (hmany : -9223372036854775808 ≤ many ∧ many ≤ 9223372036854775807) (hleads : -9223372036854775808 ≤ leads ∧ leads ≤ 9223372036854775807) :
    FnC Tryd.prog 4 #[v0, v1, v2, v3, v4] σ (Ty.bool true) := by
 have hr : ∀ k, -9223372036854775808 ≤ rawAt raw k ∧ rawAt raw k ≤ 9223372036854775807 := fun k => rawAt_bd hraw k
 have hp_n := pick_lt n (n := 7) (by omega)
 have hp_changes := pick_lt changes (n := 16) (by omega)
 have hp_many := pick_lt many (n := 3) (by omega)
 have hp_leads := pick_lt leads (n := 20) (by omega)
 obtain ⟨M, hM⟩ : ∃ M, M = 2 + pick n 7 := ⟨_, rfl⟩
 obtain ⟨C, hC⟩ : ∃ C, C = 1 + pick many 3 := ⟨_, rfl⟩
 have hbs : (ByteArray.mk #[84, 114, 105, 101, 100]).size ≤ 1099511627776 := by (show 5 ≤ 1099511627776; omega)
 refine fn_intro0 Tryd.func4 rfl Tryd.ntmps4 (Nat.le_of_ble_eq_true rfl) (fun s0 a0 hle F0 ok0 hargs => ?_)
 have p0 : At (Ty.lst Ty.int raw) s0 a0 (.tmp 0) := by have e := hargs 0 _ rfl; show Ty.has _ _ _; rw [e]; exact Ty.up _ hle hv0
 have b1 := sl_le p0
 have p1 : At (Ty.int n) s0 a0 (.tmp 1) := by have e := hargs 1 _ rfl; show Ty.has _ _ _; rw [e]; exact Ty.up _ hle hv1
 have p2 : At (Ty.int changes) s0 a0 (.tmp 2) := by have e := hargs 2 _ rfl; show Ty.has _ _ _; rw [e]; exact Ty.up _ hle hv2
 have p3 : At (Ty.int many) s0 a0 (.tmp 3) := by have e := hargs 3 _ rfl; show Ty.has _ _ _; rw [e]; exact Ty.up _ hle hv3
 have p4 : At (Ty.int leads) s0 a0 (.tmp 4) := by have e := hargs 4 _ rfl; show Ty.has _ _ _; rw [e]; exact Ty.up _ hle hv4
 clear hargs; refine wp_seq ?_
 refine rg a0 s0 [(Ty.bool false)] ok0 ⟨?_, trivial⟩ ?_
 · intro A B G H I; exact rP (y_assign rfl)
 intro a1 s1 D1; have ok1 := D1.ok; have F1 := F0.step0 D1.stp; have q1 := D1.kt p0 rfl; have q2 := D1.kt p1 rfl; have q3 := D1.kt p2 rfl; have q4 := D1.kt p3 rfl; have q5 := D1.kt p4 rfl; clear D1; refine tn ?_; refine wp_seq ?_; refine wp_seq ?_
 refine rg a1 s1 [(Ty.lst Ty.int raw), (Ty.nat (List.length raw)), (Ty.bool (decide ((256 : Int) < (((List.length raw) : Nat) : Int))))] ok1 ⟨?_, ?_, ?_, trivial⟩ ?_
 · intro A B G H I; exact rP (y_move (kp (I 0 rfl) G q1))
 · intro A B G H I d0; exact rP (y_len Tryd.underlying26 (ed d0 rfl rfl rfl))
 · intro A B G H I d0; exact rP (y_gtr (ed d0 rfl rfl rfl) rfl)
 intro a2 s2 D2; have ok2 := D2.ok; have F2 := F1.step0 D2.stp; have q6 := D2.kt q1 rfl; have q7 := D2.kt q2 rfl; have q8 := D2.kt q3 rfl; have q9 := D2.kt q4 rfl; have q10 := D2.kt q5 rfl; have q11 := D2.dn 2 rfl rfl; clear D2; refine tn ?_
 refine cond_p (p := ((256 : Int) < (((List.length raw) : Nat) : Int))) q11 (fun c1 => ?_) (fun c1 => ?_)
 ·
  refine wp_seq ?_
  refine rg a2 s2 [(Ty.bool true)] ok2 ⟨?_, trivial⟩ ?_
  · intro A B G H I; exact rP (y_assign rfl)
  intro a3 s3 D3; have ok3 := D3.ok; have F3 := F2.step0 D3.stp; have q12 := D3.dn 0 rfl rfl; clear D3; refine tn ?_; refine wp_ret ?_; refine tr ?_
  exact retL1 rfl ok3 F3 q12
 ·
  refine wp_skip ?_; refine tn ?_; refine wp_seq ?_
  refine rg a2 s2 [(Ty.int n), (Ty.nat (pick (n) (7))), (Ty.nat (2 + (pick (n) (7)))), (Ty.nat (2 + (pick (n) (7))))] ok2 ⟨?_, ?_, ?_, ?_, trivial⟩ ?_
  · intro A B G H I; exact rP (y_move (kp (I 1 rfl) G q7))
  · intro A B G H I d0; exact rP (y_call #[A.eval (.tmp 15), A.eval ((Operand.const (Value.int IntKind.i64 7)))] Tryd.func17 rfl rfl (by simp only [List.map_toArray, List.map_cons, List.map_nil]) (pick_fn (n) (7) _ _ _ (cvi (σ := B) (by omega) (ed d0 rfl rfl rfl)) (cvi (σ := B) (by omega) rfl) (by omega) (by omega)))
  · intro A B G H I d0; exact rP ((y_add rfl (ed d0 rfl rfl rfl) (w64 (by omega) (by omega))).mono (fun τ _ h => cvi (σ := τ) (by first | omega | exact (Int.natCast_mul _ _).symm) h))
  · intro A B G H I d0 d1 d2 d3 d4; exact rP (y_assign (ed d0 rfl rfl rfl))
  intro a4 s4 D4; have ok4 := D4.ok; have F4 := F2.step0 D4.stp; have q13 := D4.kt q6 rfl; have q14 := D4.kt q8 rfl; have q15 := D4.kt q9 rfl; have q16 := D4.kt q10 rfl; have q17 := D4.dn 3 rfl rfl; clear D4
  have q18 : At (Ty.nat M) s4 a4 (.tmp 1) := (cvi (by (rw [hM])) q17)
  refine tn ?_; refine wp_seq ?_
  refine rg a4 s4 [(Ty.int many), (Ty.nat (pick (many) (3))), (Ty.nat (1 + (pick (many) (3)))), (Ty.nat (1 + (pick (many) (3))))] ok4 ⟨?_, ?_, ?_, ?_, trivial⟩ ?_
  · intro A B G H I; exact rP (y_move (kp (I 3 rfl) G q15))
  · intro A B G H I d0; exact rP (y_call #[A.eval (.tmp 18), A.eval ((Operand.const (Value.int IntKind.i64 3)))] Tryd.func17 rfl rfl (by simp only [List.map_toArray, List.map_cons, List.map_nil]) (pick_fn (many) (3) _ _ _ (cvi (σ := B) (by omega) (ed d0 rfl rfl rfl)) (cvi (σ := B) (by omega) rfl) (by omega) (by omega)))
  · intro A B G H I d0; exact rP ((y_add rfl (ed d0 rfl rfl rfl) (w64 (by omega) (by omega))).mono (fun τ _ h => cvi (σ := τ) (by first | omega | exact (Int.natCast_mul _ _).symm) h))
  · intro A B G H I d0 d1 d2 d3 d4; exact rP (y_assign (ed d0 rfl rfl rfl))
  intro a5 s5 D5; have ok5 := D5.ok; have F5 := F4.step0 D5.stp; have q19 := D5.kt q13 rfl; have q20 := D5.kt q14 rfl; have q21 := D5.kt q16 rfl; have q22 := D5.kt q18 rfl; have q23 := D5.dn 3 rfl rfl; clear D5
  have q24 : At (Ty.nat C) s5 a5 (.tmp 3) := (cvi (by (rw [hC])) q23)
  refine tn ?_; refine wp_seq ?_
  refine reg2 (a := a5) (σ := s5) rfl 7 (fun i_ => List.getD [(Ty.pr (Ty.lst Ty.int raw)), (Ty.pr (Ty.nat M)), (Ty.pr (Ty.int changes)), (Ty.pr (Ty.nat (pick (changes) (16)))), (Ty.pr (Ty.nat (1 + (pick (changes) (16))))), (Ty.pr (Ty.agg [(Ty.val (Value.string (ByteArray.mk #[84, 114, 105, 101, 100]))), (Ty.nat (M)), (Ty.lst Ty.ints (changesOf raw 3 (M) ((1 + (pick (changes) (16))))))])), (Pr.ownp 5 [(Ty.val (Value.string ByteArray.empty)), (Ty.int (0 : Int)), (Ty.val (Value.slice none 0 0))])] i_ Pr.any) ok5 rfl (by decide) rfl ⟨?_, ?_, ?_, ?_, ?_, ?_, ?_, trivial⟩ ?_
  · intro A B G H I; exact rP (y_move (kp (I 0 rfl) G q19))
  · intro A B G H I; exact rP (y_move (kp (I 1 rfl) G q22))
  · intro A B G H I; exact rP (y_move (kp (I 2 rfl) G q20))
  · intro A B G H I d0; exact rP (y_call #[A.eval (.tmp 23), A.eval ((Operand.const (Value.int IntKind.i64 16)))] Tryd.func17 rfl rfl (by simp only [List.map_toArray, List.map_cons, List.map_nil]) (pick_fn (changes) (16) _ _ _ (cvi (σ := B) (by omega) (ed d0 rfl rfl rfl)) (cvi (σ := B) (by omega) rfl) (by omega) (by omega)))
  · intro A B G H I d0; exact rP ((y_add rfl (ed d0 rfl rfl rfl) (w64 (by omega) (by omega))).mono (fun τ _ h => cvi (σ := τ) (by first | omega | exact (Int.natCast_mul _ _).symm) h))
  · intro A B G H I d0 d1 d2 d3; exact rP (y_call #[A.eval (.tmp 21), A.eval (.tmp 22), A.eval (.tmp 25)] Tryd.func18 rfl rfl (by simp only [List.map_toArray, List.map_cons, List.map_nil]) (methodOf_fn (raw) (M) ((1 + (pick (changes) (16)))) _ _ _ _ (ed d0 rfl rfl rfl) (cvi (σ := B) (by first | omega | exact hr | assumption) (ed d1 rfl rfl rfl)) (cvi (σ := B) (by first | omega | exact hr | assumption) (ed d2 rfl rfl rfl)) (by first | omega | exact hr | assumption) (by first | omega | exact hr | assumption) (by first | omega | exact hr | assumption)))
  · intro A B G H I; exact rP (y_alloc Tryd.inf24 rfl (alloc_vals (vs := [.string ByteArray.empty, .int .i64 0, .slice none 0 0]) rfl))
  intro a6 s6 D6; have ok6 := D6.ok; have F6 := F5.step0 D6.stp; have q25 := D6.kt q19 rfl; have q26 := D6.kt q21 rfl; have q27 := D6.kt q22 rfl; have q28 := D6.kt q24 rfl; have q29 := D6.dn 5 (by decide) rfl rfl
  obtain ⟨x1, hx1⟩ : ∃ x, a6.eval (.tmp 11) = x := ⟨_, rfl⟩
  have q30 : At (Ty.val x1) s6 a6 (.tmp 11) := hx1
  have o1 : OwnP s6 5 x1 [(Ty.val (Value.string ByteArray.empty)), (Ty.int (0 : Int)), (Ty.val (Value.slice none 0 0))] := al2 (R := (Pr.ownp 5 [(Ty.val (Value.string ByteArray.empty)), (Ty.int (0 : Int)), (Ty.val (Value.slice none 0 0))])) hx1 (D6.done 6 (by decide))
  clear D6
  refine tailL0 (L := [5]) (R := (fun _ τ => OwnP τ 5 x1 [(Ty.val (Value.string (ByteArray.mk #[84, 114, 105, 101, 100]))), (Ty.nat (M)), (Ty.lst Ty.ints (changesOf raw 3 (M) ((1 + (pick (changes) (16))))))])) rfl rfl (YldM.toL (m_storeagg Tryd.inf24 (by decide) o1 q30 rfl q29 (by intro U hU; simp only [List.mem_cons, List.not_mem_nil, or_false] at hU; rcases hU with rfl | rfl | rfl <;> first | exact one_val rfl | exact one_sl | exact one_ref))) (fun v1 s7 hs1 r1 => ?_)
  have F7 := F6.stepL hs1 (by decide); have q31 := kpL hs1 (by decide) rfl q25; have q32 := kpL hs1 (by decide) rfl q26; have q33 := kpL hs1 (by decide) rfl q27; have q34 := kpL hs1 (by decide) rfl q28; have q35 := kpL hs1 (by decide) rfl q30
  have o2 : OwnP s7 5 x1 [(Ty.val (Value.string (ByteArray.mk #[84, 114, 105, 101, 100]))), (Ty.nat (M)), (Ty.lst Ty.ints (changesOf raw 3 (M) ((1 + (pick (changes) (16))))))] := r1
  clear r1; refine wpList_nil ?_; refine tn ?_; refine wp_seq ?_
  refine rg a6 s7 [(Ty.agg [(Ty.val (Value.string (ByteArray.mk #[84, 114, 105, 101, 100]))), (Ty.nat (M)), (Ty.lst Ty.ints (changesOf raw 3 (M) ((1 + (pick (changes) (16))))))]), (Ty.lst Ty.int raw), (Ty.nat M), (Ty.nat C), (Ty.lstc 2 callC (cOf raw (M) ((C) - 1))), (Ty.lst Ty.int raw), (Ty.int leads), (Ty.nat (pick (leads) (20))), (Ty.nat (1 + (pick (leads) (20)))), (Ty.nat C), (Ty.lst Ty.int (leadsOf raw ((1 + (pick (leads) (20)))) (C))), (Ty.bool true), (Ty.bool true)] ok6 ⟨?_, ?_, ?_, ?_, ?_, ?_, ?_, ?_, ?_, ?_, ?_, ?_, ?_, trivial⟩ ?_
  · intro A B G H I; exact rP (ownp_loadagg Tryd.underlying24 Tryd.inf24 (OwnP.k0 o2 G) (kp (I 11 rfl) G q35))
  · intro A B G H I; exact rP (y_move (kp (I 0 rfl) G q31))
  · intro A B G H I; exact rP (y_move (kp (I 1 rfl) G q33))
  · intro A B G H I; exact rP (y_move (kp (I 3 rfl) G q34))
  · intro A B G H I d0 d1 d2; exact rP (y_call #[A.eval (.tmp 28), A.eval (.tmp 29), A.eval (.tmp 30)] Tryd.func19 rfl rfl (by simp only [List.map_toArray, List.map_cons, List.map_nil]) (callsOf_fn (raw) (M) (C) _ _ _ _ (ed d0 rfl rfl rfl) (cvi (σ := B) (by first | omega | exact hr | assumption) (ed d1 rfl rfl rfl)) (cvi (σ := B) (by first | omega | exact hr | assumption) (ed d2 rfl rfl rfl)) (by first | omega | exact hr | assumption) (by first | omega | exact hr | assumption) (by first | omega | exact hr | assumption)))
  · intro A B G H I; exact rP (y_move (kp (I 0 rfl) G q31))
  · intro A B G H I; exact rP (y_move (kp (I 4 rfl) G q32))
  · intro A B G H I d0 d1; exact rP (y_call #[A.eval (.tmp 33), A.eval ((Operand.const (Value.int IntKind.i64 20)))] Tryd.func17 rfl rfl (by simp only [List.map_toArray, List.map_cons, List.map_nil]) (pick_fn (leads) (20) _ _ _ (cvi (σ := B) (by omega) (ed d0 rfl rfl rfl)) (cvi (σ := B) (by omega) rfl) (by omega) (by omega)))
  · intro A B G H I d0; exact rP ((y_add rfl (ed d0 rfl rfl rfl) (w64 (by omega) (by omega))).mono (fun τ _ h => cvi (σ := τ) (by first | omega | exact (Int.natCast_mul _ _).symm) h))
  · intro A B G H I; exact rP (y_move (kp (I 3 rfl) G q34))
  · intro A B G H I d0 d1 d2 d3; exact rP (y_call #[A.eval (.tmp 32), A.eval (.tmp 35), A.eval (.tmp 36)] Tryd.func20 rfl rfl (by simp only [List.map_toArray, List.map_cons, List.map_nil]) (rLeadsOf_fn (raw) ((1 + (pick (leads) (20)))) (C) _ _ _ _ (ed d0 rfl rfl rfl) (cvi (σ := B) (by first | omega | assumption) (ed d1 rfl rfl rfl)) (cvi (σ := B) (by first | omega | assumption) (ed d2 rfl rfl rfl)) (by first | omega | assumption) (by first | omega | assumption) (by first | omega | assumption)))
  · intro A B G H I d0 d1 d2 d3; exact rP (y_call #[A.eval (.tmp 27), A.eval (.tmp 31), A.eval (.tmp 37), A.eval ((Operand.const (Value.int IntKind.i32 120)))] Tryd.func3 rfl rfl (by simp only [List.map_toArray, List.map_cons, List.map_nil]) (callSays_fn ((ByteArray.mk #[84, 114, 105, 101, 100])) ((((M) : Nat) : Int)) ((changesOf raw 3 (M) ((1 + (pick (changes) (16)))))) ((cOf raw (M) ((C) - 1))) ((leadsOf raw ((1 + (pick (leads) (20)))) (C))) ((120 : Int)) _ _ _ _ _ (ed d0 rfl rfl rfl) (ed d1 rfl rfl rfl) (ed d2 rfl rfl rfl) (cvi (σ := B) (by first | omega | assumption | exact cOf_asc (by omega)) rfl) (by first | omega | assumption | exact cOf_asc (by omega)) (by first | omega | assumption | exact cOf_asc (by omega)) (by first | omega | assumption | exact cOf_asc (by omega))))
  · intro A B G H I d0 d1 d2 d3 d4 d5 d6 d7 d8 d9 d10 d11 d12 d13; exact rP (y_assign (ed d0 rfl rfl rfl))
  intro a7 s8 D7; have ok7 := D7.ok; have F8 := F7.step0 D7.stp; have o3 := OwnP.k0 o2 D7.stp; have q37 := D7.dn 12 rfl rfl; clear D7; refine tn ?_; refine wp_ret ?_
  exact retL1 rfl ok7 F8 q37


end Go.Proofs.YtbilebfnanlgfaaDoor
