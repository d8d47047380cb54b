/- The functions that the law TopTouch reaches, each by its contract. Part 3. -/
import Derived.Test.YtbilebfnanlgfaaDoorTopTouchW2
namespace Go.Proofs.YtbilebfnanlgfaaDoor
open Go.KL
theorem Tryd.inf25 : Info Tryd.prog 25 (.slice none 0 0) 1 24 := by unfold Info; kernel_rfl
theorem Tryd.fld74_0 : fieldOf Tryd.prog 74 0 = some (25, 0) := by kernel_rfl
def ItemsAt (d : Nat) : Prop := ∀ (r : Value) (cs : List BCall) (l : List Int) (deep : Nat) (σ : GW) (hlow : Low [40] σ) (v0 v1 : Value) (hv0 : Ty.has (Ty.val r) σ v0) (hv1 : Ty.has (Ty.nat deep) σ v1) (ho_r : OwnP σ 40 r [(Ty.lstc 2 callC cs), (Ty.lst Ty.rune l)]) (hd : l.length ≤ d) (hll : l.length ≤ 1000000) (hdp : deep ≤ 6), FnL Tryd.prog 43 #[v0, v1] σ [40] (fun v τ => ∃ (z : List Int), (Ty.has (Ty.tup2 (Ty.lst Ty.int (parM (sgOf cs) deep [] l).out) (Ty.int (parM (sgOf cs) deep [] l).err)) τ v) ∧ (OwnP τ 40 r [(Ty.lstc 2 callC cs), (Ty.lst Ty.rune z)]) ∧ ((parM (sgOf cs) deep [] l).err = 0 → z = (parM (sgOf cs) deep [] l).rest))
set_option maxHeartbeats 4000000 in
set_option maxRecDepth 100000 in
theorem item_fn (d : Nat) (r : Value) (cs : List BCall) (l : List Int) (deep : Nat) (σ : GW) (hlow : Low [40] σ) (v0 v1 : Value) (hv0 : Ty.has (Ty.val r) σ v0) (hv1 : Ty.has (Ty.nat deep) σ v1) (ho_r : OwnP σ 40 r [(Ty.lstc 2 callC cs), (Ty.lst Ty.rune l)]) (hd : l.length ≤ d + 1) (hl1 : 1 ≤ l.length) (hll : l.length ≤ 1000000) (hdp : deep ≤ 6) (hIt : ItemsAt d) :
    FnL Tryd.prog 58 #[v0, v1] σ [40] (fun v τ => ∃ (z : List Int), (Ty.has (Ty.tup2 (Ty.lst Ty.int (itM (sgOf cs) deep l).out) (Ty.int (itM (sgOf cs) deep l).err)) τ v) ∧ (OwnP τ 40 r [(Ty.lstc 2 callC cs), (Ty.lst Ty.rune z)]) ∧ ((itM (sgOf cs) deep l).err = 0 → z = (itM (sgOf cs) deep l).rest)) := by
 obtain ⟨N, hN⟩ : ∃ N, N = (numR 0 false l) := ⟨_, rfl⟩
 obtain ⟨I, hI⟩ : ∃ I, I = (itM (sgOf cs) deep l) := ⟨_, rfl⟩
 refine fn_introL hlow Tryd.func58 rfl Tryd.ntmps58 (Nat.le_of_ble_eq_true rfl) (fun a0 F0 ok0 hargs => ?_)
 have p0 : At (Ty.val r) σ a0 (.tmp 0) := by have e := hargs 0 _ rfl; show Ty.has _ _ _; rw [e]; exact hv0
 have p1 : At (Ty.nat deep) σ a0 (.tmp 1) := by have e := hargs 1 _ rfl; show Ty.has _ _ _; rw [e]; exact hv1
 clear hargs; refine wp_seq ?_
 refine reg (a := a0) (σ := σ) rfl (fun i_ => List.getD [(Ty.pr (Ty.val (Value.slice none 0 0))), (Ty.pr (Ty.int (0 : Int)))] i_ Pr.any) ok0 rfl ⟨?_, ?_, trivial⟩ ?_
 · intro A B E G H; exact rP (y_assign rfl)
 · intro A B E G H d0; exact rP (y_assign rfl)
 intro a1 s1 D1; have ok1 := D1.ok; have F1 := F0.step0 D1.stp; have q1 := D1.kt p0 rfl; have q2 := D1.kt p1 rfl; have o1 := OwnP.k0 ho_r D1.stp; clear D1; refine tn ?_; refine wp_seq ?_
 refine reg2 (a := a1) (σ := s1) rfl 1 (fun i_ => List.getD [(Ty.pr (Ty.val r))] i_ Pr.any) ok1 rfl (by decide) rfl ⟨?_, trivial⟩ ?_
 · intro A B E G H; exact rP (y_move (kp (H 0 rfl) E q1))
 intro a2 s2 D2; have ok2 := D2.ok; have F2 := F1.step0 D2.stp; have q3 := D2.kt q1 rfl; have q4 := D2.kt q2 rfl; have o2 := OwnP.k0 o1 D2.stp; have q5 := D2.dn 0 (by decide) rfl rfl; clear D2
 refine tailL (L := [40]) (R := (fun v τ' => ∃ τ, (fun v τ => ∃ (z : List Int), (Ty.has (Ty.tup2 (Ty.int (if (numR 0 false l).err = 0 then timesM (numR 0 false l) else 0)) (Ty.int (numR 0 false l).err)) τ v) ∧ (OwnP τ 40 r [(Ty.lstc 2 callC cs), (Ty.lst Ty.rune z)]) ∧ ((numR 0 false l).err = 0 → z = (numR 0 false l).rest)) v τ ∧ Back [(40, 40)] τ τ')) rfl rfl (by decide) ok2 (y_callL (L := [40]) [(40, 40)] [(40, 40)] #[a2.eval (.tmp 12)] rfl (by decide) Tryd.func68 rfl rfl (by simp only [List.map_toArray, List.map_cons, List.map_nil]) (number_fn (r) (cs) (l) _ (GW.low_lend _ (by decide)) _ (Ty.up _ (GW.le_lend _ _) q5) (OwnP.ren o2 (GW.ren_lend _ _ (by decide) rfl)) (by first | omega | assumption))) (fun a3 s3 hs1 ok3 r1 sm1 => ?_)
 have F3 := F2.stepL hs1 (by decide); have q6 := kpL hs1 (by decide) (sm1 0 (by decide)) q3; have q7 := kpL hs1 (by decide) (sm1 1 (by decide)) q4
 obtain ⟨t1, ⟨g1, hT1, o3, hp1⟩, B1⟩ := r1
 have q8 : At (Ty.tup2 (Ty.int (if (numR 0 false l).err = 0 then timesM (numR 0 false l) else 0)) (Ty.int (numR 0 false l).err)) s3 a3 (.tmp 13) := Ty.up _ B1.le hT1
 have o4 : OwnP s3 40 r [(Ty.lstc 2 callC cs), (Ty.lst Ty.rune (g1))] := OwnP.ren o3 (B1.ren (by decide) rfl)
 refine tailL (L := []) (R := (fun v τ => Pr.has (Ty.pr (Ty.tup2 (Ty.int (if (numR 0 false l).err = 0 then timesM (numR 0 false l) else 0)) (Ty.int (numR 0 false l).err))) τ v)) rfl rfl (by decide) ok3 (Yld.toL (y_move q8)) (fun a4 s4 hs2 ok4 r2 sm2 => ?_)
 have F4 := F3.stepL hs2 (by decide); have q9 := kpL hs2 (by decide) (sm2 0 (by decide)) q6; have q10 := kpL hs2 (by decide) (sm2 1 (by decide)) q7; have o5 := OwnP.keepL o4 hs2 (by decide) (by decide)
 have q11 : At (Ty.tup2 (Ty.int (if (numR 0 false l).err = 0 then timesM (numR 0 false l) else 0)) (Ty.int (numR 0 false l).err)) s4 a4 (.tmp 11) := r2
 clear r2
 refine tailL (L := []) (R := (fun v τ => Pr.has (Ty.pr (Ty.int (if (numR 0 false l).err = 0 then timesM (numR 0 false l) else 0))) τ v)) rfl rfl (by decide) ok4 (Yld.toL (y_ext2_0 q11)) (fun a5 s5 hs3 ok5 r3 sm3 => ?_)
 have F5 := F4.stepL hs3 (by decide); have q12 := kpL hs3 (by decide) (sm3 0 (by decide)) q9; have q13 := kpL hs3 (by decide) (sm3 1 (by decide)) q10; have q14 := kpL hs3 (by decide) (sm3 11 (by decide)) q11; have o6 := OwnP.keepL o5 hs3 (by decide) (by decide)
 have q15 : At (Ty.int (if (numR 0 false l).err = 0 then timesM (numR 0 false l) else 0)) s5 a5 (.tmp 14) := r3
 clear r3
 refine tailL (L := []) (R := (fun v τ => Pr.has (Ty.pr (Ty.int (numR 0 false l).err)) τ v)) rfl rfl (by decide) ok5 (Yld.toL (y_ext2_1 q14)) (fun a6 s6 hs4 ok6 r4 sm4 => ?_)
 have F6 := F5.stepL hs4 (by decide); have q16 := kpL hs4 (by decide) (sm4 0 (by decide)) q12; have q17 := kpL hs4 (by decide) (sm4 1 (by decide)) q13; have q18 := kpL hs4 (by decide) (sm4 14 (by decide)) q15; have o7 := OwnP.keepL o6 hs4 (by decide) (by decide)
 have q19 : At (Ty.int (numR 0 false l).err) s6 a6 (.tmp 15) := r4
 clear r4
 refine tailL (L := []) (R := (fun v τ => Pr.has (Ty.pr (Ty.int (if (numR 0 false l).err = 0 then timesM (numR 0 false l) else 0))) τ v)) rfl rfl (by decide) ok6 (Yld.toL (y_assign q18)) (fun a7 s7 hs5 ok7 r5 sm5 => ?_)
 have F7 := F6.stepL hs5 (by decide); have q20 := kpL hs5 (by decide) (sm5 0 (by decide)) q16; have q21 := kpL hs5 (by decide) (sm5 1 (by decide)) q17; have q22 := kpL hs5 (by decide) (sm5 15 (by decide)) q19; have o8 := OwnP.keepL o7 hs5 (by decide) (by decide)
 have q23 : At (Ty.int (if (numR 0 false l).err = 0 then timesM (numR 0 false l) else 0)) s7 a7 (.tmp 6) := r5
 clear r5
 refine tailL (L := []) (R := (fun v τ => Pr.has (Ty.pr (Ty.int (numR 0 false l).err)) τ v)) rfl rfl (by decide) ok7 (Yld.toL (y_assign q22)) (fun a8 s8 hs6 ok8 r6 sm6 => ?_)
 have F8 := F7.stepL hs6 (by decide); have q24 := kpL hs6 (by decide) (sm6 0 (by decide)) q20; have q25 := kpL hs6 (by decide) (sm6 1 (by decide)) q21; have q26 := kpL hs6 (by decide) (sm6 6 (by decide)) q23; have o9 := OwnP.keepL o8 hs6 (by decide) (by decide)
 have q27 : At (Ty.int (numR 0 false l).err) s8 a8 (.tmp 7) := r6
 clear r6; refine wpList_nil ?_; refine tn ?_; refine wp_seq ?_; refine wp_seq ?_
 refine rg a8 s8 [(Ty.int (numR 0 false l).err), (Ty.bool (decide ((numR 0 false l).err ≠ (0 : Int))))] ok8 ⟨?_, ?_, trivial⟩ ?_
 · intro A B E G H; exact rP (y_move (kp (H 7 rfl) E q27))
 · intro A B E G H d0; exact rP (y_neq (ed d0 rfl rfl rfl) rfl)
 intro a9 s9 D3; have ok9 := D3.ok; have F9 := F8.step0 D3.stp; have q28 := D3.kt q24 rfl; have q29 := D3.kt q25 rfl; have q30 := D3.kt q26 rfl; have q31 := D3.kt q27 rfl; have o10 := OwnP.k0 o9 D3.stp; have q32 := D3.dn 1 rfl rfl; clear D3; refine tn ?_
 refine cond_p (p := ((numR 0 false l).err ≠ (0 : Int))) q32 (fun c1 => ?_) (fun c1 => ?_)
 ·
  have hIe : I = ⟨12, [], []⟩ := (by rw [hI]; exact it_num c1); have hN12 := num_err c1
  refine wp_seq ?_
  refine rg a9 s9 [(Ty.int (numR 0 false l).err), (Ty.val (Value.slice none 0 0)), (Ty.int (numR 0 false l).err)] ok9 ⟨?_, ?_, ?_, trivial⟩ ?_
  · intro A B E G H d0; exact rP (y_move (kp (H 7 rfl) E q31))
  · intro A B E G H d0; exact rP (y_assign rfl)
  · intro A B E G H d0 d1 d2 d3; exact rP (y_assign (ed d0 rfl rfl rfl))
  intro a10 s10 D4; have ok10 := D4.ok; have F10 := F9.step0 D4.stp; have o11 := OwnP.k0 o10 D4.stp; have q33 := D4.dn 1 rfl rfl; have q34 := D4.dn 2 rfl rfl; clear D4; refine tn ?_; refine wp_ret ?_; refine tr ?_
  exact retL2 rfl ok10 F10 ⟨g1, (hasT2 (nil_lst (by (rw [← hI, hIe])) q33) (cvi (by (rw [← hI, hIe, hN12])) q34)), o11, (by rw [← hI, hIe]; exact fun h_ => absurd h_ (by simp))⟩
 ·
  have hN0 : (numR 0 false l).err = 0 := Classical.not_not.1 c1; obtain ⟨s, hsd⟩ : ∃ s, s = (numR 0 false l).rest := ⟨_, rfl⟩; have hgs : g1 = s := (by rw [hsd]; exact hp1 hN0); have hst : Tail s l := (by rw [hsd]; exact numR_tail l 0 false hN0); have hsl := hst.len; obtain ⟨T, hT1, hT2, hT3⟩ := num_times hN0
  have q35 : At (Ty.nat T) s9 a9 (.tmp 6) := cvt (T := (Ty.int (if (numR 0 false l).err = 0 then timesM (numR 0 false l) else 0))) (U := (Ty.nat T)) (by rw [if_pos hN0, ← hT1]) q30
  have o12 : OwnP s9 40 r [(Ty.lstc 2 callC cs), (Ty.lst Ty.rune s)] := (ownp_cell 1 (Ty.lst Ty.rune s) o10 rfl (fun _ _ h => (cvt (by (rw [hgs])) h)))
  refine wp_skip ?_; refine tn ?_; refine wp_seq ?_; refine wp_seq ?_
  refine rg a9 s9 [(Ty.val r), (Ty.val r), (Ty.val (ptrAt r 1)), (Ty.lst Ty.rune s), (Ty.nat (List.length s)), (Ty.bool (decide ((((List.length s) : Nat) : Int) = (0 : Int))))] ok9 ⟨?_, ?_, ?_, ?_, ?_, ?_, trivial⟩ ?_
  · intro A B E G H; exact rP (y_move (kp (H 0 rfl) E q28))
  · intro A B E G H d0; exact rP (y_nilp (OwnP.k0 o12 E) (ed d0 rfl rfl rfl))
  · intro A B E G H d0; exact rP (ownp_field Tryd.fld74_1 Tryd.inf71 (by decide) (OwnP.k0 o12 E) (ed d0 rfl rfl rfl))
  · intro A B E G H d0; exact rP (ownp_load Tryd.underlying71 rfl (OwnP.k0 o12 E) (ed d0 rfl rfl rfl) rfl)
  · intro A B E G H d0; exact rP (y_len Tryd.underlying71 (ed d0 rfl rfl rfl))
  · intro A B E G H d0; exact rP (y_eql (ed d0 rfl rfl rfl) rfl)
  intro a11 s11 D5; have ok11 := D5.ok; have F11 := F9.step0 D5.stp; have q36 := D5.kt q28 rfl; have q37 := D5.kt q29 rfl; have q38 := D5.kt q35 rfl; have o13 := OwnP.k0 o12 D5.stp; have q39 := D5.dn 5 rfl rfl; clear D5; refine tn ?_
  refine cond_p (p := ((((List.length s) : Nat) : Int) = (0 : Int))) q39 (fun c2 => ?_) (fun c2 => ?_)
  ·
   have hse : s = [] := List.eq_nil_of_length_eq_zero (by omega); have hIe : I = ⟨5, [], []⟩ := (by rw [hI]; exact it_shortM hN0 (by rw [← hsd]; exact hse))
   refine wp_seq ?_
   refine rg a11 s11 [(Ty.val (Value.slice none 0 0)), (Ty.int (5 : Int))] ok11 ⟨?_, ?_, trivial⟩ ?_
   · intro A B E G H; exact rP (y_assign rfl)
   · intro A B E G H d0 d1; exact rP (y_assign rfl)
   intro a12 s12 D6; have ok12 := D6.ok; have F12 := F11.step0 D6.stp; have o14 := OwnP.k0 o13 D6.stp; have q40 := D6.dn 0 rfl rfl; have q41 := D6.dn 1 rfl rfl; clear D6; refine tn ?_; refine wp_ret ?_; refine tr ?_
   exact retL2 rfl ok12 F12 ⟨s, (hasT2 (nil_lst (by (rw [← hI, hIe])) q40) (cvi (by (rw [← hI, hIe])) q41)), (ownp_cell 1 (Ty.lst Ty.rune (s)) o14 rfl (fun _ _ h => (cvt (by (first | rfl | omega | (simp_all; done) | (simp_all; omega))) h))), (by rw [← hI, hIe]; exact fun h_ => absurd h_ (by simp))⟩
  ·
   have hs0 : s ≠ [] := (fun e_ => by rw [e_] at c2; simp at c2); obtain ⟨Q, hQ⟩ : ∃ Q, Q = oneM (sgOf cs) (parM (sgOf cs)) deep s := ⟨_, rfl⟩; have hit : I = (if Q.err ≠ 0 then ⟨Q.err, [], []⟩ else rpM T Q.out Q.rest) := (by rw [hI, hQ]; exact it_oneM hT1 hN0 hsd hs0); have hdl : (s.drop 1).length = s.length - 1 := List.length_drop
   refine wp_skip ?_; refine tn ?_; refine wp_seq ?_
   refine reg2 (a := a11) (σ := s11) rfl 7 (fun i_ => List.getD [(Ty.pr (Ty.val r)), (Ty.pr (Ty.val r)), (Ty.pr (Ty.val (ptrAt r 1))), (Ty.pr (Ty.lst Ty.rune s)), (Ty.pr (Ty.ref [(Ty.val (Value.int .i32 (s.getD ((0 : Int)).toNat 0)))])), (Ty.pr (Ty.val (Value.int .i32 (s.getD ((0 : Int)).toNat 0)))), (Pr.ownp 5 [(Ty.val (Value.int .i32 0))])] i_ Pr.any) ok11 rfl (by decide) rfl ⟨?_, ?_, ?_, ?_, ?_, ?_, ?_, trivial⟩ ?_
   · intro A B E G H; exact rP (y_move (kp (H 0 rfl) E q36))
   · intro A B E G H d0; exact rP (y_nilp (OwnP.k0 o13 E) (ed d0 rfl rfl rfl))
   · intro A B E G H d0; exact rP (ownp_field Tryd.fld74_1 Tryd.inf71 (by decide) (OwnP.k0 o13 E) (ed d0 rfl rfl rfl))
   · intro A B E G H d0; exact rP (ownp_load Tryd.underlying71 rfl (OwnP.k0 o13 E) (ed d0 rfl rfl rfl) rfl)
   · intro A B E G H d0; exact rP (y_index1 Tryd.underlying71 Tryd.inf21 (ed d0 rfl rfl rfl) rfl (by omega) (lst_get Ty.rune s 0 ((0 : Int)).toNat (by omega)))
   · intro A B E G H d0; exact rP (y_load Tryd.underlying21 rfl (ed d0 rfl rfl rfl) rfl)
   · intro A B E G H; exact rP (y_alloc Tryd.inf21 rfl (alloc_vals (vs := [.int .i32 0]) rfl))
   intro a13 s13 D7; have ok13 := D7.ok; have F13 := F11.step0 D7.stp; have q42 := D7.kt q36 rfl; have q43 := D7.kt q37 rfl; have q44 := D7.kt q38 rfl; have o15 := OwnP.k0 o13 D7.stp; have q45 := D7.dn 5 (by decide) rfl rfl
   obtain ⟨x1, hx1⟩ : ∃ x, a13.eval (.tmp 8) = x := ⟨_, rfl⟩
   have q46 : At (Ty.val x1) s13 a13 (.tmp 8) := hx1
   have o16 : OwnP s13 5 x1 [(Ty.val (Value.int .i32 0))] := al2 (R := (Pr.ownp 5 [(Ty.val (Value.int .i32 0))])) hx1 (D7.done 6 (by decide))
   clear D7
   refine tailL0 (L := [5]) (R := (fun _ τ => OwnP τ 5 x1 ([(Ty.val (Value.int .i32 0))].set 0 (Ty.val (Value.int .i32 (s.getD ((0 : Int)).toNat 0)))))) rfl rfl (YldM.toL (m_storep Tryd.inf21 (by decide) o16 (ptr0 o16 q46) (Nat.le_of_ble_eq_true rfl) q45 (one_val rfl))) (fun v1 s14 hs7 r7 => ?_)
   have F14 := F13.stepL hs7 (by decide); have q47 := kpL hs7 (by decide) rfl q42; have q48 := kpL hs7 (by decide) rfl q43; have q49 := kpL hs7 (by decide) rfl q44; have q50 := kpL hs7 (by decide) rfl q46; have o18 := OwnP.keepL o15 hs7 (by decide) (by decide)
   have o17 : OwnP s14 5 x1 [(Ty.val (Value.int .i32 (s.getD ((0 : Int)).toNat 0)))] := r7
   clear r7; refine wpList_nil ?_; refine tn ?_; refine wp_seq ?_
   refine reg2 (a := a13) (σ := s14) rfl 8 (fun i_ => List.getD [(Ty.pr (Ty.val r)), (Ty.pr (Ty.val r)), (Ty.pr (Ty.val r)), (Ty.pr (Ty.val (ptrAt r 1))), (Ty.pr (Ty.lst Ty.rune s)), (Ty.pr (Ty.lst Ty.rune (s.drop 1))), (Ty.pr (Ty.val r)), (Ty.pr (Ty.val (ptrAt r 1)))] i_ Pr.any) ok13 rfl (by decide) rfl ⟨?_, ?_, ?_, ?_, ?_, ?_, ?_, ?_, trivial⟩ ?_
   · intro A B E G H; exact rP (y_move (kp (H 0 rfl) E q47))
   · intro A B E G H; exact rP (y_move (kp (H 0 rfl) E q47))
   · intro A B E G H d0; exact rP (y_nilp (OwnP.k0 o18 E) (ed d0 rfl rfl rfl))
   · intro A B E G H d0; exact rP (ownp_field Tryd.fld74_1 Tryd.inf71 (by decide) (OwnP.k0 o18 E) (ed d0 rfl rfl rfl))
   · intro A B E G H d0; exact rP (ownp_load Tryd.underlying71 rfl (OwnP.k0 o18 E) (ed d0 rfl rfl rfl) rfl)
   · intro A B E G H d0; exact rP (y_drop Tryd.underlying71 Tryd.inf21 (ed d0 rfl rfl rfl) (toN (σ := B) rfl (by omega)) (by omega))
   · intro A B E G H d0 d1 d2 d3 d4 d5 d6; exact rP (y_nilp (OwnP.k0 o18 E) (ed d0 rfl rfl rfl))
   · intro A B E G H d0 d1 d2 d3 d4 d5 d6; exact rP (ownp_field Tryd.fld74_1 Tryd.inf71 (by decide) (OwnP.k0 o18 E) (ed d0 rfl rfl rfl))
   intro a14 s15 D8; have ok14 := D8.ok; have F15 := F14.step0 D8.stp; have q52 := D8.kt q47 rfl; have q53 := D8.kt q48 rfl; have q54 := D8.kt q49 rfl; have q55 := D8.kt q50 rfl; have o19 := OwnP.k0 o18 D8.stp; have o20 := OwnP.k0 o17 D8.stp; have q56 := D8.dn 5 (by decide) rfl rfl
   have b1 := sl_le q56
   have q57 := D8.dn 7 (by decide) rfl rfl; clear D8
   refine tailL0 (L := [40]) (R := (fun _ τ => OwnP τ 40 r ([(Ty.lstc 2 callC cs), (Ty.lst Ty.rune s)].set 1 (Ty.lst Ty.rune (s.drop 1))))) rfl rfl (YldM.toL (m_storep Tryd.inf71 (by decide) o19 q57 (Nat.le_of_ble_eq_true rfl) q56 (one_sl))) (fun v2 s16 hs8 r8 => ?_)
   have F16 := F15.stepL hs8 (by decide); have q58 := kpL hs8 (by decide) rfl q52; have q59 := kpL hs8 (by decide) rfl q53; have q60 := kpL hs8 (by decide) rfl q54; have q61 := kpL hs8 (by decide) rfl q55; have o22 := OwnP.keepL o20 hs8 (by decide) (by decide)
   have o21 : OwnP s16 40 r [(Ty.lstc 2 callC cs), (Ty.lst Ty.rune (s.drop 1))] := r8
   clear r8; refine wpList_nil ?_; refine tn ?_; refine wp_seq ?_
   refine rg a14 s16 [(Ty.val (Value.slice none 0 0))] ok14 ⟨?_, trivial⟩ ?_
   · intro A B E G H; exact rP (y_assign rfl)
   intro a15 s17 D9; have ok15 := D9.ok; have F17 := F16.step0 D9.stp; have q63 := D9.kt q58 rfl; have q64 := D9.kt q59 rfl; have q65 := D9.kt q60 rfl; have q66 := D9.kt q61 rfl; have o23 := OwnP.k0 o22 D9.stp; have o24 := OwnP.k0 o21 D9.stp; clear D9; refine tn ?_; refine wp_seq ?_; refine wp_seq ?_
   refine rg a15 s17 [(Ty.val (Value.int .i32 (s.getD ((0 : Int)).toNat 0))), (Ty.bool (decide ((s.getD ((0 : Int)).toNat 0) = (40 : Int))))] ok15 ⟨?_, ?_, trivial⟩ ?_
   · intro A B E G H; exact rP (ownp_load Tryd.underlying21 rfl (OwnP.k0 o23 E) (ptr0 (OwnP.k0 o23 E) (kp (H 8 rfl) E q66)) rfl)
   · intro A B E G H d0; exact rP (y_eql (ed d0 rfl rfl rfl) rfl)
   intro a16 s18 D10; have ok16 := D10.ok; have F18 := F17.step0 D10.stp; have q67 := D10.kt q63 rfl; have q68 := D10.kt q64 rfl; have q69 := D10.kt q65 rfl; have q70 := D10.kt q66 rfl; have o25 := OwnP.k0 o23 D10.stp; have o26 := OwnP.k0 o24 D10.stp; have q71 := D10.dn 1 rfl rfl; clear D10; refine tn ?_
   refine cond_p (p := ((s.getD ((0 : Int)).toNat 0) = (40 : Int))) q71 (fun c3 => ?_) (fun c3 => ?_)
   ·
    have h40 : s.getD 0 0 = 40 := c3; obtain ⟨Y, hY⟩ : ∃ Y, Y = parM (sgOf cs) (deep + 1) [] (s.drop 1) := ⟨_, rfl⟩
    refine wp_seq ?_; refine wp_seq ?_
    refine rg a16 s18 [(Ty.nat deep), (Ty.bool (decide (((deep : Nat) : Int) = (6 : Int))))] ok16 ⟨?_, ?_, trivial⟩ ?_
    · intro A B E G H; exact rP (y_move (kp (H 1 rfl) E q68))
    · intro A B E G H d0; exact rP (y_eql (ed d0 rfl rfl rfl) rfl)
    intro a17 s19 D11; have ok17 := D11.ok; have F19 := F18.step0 D11.stp; have q72 := D11.kt q67 rfl; have q73 := D11.kt q68 rfl; have q74 := D11.kt q69 rfl; have o27 := OwnP.k0 o25 D11.stp; have o28 := OwnP.k0 o26 D11.stp; have q75 := D11.dn 1 rfl rfl; clear D11; refine tn ?_
    refine cond_p (p := (((deep : Nat) : Int) = (6 : Int))) q75 (fun c4 => ?_) (fun c4 => ?_)
    ·
     have hQe : Q = ⟨13, [], []⟩ := (by rw [hQ]; exact one_deep h40 (by omega)); have hIe : I = ⟨13, [], []⟩ := it_e hit hQe (by decide)
     refine wp_seq ?_
     refine rg a17 s19 [(Ty.val (Value.slice none 0 0)), (Ty.int (13 : Int))] ok17 ⟨?_, ?_, trivial⟩ ?_
     · intro A B E G H; exact rP (y_assign rfl)
     · intro A B E G H d0 d1; exact rP (y_assign rfl)
     intro a18 s20 D12; have ok18 := D12.ok; have F20 := F19.step0 D12.stp; have o29 := OwnP.k0 o28 D12.stp; have q76 := D12.dn 0 rfl rfl; have q77 := D12.dn 1 rfl rfl; clear D12; refine tn ?_; refine wp_ret ?_; refine tr ?_; refine tr ?_
     exact retL2 rfl ok18 F20 ⟨(s.drop 1), (hasT2 (nil_lst (by (rw [← hI, hIe])) q76) (cvi (by (rw [← hI, hIe])) q77)), (ownp_cell 1 (Ty.lst Ty.rune ((s.drop 1))) o29 rfl (fun _ _ h => (cvt (by (first | rfl | omega | (simp_all; done) | (simp_all; omega))) h))), (by rw [← hI, hIe]; exact fun h_ => absurd h_ (by simp))⟩
    ·
     have hd6 : ¬ deep = 6 := (by omega)
     refine wp_skip ?_; refine tn ?_; refine wp_seq ?_; refine wp_seq ?_
     refine reg2 (a := a17) (σ := s19) rfl 3 (fun i_ => List.getD [(Ty.pr (Ty.val r)), (Ty.pr (Ty.nat deep)), (Ty.pr (Ty.nat (deep + 1)))] i_ Pr.any) ok17 rfl (by decide) rfl ⟨?_, ?_, ?_, trivial⟩ ?_
     · intro A B E G H; exact rP (y_move (kp (H 0 rfl) E q72))
     · intro A B E G H; exact rP (y_move (kp (H 1 rfl) E q73))
     · intro A B E G H d0; exact rP ((y_add (ed d0 rfl rfl rfl) rfl (w64 (by omega) (by omega))).mono (fun τ _ h => cvi (σ := τ) (by first | omega | exact (Int.natCast_mul _ _).symm) h))
     intro a19 s21 D13; have ok19 := D13.ok; have F21 := F19.step0 D13.stp; have q78 := D13.kt q72 rfl; have q79 := D13.kt q74 rfl; have o30 := OwnP.k0 o28 D13.stp; have q80 := D13.dn 0 (by decide) rfl rfl; have q81 := D13.dn 2 (by decide) rfl rfl; clear D13
     refine tailL (L := [40]) (R := (fun v τ' => ∃ τ, (fun v τ => ∃ (z : List Int), (Ty.has (Ty.tup2 (Ty.lst Ty.int (parM (sgOf cs) ((deep + 1)) [] ((s.drop 1))).out) (Ty.int (parM (sgOf cs) ((deep + 1)) [] ((s.drop 1))).err)) τ v) ∧ (OwnP τ 40 r [(Ty.lstc 2 callC cs), (Ty.lst Ty.rune z)]) ∧ ((parM (sgOf cs) ((deep + 1)) [] ((s.drop 1))).err = 0 → z = (parM (sgOf cs) ((deep + 1)) [] ((s.drop 1))).rest)) v τ ∧ Back [(40, 40)] τ τ')) rfl rfl (by decide) ok19 (y_callL (L := [40]) [(40, 40)] [(40, 40)] #[a19.eval (.tmp 44), a19.eval (.tmp 46)] rfl (by decide) Tryd.func43 rfl rfl (by simp only [List.map_toArray, List.map_cons, List.map_nil]) (hIt (r) (cs) ((s.drop 1)) ((deep + 1)) _ (GW.low_lend _ (by decide)) _ _ (Ty.up _ (GW.le_lend _ _) q80) (Ty.up _ (GW.le_lend _ _) (cvi (σ := s21) (by first | omega | assumption | exact ih _ (by omega)) q81)) (OwnP.ren (ownp_cell 1 (Ty.lst Ty.rune ((s.drop 1))) o30 rfl (fun _ _ h => (cvt (by (first | rfl | omega | (simp_all; done) | (simp_all; omega))) h))) (GW.ren_lend _ _ (by decide) rfl)) (by first | omega | assumption | exact ih _ (by omega)) (by first | omega | assumption | exact ih _ (by omega)) (by first | omega | assumption | exact ih _ (by omega)))) (fun a20 s22 hs9 ok20 r9 sm7 => ?_)
     have F22 := F21.stepL hs9 (by decide); have q82 := kpL hs9 (by decide) (sm7 0 (by decide)) q78; have q83 := kpL hs9 (by decide) (sm7 6 (by decide)) q79
     obtain ⟨t2, ⟨g2, hT2, o31, hp2⟩, B2⟩ := r9
     have q84 : At (Ty.tup2 (Ty.lst Ty.int (parM (sgOf cs) ((deep + 1)) [] ((s.drop 1))).out) (Ty.int (parM (sgOf cs) ((deep + 1)) [] ((s.drop 1))).err)) s22 a20 (.tmp 47) := Ty.up _ B2.le hT2
     have o32 : OwnP s22 40 r [(Ty.lstc 2 callC cs), (Ty.lst Ty.rune (g2))] := OwnP.ren o31 (B2.ren (by decide) rfl)
     refine tailL (L := []) (R := (fun v τ => Pr.has (Ty.pr (Ty.tup2 (Ty.lst Ty.int (parM (sgOf cs) ((deep + 1)) [] ((s.drop 1))).out) (Ty.int (parM (sgOf cs) ((deep + 1)) [] ((s.drop 1))).err))) τ v)) rfl rfl (by decide) ok20 (Yld.toL (y_move q84)) (fun a21 s23 hs10 ok21 r10 sm8 => ?_)
     have F23 := F22.stepL hs10 (by decide); have q85 := kpL hs10 (by decide) (sm8 0 (by decide)) q82; have q86 := kpL hs10 (by decide) (sm8 6 (by decide)) q83; have o33 := OwnP.keepL o32 hs10 (by decide) (by decide)
     have q87 : At (Ty.tup2 (Ty.lst Ty.int (parM (sgOf cs) ((deep + 1)) [] ((s.drop 1))).out) (Ty.int (parM (sgOf cs) ((deep + 1)) [] ((s.drop 1))).err)) s23 a21 (.tmp 43) := r10
     clear r10
     refine tailL (L := []) (R := (fun v τ => Pr.has (Ty.pr (Ty.lst Ty.int (parM (sgOf cs) ((deep + 1)) [] ((s.drop 1))).out)) τ v)) rfl rfl (by decide) ok21 (Yld.toL (y_ext2_0 q87)) (fun a22 s24 hs11 ok22 r11 sm9 => ?_)
     have F24 := F23.stepL hs11 (by decide); have q88 := kpL hs11 (by decide) (sm9 0 (by decide)) q85; have q89 := kpL hs11 (by decide) (sm9 6 (by decide)) q86; have q90 := kpL hs11 (by decide) (sm9 43 (by decide)) q87; have o34 := OwnP.keepL o33 hs11 (by decide) (by decide)
     have q91 : At (Ty.lst Ty.int (parM (sgOf cs) ((deep + 1)) [] ((s.drop 1))).out) s24 a22 (.tmp 48) := r11
     clear r11
     refine tailL (L := []) (R := (fun v τ => Pr.has (Ty.pr (Ty.int (parM (sgOf cs) ((deep + 1)) [] ((s.drop 1))).err)) τ v)) rfl rfl (by decide) ok22 (Yld.toL (y_ext2_1 q90)) (fun a23 s25 hs12 ok23 r12 sm10 => ?_)
     have F25 := F24.stepL hs12 (by decide); have q92 := kpL hs12 (by decide) (sm10 0 (by decide)) q88; have q93 := kpL hs12 (by decide) (sm10 6 (by decide)) q89; have q94 := kpL hs12 (by decide) (sm10 48 (by decide)) q91; have o35 := OwnP.keepL o34 hs12 (by decide) (by decide)
     have q95 : At (Ty.int (parM (sgOf cs) ((deep + 1)) [] ((s.drop 1))).err) s25 a23 (.tmp 49) := r12
     clear r12
     refine tailL (L := []) (R := (fun v τ => Pr.has (Ty.pr (Ty.lst Ty.int (parM (sgOf cs) ((deep + 1)) [] ((s.drop 1))).out)) τ v)) rfl rfl (by decide) ok23 (Yld.toL (y_assign q94)) (fun a24 s26 hs13 ok24 r13 sm11 => ?_)
     have F26 := F25.stepL hs13 (by decide); have q96 := kpL hs13 (by decide) (sm11 0 (by decide)) q92; have q97 := kpL hs13 (by decide) (sm11 6 (by decide)) q93; have q98 := kpL hs13 (by decide) (sm11 49 (by decide)) q95; have o36 := OwnP.keepL o35 hs13 (by decide) (by decide)
     have q99 : At (Ty.lst Ty.int (parM (sgOf cs) ((deep + 1)) [] ((s.drop 1))).out) s26 a24 (.tmp 9) := r13
     clear r13
     refine tailL (L := []) (R := (fun v τ => Pr.has (Ty.pr (Ty.int (parM (sgOf cs) ((deep + 1)) [] ((s.drop 1))).err)) τ v)) rfl rfl (by decide) ok24 (Yld.toL (y_assign q98)) (fun a25 s27 hs14 ok25 r14 sm12 => ?_)
     have F27 := F26.stepL hs14 (by decide); have q100 := kpL hs14 (by decide) (sm12 0 (by decide)) q96; have q101 := kpL hs14 (by decide) (sm12 6 (by decide)) q97; have q102 := kpL hs14 (by decide) (sm12 9 (by decide)) q99; have o37 := OwnP.keepL o36 hs14 (by decide) (by decide)
     have q103 : At (Ty.int (parM (sgOf cs) ((deep + 1)) [] ((s.drop 1))).err) s27 a25 (.tmp 7) := r14
     clear r14; refine wpList_nil ?_
     have q104 : At (Ty.lst Ty.int Y.out) s27 a25 (.tmp 9) := (cvt (by (rw [hY])) q102)
     have q105 : At (Ty.int Y.err) s27 a25 (.tmp 7) := (cvi (by (rw [hY])) q103)
     refine tn ?_; refine wp_seq ?_
     refine rg a25 s27 [(Ty.int Y.err), (Ty.bool (decide (Y.err ≠ (0 : Int))))] ok25 ⟨?_, ?_, trivial⟩ ?_
     · intro A B E G H; exact rP (y_move (kp (H 7 rfl) E q105))
     · intro A B E G H d0; exact rP (y_neq (ed d0 rfl rfl rfl) rfl)
     intro a26 s28 D14; have ok26 := D14.ok; have F28 := F27.step0 D14.stp; have q106 := D14.kt q100 rfl; have q107 := D14.kt q101 rfl; have q108 := D14.kt q104 rfl; have q109 := D14.kt q105 rfl; have o38 := OwnP.k0 o37 D14.stp; have q110 := D14.dn 1 rfl rfl; clear D14; refine tn ?_
     refine cond_p (p := (Y.err ≠ (0 : Int))) q110 (fun c5 => ?_) (fun c5 => ?_)
     ·
      have hQe : Q = ⟨Y.err, [], []⟩ := (by rw [hQ]; rw [one_err h40 hd6 (by rw [← hY]; exact c5), ← hY]); have hIe : I = ⟨Y.err, [], []⟩ := it_e hit hQe c5
      refine wp_seq ?_
      refine rg a26 s28 [(Ty.int Y.err), (Ty.val (Value.slice none 0 0)), (Ty.int Y.err)] ok26 ⟨?_, ?_, ?_, trivial⟩ ?_
      · intro A B E G H d0; exact rP (y_move (kp (H 7 rfl) E q109))
      · intro A B E G H d0; exact rP (y_assign rfl)
      · intro A B E G H d0 d1 d2 d3; exact rP (y_assign (ed d0 rfl rfl rfl))
      intro a27 s29 D15; have ok27 := D15.ok; have F29 := F28.step0 D15.stp; have o39 := OwnP.k0 o38 D15.stp; have q111 := D15.dn 1 rfl rfl; have q112 := D15.dn 2 rfl rfl; clear D15; refine tn ?_; refine wp_ret ?_; refine tr ?_; refine tr ?_
      exact retL2 rfl ok27 F29 ⟨g2, (hasT2 (nil_lst (by (rw [← hI, hIe])) q111) (cvi (by (rw [← hI, hIe])) q112)), o39, (by rw [← hI, hIe]; exact fun h_ => absurd h_ c5)⟩
     ·
      have hY0 : Y.err = 0 := Classical.not_not.1 c5; have hg2 : g2 = Y.rest := (by rw [hY]; exact hp2 (by rw [← hY]; exact hY0)); have hyo : Y.out.length ≤ 400 := (by rw [hY]; exact (par_out (Nat.zero_le _)).1)
      have o40 : OwnP s28 40 r [(Ty.lstc 2 callC cs), (Ty.lst Ty.rune Y.rest)] := (ownp_cell 1 (Ty.lst Ty.rune Y.rest) o38 rfl (fun _ _ h => (cvt (by (rw [hg2])) h)))
      refine wp_skip ?_; refine tn ?_; refine wp_seq ?_; refine wp_seq ?_
      refine rg a26 s28 [(Ty.val r), (Ty.val r), (Ty.val (ptrAt r 1)), (Ty.lst Ty.rune Y.rest), (Ty.nat (List.length Y.rest)), (Ty.bool (decide ((((List.length Y.rest) : Nat) : Int) = (0 : Int))))] ok26 ⟨?_, ?_, ?_, ?_, ?_, ?_, trivial⟩ ?_
      · intro A B E G H; exact rP (y_move (kp (H 0 rfl) E q106))
      · intro A B E G H d0; exact rP (y_nilp (OwnP.k0 o40 E) (ed d0 rfl rfl rfl))
      · intro A B E G H d0; exact rP (ownp_field Tryd.fld74_1 Tryd.inf71 (by decide) (OwnP.k0 o40 E) (ed d0 rfl rfl rfl))
      · intro A B E G H d0; exact rP (ownp_load Tryd.underlying71 rfl (OwnP.k0 o40 E) (ed d0 rfl rfl rfl) rfl)
      · intro A B E G H d0; exact rP (y_len Tryd.underlying71 (ed d0 rfl rfl rfl))
      · intro A B E G H d0; exact rP (y_eql (ed d0 rfl rfl rfl) rfl)
      intro a28 s30 D16; have ok28 := D16.ok; have F30 := F28.step0 D16.stp; have q113 := D16.kt q106 rfl; have q114 := D16.kt q107 rfl; have q115 := D16.kt q108 rfl; have o41 := OwnP.k0 o40 D16.stp; have q116 := D16.dn 5 rfl rfl; clear D16; refine tn ?_
      refine cond_p (p := ((((List.length Y.rest) : Nat) : Int) = (0 : Int))) q116 (fun c6 => ?_) (fun c6 => ?_)
      ·
       have hQe : Q = ⟨5, [], []⟩ := (by rw [hQ]; exact one_short h40 hd6 (by rw [← hY]; exact hY0) (by rw [← hY]; exact List.eq_nil_of_length_eq_zero (by omega))); have hIe : I = ⟨5, [], []⟩ := it_e hit hQe (by decide)
       refine wp_seq ?_
       refine rg a28 s30 [(Ty.val (Value.slice none 0 0)), (Ty.int (5 : Int))] ok28 ⟨?_, ?_, trivial⟩ ?_
       · intro A B E G H; exact rP (y_assign rfl)
       · intro A B E G H d0 d1; exact rP (y_assign rfl)
       intro a29 s31 D17; have ok29 := D17.ok; have F31 := F30.step0 D17.stp; have o42 := OwnP.k0 o41 D17.stp; have q117 := D17.dn 0 rfl rfl; have q118 := D17.dn 1 rfl rfl; clear D17; refine tn ?_; refine wp_ret ?_; refine tr ?_; refine tr ?_
       exact retL2 rfl ok29 F31 ⟨Y.rest, (hasT2 (nil_lst (by (rw [← hI, hIe])) q117) (cvi (by (rw [← hI, hIe])) q118)), (ownp_cell 1 (Ty.lst Ty.rune (Y.rest)) o42 rfl (fun _ _ h => (cvt (by (first | rfl | omega | (simp_all; done) | (simp_all; omega))) h))), (by rw [← hI, hIe]; exact fun h_ => absurd h_ (by simp))⟩
      ·
       have hYn : Y.rest ≠ [] := (fun e_ => by rw [e_] at c6; simp at c6)
       refine wp_skip ?_; refine tn ?_; refine wp_seq ?_
       refine reg2 (a := a28) (σ := s30) rfl 8 (fun i_ => List.getD [(Ty.pr (Ty.val r)), (Ty.pr (Ty.val r)), (Ty.pr (Ty.val r)), (Ty.pr (Ty.val (ptrAt r 1))), (Ty.pr (Ty.lst Ty.rune Y.rest)), (Ty.pr (Ty.lst Ty.rune (Y.rest.drop 1))), (Ty.pr (Ty.val r)), (Ty.pr (Ty.val (ptrAt r 1)))] i_ Pr.any) ok28 rfl (by decide) rfl ⟨?_, ?_, ?_, ?_, ?_, ?_, ?_, ?_, trivial⟩ ?_
       · intro A B E G H; exact rP (y_move (kp (H 0 rfl) E q113))
       · intro A B E G H; exact rP (y_move (kp (H 0 rfl) E q113))
       · intro A B E G H d0; exact rP (y_nilp (OwnP.k0 o41 E) (ed d0 rfl rfl rfl))
       · intro A B E G H d0; exact rP (ownp_field Tryd.fld74_1 Tryd.inf71 (by decide) (OwnP.k0 o41 E) (ed d0 rfl rfl rfl))
       · intro A B E G H d0; exact rP (ownp_load Tryd.underlying71 rfl (OwnP.k0 o41 E) (ed d0 rfl rfl rfl) rfl)
       · intro A B E G H d0; exact rP (y_drop Tryd.underlying71 Tryd.inf21 (ed d0 rfl rfl rfl) (toN (σ := B) rfl (by omega)) (by omega))
       · intro A B E G H d0 d1 d2 d3 d4 d5 d6; exact rP (y_nilp (OwnP.k0 o41 E) (ed d0 rfl rfl rfl))
       · intro A B E G H d0 d1 d2 d3 d4 d5 d6; exact rP (ownp_field Tryd.fld74_1 Tryd.inf71 (by decide) (OwnP.k0 o41 E) (ed d0 rfl rfl rfl))
       intro a30 s32 D18; have ok30 := D18.ok; have F32 := F30.step0 D18.stp; have q119 := D18.kt q114 rfl; have q120 := D18.kt q115 rfl; have o43 := OwnP.k0 o41 D18.stp; have q121 := D18.dn 5 (by decide) rfl rfl
       have b2 := sl_le q121
       have q122 := D18.dn 7 (by decide) rfl rfl; clear D18
       refine tailL0 (L := [40]) (R := (fun _ τ => OwnP τ 40 r ([(Ty.lstc 2 callC cs), (Ty.lst Ty.rune Y.rest)].set 1 (Ty.lst Ty.rune (Y.rest.drop 1))))) rfl rfl (YldM.toL (m_storep Tryd.inf71 (by decide) o43 q122 (Nat.le_of_ble_eq_true rfl) q121 (one_sl))) (fun v3 s33 hs15 r15 => ?_)
       have F33 := F32.stepL hs15 (by decide); have q123 := kpL hs15 (by decide) rfl q119; have q124 := kpL hs15 (by decide) rfl q120
       have o44 : OwnP s33 40 r [(Ty.lstc 2 callC cs), (Ty.lst Ty.rune (Y.rest.drop 1))] := r15
       clear r15; refine wpList_nil ?_; refine tn ?_; refine wp_seq ?_
       refine rg a30 s33 [(Ty.lst Ty.int Y.out), (Ty.nat (List.length Y.out)), (Ty.bool (decide ((((List.length Y.out) : Nat) : Int) = (0 : Int))))] ok30 ⟨?_, ?_, ?_, trivial⟩ ?_
       · intro A B E G H; exact rP (y_move (kp (H 9 rfl) E q124))
       · intro A B E G H d0; exact rP (y_len Tryd.underlying26 (ed d0 rfl rfl rfl))
       · intro A B E G H d0; exact rP (y_eql (ed d0 rfl rfl rfl) rfl)
       intro a31 s34 D19; have ok31 := D19.ok; have F34 := F33.step0 D19.stp; have q126 := D19.kt q123 rfl; have q127 := D19.kt q124 rfl; have o45 := OwnP.k0 o44 D19.stp; have q128 := D19.dn 2 rfl rfl; clear D19; refine tn ?_
       refine cond_p (p := ((((List.length Y.out) : Nat) : Int) = (0 : Int))) q128 (fun c7 => ?_) (fun c7 => ?_)
       ·
        have hQe : Q = ⟨4, [], []⟩ := (by rw [hQ]; exact one_word h40 hd6 (by rw [← hY]; exact hY0) (by rw [← hY]; exact hYn) (by rw [← hY]; exact List.eq_nil_of_length_eq_zero (by omega))); have hIe : I = ⟨4, [], []⟩ := it_e hit hQe (by decide)
        refine wp_seq ?_
        refine rg a31 s34 [(Ty.val (Value.slice none 0 0)), (Ty.int (4 : Int))] ok31 ⟨?_, ?_, trivial⟩ ?_
        · intro A B E G H; exact rP (y_assign rfl)
        · intro A B E G H d0 d1; exact rP (y_assign rfl)
        intro a32 s35 D20; have ok32 := D20.ok; have F35 := F34.step0 D20.stp; have o46 := OwnP.k0 o45 D20.stp; have q129 := D20.dn 0 rfl rfl; have q130 := D20.dn 1 rfl rfl; clear D20; refine tn ?_; refine wp_ret ?_; refine tr ?_
        exact retL2 rfl ok32 F35 ⟨(Y.rest.drop 1), (hasT2 (nil_lst (by (rw [← hI, hIe])) q129) (cvi (by (rw [← hI, hIe])) q130)), (ownp_cell 1 (Ty.lst Ty.rune ((Y.rest.drop 1))) o46 rfl (fun _ _ h => (cvt (by (first | rfl | omega | (simp_all; done) | (simp_all; omega))) h))), (by rw [← hI, hIe]; exact fun h_ => absurd h_ (by simp))⟩
       ·
        have hYo : Y.out ≠ [] := (fun e_ => by rw [e_] at c7; simp at c7); have hQi : Q = ⟨0, Y.out, Y.rest.drop 1⟩ := (by rw [hQ, one_in h40 hd6 (by rw [← hY]; exact hY0) (by rw [← hY]; exact hYn) (by rw [← hY]; exact hYo), ← hY]); have hIr : I = rpM T Y.out (Y.rest.drop 1) := (by have h_ := it_g hit (by rw [hQi]); rw [hQi] at h_; exact h_); have hmI : ((T : Nat) : Int) * ((Y.out.length : Nat) : Int) = ((T * Y.out.length : Nat) : Int) := (Int.natCast_mul _ _).symm; have hmb : T * Y.out.length ≤ 99 * 400 := Nat.mul_le_mul hT3 hyo; have hmc := Nat.mul_comm Y.out.length T; have hy1 : 1 ≤ Y.out.length := (by omega)
        refine wp_skip ?_; refine tn ?_; refine wp_seq ?_; refine wp_seq ?_
        refine rg a31 s34 [(Ty.nat T), (Ty.lst Ty.int Y.out), (Ty.nat (List.length Y.out)), (Ty.nat (T * (List.length Y.out))), (Ty.bool (decide ((400 : Int) < (((T * (List.length Y.out)) : Nat) : Int))))] ok31 ⟨?_, ?_, ?_, ?_, ?_, trivial⟩ ?_
        · intro A B E G H; exact rP (y_move (kp (H 6 rfl) E q126))
        · intro A B E G H; exact rP (y_move (kp (H 9 rfl) E q127))
        · intro A B E G H d0; exact rP (y_len Tryd.underlying26 (ed d0 rfl rfl rfl))
        · intro A B E G H d0 d1; exact rP ((y_mul (ed d0 rfl rfl rfl) (ed d1 rfl rfl rfl) (w64 (by omega) (by omega))).mono (fun τ _ h => cvi (σ := τ) (by first | omega | exact (Int.natCast_mul _ _).symm) h))
        · intro A B E G H d0; exact rP (y_gtr (ed d0 rfl rfl rfl) rfl)
        intro a33 s36 D21; have ok33 := D21.ok; have F36 := F34.step0 D21.stp; have q131 := D21.kt q126 rfl; have q132 := D21.kt q127 rfl; have o47 := OwnP.k0 o45 D21.stp; have q133 := D21.dn 4 rfl rfl; clear D21; refine tn ?_
        refine cond_p (p := ((400 : Int) < (((T * (List.length Y.out)) : Nat) : Int))) q133 (fun c8 => ?_) (fun c8 => ?_)
        ·
         have hIe : I = ⟨3, [], []⟩ := hIr.trans (rp_lim (by omega))
         refine wp_seq ?_
         refine rg a33 s36 [(Ty.val (Value.slice none 0 0)), (Ty.int (3 : Int))] ok33 ⟨?_, ?_, trivial⟩ ?_
         · intro A B E G H; exact rP (y_assign rfl)
         · intro A B E G H d0 d1; exact rP (y_assign rfl)
         intro a34 s37 D22; have ok34 := D22.ok; have F37 := F36.step0 D22.stp; have o48 := OwnP.k0 o47 D22.stp; have q134 := D22.dn 0 rfl rfl; have q135 := D22.dn 1 rfl rfl; clear D22; refine tn ?_; refine wp_ret ?_; refine tr ?_
         exact retL2 rfl ok34 F37 ⟨(Y.rest.drop 1), (hasT2 (nil_lst (by (rw [← hI, hIe])) q134) (cvi (by (rw [← hI, hIe])) q135)), (ownp_cell 1 (Ty.lst Ty.rune ((Y.rest.drop 1))) o48 rfl (fun _ _ h => (cvt (by (first | rfl | omega | (simp_all; done) | (simp_all; omega))) h))), (by rw [← hI, hIe]; exact fun h_ => absurd h_ (by simp))⟩
        ·
         have hIg : I = ⟨0, repL T Y.out, Y.rest.drop 1⟩ := hIr.trans ((rp_ok (by omega)).trans (by rw [Int.toNat_natCast]))
         refine wp_skip ?_; refine tn ?_; refine wp_seq ?_
         refine rg a33 s36 [(Ty.lst Ty.int Y.out), (Ty.nat T), (Ty.lst Ty.int (repL (T) (Y.out))), (Ty.lst Ty.int (repL (T) (Y.out))), (Ty.int (0 : Int))] ok33 ⟨?_, ?_, ?_, ?_, ?_, trivial⟩ ?_
         · intro A B E G H; exact rP (y_move (kp (H 9 rfl) E q132))
         · intro A B E G H; exact rP (y_move (kp (H 6 rfl) E q131))
         · intro A B E G H d0 d1; exact rP (y_call #[A.eval (.tmp 89), A.eval (.tmp 90)] Tryd.func70 rfl rfl (by simp only [List.map_toArray, List.map_cons, List.map_nil]) (repeat_fn (Y.out) (T) _ _ _ (ed d0 rfl rfl rfl) (cvi (σ := B) (by first | omega | assumption) (ed d1 rfl rfl rfl)) (by first | omega | assumption) (by first | omega | assumption) (by first | omega | assumption)))
         · intro A B E G H d0 d1 d2 d3 d4; exact rP (y_assign (ed d0 rfl rfl rfl))
         · intro A B E G H d0 d1 d2 d3 d4; exact rP (y_assign rfl)
         intro a35 s38 D23; have ok35 := D23.ok; have F38 := F36.step0 D23.stp; have o49 := OwnP.k0 o47 D23.stp; have q136 := D23.dn 3 rfl rfl; have q137 := D23.dn 4 rfl rfl; clear D23; refine tn ?_; refine wp_ret ?_
         exact retL2 rfl ok35 F38 ⟨(Y.rest.drop 1), (hasT2 (cvt (by (rw [← hI, hIg])) q136) (cvi (by (rw [← hI, hIg])) q137)), (ownp_cell 1 (Ty.lst Ty.rune ((Y.rest.drop 1))) o49 rfl (fun _ _ h => (cvt (by (first | rfl | omega | (simp_all; done) | (simp_all; omega))) h))), (by rw [← hI, hIg]; exact fun _ => rfl)⟩
   ·
    have h40 : ¬ s.getD 0 0 = 40 := c3
    refine wp_seq ?_
    obtain ⟨t3, e1, h1, q138⟩ := OwnP.seal o25 (by decide)
    rw [← e1]
    have F39 := F18.step h1 (by decide); have o50 := OwnP.keepL o26 (h1.toL (L := [5]) (by simp)) (by decide) (by decide); have q139 := Ty.up (Ty.val r) (h1.le (by decide)) q67; have q140 := Ty.up (Ty.nat deep) (h1.le (by decide)) q68; have q141 := Ty.up (Ty.nat T) (h1.le (by decide)) q69
    have q142 : At (Ty.ref [(Ty.val (Value.int .i32 (s.getD ((0 : Int)).toNat 0)))]) t3 a16 (.tmp 8) := by have e : a16.eval (.tmp 8) = x1 := q70; show Ty.has _ _ _; rw [e]; exact q138
    have q143 := Ty.up (Ty.bool (decide ((s.getD ((0 : Int)).toNat 0) = (40 : Int)))) (h1.le (by decide)) q71
    refine reg (a := a16) (σ := t3) rfl (fun i_ => List.getD [(Ty.pr (Ty.val r)), (Ty.pr (Ty.val r)), (Ty.pr (Ty.val (ptrAt r 0))), (Ty.pr (Ty.lstc 2 callC cs)), (Ty.pr (Ty.clo 69 [(Ty.val (Value.int .i32 (s.getD ((0 : Int)).toNat 0)))])), (Ty.pr (Ty.int (indexL (cs.map (·.1)) ((s.getD ((0 : Int)).toNat 0))))), (Ty.pr (Ty.int (indexL (cs.map (·.1)) ((s.getD ((0 : Int)).toNat 0)))))] i_ Pr.any) ok16 rfl ⟨?_, ?_, ?_, ?_, ?_, ?_, ?_, trivial⟩ ?_
    · intro A B E G H; exact rP (y_move (kp (H 0 rfl) E q139))
    · intro A B E G H d0; exact rP (y_nilp (OwnP.k0 o50 E) (ed d0 rfl rfl rfl))
    · intro A B E G H d0; exact rP (ownp_field Tryd.fld74_0 Tryd.inf25 (by decide) (OwnP.k0 o50 E) (ed d0 rfl rfl rfl))
    · intro A B E G H d0; exact rP (ownp_load Tryd.underlying25 rfl (OwnP.k0 o50 E) (ed d0 rfl rfl rfl) rfl)
    · intro A B E G H; exact rP (y_clo (kp (H 8 rfl) E q142))
    · intro A B E G H d0 d1; exact rP (y_call #[A.eval (.tmp 73), A.eval (.tmp 74)] Tryd.func45 rfl rfl (by simp only [List.map_toArray, List.map_cons, List.map_nil]) (idxRune_fn (cs) ((s.getD ((0 : Int)).toNat 0)) _ _ _ (ed d0 rfl rfl rfl) (ed d1 rfl rfl rfl) ))
    · intro A B E G H d0 d1 d2 d3 d4 d5 d6 d7; exact rP (y_assign (ed d0 rfl rfl rfl))
    intro a36 s39 D24; have ok36 := D24.ok; have F40 := F39.step0 D24.stp; have q144 := D24.kt q141 rfl; have q145 := D24.kt q142 rfl; have o51 := OwnP.k0 o50 D24.stp; have q146 := D24.dn 6 rfl rfl; clear D24; refine tn ?_; refine wp_seq ?_; refine wp_seq ?_
    refine rg a36 s39 [(Ty.int (indexL (cs.map (·.1)) ((s.getD ((0 : Int)).toNat 0)))), (Ty.bool (decide ((indexL (cs.map (·.1)) ((s.getD ((0 : Int)).toNat 0))) < (0 : Int)))), (Ty.bool (decide ((indexL (cs.map (·.1)) ((s.getD ((0 : Int)).toNat 0))) < (0 : Int)))), (Ty.grd ((decide ((indexL (cs.map (·.1)) ((s.getD ((0 : Int)).toNat 0))) < (0 : Int))) = false) (Ty.val (Value.int .i32 (s.getD ((0 : Int)).toNat 0)))), (Ty.grd ((decide ((indexL (cs.map (·.1)) ((s.getD ((0 : Int)).toNat 0))) < (0 : Int))) = false) (Ty.bool (decide ((s.getD ((0 : Int)).toNat 0) < (0 : Int))))), (Ty.bool ((decide ((indexL (cs.map (·.1)) ((s.getD ((0 : Int)).toNat 0))) < (0 : Int))) || (decide ((s.getD ((0 : Int)).toNat 0) < (0 : Int)))))] ok36 ⟨?_, ?_, ?_, ?_, ?_, ?_, trivial⟩ ?_
    · intro A B E G H; exact rP (y_move (kp (H 10 rfl) E q146))
    · intro A B E G H d0; exact rP (y_lss (ed d0 rfl rfl rfl) rfl)
    · intro A B E G H d0; exact rP (y_move (ed d0 rfl rfl rfl))
    · intro A B E G H d0
      refine run_guard G rfl rfl (by decide) (ed d0 rfl rfl rfl) (fun hg => ?_)
      have hp := of_decide_eq_false hg
      exact y_load Tryd.underlying21 rfl (kp (H 8 rfl) E q145) rfl
    · intro A B E G H d0 d1
      refine run_guard G rfl rfl (by decide) (ed d1 rfl rfl rfl) (fun hg => ?_)
      have hp := of_decide_eq_false hg
      exact y_lss ((ed d0 rfl rfl rfl).1 hg) rfl
    · intro A B E G H d0 d1; exact rP (y_pick_or (ed d0 rfl rfl rfl) rfl (ed d1 rfl rfl rfl))
    intro a37 s40 D25; have ok37 := D25.ok; have F41 := F40.step0 D25.stp; have q147 := D25.kt q144 rfl; have q148 := D25.kt q146 rfl; have o52 := OwnP.k0 o51 D25.stp; have q149 := D25.dn 5 rfl rfl; clear D25; refine tn ?_
    refine cond_t q149 (fun c9 => ?_) (fun c9 => ?_)
    ·
     simp only [Bool.or_eq_true, decide_eq_true_eq] at c9; have hQe : Q = ⟨4, [], []⟩ := (by rw [hQ]; exact one_none h40 (by rcases c9 with h_ | h_; exact .inl (fun hm_ => by have := indexL_iff.2 hm_; have h2_ : (indexL (sgOf cs) (s.getD 0 0)) < 0 := h_; omega); exact .inr h_)); have hIe : I = ⟨4, [], []⟩ := it_e hit hQe (by decide)
     refine wp_seq ?_
     refine rg a37 s40 [(Ty.val (Value.slice none 0 0)), (Ty.int (4 : Int))] ok37 ⟨?_, ?_, trivial⟩ ?_
     · intro A B E G H; exact rP (y_assign rfl)
     · intro A B E G H d0 d1; exact rP (y_assign rfl)
     intro a38 s41 D26; have ok38 := D26.ok; have F42 := F41.step0 D26.stp; have o53 := OwnP.k0 o52 D26.stp; have q150 := D26.dn 0 rfl rfl; have q151 := D26.dn 1 rfl rfl; clear D26; refine tn ?_; refine wp_ret ?_; refine tr ?_; refine tr ?_
     exact retL2 rfl ok38 F42 ⟨(s.drop 1), (hasT2 (nil_lst (by (rw [← hI, hIe])) q150) (cvi (by (rw [← hI, hIe])) q151)), (ownp_cell 1 (Ty.lst Ty.rune ((s.drop 1))) o53 rfl (fun _ _ h => (cvt (by (first | rfl | omega | (simp_all; done) | (simp_all; omega))) h))), (by rw [← hI, hIe]; exact fun h_ => absurd h_ (by simp))⟩
    ·
     obtain ⟨d1, d2⟩ := Bool.or_eq_false_iff.mp c9
     replace d1 := of_decide_eq_false d1
     replace d2 := of_decide_eq_false d2
     simp only [Bool.or_eq_false_iff, decide_eq_false_iff_not] at c9; have hi0 : 0 ≤ (indexL (sgOf cs) (s.getD 0 0)) := (by have h_ := c9.1; have h2_ : ¬ (indexL (sgOf cs) (s.getD 0 0)) < 0 := h_; omega); have hQi : Q = ⟨0, [(indexL (sgOf cs) (s.getD 0 0))], s.drop 1⟩ := (by rw [hQ, one_sign h40 (by rintro (h_ | h_); exact h_ (indexL_iff.1 hi0); exact c9.2 h_)]); have hIr : I = rpM T [(indexL (sgOf cs) (s.getD 0 0))] (s.drop 1) := (by have h_ := it_g hit (by rw [hQi]); rw [hQi] at h_; exact h_); obtain ⟨K, hK⟩ : ∃ K, K = [(indexL (sgOf cs) (s.getD 0 0))] := ⟨_, rfl⟩; rw [← hK] at hIr; have hKl : K.length = 1 := (by rw [hK]; rfl); have hmK : T * K.length = T := (by rw [hKl, Nat.mul_one]); have hmK2 : K.length * T = T := (by rw [hKl, Nat.one_mul]); have hmK3 : ((T : Nat) : Int) * ((K.length : Nat) : Int) = ((T * K.length : Nat) : Int) := (Int.natCast_mul _ _).symm; have hln1 : [(indexL (sgOf cs) (s.getD 0 0))].length = 1 := rfl
     refine wp_skip ?_; refine tn ?_
     refine rg a37 s40 [(Ty.int (indexL (cs.map (·.1)) ((s.getD ((0 : Int)).toNat 0)))), (Ty.sl 1 1 [(Ty.int (indexL (cs.map (·.1)) ((s.getD ((0 : Int)).toNat 0))))]), (Ty.sl 1 1 [(Ty.int (indexL (cs.map (·.1)) ((s.getD ((0 : Int)).toNat 0))))])] ok37 ⟨?_, ?_, ?_, trivial⟩ ?_
     · intro A B E G H; exact rP (y_move (kp (H 10 rfl) E q148))
     · intro A B E G H d0; exact rP (y_build1o Tryd.underlying26 Tryd.inf3 rfl (one_val rfl) (ed d0 rfl rfl rfl))
     · intro A B E G H d0 d1 d2; exact rP (y_assign (ed d0 rfl rfl rfl))
     intro a39 s42 D27; have ok39 := D27.ok; have F43 := F41.step0 D27.stp; have q152 := D27.kt q147 rfl; have o54 := OwnP.k0 o52 D27.stp; have q153 := D27.dn 2 rfl rfl; clear D27
     have q154 : At (Ty.lst Ty.int K) s42 a39 (.tmp 9) := (cvt (by (rw [hK]; rfl)) q153)
     refine tn ?_; refine wp_seq ?_; refine wp_seq ?_
     refine rg a39 s42 [(Ty.nat T), (Ty.lst Ty.int K), (Ty.nat (List.length K)), (Ty.nat (T * (List.length K))), (Ty.bool (decide ((400 : Int) < (((T * (List.length K)) : Nat) : Int))))] ok39 ⟨?_, ?_, ?_, ?_, ?_, trivial⟩ ?_
     · intro A B E G H; exact rP (y_move (kp (H 6 rfl) E q152))
     · intro A B E G H; exact rP (y_move (kp (H 9 rfl) E q154))
     · intro A B E G H d0; exact rP (y_len Tryd.underlying26 (ed d0 rfl rfl rfl))
     · intro A B E G H d0 d1; exact rP ((y_mul (ed d0 rfl rfl rfl) (ed d1 rfl rfl rfl) (w64 (by omega) (by omega))).mono (fun τ _ h => cvi (σ := τ) (by first | omega | exact (Int.natCast_mul _ _).symm) h))
     · intro A B E G H d0; exact rP (y_gtr (ed d0 rfl rfl rfl) rfl)
     intro a40 s43 D28; have ok40 := D28.ok; have F44 := F43.step0 D28.stp; have q155 := D28.kt q152 rfl; have q156 := D28.kt q154 rfl; have o55 := OwnP.k0 o54 D28.stp; have q157 := D28.dn 4 rfl rfl; clear D28; refine tn ?_
     refine cond_p (p := ((400 : Int) < (((T * (List.length K)) : Nat) : Int))) q157 (fun c10 => ?_) (fun c10 => ?_)
     ·
      have hIe : I = ⟨3, [], []⟩ := hIr.trans (rp_lim (by omega))
      refine wp_seq ?_
      refine rg a40 s43 [(Ty.val (Value.slice none 0 0)), (Ty.int (3 : Int))] ok40 ⟨?_, ?_, trivial⟩ ?_
      · intro A B E G H; exact rP (y_assign rfl)
      · intro A B E G H d0 d1; exact rP (y_assign rfl)
      intro a41 s44 D29; have ok41 := D29.ok; have F45 := F44.step0 D29.stp; have o56 := OwnP.k0 o55 D29.stp; have q158 := D29.dn 0 rfl rfl; have q159 := D29.dn 1 rfl rfl; clear D29; refine tn ?_; refine wp_ret ?_; refine tr ?_
      exact retL2 rfl ok41 F45 ⟨(s.drop 1), (hasT2 (nil_lst (by (rw [← hI, hIe])) q158) (cvi (by (rw [← hI, hIe])) q159)), (ownp_cell 1 (Ty.lst Ty.rune ((s.drop 1))) o56 rfl (fun _ _ h => (cvt (by (first | rfl | omega | (simp_all; done) | (simp_all; omega))) h))), (by rw [← hI, hIe]; exact fun h_ => absurd h_ (by simp))⟩
     ·
      have hIg : I = ⟨0, repL T K, s.drop 1⟩ := hIr.trans ((rp_ok (by omega)).trans (by rw [Int.toNat_natCast]))
      refine wp_skip ?_; refine tn ?_; refine wp_seq ?_
      refine rg a40 s43 [(Ty.lst Ty.int K), (Ty.nat T), (Ty.lst Ty.int (repL (T) (K))), (Ty.lst Ty.int (repL (T) (K))), (Ty.int (0 : Int))] ok40 ⟨?_, ?_, ?_, ?_, ?_, trivial⟩ ?_
      · intro A B E G H; exact rP (y_move (kp (H 9 rfl) E q156))
      · intro A B E G H; exact rP (y_move (kp (H 6 rfl) E q155))
      · intro A B E G H d0 d1; exact rP (y_call #[A.eval (.tmp 89), A.eval (.tmp 90)] Tryd.func70 rfl rfl (by simp only [List.map_toArray, List.map_cons, List.map_nil]) (repeat_fn (K) (T) _ _ _ (ed d0 rfl rfl rfl) (cvi (σ := B) (by first | omega | assumption) (ed d1 rfl rfl rfl)) (by first | omega | assumption) (by first | omega | assumption) (by first | omega | assumption)))
      · intro A B E G H d0 d1 d2 d3 d4; exact rP (y_assign (ed d0 rfl rfl rfl))
      · intro A B E G H d0 d1 d2 d3 d4; exact rP (y_assign rfl)
      intro a42 s45 D30; have ok42 := D30.ok; have F46 := F44.step0 D30.stp; have o57 := OwnP.k0 o55 D30.stp; have q160 := D30.dn 3 rfl rfl; have q161 := D30.dn 4 rfl rfl; clear D30; refine tn ?_; refine wp_ret ?_
      exact retL2 rfl ok42 F46 ⟨(s.drop 1), (hasT2 (cvt (by (rw [← hI, hIg])) q160) (cvi (by (rw [← hI, hIg])) q161)), (ownp_cell 1 (Ty.lst Ty.rune ((s.drop 1))) o57 rfl (fun _ _ h => (cvt (by (first | rfl | omega | (simp_all; done) | (simp_all; omega))) h))), (by rw [← hI, hIg]; exact fun _ => rfl)⟩


set_option maxHeartbeats 4000000 in
set_option maxRecDepth 100000 in
theorem items_fn : ∀ (d : Nat), ItemsAt d := by
 intro d
 induction d using Nat.strongRecOn with
 | _ d ih =>
 intro r cs l deep σ hlow v0 v1 hv0 hv1 ho_r hd hll hdp
 obtain ⟨X, hX⟩ : ∃ X, X = (parM (sgOf cs) deep [] l) := ⟨_, rfl⟩
 refine fn_introL hlow Tryd.func43 rfl Tryd.ntmps43 (Nat.le_of_ble_eq_true rfl) (fun a0 F0 ok0 hargs => ?_)
 have p0 : At (Ty.val r) σ a0 (.tmp 0) := by have e := hargs 0 _ rfl; show Ty.has _ _ _; rw [e]; exact hv0
 have p1 : At (Ty.nat deep) σ a0 (.tmp 1) := by have e := hargs 1 _ rfl; show Ty.has _ _ _; rw [e]; exact hv1
 clear hargs; refine wp_seq ?_
 refine reg (a := a0) (σ := σ) rfl (fun i_ => List.getD [(Ty.pr (Ty.val (Value.slice none 0 0))), (Ty.pr (Ty.int (0 : Int)))] i_ Pr.any) ok0 rfl ⟨?_, ?_, trivial⟩ ?_
 · intro A B E G H; exact rP (y_assign rfl)
 · intro A B E G H d0; exact rP (y_assign rfl)
 intro a1 s1 D1; have ok1 := D1.ok; have F1 := F0.step0 D1.stp; have q1 := D1.kt p0 rfl; have q2 := D1.kt p1 rfl; have o1 := OwnP.k0 ho_r D1.stp; clear D1; refine tn ?_; refine wp_seq ?_
 refine rg a1 s1 [(Ty.val (Value.slice none 0 0))] ok1 ⟨?_, trivial⟩ ?_
 · intro A B E G H; exact rP (y_assign rfl)
 intro a2 s2 D2; have ok2 := D2.ok; have F2 := F1.step0 D2.stp; have q3 := D2.kt q1 rfl; have q4 := D2.kt q2 rfl; have o2 := OwnP.k0 o1 D2.stp; have q5 := D2.dn 0 rfl rfl; clear D2; refine tn ?_; refine wp_seq ?_; refine wp_block ?_
 have o3 : Own s2 6 3 1 (Value.slice none 0 0) 0 (List.map Ty.int ([] : List Int)) := Own.nil _ _ _ _
 refine loop (fun n1 a3 w1 => ∃ (t1 : GW) (r0 : List Int) (out : List Int) (x6_0 : Value), t1.w = w1 ∧ FromL [40] σ t1 ∧ Ok 40 a3 ∧ At (Ty.val x6_0) t1 a3 (.tmp 6) ∧ At (Ty.val r) t1 a3 (.tmp 0) ∧ At (Ty.nat deep) t1 a3 (.tmp 1) ∧ Own t1 6 3 1 x6_0 (List.length out) (List.map Ty.int out) ∧ OwnP t1 40 r [(Ty.lstc 2 callC cs), (Ty.lst Ty.rune r0)] ∧ (parM (sgOf cs) deep out r0 = X) ∧ (r0.length ≤ l.length) ∧ (out.length ≤ 400) ∧ n1 = r0.length) ((l).length) ?_ ?_
 ·
  exact ⟨s2, l, ([] : List Int), (Value.slice none 0 0), rfl, F2, ok2, q5, q3, q4, (cvo (by (simp)) (by (simp)) o3), (ownp_cell 1 (Ty.lst Ty.rune (l)) o2 rfl (fun _ _ h => (cvt (by (rfl)) h))), hX.symm, by omega, by simp, rfl⟩
 ·
  rintro n2 a4 w2 ⟨t2, r0, out, x6_0, rfl, F3, ok3, q6, q7, q8, o4, o5, hx, hrl, hol, rfl⟩
  refine wp_seq ?_; refine wp_seq ?_
  refine reg (a := a4) (σ := t2) rfl (fun i_ => List.getD [(Ty.pr (Ty.val r)), (Ty.pr (Ty.val r)), (Ty.pr (Ty.val (ptrAt r 1))), (Ty.pr (Ty.lst Ty.rune r0)), (Ty.pr (Ty.nat (List.length r0))), (Ty.pr (Ty.bool (decide ((0 : Int) < (((List.length r0) : Nat) : Int))))), (Ty.pr (Ty.bool (decide ((0 : Int) < (((List.length r0) : Nat) : Int))))), (Ty.pr (Ty.grd ((decide ((0 : Int) < (((List.length r0) : Nat) : Int))) = true) (Ty.val r))), (Ty.pr (Ty.grd ((decide ((0 : Int) < (((List.length r0) : Nat) : Int))) = true) (Ty.val r))), (Ty.pr (Ty.grd ((decide ((0 : Int) < (((List.length r0) : Nat) : Int))) = true) (Ty.val (ptrAt r 1)))), (Ty.pr (Ty.grd ((decide ((0 : Int) < (((List.length r0) : Nat) : Int))) = true) (Ty.lst Ty.rune r0))), (Ty.pr (Ty.grd ((decide ((0 : Int) < (((List.length r0) : Nat) : Int))) = true) (Ty.ref [(Ty.val (Value.int .i32 (r0.getD ((0 : Int)).toNat 0)))]))), (Ty.pr (Ty.grd ((decide ((0 : Int) < (((List.length r0) : Nat) : Int))) = true) (Ty.val (Value.int .i32 (r0.getD ((0 : Int)).toNat 0))))), (Ty.pr (Ty.grd ((decide ((0 : Int) < (((List.length r0) : Nat) : Int))) = true) (Ty.bool (decide ((r0.getD ((0 : Int)).toNat 0) ≠ (41 : Int)))))), (Ty.pr (Ty.bool ((decide ((0 : Int) < (((List.length r0) : Nat) : Int))) && (decide ((r0.getD ((0 : Int)).toNat 0) ≠ (41 : Int))))))] i_ Pr.any) ok3 rfl ⟨?_, ?_, ?_, ?_, ?_, ?_, ?_, ?_, ?_, ?_, ?_, ?_, ?_, ?_, ?_, trivial⟩ ?_
  · intro A B E G H; exact rP (y_move (kp (H 0 rfl) E q7))
  · intro A B E G H d0; exact rP (y_nilp (OwnP.k0 o5 E) (ed d0 rfl rfl rfl))
  · intro A B E G H d0; exact rP (ownp_field Tryd.fld74_1 Tryd.inf71 (by decide) (OwnP.k0 o5 E) (ed d0 rfl rfl rfl))
  · intro A B E G H d0; exact rP (ownp_load Tryd.underlying71 rfl (OwnP.k0 o5 E) (ed d0 rfl rfl rfl) rfl)
  · intro A B E G H d0; exact rP (y_len Tryd.underlying71 (ed d0 rfl rfl rfl))
  · intro A B E G H d0; exact rP (y_gtr (ed d0 rfl rfl rfl) rfl)
  · intro A B E G H d0; exact rP (y_move (ed d0 rfl rfl rfl))
  · intro A B E G H d0
    refine run_guard G rfl rfl (by decide) (ed d0 rfl rfl rfl) (fun hg => ?_)
    have hp := of_decide_eq_true hg
    exact y_move (kp (H 0 rfl) E q7)
  · intro A B E G H d0 d1
    refine run_guard G rfl rfl (by decide) (ed d1 rfl rfl rfl) (fun hg => ?_)
    have hp := of_decide_eq_true hg
    exact y_nilp (OwnP.k0 o5 E) ((ed d0 rfl rfl rfl).1 hg)
  · intro A B E G H d0 d1
    refine run_guard G rfl rfl (by decide) (ed d1 rfl rfl rfl) (fun hg => ?_)
    have hp := of_decide_eq_true hg
    exact ownp_field Tryd.fld74_1 Tryd.inf71 (by decide) (OwnP.k0 o5 E) ((ed d0 rfl rfl rfl).1 hg)
  · intro A B E G H d0 d1
    refine run_guard G rfl rfl (by decide) (ed d1 rfl rfl rfl) (fun hg => ?_)
    have hp := of_decide_eq_true hg
    exact ownp_load Tryd.underlying71 rfl (OwnP.k0 o5 E) ((ed d0 rfl rfl rfl).1 hg) rfl
  · intro A B E G H d0 d1
    refine run_guard G rfl rfl (by decide) (ed d1 rfl rfl rfl) (fun hg => ?_)
    have hp := of_decide_eq_true hg
    exact y_index1 Tryd.underlying71 Tryd.inf21 ((ed d0 rfl rfl rfl).1 hg) rfl (by omega) (lst_get Ty.rune r0 0 ((0 : Int)).toNat (by omega))
  · intro A B E G H d0 d1
    refine run_guard G rfl rfl (by decide) (ed d1 rfl rfl rfl) (fun hg => ?_)
    have hp := of_decide_eq_true hg
    exact y_load Tryd.underlying21 rfl ((ed d0 rfl rfl rfl).1 hg) rfl
  · intro A B E G H d0 d1
    refine run_guard G rfl rfl (by decide) (ed d1 rfl rfl rfl) (fun hg => ?_)
    have hp := of_decide_eq_true hg
    exact y_neq ((ed d0 rfl rfl rfl).1 hg) rfl
  · intro A B E G H d0 d1; exact rP (y_pick_and (ed d0 rfl rfl rfl) (ed d1 rfl rfl rfl) rfl)
  intro a5 s3 D3; have ok4 := D3.ok; have F4 := F3.step0 D3.stp; have q9 := D3.kt q6 rfl; have q10 := D3.kt q7 rfl; have q11 := D3.kt q8 rfl; have o6 := Own.k0 o4 D3.stp; have o7 := OwnP.k0 o5 D3.stp; have q12 := D3.dn 14 rfl rfl; clear D3; refine tn ?_
  refine cond_t q12 (fun c1 => ?_) (fun c1 => ?_)
  ·
   obtain ⟨d1, d2⟩ := Bool.and_eq_true_iff.mp c1
   replace d1 := of_decide_eq_true d1
   replace d2 := of_decide_eq_true d2
   simp only [Bool.and_eq_true, decide_eq_true_eq] at c1; have hr1 : 1 ≤ r0.length := (by omega); have hne : ¬ (r0 = [] ∨ r0.getD 0 0 = 41) := (by rintro (h_ | h_); (rw [h_] at hr1; simp at hr1); exact c1.2 h_); obtain ⟨I, hI⟩ : ∃ I, I = itM (sgOf cs) deep r0 := ⟨_, rfl⟩
   refine wp_skip ?_; refine tn ?_; refine wp_block ?_; refine wp_seq ?_
   refine reg2 (a := a5) (σ := s3) rfl 2 (fun i_ => List.getD [(Ty.pr (Ty.val r)), (Ty.pr (Ty.nat deep))] i_ Pr.any) ok4 rfl (by decide) rfl ⟨?_, ?_, trivial⟩ ?_
   · intro A B E G H; exact rP (y_move (kp (H 0 rfl) E q10))
   · intro A B E G H; exact rP (y_move (kp (H 1 rfl) E q11))
   intro a6 s4 D4; have ok5 := D4.ok; have F5 := F4.step0 D4.stp; have q13 := D4.kt q9 rfl; have q14 := D4.kt q10 rfl; have q15 := D4.kt q11 rfl; have o8 := Own.k0 o6 D4.stp; have o9 := OwnP.k0 o7 D4.stp; have q16 := D4.dn 0 (by decide) rfl rfl; have q17 := D4.dn 1 (by decide) rfl rfl; clear D4
   refine tailL (L := [40]) (R := (fun v τ' => ∃ τ, (fun v τ => ∃ (z : List Int), (Ty.has (Ty.tup2 (Ty.lst Ty.int (itM (sgOf cs) deep (r0)).out) (Ty.int (itM (sgOf cs) deep (r0)).err)) τ v) ∧ (OwnP τ 40 r [(Ty.lstc 2 callC cs), (Ty.lst Ty.rune z)]) ∧ ((itM (sgOf cs) deep (r0)).err = 0 → z = (itM (sgOf cs) deep (r0)).rest)) v τ ∧ Back [(40, 40)] τ τ')) rfl rfl (by decide) ok5 (y_callL (L := [40]) [(40, 40)] [(40, 40)] #[a6.eval (.tmp 25), a6.eval (.tmp 26)] rfl (by decide) Tryd.func58 rfl rfl (by simp only [List.map_toArray, List.map_cons, List.map_nil]) (item_fn ((d - 1)) (r) (cs) (r0) (deep) _ (GW.low_lend _ (by decide)) _ _ (Ty.up _ (GW.le_lend _ _) q16) (Ty.up _ (GW.le_lend _ _) q17) (OwnP.ren (ownp_cell 1 (Ty.lst Ty.rune (r0)) o9 rfl (fun _ _ h => (cvt (by (first | rfl | omega | (simp_all; done) | (simp_all; omega))) h))) (GW.ren_lend _ _ (by decide) rfl)) (by first | omega | assumption | exact ih _ (by omega)) (by first | omega | assumption | exact ih _ (by omega)) (by first | omega | assumption | exact ih _ (by omega)) (by first | omega | assumption | exact ih _ (by omega)) (by first | omega | assumption | exact ih _ (by omega)))) (fun a7 s5 hs1 ok6 r1 sm1 => ?_)
   have F6 := F5.stepL hs1 (by decide); have q18 := kpL hs1 (by decide) (sm1 6 (by decide)) q13; have q19 := kpL hs1 (by decide) (sm1 0 (by decide)) q14; have q20 := kpL hs1 (by decide) (sm1 1 (by decide)) q15; have o12 := Own.keepL o8 hs1 (by decide) (by decide)
   obtain ⟨t3, ⟨g1, hT1, o10, hp1⟩, B1⟩ := r1
   have q21 : At (Ty.tup2 (Ty.lst Ty.int (itM (sgOf cs) deep (r0)).out) (Ty.int (itM (sgOf cs) deep (r0)).err)) s5 a7 (.tmp 27) := Ty.up _ B1.le hT1
   have o11 : OwnP s5 40 r [(Ty.lstc 2 callC cs), (Ty.lst Ty.rune (g1))] := OwnP.ren o10 (B1.ren (by decide) rfl)
   refine tailL (L := []) (R := (fun v τ => Pr.has (Ty.pr (Ty.tup2 (Ty.lst Ty.int (itM (sgOf cs) deep (r0)).out) (Ty.int (itM (sgOf cs) deep (r0)).err))) τ v)) rfl rfl (by decide) ok6 (Yld.toL (y_move q21)) (fun a8 s6 hs2 ok7 r2 sm2 => ?_)
   have F7 := F6.stepL hs2 (by decide); have q22 := kpL hs2 (by decide) (sm2 6 (by decide)) q18; have q23 := kpL hs2 (by decide) (sm2 0 (by decide)) q19; have q24 := kpL hs2 (by decide) (sm2 1 (by decide)) q20; have o13 := Own.keepL o12 hs2 (by decide) (by decide); have o14 := OwnP.keepL o11 hs2 (by decide) (by decide)
   have q25 : At (Ty.tup2 (Ty.lst Ty.int (itM (sgOf cs) deep (r0)).out) (Ty.int (itM (sgOf cs) deep (r0)).err)) s6 a8 (.tmp 24) := r2
   clear r2
   refine tailL (L := []) (R := (fun v τ => Pr.has (Ty.pr (Ty.lst Ty.int (itM (sgOf cs) deep (r0)).out)) τ v)) rfl rfl (by decide) ok7 (Yld.toL (y_ext2_0 q25)) (fun a9 s7 hs3 ok8 r3 sm3 => ?_)
   have F8 := F7.stepL hs3 (by decide); have q26 := kpL hs3 (by decide) (sm3 6 (by decide)) q22; have q27 := kpL hs3 (by decide) (sm3 0 (by decide)) q23; have q28 := kpL hs3 (by decide) (sm3 1 (by decide)) q24; have q29 := kpL hs3 (by decide) (sm3 24 (by decide)) q25; have o15 := Own.keepL o13 hs3 (by decide) (by decide); have o16 := OwnP.keepL o14 hs3 (by decide) (by decide)
   have q30 : At (Ty.lst Ty.int (itM (sgOf cs) deep (r0)).out) s7 a9 (.tmp 28) := r3
   clear r3
   refine tailL (L := []) (R := (fun v τ => Pr.has (Ty.pr (Ty.int (itM (sgOf cs) deep (r0)).err)) τ v)) rfl rfl (by decide) ok8 (Yld.toL (y_ext2_1 q29)) (fun a10 s8 hs4 ok9 r4 sm4 => ?_)
   have F9 := F8.stepL hs4 (by decide); have q31 := kpL hs4 (by decide) (sm4 6 (by decide)) q26; have q32 := kpL hs4 (by decide) (sm4 0 (by decide)) q27; have q33 := kpL hs4 (by decide) (sm4 1 (by decide)) q28; have q34 := kpL hs4 (by decide) (sm4 28 (by decide)) q30; have o17 := Own.keepL o15 hs4 (by decide) (by decide); have o18 := OwnP.keepL o16 hs4 (by decide) (by decide)
   have q35 : At (Ty.int (itM (sgOf cs) deep (r0)).err) s8 a10 (.tmp 29) := r4
   clear r4
   refine tailL (L := []) (R := (fun v τ => Pr.has (Ty.pr (Ty.lst Ty.int (itM (sgOf cs) deep (r0)).out)) τ v)) rfl rfl (by decide) ok9 (Yld.toL (y_assign q34)) (fun a11 s9 hs5 ok10 r5 sm5 => ?_)
   have F10 := F9.stepL hs5 (by decide); have q36 := kpL hs5 (by decide) (sm5 6 (by decide)) q31; have q37 := kpL hs5 (by decide) (sm5 0 (by decide)) q32; have q38 := kpL hs5 (by decide) (sm5 1 (by decide)) q33; have q39 := kpL hs5 (by decide) (sm5 29 (by decide)) q35; have o19 := Own.keepL o17 hs5 (by decide) (by decide); have o20 := OwnP.keepL o18 hs5 (by decide) (by decide)
   have q40 : At (Ty.lst Ty.int (itM (sgOf cs) deep (r0)).out) s9 a11 (.tmp 7) := r5
   clear r5
   refine tailL (L := []) (R := (fun v τ => Pr.has (Ty.pr (Ty.int (itM (sgOf cs) deep (r0)).err)) τ v)) rfl rfl (by decide) ok10 (Yld.toL (y_assign q39)) (fun a12 s10 hs6 ok11 r6 sm6 => ?_)
   have F11 := F10.stepL hs6 (by decide); have q41 := kpL hs6 (by decide) (sm6 6 (by decide)) q36; have q42 := kpL hs6 (by decide) (sm6 0 (by decide)) q37; have q43 := kpL hs6 (by decide) (sm6 1 (by decide)) q38; have q44 := kpL hs6 (by decide) (sm6 7 (by decide)) q40; have o21 := Own.keepL o19 hs6 (by decide) (by decide); have o22 := OwnP.keepL o20 hs6 (by decide) (by decide)
   have q45 : At (Ty.int (itM (sgOf cs) deep (r0)).err) s10 a12 (.tmp 8) := r6
   clear r6; refine wpList_nil ?_
   have q46 : At (Ty.lst Ty.int I.out) s10 a12 (.tmp 7) := (cvt (by (rw [hI])) q44)
   have q47 : At (Ty.int I.err) s10 a12 (.tmp 8) := (cvi (by (rw [hI])) q45)
   refine tn ?_; refine wp_seq ?_; refine wp_seq ?_
   refine rg a12 s10 [(Ty.int I.err), (Ty.bool (decide (I.err ≠ (0 : Int))))] ok11 ⟨?_, ?_, trivial⟩ ?_
   · intro A B E G H; exact rP (y_move (kp (H 8 rfl) E q47))
   · intro A B E G H d0; exact rP (y_neq (ed d0 rfl rfl rfl) rfl)
   intro a13 s11 D5; have ok12 := D5.ok; have F12 := F11.step0 D5.stp; have q48 := D5.kt q41 rfl; have q49 := D5.kt q42 rfl; have q50 := D5.kt q43 rfl; have q51 := D5.kt q46 rfl; have q52 := D5.kt q47 rfl; have o23 := Own.k0 o21 D5.stp; have o24 := OwnP.k0 o22 D5.stp; have q53 := D5.dn 1 rfl rfl; clear D5; refine tn ?_
   refine cond_p (p := (I.err ≠ (0 : Int))) q53 (fun c2 => ?_) (fun c2 => ?_)
   ·
    have hiE : itM (sgOf cs) deep r0 = ⟨I.err, [], []⟩ := (by rw [hI] at c2 ⊢; exact it_errE c2); have hXe : X = ⟨I.err, [], []⟩ := x_err hx hne hiE c2
    refine wp_seq ?_
    refine rg a13 s11 [(Ty.int I.err), (Ty.val (Value.slice none 0 0)), (Ty.int I.err)] ok12 ⟨?_, ?_, ?_, trivial⟩ ?_
    · intro A B E G H d0; exact rP (y_move (kp (H 8 rfl) E q52))
    · intro A B E G H d0; exact rP (y_assign rfl)
    · intro A B E G H d0 d1 d2 d3; exact rP (y_assign (ed d0 rfl rfl rfl))
    intro a14 s12 D6; have ok13 := D6.ok; have F13 := F12.step0 D6.stp; have o25 := Own.k0 o23 D6.stp; have o26 := OwnP.k0 o24 D6.stp; have q54 := D6.dn 1 rfl rfl; have q55 := D6.dn 2 rfl rfl; clear D6; refine tn ?_; refine wp_ret ?_; refine tr ?_; refine br ?_; refine tr ?_; refine br ?_; refine tr ?_
    exact retL2 rfl ok13 F13 ⟨g1, (hasT2 (nil_lst (by (rw [← hX, hXe])) q54) (cvi (by (rw [← hX, hXe])) q55)), o26, (by rw [← hX, hXe]; exact fun h_ => absurd h_ c2)⟩
   ·
    have hI0 : I.err = 0 := Classical.not_not.1 c2; have hg1 : g1 = I.rest := (by rw [hI]; exact hp1 (by rw [← hI]; exact hI0)); have hiI : itM (sgOf cs) deep r0 = ⟨0, I.out, I.rest⟩ := (by rw [← hI, ← hI0]); have hIt := (itM_tl (sg := sgOf cs) (deep := deep) (rest := r0) (by rw [← hI]; exact hI0)).2; rw [← hI] at hIt; have hIo : I.out.length ≤ 400 := (by rw [hI]; exact it_out)
    have o27 : OwnP s11 40 r [(Ty.lstc 2 callC cs), (Ty.lst Ty.rune I.rest)] := (ownp_cell 1 (Ty.lst Ty.rune I.rest) o24 rfl (fun _ _ h => (cvt (by (rw [hg1])) h)))
    refine wp_skip ?_; refine tn ?_; refine wp_seq ?_
    refine reg2 (a := a13) (σ := s11) rfl 2 (fun i_ => List.getD [(Ty.pr (Ty.val x6_0)), (Ty.pr (Ty.lst Ty.int I.out))] i_ Pr.any) ok12 rfl (by decide) rfl ⟨?_, ?_, trivial⟩ ?_
    · intro A B E G H; exact rP (y_move (kp (H 6 rfl) E q48))
    · intro A B E G H; exact rP (y_move (kp (H 7 rfl) E q51))
    intro a15 s13 D7; have ok14 := D7.ok; have F14 := F12.step0 D7.stp; have q56 := D7.kt q48 rfl; have q57 := D7.kt q49 rfl; have q58 := D7.kt q50 rfl; have o28 := Own.k0 o23 D7.stp; have o29 := OwnP.k0 o27 D7.stp
    have q59 : At (Ty.val x6_0) s13 a15 (.tmp 33) := D7.done 0 (by decide)
    have q60 := D7.dn 1 (by decide) rfl rfl; clear D7
    refine tailL (L := [6]) (R := (fun v τ => Own τ 6 3 1 v ((List.length out) + (List.length I.out)) ((List.map Ty.int out) ++ (List.map Ty.int I.out)))) rfl rfl (by decide) ok14 (YldM.toL (m_append Tryd.underlying26 Tryd.inf3 (by decide) rfl (by decide) (al (R := (Pr.own 6 3 1 (List.length out) (List.map Ty.int out))) q59 o28) q60 (one_map (fun _ => one_val rfl)) (by omega) (by omega))) (fun a16 s14 hs7 ok15 r7 sm7 => ?_)
    have F15 := F14.stepL hs7 (by decide); have q61 := kpL hs7 (by decide) (sm7 6 (by decide)) q56; have q62 := kpL hs7 (by decide) (sm7 0 (by decide)) q57; have q63 := kpL hs7 (by decide) (sm7 1 (by decide)) q58; have o31 := OwnP.keepL o29 hs7 (by decide) (by decide)
    obtain ⟨x1, hx1⟩ : ∃ x, a16.eval (.tmp 35) = x := ⟨_, rfl⟩
    have q64 : At (Ty.val x1) s14 a16 (.tmp 35) := hx1
    have o30 : Own s14 6 3 1 x1 (List.length (out ++ I.out)) (List.map Ty.int (out ++ I.out)) := al2 (R := (Pr.own 6 3 1 (List.length (out ++ I.out)) (List.map Ty.int (out ++ I.out)))) hx1 (cvo (by simp) (by first | (rw [List.map_append]; rfl) | simp) r7)
    clear r7
    refine tailL (L := []) (R := (fun v τ => Pr.has (Ty.pr (Ty.val x1)) τ v)) rfl rfl (by decide) ok15 (Yld.toL (y_assign q64)) (fun a17 s15 hs8 ok16 r8 sm8 => ?_)
    have F16 := F15.stepL hs8 (by decide); have q65 := kpL hs8 (by decide) (sm8 0 (by decide)) q62; have q66 := kpL hs8 (by decide) (sm8 1 (by decide)) q63; have o32 := OwnP.keepL o31 hs8 (by decide) (by decide); have o33 := Own.keepL o30 hs8 (by decide) (by decide)
    have q67 : At (Ty.val x1) s15 a17 (.tmp 6) := r8
    clear r8; refine wpList_nil ?_; refine tn ?_; refine wp_seq ?_
    refine rg a17 s15 [(Ty.val x1), (Ty.nat (List.length (out ++ I.out))), (Ty.bool (decide ((400 : Int) < (((List.length (out ++ I.out)) : Nat) : Int))))] ok16 ⟨?_, ?_, ?_, trivial⟩ ?_
    · intro A B E G H; exact rP (y_move (kp (H 6 rfl) E q67))
    · intro A B E G H d0; exact rP (own_len Tryd.underlying26 (al (R := (Pr.own 6 3 1 (List.length (out ++ I.out)) (List.map Ty.int (out ++ I.out)))) (ed d0 rfl rfl rfl) (Own.k0 o33 E)))
    · intro A B E G H d0; exact rP (y_gtr (ed d0 rfl rfl rfl) rfl)
    intro a18 s16 D8; have ok17 := D8.ok; have F17 := F16.step0 D8.stp; have q68 := D8.kt q65 rfl; have q69 := D8.kt q66 rfl; have q70 := D8.kt q67 rfl; have o34 := OwnP.k0 o32 D8.stp; have o35 := Own.k0 o33 D8.stp; have q71 := D8.dn 2 rfl rfl; clear D8; refine tn ?_
    refine cond_p (p := ((400 : Int) < (((List.length (out ++ I.out)) : Nat) : Int))) q71 (fun c3 => ?_) (fun c3 => ?_)
    ·
     have hXe : X = ⟨3, [], []⟩ := x_lim hx hne hiI (by omega)
     refine wp_seq ?_
     refine rg a18 s16 [(Ty.val (Value.slice none 0 0)), (Ty.int (3 : Int))] ok17 ⟨?_, ?_, trivial⟩ ?_
     · intro A B E G H; exact rP (y_assign rfl)
     · intro A B E G H d0 d1; exact rP (y_assign rfl)
     intro a19 s17 D9; have ok18 := D9.ok; have F18 := F17.step0 D9.stp; have o36 := OwnP.k0 o34 D9.stp; have o37 := Own.k0 o35 D9.stp; have q72 := D9.dn 0 rfl rfl; have q73 := D9.dn 1 rfl rfl; clear D9; refine tn ?_; refine wp_ret ?_; refine br ?_; refine tr ?_; refine br ?_; refine tr ?_
     exact retL2 rfl ok18 F18 ⟨I.rest, (hasT2 (nil_lst (by (rw [← hX, hXe])) q72) (cvi (by (rw [← hX, hXe])) q73)), (ownp_cell 1 (Ty.lst Ty.rune (I.rest)) o36 rfl (fun _ _ h => (cvt (by (first | rfl | omega | (simp_all; done) | (simp_all; omega))) h))), (by rw [← hX, hXe]; exact fun h_ => absurd h_ (by simp))⟩
    ·
     refine wp_skip ?_; refine bn ?_
     exact tn ⟨(I.rest).length, by omega, s16, I.rest, (out ++ I.out), x1, rfl, F17, ok17, q70, q68, q69, (cvo (by (simp)) (by (simp)) o35), (ownp_cell 1 (Ty.lst Ty.rune (I.rest)) o34 rfl (fun _ _ h => (cvt (by (first | rfl | omega | (simp_all; done) | (simp_all; omega))) h))), x_go hx hne hiI (by omega), by omega, by omega, rfl⟩
  ·
   have hX2 : X = ⟨0, out, r0⟩ := (by rw [← hx]; exact par_stop (by simp only [Bool.and_eq_false_iff, decide_eq_false_iff_not] at c1; rcases c1 with h_ | h_; exact .inl (List.eq_nil_of_length_eq_zero (by omega)); exact .inr (Classical.not_not.1 h_)))
   refine wp_exit ?_; refine tx ?_; refine tx ?_; refine bx ?_; refine tn ?_; refine wp_seq ?_
   refine rg a5 s3 [(Ty.val x6_0), (Ty.val x6_0), (Ty.int (0 : Int))] ok4 ⟨?_, ?_, ?_, trivial⟩ ?_
   · intro A B E G H; exact rP (y_move (kp (H 6 rfl) E q9))
   · intro A B E G H d0 d1; exact rP (y_assign (ed d0 rfl rfl rfl))
   · intro A B E G H d0 d1 d2; exact rP (y_assign rfl)
   intro a20 s18 D10; have ok19 := D10.ok; have F19 := F4.step0 D10.stp; have o38 := Own.k0 o6 D10.stp; have o39 := OwnP.k0 o7 D10.stp
   have q74 : At (Ty.val x6_0) s18 a20 (.tmp 4) := D10.done 1
   have q75 := D10.dn 2 rfl rfl; clear D10; refine tn ?_; refine wp_ret ?_
   obtain ⟨t4, e1, h1, q76⟩ := Own.seal o38 (by decide)
   rw [← e1]
   have F20 := F19.step h1 (by decide); have o40 := OwnP.keepL o39 (h1.toL (L := [6]) (by simp)) (by decide) (by decide)
   have q77 : At (Ty.lst Ty.int out) t4 a20 (.tmp 4) := by have e : a20.eval (.tmp 4) = x6_0 := q74; show Ty.has _ _ _; rw [e]; exact q76
   have q78 := Ty.up (Ty.int (0 : Int)) (h1.le (by decide)) q75
   exact retL2 rfl ok19 F20 ⟨r0, (hasT2 (cvt (by (rw [← hX, hX2])) q77) (cvi (by (rw [← hX, hX2])) q78)), (ownp_cell 1 (Ty.lst Ty.rune (r0)) o40 rfl (fun _ _ h => (cvt (by (first | rfl | omega | (simp_all; done) | (simp_all; omega))) h))), (by rw [← hX, hX2]; exact fun _ => rfl)⟩

theorem Tryd.inf74 : Info Tryd.prog 74 (.agg #[.slice none 0 0, .slice none 0 0]) 2 48 := by unfold Info; kernel_rfl
set_option maxHeartbeats 4000000 in
set_option maxRecDepth 100000 in
theorem parse_fn (cs : List BCall) (s : ByteArray) (σ : GW)  (v0 v1 : Value) (hv0 : Ty.has (Ty.lstc 2 callC cs) σ v0) (hv1 : Ty.has (Ty.val (Value.string s)) σ v1)   :
    FnC Tryd.prog 21 #[v0, v1] σ (Ty.tup2 (Ty.lst Ty.int (ptM (sgOf cs) s).out) (Ty.int (ptM (sgOf cs) s).err)) := by
 have hLl := runsL_len s
 obtain ⟨L, hL⟩ : ∃ L, L = runsL s := ⟨_, rfl⟩
 rw [← hL] at hLl
 obtain ⟨X, hX⟩ : ∃ X, X = parM (sgOf cs) 0 [] L := ⟨_, rfl⟩
 have hXL := hX
 rw [hL] at hXL
 refine fn_intro0 Tryd.func21 rfl Tryd.ntmps21 (Nat.le_of_ble_eq_true rfl) (fun s0 a0 hle F0 ok0 hargs => ?_)
 have p0 : At (Ty.lstc 2 callC cs) s0 a0 (.tmp 0) := by have e := hargs 0 _ rfl; show Ty.has _ _ _; rw [e]; exact Ty.up _ hle hv0
 have b1 := sl_le p0
 have p1 : At (Ty.val (Value.string s)) s0 a0 (.tmp 1) := by have e := hargs 1 _ rfl; show Ty.has _ _ _; rw [e]; exact Ty.up _ hle hv1
 clear hargs; refine wp_seq ?_
 refine rg a0 s0 [(Ty.val (Value.slice none 0 0)), (Ty.int (0 : Int))] ok0 ⟨?_, ?_, trivial⟩ ?_
 · intro A B E G H; exact rP (y_assign rfl)
 · intro A B E G H d0; exact rP (y_assign rfl)
 intro a1 s1 D1; have ok1 := D1.ok; have F1 := F0.step0 D1.stp; have q1 := D1.kt p0 rfl; have q2 := D1.kt p1 rfl; clear D1; refine tn ?_; refine wp_seq ?_; refine wp_seq ?_
 refine rg a1 s1 [(Ty.val (Value.string s)), (Ty.nat (ByteArray.size s)), (Ty.bool (decide ((4000 : Int) < (((ByteArray.size s) : Nat) : Int))))] ok1 ⟨?_, ?_, ?_, trivial⟩ ?_
 · intro A B E G H; exact rP (y_move (kp (H 1 rfl) E q2))
 · intro A B E G H d0; exact rP (y_len_str Tryd.underlying9 (ed d0 rfl rfl rfl))
 · intro A B E G H d0; exact rP (y_gtr (ed d0 rfl rfl rfl) rfl)
 intro a2 s2 D2; have ok2 := D2.ok; have F2 := F1.step0 D2.stp; have q3 := D2.kt q1 rfl; have q4 := D2.kt q2 rfl; have q5 := D2.dn 2 rfl rfl; clear D2; refine tn ?_
 refine cond_p (p := ((4000 : Int) < (((ByteArray.size s) : Nat) : Int))) q5 (fun c1 => ?_) (fun c1 => ?_)
 ·
  refine wp_seq ?_
  refine rg a2 s2 [(Ty.val (Value.slice none 0 0)), (Ty.int (3 : Int))] ok2 ⟨?_, ?_, trivial⟩ ?_
  · intro A B E G H; exact rP (y_assign rfl)
  · intro A B E G H d0 d1; exact rP (y_assign rfl)
  intro a3 s3 D3; have ok3 := D3.ok; have F3 := F2.step0 D3.stp; have q6 := D3.dn 0 rfl rfl; have q7 := D3.dn 1 rfl rfl; clear D3; refine tn ?_; refine wp_ret ?_; refine tr ?_
  exact retL2 rfl ok3 F3 (hasT2 (nil_lst (by (rw [pt_lim (by omega)])) q6) (cvi (by (rw [pt_lim (by omega)])) q7))
 ·
  have hsz : ¬ 4000 < s.size := (by omega)
  refine wp_skip ?_; refine tn ?_; refine wp_seq ?_
  refine reg2 (a := a2) (σ := s2) rfl 5 (fun i_ => List.getD [(Ty.pr (Ty.lstc 2 callC cs)), (Ty.pr (Ty.val (Value.string s))), (Ty.pr (Ty.lst Ty.rune L)), (Ty.pr (Ty.agg [(Ty.lstc 2 callC cs), (Ty.lst Ty.rune L)])), (Pr.ownp 40 [(Ty.lstc 2 callC cs), (Ty.lst Ty.rune L)])] i_ Pr.any) ok2 rfl (by decide) rfl ⟨?_, ?_, ?_, ?_, ?_, trivial⟩ ?_
  · intro A B E G H; exact rP (y_move (kp (H 0 rfl) E q3))
  · intro A B E G H; exact rP (y_move (kp (H 1 rfl) E q4))
  · intro A B E G H d0; exact rP ((y_call #[A.eval (.tmp 13)] Tryd.func42 rfl rfl (by simp only [List.map_toArray, List.map_cons, List.map_nil]) (cRunes_fn (s) _ _ (ed d0 rfl rfl rfl) (by omega))).mono (fun τ _ h => cvt (σ := τ) (T := (Ty.lst Ty.rune (runsL s))) (U := (Ty.lst Ty.rune L)) (by rw [hL]) h))
  · intro A B E G H d0 d1; exact rP (y_bld [(0, (.tmp 12), (Ty.lstc 2 callC cs)), (1, (.tmp 14), (Ty.lst Ty.rune L))] [(Ty.val (Value.slice none 0 0)), (Ty.val (Value.slice none 0 0))] (l := [(0, 1), (1, 1)]) rfl Tryd.inf74 rfl (alloc_vals (vs := [.slice none 0 0, .slice none 0 0]) rfl) rfl (by intro p hp; simp only [List.mem_cons, List.not_mem_nil, or_false] at hp; rcases hp with rfl | rfl; exact ⟨one_sl, (ed d0 rfl rfl rfl)⟩; exact ⟨one_sl, (ed d1 rfl rfl rfl)⟩))
  · intro A B E G H d0; exact rP (y_boxo 40 (ed d0 rfl rfl rfl))
  intro a4 s4 D4; have ok4 := D4.ok; have F4 := F2.step0 D4.stp
  obtain ⟨x1, hx1⟩ : ∃ x, a4.eval (.tmp 16) = x := ⟨_, rfl⟩
  have q8 : At (Ty.val x1) s4 a4 (.tmp 16) := hx1
  have o1 : OwnP s4 40 x1 [(Ty.lstc 2 callC cs), (Ty.lst Ty.rune L)] := al2 (R := (Pr.ownp 40 [(Ty.lstc 2 callC cs), (Ty.lst Ty.rune L)])) hx1 (D4.done 4 (by decide))
  clear D4
  refine tailL (L := []) (R := (fun v τ => Pr.has (Ty.pr (Ty.val x1)) τ v)) rfl rfl (by decide) ok4 (Yld.toL (y_assign q8)) (fun a5 s5 hs1 ok5 r1 sm1 => ?_)
  have F5 := F4.stepL hs1 (by decide); have o2 := OwnP.keepL o1 hs1 (by decide) (by decide)
  have q9 : At (Ty.val x1) s5 a5 (.tmp 6) := r1
  clear r1; refine wpList_nil ?_; refine tn ?_; refine wp_seq ?_
  refine reg2 (a := a5) (σ := s5) rfl 1 (fun i_ => List.getD [(Ty.pr (Ty.val x1))] i_ Pr.any) ok5 rfl (by decide) rfl ⟨?_, trivial⟩ ?_
  · intro A B E G H; exact rP (y_move (kp (H 6 rfl) E q9))
  intro a6 s6 D5; have ok6 := D5.ok; have F6 := F5.step0 D5.stp; have q10 := D5.kt q9 rfl; have o3 := OwnP.k0 o2 D5.stp
  have q11 : At (Ty.val x1) s6 a6 (.tmp 18) := D5.done 0 (by decide)
  clear D5
  refine tailL (L := [40]) (R := (fun v τ' => ∃ τ, (fun v τ => ∃ (z : List Int), (Ty.has (Ty.tup2 (Ty.lst Ty.int (parM (sgOf cs) (0) [] (L)).out) (Ty.int (parM (sgOf cs) (0) [] (L)).err)) τ v) ∧ (OwnP τ 40 x1 [(Ty.lstc 2 callC cs), (Ty.lst Ty.rune z)]) ∧ ((parM (sgOf cs) (0) [] (L)).err = 0 → z = (parM (sgOf cs) (0) [] (L)).rest)) v τ ∧ Back [(40, 40)] τ τ')) rfl rfl (by decide) ok6 (y_callL (L := [40]) [(40, 40)] [(40, 40)] #[a6.eval (.tmp 18), a6.eval ((Operand.const (Value.int IntKind.i64 0)))] rfl (by decide) Tryd.func43 rfl rfl (by simp only [List.map_toArray, List.map_cons, List.map_nil]) (items_fn ((L).length) (x1) (cs) (L) (0) _ (GW.low_lend _ (by decide)) _ _ (Ty.up _ (GW.le_lend _ _) q11) (Ty.up _ (GW.le_lend _ _) (cvi (σ := s6) (by first | omega | assumption | exact ih _ (by omega)) rfl)) (OwnP.ren (ownp_cell 1 (Ty.lst Ty.rune (L)) o3 rfl (fun _ _ h => (cvt (by (first | rfl | omega | (simp_all; done) | (simp_all; omega))) h))) (GW.ren_lend _ _ (by decide) rfl)) (by first | omega | assumption | exact ih _ (by omega)) (by first | omega | assumption | exact ih _ (by omega)) (by first | omega | assumption | exact ih _ (by omega)))) (fun a7 s7 hs2 ok7 r2 sm2 => ?_)
  have F7 := F6.stepL hs2 (by decide); have q12 := kpL hs2 (by decide) (sm2 6 (by decide)) q10
  obtain ⟨t1, ⟨g1, hT1, o4, hp1⟩, B1⟩ := r2
  have q13 : At (Ty.tup2 (Ty.lst Ty.int (parM (sgOf cs) (0) [] (L)).out) (Ty.int (parM (sgOf cs) (0) [] (L)).err)) s7 a7 (.tmp 19) := Ty.up _ B1.le hT1
  have o5 : OwnP s7 40 x1 [(Ty.lstc 2 callC cs), (Ty.lst Ty.rune (g1))] := OwnP.ren o4 (B1.ren (by decide) rfl)
  refine tailL (L := []) (R := (fun v τ => Pr.has (Ty.pr (Ty.tup2 (Ty.lst Ty.int (parM (sgOf cs) (0) [] (L)).out) (Ty.int (parM (sgOf cs) (0) [] (L)).err))) τ v)) rfl rfl (by decide) ok7 (Yld.toL (y_move q13)) (fun a8 s8 hs3 ok8 r3 sm3 => ?_)
  have F8 := F7.stepL hs3 (by decide); have q14 := kpL hs3 (by decide) (sm3 6 (by decide)) q12; have o6 := OwnP.keepL o5 hs3 (by decide) (by decide)
  have q15 : At (Ty.tup2 (Ty.lst Ty.int (parM (sgOf cs) (0) [] (L)).out) (Ty.int (parM (sgOf cs) (0) [] (L)).err)) s8 a8 (.tmp 17) := r3
  clear r3
  refine tailL (L := []) (R := (fun v τ => Pr.has (Ty.pr (Ty.lst Ty.int (parM (sgOf cs) (0) [] (L)).out)) τ v)) rfl rfl (by decide) ok8 (Yld.toL (y_ext2_0 q15)) (fun a9 s9 hs4 ok9 r4 sm4 => ?_)
  have F9 := F8.stepL hs4 (by decide); have q16 := kpL hs4 (by decide) (sm4 6 (by decide)) q14; have q17 := kpL hs4 (by decide) (sm4 17 (by decide)) q15; have o7 := OwnP.keepL o6 hs4 (by decide) (by decide)
  have q18 : At (Ty.lst Ty.int (parM (sgOf cs) (0) [] (L)).out) s9 a9 (.tmp 20) := r4
  clear r4
  refine tailL (L := []) (R := (fun v τ => Pr.has (Ty.pr (Ty.int (parM (sgOf cs) (0) [] (L)).err)) τ v)) rfl rfl (by decide) ok9 (Yld.toL (y_ext2_1 q17)) (fun a10 s10 hs5 ok10 r5 sm5 => ?_)
  have F10 := F9.stepL hs5 (by decide); have q19 := kpL hs5 (by decide) (sm5 6 (by decide)) q16; have q20 := kpL hs5 (by decide) (sm5 20 (by decide)) q18; have o8 := OwnP.keepL o7 hs5 (by decide) (by decide)
  have q21 : At (Ty.int (parM (sgOf cs) (0) [] (L)).err) s10 a10 (.tmp 21) := r5
  clear r5
  refine tailL (L := []) (R := (fun v τ => Pr.has (Ty.pr (Ty.lst Ty.int (parM (sgOf cs) (0) [] (L)).out)) τ v)) rfl rfl (by decide) ok10 (Yld.toL (y_assign q20)) (fun a11 s11 hs6 ok11 r6 sm6 => ?_)
  have F11 := F10.stepL hs6 (by decide); have q22 := kpL hs6 (by decide) (sm6 6 (by decide)) q19; have q23 := kpL hs6 (by decide) (sm6 21 (by decide)) q21; have o9 := OwnP.keepL o8 hs6 (by decide) (by decide)
  have q24 : At (Ty.lst Ty.int (parM (sgOf cs) (0) [] (L)).out) s11 a11 (.tmp 7) := r6
  clear r6
  refine tailL (L := []) (R := (fun v τ => Pr.has (Ty.pr (Ty.int (parM (sgOf cs) (0) [] (L)).err)) τ v)) rfl rfl (by decide) ok11 (Yld.toL (y_assign q23)) (fun a12 s12 hs7 ok12 r7 sm7 => ?_)
  have F12 := F11.stepL hs7 (by decide); have q25 := kpL hs7 (by decide) (sm7 6 (by decide)) q22; have q26 := kpL hs7 (by decide) (sm7 7 (by decide)) q24; have o10 := OwnP.keepL o9 hs7 (by decide) (by decide)
  have q27 : At (Ty.int (parM (sgOf cs) (0) [] (L)).err) s12 a12 (.tmp 8) := r7
  clear r7; refine wpList_nil ?_
  have q28 : At (Ty.lst Ty.int X.out) s12 a12 (.tmp 7) := (cvt (by (rw [hX])) q26)
  have q29 : At (Ty.int X.err) s12 a12 (.tmp 8) := (cvi (by (rw [hX])) q27)
  refine tn ?_; refine wp_seq ?_; refine wp_block ?_; refine wp_seq ?_
  refine rg a12 s12 [(Ty.int X.err), (Ty.bool (decide (X.err ≠ (0 : Int)))), (Ty.bool (decide (X.err ≠ (0 : Int))))] ok12 ⟨?_, ?_, ?_, trivial⟩ ?_
  · intro A B E G H; exact rP (y_move (kp (H 8 rfl) E q29))
  · intro A B E G H d0; exact rP (y_neq (ed d0 rfl rfl rfl) rfl)
  · intro A B E G H d0; exact rP (y_assign (ed d0 rfl rfl rfl))
  intro a13 s13 D6; have ok13 := D6.ok; have F13 := F12.step0 D6.stp; have q30 := D6.kt q25 rfl; have q31 := D6.kt q28 rfl; have q32 := D6.kt q29 rfl; have o11 := OwnP.k0 o10 D6.stp; have q33 := D6.dn 2 rfl rfl; clear D6; refine tn ?_
  refine cond_p (p := (X.err ≠ (0 : Int))) q33 (fun c2 => ?_) (fun c2 => ?_)
  ·
   have hX1 := c2
   refine wp_seq ?_
   refine rg a13 s13 [(Ty.int X.err), (Ty.val (Value.slice none 0 0)), (Ty.int X.err)] ok13 ⟨?_, ?_, ?_, trivial⟩ ?_
   · intro A B E G H d0; exact rP (y_move (kp (H 8 rfl) E q32))
   · intro A B E G H d0; exact rP (y_assign rfl)
   · intro A B E G H d0 d1 d2 d3; exact rP (y_assign (ed d0 rfl rfl rfl))
   intro a14 s14 D7; have ok14 := D7.ok; have F14 := F13.step0 D7.stp; have o12 := OwnP.k0 o11 D7.stp; have q34 := D7.dn 1 rfl rfl; have q35 := D7.dn 2 rfl rfl; clear D7; refine tn ?_; refine wp_ret ?_; refine br ?_; refine tr ?_
   exact retL2 rfl ok14 F14 (hasT2 (nil_lst (by (rw [pt_err hsz hXL hX1])) q34) (cvi (by (rw [pt_err hsz hXL hX1])) q35))
  ·
   have hX0 : X.err = 0 := Classical.not_not.1 c2; have hg1 : g1 = X.rest := (by rw [hX]; exact hp1 (by rw [← hX]; exact hX0))
   refine wp_seq ?_
   refine rg a13 s13 [(Ty.val x1), (Ty.val x1), (Ty.val (ptrAt x1 1)), (Ty.lst Ty.rune (g1)), (Ty.nat (List.length (g1))), (Ty.bool (decide ((0 : Int) < (((List.length (g1)) : Nat) : Int)))), (Ty.bool (decide ((0 : Int) < (((List.length (g1)) : Nat) : Int))))] ok13 ⟨?_, ?_, ?_, ?_, ?_, ?_, ?_, trivial⟩ ?_
   · intro A B E G H; exact rP (y_move (kp (H 6 rfl) E q30))
   · intro A B E G H d0; exact rP (y_nilp (OwnP.k0 o11 E) (ed d0 rfl rfl rfl))
   · intro A B E G H d0; exact rP (ownp_field Tryd.fld74_1 Tryd.inf71 (by decide) (OwnP.k0 o11 E) (ed d0 rfl rfl rfl))
   · intro A B E G H d0; exact rP (ownp_load Tryd.underlying71 rfl (OwnP.k0 o11 E) (ed d0 rfl rfl rfl) rfl)
   · intro A B E G H d0; exact rP (y_len Tryd.underlying71 (ed d0 rfl rfl rfl))
   · intro A B E G H d0; exact rP (y_gtr (ed d0 rfl rfl rfl) rfl)
   · intro A B E G H d0; exact rP (y_assign (ed d0 rfl rfl rfl))
   intro a15 s15 D8; have ok15 := D8.ok; have F15 := F13.step0 D8.stp; have q36 := D8.kt q31 rfl; have o13 := OwnP.k0 o11 D8.stp; have q37 := D8.dn 6 rfl rfl; clear D8; refine tn ?_
   refine cond_p (p := ((0 : Int) < (((List.length (g1)) : Nat) : Int))) q37 (fun c3 => ?_) (fun c3 => ?_)
   ·
    have hXr : X.rest ≠ [] := (fun e_ => by rw [hg1, e_] at c3; simp at c3)
    refine wp_seq ?_
    refine rg a15 s15 [(Ty.val (Value.slice none 0 0)), (Ty.int (4 : Int))] ok15 ⟨?_, ?_, trivial⟩ ?_
    · intro A B E G H; exact rP (y_assign rfl)
    · intro A B E G H d0 d1; exact rP (y_assign rfl)
    intro a16 s16 D9; have ok16 := D9.ok; have F16 := F15.step0 D9.stp; have q38 := D9.dn 0 rfl rfl; have q39 := D9.dn 1 rfl rfl; clear D9; refine tn ?_; refine wp_ret ?_; refine br ?_; refine tr ?_
    exact retL2 rfl ok16 F16 (hasT2 (nil_lst (by (rw [pt_word hsz hXL hX0 hXr])) q38) (cvi (by (rw [pt_word hsz hXL hX0 hXr])) q39))
   ·
    have hXr : X.rest = [] := List.eq_nil_of_length_eq_zero (by rw [← hg1]; omega)
    refine wp_seq ?_
    refine rg a15 s15 [(Ty.lst Ty.int X.out), (Ty.nat (List.length X.out)), (Ty.bool (decide ((((List.length X.out) : Nat) : Int) = (0 : Int)))), (Ty.bool (decide ((((List.length X.out) : Nat) : Int) = (0 : Int))))] ok15 ⟨?_, ?_, ?_, ?_, trivial⟩ ?_
    · intro A B E G H; exact rP (y_move (kp (H 7 rfl) E q36))
    · intro A B E G H d0; exact rP (y_len Tryd.underlying26 (ed d0 rfl rfl rfl))
    · intro A B E G H d0; exact rP (y_eql (ed d0 rfl rfl rfl) rfl)
    · intro A B E G H d0; exact rP (y_assign (ed d0 rfl rfl rfl))
    intro a17 s17 D10; have ok17 := D10.ok; have F17 := F15.step0 D10.stp; have q40 := D10.kt q36 rfl; have q41 := D10.dn 3 rfl rfl; clear D10; refine tn ?_
    refine cond_p (p := ((((List.length X.out) : Nat) : Int) = (0 : Int))) q41 (fun c4 => ?_) (fun c4 => ?_)
    ·
     have hXo : X.out = [] := List.eq_nil_of_length_eq_zero (by omega)
     refine wp_seq ?_
     refine rg a17 s17 [(Ty.val (Value.slice none 0 0)), (Ty.int (5 : Int))] ok17 ⟨?_, ?_, trivial⟩ ?_
     · intro A B E G H; exact rP (y_assign rfl)
     · intro A B E G H d0 d1; exact rP (y_assign rfl)
     intro a18 s18 D11; have ok18 := D11.ok; have F18 := F17.step0 D11.stp; have q42 := D11.dn 0 rfl rfl; have q43 := D11.dn 1 rfl rfl; clear D11; refine tn ?_; refine wp_ret ?_; refine br ?_; refine tr ?_
     exact retL2 rfl ok18 F18 (hasT2 (nil_lst (by (rw [pt_none hsz hXL hX0 hXr hXo])) q42) (cvi (by (rw [pt_none hsz hXL hX0 hXr hXo])) q43))
    ·
     have hXo : X.out ≠ [] := (fun e_ => by rw [e_] at c4; simp at c4)
     refine wp_skip ?_; refine bn ?_; refine tn ?_; refine wp_seq ?_
     refine rg a17 s17 [(Ty.lst Ty.int X.out), (Ty.lst Ty.int X.out), (Ty.int (0 : Int))] ok17 ⟨?_, ?_, ?_, trivial⟩ ?_
     · intro A B E G H; exact rP (y_move (kp (H 7 rfl) E q40))
     · intro A B E G H d0 d1; exact rP (y_assign (ed d0 rfl rfl rfl))
     · intro A B E G H d0 d1 d2; exact rP (y_assign rfl)
     intro a19 s19 D12; have ok19 := D12.ok; have F19 := F17.step0 D12.stp; have q44 := D12.dn 1 rfl rfl; have q45 := D12.dn 2 rfl rfl; clear D12; refine tn ?_; refine wp_ret ?_
     exact retL2 rfl ok19 F19 (hasT2 (cvt (by (rw [pt_ok hsz hXL hX0 hXr hXo])) q44) (cvi (by (rw [pt_ok hsz hXL hX0 hXr hXo])) q45))


set_option maxRecDepth 100000 in
theorem rsame_fn (xs : List Int) (ys : List Int) (σ : GW) (v0 v1 : Value) (hv0 : Ty.has (Ty.lst Ty.int xs) σ v0) (hv1 : Ty.has (Ty.lst Ty.int ys) σ v1)  :
    FnC Tryd.prog 22 #[v0, v1] σ (Ty.bool (decide (xs = ys))) := by
 refine fn_intro Tryd.func22 rfl Tryd.ntmps22 (Nat.le_of_ble_eq_true rfl) (fun s0 a0 hle F0 ok0 hargs => ?_)
 have p0 : At (Ty.lst Ty.int xs) s0 a0 (.tmp 0) := by have e := hargs 0 _ rfl; show Ty.has _ _ _; rw [e]; exact Ty.up _ hle hv0
 have b1 := sl_le p0
 have p1 : At (Ty.lst Ty.int ys) s0 a0 (.tmp 1) := by have e := hargs 1 _ rfl; show Ty.has _ _ _; rw [e]; exact Ty.up _ hle hv1
 have b2 := sl_le p1
 clear hargs; refine wp_seq ?_
 refine rg a0 s0 [(Ty.bool false)] ok0 ⟨?_, trivial⟩ ?_
 · intro A B E G H; exact rP (y_assign rfl)
 intro a1 s1 D1; have ok1 := D1.ok; have F1 := F0.step0 D1.stp; have q1 := D1.kt p0 rfl; have q2 := D1.kt p1 rfl; clear D1; refine tn ?_; refine wp_seq ?_; refine wp_seq ?_
 refine rg a1 s1 [(Ty.lst Ty.int xs), (Ty.nat (List.length xs)), (Ty.lst Ty.int ys), (Ty.nat (List.length ys)), (Ty.bool (decide ((((List.length xs) : Nat) : Int) ≠ (((List.length ys) : Nat) : Int))))] ok1 ⟨?_, ?_, ?_, ?_, ?_, trivial⟩ ?_
 · intro A B E G H; exact rP (y_move (kp (H 0 rfl) E q1))
 · intro A B E G H d0; exact rP (y_len Tryd.underlying26 (ed d0 rfl rfl rfl))
 · intro A B E G H; exact rP (y_move (kp (H 1 rfl) E q2))
 · intro A B E G H d0; exact rP (y_len Tryd.underlying26 (ed d0 rfl rfl rfl))
 · intro A B E G H d0 d1; exact rP (y_neq (ed d0 rfl rfl rfl) (ed d1 rfl rfl rfl))
 intro a2 s2 D2; have ok2 := D2.ok; have F2 := F1.step0 D2.stp; have q3 := D2.kt q1 rfl; have q4 := D2.kt q2 rfl; have q5 := D2.dn 4 rfl rfl; clear D2; refine tn ?_
 refine cond_p (p := ((((List.length xs) : Nat) : Int) ≠ (((List.length ys) : Nat) : Int))) q5 (fun c1 => ?_) (fun c1 => ?_)
 ·
  refine wp_seq ?_
  refine rg a2 s2 [(Ty.bool false)] ok2 ⟨?_, trivial⟩ ?_
  · intro A B E G H; exact rP (y_assign rfl)
  intro a3 s3 D3; have ok3 := D3.ok; have F3 := F2.step0 D3.stp; have q6 := D3.dn 0 rfl rfl; clear D3; refine tn ?_; refine wp_ret ?_; refine tr ?_
  exact ret1 rfl ok3 F3 (cvb (by (rw [decide_eq_false]; intro e; subst e; omega)) q6)
 ·
  refine wp_skip ?_; refine tn ?_; refine wp_seq ?_; refine wp_seq ?_
  refine rg a2 s2 [(Ty.int (0 : Int))] ok2 ⟨?_, trivial⟩ ?_
  · intro A B E G H; exact rP (y_assign rfl)
  intro a4 s4 D4; have ok4 := D4.ok; have F4 := F2.step0 D4.stp; have q7 := D4.kt q3 rfl; have q8 := D4.kt q4 rfl; have q9 := D4.dn 0 rfl rfl; clear D4; refine tn ?_; refine wp_block ?_
  refine loop (fun n1 a5 w1 => ∃ (t1 : GW) (k : Nat), t1.w = w1 ∧ From s0 t1 ∧ Ok 26 a5 ∧ At (Ty.nat k) t1 a5 (.tmp 5) ∧ At (Ty.lst Ty.int xs) t1 a5 (.tmp 0) ∧ At (Ty.lst Ty.int ys) t1 a5 (.tmp 1) ∧ (k ≤ xs.length) ∧ (xs.length = ys.length) ∧ (∀ j, j < k → xs.getD j 0 = ys.getD j 0) ∧ n1 = xs.length - k) (xs.length - (0)) ?_ ?_
  ·
   exact ⟨s4, 0, rfl, F4, ok4, (cvi (by (first | rfl | omega | (simp_all; done) | (simp_all; omega))) q9), q7, q8, by omega, by omega, fun j hj => absurd hj (Nat.not_lt_zero j), rfl⟩
  ·
   rintro n2 a6 w2 ⟨t2, k, rfl, F5, ok5, q10, q11, q12, hk, hl, heq, rfl⟩
   refine wp_seq ?_; refine wp_seq ?_
   refine reg (a := a6) (σ := t2) rfl (fun i_ => List.getD [(Ty.pr (Ty.nat k)), (Ty.pr (Ty.lst Ty.int xs)), (Ty.pr (Ty.nat (List.length xs))), (Ty.pr (Ty.bool (decide (((k : Nat) : Int) < (((List.length xs) : Nat) : Int)))))] i_ Pr.any) ok5 rfl ⟨?_, ?_, ?_, ?_, trivial⟩ ?_
   · intro A B E G H; exact rP (y_move (kp (H 5 rfl) E q10))
   · intro A B E G H; exact rP (y_move (kp (H 0 rfl) E q11))
   · intro A B E G H d0; exact rP (y_len Tryd.underlying26 (ed d0 rfl rfl rfl))
   · intro A B E G H d0 d1; exact rP (y_lss (ed d0 rfl rfl rfl) (ed d1 rfl rfl rfl))
   intro a7 s5 D5; have ok6 := D5.ok; have F6 := F5.step0 D5.stp; have q13 := D5.kt q10 rfl; have q14 := D5.kt q11 rfl; have q15 := D5.kt q12 rfl; have q16 := D5.dn 3 rfl rfl; clear D5; refine tn ?_
   refine cond_p (p := (((k : Nat) : Int) < (((List.length xs) : Nat) : Int))) q16 (fun c2 => ?_) (fun c2 => ?_)
   ·
    refine wp_skip ?_; refine tn ?_; refine wp_seq ?_; refine wp_block ?_; refine wp_seq ?_
    refine rg a7 s5 [(Ty.lst Ty.int xs), (Ty.nat k), (Ty.ref [(Ty.int (xs.getD k 0))]), (Ty.int (xs.getD k 0)), (Ty.lst Ty.int ys), (Ty.nat k), (Ty.ref [(Ty.int (ys.getD k 0))]), (Ty.int (ys.getD k 0)), (Ty.bool (decide ((xs.getD k 0) ≠ (ys.getD k 0))))] ok6 ⟨?_, ?_, ?_, ?_, ?_, ?_, ?_, ?_, ?_, trivial⟩ ?_
    · intro A B E G H; exact rP (y_move (kp (H 0 rfl) E q14))
    · intro A B E G H; exact rP (y_move (kp (H 5 rfl) E q13))
    · intro A B E G H d0 d1; exact rP (y_index1 Tryd.underlying26 Tryd.inf3 (ed d0 rfl rfl rfl) (ed d1 rfl rfl rfl) (by omega) (lst_get Ty.int xs 0 k (by omega)))
    · intro A B E G H d0; exact rP (y_load Tryd.underlying3 rfl (ed d0 rfl rfl rfl) rfl)
    · intro A B E G H; exact rP (y_move (kp (H 1 rfl) E q15))
    · intro A B E G H; exact rP (y_move (kp (H 5 rfl) E q13))
    · intro A B E G H d0 d1; exact rP (y_index1 Tryd.underlying26 Tryd.inf3 (ed d0 rfl rfl rfl) (ed d1 rfl rfl rfl) (by omega) (lst_get Ty.int ys 0 k (by omega)))
    · intro A B E G H d0; exact rP (y_load Tryd.underlying3 rfl (ed d0 rfl rfl rfl) rfl)
    · intro A B E G H d0 d1; exact rP (y_neq (ed d0 rfl rfl rfl) (ed d1 rfl rfl rfl))
    intro a8 s6 D6; have ok7 := D6.ok; have F7 := F6.step0 D6.stp; have q17 := D6.kt q13 rfl; have q18 := D6.kt q14 rfl; have q19 := D6.kt q15 rfl; have q20 := D6.dn 8 rfl rfl; clear D6; refine tn ?_
    refine cond_p (p := ((xs.getD k 0) ≠ (ys.getD k 0))) q20 (fun c3 => ?_) (fun c3 => ?_)
    ·
     refine wp_seq ?_
     refine rg a8 s6 [(Ty.bool false)] ok7 ⟨?_, trivial⟩ ?_
     · intro A B E G H; exact rP (y_assign rfl)
     intro a9 s7 D7; have ok8 := D7.ok; have F8 := F7.step0 D7.stp; have q21 := D7.dn 0 rfl rfl; clear D7; refine tn ?_; refine wp_ret ?_; refine br ?_; refine tr ?_; refine tr ?_; refine br ?_; refine tr ?_
     exact ret1 rfl ok8 F8 (cvb (by (exact (decide_eq_false (fun e => by subst e; simp_all)).symm)) q21)
    ·
     refine wp_skip ?_; refine bn ?_; refine tn ?_
     refine rg a8 s6 [(Ty.nat k), (Ty.int (((k : Nat) : Int) + (1 : Int))), (Ty.int (((k : Nat) : Int) + (1 : Int)))] ok7 ⟨?_, ?_, ?_, trivial⟩ ?_
     · intro A B E G H; exact rP (y_move (kp (H 5 rfl) E q17))
     · intro A B E G H d0; exact rP (y_add (ed d0 rfl rfl rfl) rfl (w64 (by omega) (by omega)))
     · intro A B E G H d0 d1 d2; exact rP (y_assign (ed d0 rfl rfl rfl))
     intro a10 s8 D8; have ok9 := D8.ok; have F9 := F7.step0 D8.stp; have q22 := D8.kt q18 rfl; have q23 := D8.kt q19 rfl; have q24 := D8.dn 2 rfl rfl; clear D8
     exact tn ⟨xs.length - ((k+1)), by omega, s8, (k+1), rfl, F9, ok9, (cvi (by (first | rfl | omega | (simp_all; done) | (simp_all; omega))) q24), q22, q23, by omega, by omega, all_snoc heq (by assumption), rfl⟩
   ·
    refine wp_exit ?_; refine tx ?_; refine tx ?_; refine bx ?_; refine tn ?_; refine wp_seq ?_
    refine rg a7 s5 [(Ty.bool true)] ok6 ⟨?_, trivial⟩ ?_
    · intro A B E G H; exact rP (y_assign rfl)
    intro a11 s9 D9; have ok10 := D9.ok; have F10 := F6.step0 D9.stp; have q25 := D9.dn 0 rfl rfl; clear D9; refine tn ?_; refine wp_ret ?_
    exact ret1 rfl ok10 F10 (cvb (by (exact (decide_eq_true (list_ext (by omega) (fun j hj => heq j (by omega)))).symm)) q25)


set_option maxHeartbeats 4000000 in
set_option maxRecDepth 100000 in
theorem rDec_fn : ∀ (d : Nat) (n : Nat) (σ : GW)  (v0 : Value) (hv0 : Ty.has (Ty.nat n) σ v0)  (hd : d = n) (hn : n < 100), FnC Tryd.prog 23 #[v0] σ (Ty.val (Value.string (decB n))) := by
 intro d
 induction d using Nat.strongRecOn with
 | _ d ih =>
 intro n σ v0 hv0 hd hn
 refine fn_intro0 Tryd.func23 rfl Tryd.ntmps23 (Nat.le_of_ble_eq_true rfl) (fun s0 a0 hle F0 ok0 hargs => ?_)
 have p0 : At (Ty.nat n) s0 a0 (.tmp 0) := by have e := hargs 0 _ rfl; show Ty.has _ _ _; rw [e]; exact Ty.up _ hle hv0
 clear hargs; refine wp_seq ?_
 refine rg a0 s0 [(Ty.val (Value.string (ByteArray.mk #[])))] ok0 ⟨?_, trivial⟩ ?_
 · intro A B E G H; exact rP (y_assign rfl)
 intro a1 s1 D1; have ok1 := D1.ok; have F1 := F0.step0 D1.stp; have q1 := D1.kt p0 rfl; clear D1; refine tn ?_; refine wp_seq ?_; refine wp_seq ?_
 refine rg a1 s1 [(Ty.nat n), (Ty.bool (decide (((n : Nat) : Int) < (-9 : Int))))] ok1 ⟨?_, ?_, trivial⟩ ?_
 · intro A B E G H; exact rP (y_move (kp (H 0 rfl) E q1))
 · intro A B E G H d0; exact rP (y_lss (ed d0 rfl rfl rfl) rfl)
 intro a2 s2 D2; have ok2 := D2.ok; have F2 := F1.step0 D2.stp; have q2 := D2.kt q1 rfl; have q3 := D2.dn 1 rfl rfl; clear D2; refine tn ?_
 refine cond_p (p := (((n : Nat) : Int) < (-9 : Int))) q3 (fun c1 => ?_) (fun c1 => ?_)
 ·
  exfalso
  omega
 ·
  refine wp_skip ?_; refine tn ?_; refine wp_seq ?_; refine wp_seq ?_
  refine rg a2 s2 [(Ty.nat n), (Ty.bool (decide (((n : Nat) : Int) < (0 : Int))))] ok2 ⟨?_, ?_, trivial⟩ ?_
  · intro A B E G H; exact rP (y_move (kp (H 0 rfl) E q2))
  · intro A B E G H d0; exact rP (y_lss (ed d0 rfl rfl rfl) rfl)
  intro a3 s3 D3; have ok3 := D3.ok; have F3 := F2.step0 D3.stp; have q4 := D3.kt q2 rfl; have q5 := D3.dn 1 rfl rfl; clear D3; refine tn ?_
  refine cond_p (p := (((n : Nat) : Int) < (0 : Int))) q5 (fun c2 => ?_) (fun c2 => ?_)
  ·
   exfalso
   omega
  ·
   refine wp_skip ?_; refine tn ?_; refine wp_seq ?_; refine wp_seq ?_
   refine rg a3 s3 [(Ty.nat n), (Ty.bool (decide (((n : Nat) : Int) < (10 : Int))))] ok3 ⟨?_, ?_, trivial⟩ ?_
   · intro A B E G H; exact rP (y_move (kp (H 0 rfl) E q4))
   · intro A B E G H d0; exact rP (y_lss (ed d0 rfl rfl rfl) rfl)
   intro a4 s4 D4; have ok4 := D4.ok; have F4 := F3.step0 D4.stp; have q6 := D4.kt q4 rfl; have q7 := D4.dn 1 rfl rfl; clear D4; refine tn ?_
   refine cond_p (p := (((n : Nat) : Int) < (10 : Int))) q7 (fun c3 => ?_) (fun c3 => ?_)
   ·
    refine wp_seq ?_
    refine rg a4 s4 [(Ty.nat n), (Ty.nat (48 + n)), (Ty.val (Value.int .u8 (((48 + n) : Nat) : Int))), (Ty.sl 1 1 [(Ty.byte (Nat.toUInt8 (Int.toNat (((48 + n) : Nat) : Int))))]), (Ty.val (Value.string (bsL [(Nat.toUInt8 (Int.toNat (((48 + n) : Nat) : Int)))]))), (Ty.val (Value.string (bsL [(Nat.toUInt8 (Int.toNat (((48 + n) : Nat) : Int)))])))] ok4 ⟨?_, ?_, ?_, ?_, ?_, ?_, trivial⟩ ?_
    · intro A B E G H; exact rP (y_move (kp (H 0 rfl) E q6))
    · intro A B E G H d0; exact rP ((y_add rfl (ed d0 rfl rfl rfl) (w64 (by omega) (by omega))).mono (fun τ _ h => cvi (σ := τ) (by first | omega | exact (Int.natCast_mul _ _).symm) h))
    · intro A B E G H d0; exact rP (y_conv Tryd.underlying5 (ed d0 rfl rfl rfl) (by exact wrap_u8 (by omega) (by omega)) (by rw [Tryd.underlying3]; rfl))
    · intro A B E G H d0; exact rP (y_build1o Tryd.underlying55 Tryd.inf5 rfl (one_val rfl) (cvByte (by omega) (by omega) (ed d0 rfl rfl rfl)))
    · intro A B E G H d0; exact rP (y_convBS (bs := [(Nat.toUInt8 (Int.toNat (((48 + n) : Nat) : Int)))]) Tryd.underlying55 Tryd.underlying5 Tryd.underlying9 (ed d0 rfl rfl rfl))
    · intro A B E G H d0 d1 d2 d3 d4 d5; exact rP (y_assign (ed d0 rfl rfl rfl))
    intro a5 s5 D5; have ok5 := D5.ok; have F5 := F4.step0 D5.stp; have q8 := D5.dn 5 rfl rfl; clear D5; refine tn ?_; refine wp_ret ?_; refine tr ?_
    exact retL1 rfl ok5 F5 (cvt (by (rw [show Int.toNat ((48 + n : Nat) : Int) = 48 + n from Int.toNat_natCast _, dec_lo (by omega)])) q8)
   ·
    refine wp_skip ?_; refine tn ?_; refine wp_seq ?_
    refine rg a4 s4 [(Ty.nat n), (Ty.nat (n / 10)), (Ty.val (Value.string (decB ((n / 10))))), (Ty.nat n), (Ty.nat (n % 10)), (Ty.nat (48 + (n % 10))), (Ty.val (Value.int .u8 (((48 + (n % 10)) : Nat) : Int))), (Ty.sl 1 1 [(Ty.byte (Nat.toUInt8 (Int.toNat (((48 + (n % 10)) : Nat) : Int))))]), (Ty.val (Value.string (bsL [(Nat.toUInt8 (Int.toNat (((48 + (n % 10)) : Nat) : Int)))]))), (Ty.val (Value.string ((decB ((n / 10))) ++ (bsL [(Nat.toUInt8 (Int.toNat (((48 + (n % 10)) : Nat) : Int)))])))), (Ty.val (Value.string ((decB ((n / 10))) ++ (bsL [(Nat.toUInt8 (Int.toNat (((48 + (n % 10)) : Nat) : Int)))]))))] ok4 ⟨?_, ?_, ?_, ?_, ?_, ?_, ?_, ?_, ?_, ?_, ?_, trivial⟩ ?_
    · intro A B E G H; exact rP (y_move (kp (H 0 rfl) E q6))
    · intro A B E G H d0; exact rP (y_quoN (ed d0 rfl rfl rfl) (toN (σ := B) rfl (by omega)) (by omega) (by omega))
    · intro A B E G H d0; exact rP (y_call #[A.eval (.tmp 31)] Tryd.func23 rfl rfl (by simp only [List.map_toArray, List.map_cons, List.map_nil]) (ih (((n / 10))) (by omega) ((n / 10)) _ _ (cvi (σ := B) (by first | omega | rfl) (ed d0 rfl rfl rfl)) (by first | omega | rfl) (by first | omega | rfl)))
    · intro A B E G H; exact rP (y_move (kp (H 0 rfl) E q6))
    · intro A B E G H d0; exact rP (y_remN (ed d0 rfl rfl rfl) (toN (σ := B) rfl (by omega)) (by omega))
    · intro A B E G H d0; exact rP ((y_add rfl (ed d0 rfl rfl rfl) (w64 (by omega) (by omega))).mono (fun τ _ h => cvi (σ := τ) (by first | omega | exact (Int.natCast_mul _ _).symm) h))
    · intro A B E G H d0; exact rP (y_conv Tryd.underlying5 (ed d0 rfl rfl rfl) (by exact wrap_u8 (by omega) (by omega)) (by rw [Tryd.underlying3]; rfl))
    · intro A B E G H d0; exact rP (y_build1o Tryd.underlying55 Tryd.inf5 rfl (one_val rfl) (cvByte (by omega) (by omega) (ed d0 rfl rfl rfl)))
    · intro A B E G H d0; exact rP (y_convBS (bs := [(Nat.toUInt8 (Int.toNat (((48 + (n % 10)) : Nat) : Int)))]) Tryd.underlying55 Tryd.underlying5 Tryd.underlying9 (ed d0 rfl rfl rfl))
    · intro A B E G H d0 d1; exact rP (y_scat (ed d0 rfl rfl rfl) (ed d1 rfl rfl rfl) (by have h1_ := dec_size (n := n / 10); rw [bsL_size, List.length_singleton]; omega))
    · intro A B E G H d0 d1 d2 d3 d4 d5 d6 d7 d8 d9 d10 d11; exact rP (y_assign (ed d0 rfl rfl rfl))
    intro a6 s6 D6; have ok6 := D6.ok; have F6 := F4.step0 D6.stp; have q9 := D6.dn 10 rfl rfl; clear D6; refine tn ?_; refine wp_ret ?_
    exact retL1 rfl ok6 F6 (cvt (by (rw [show Int.toNat ((48 + n % 10 : Nat) : Int) = 48 + n % 10 from Int.toNat_natCast _, dec_hi (by omega) (by omega)])) q9)


set_option maxHeartbeats 4000000 in
set_option maxRecDepth 100000 in
theorem topTouch_fn (raw : List Int) (many : Int) (calls : Int) (times : Int) (σ : GW)  (v0 v1 v2 v3 : Value) (hv0 : Ty.has (Ty.lst Ty.int raw) σ v0) (hv1 : Ty.has (Ty.int many) σ v1) (hv2 : Ty.has (Ty.int calls) σ v2) (hv3 : Ty.has (Ty.int times) σ v3)  (hraw : ∀ x ∈ raw, -9223372036854775808 ≤ x ∧ x ≤ 9223372036854775807) (hmany : -9223372036854775808 ≤ many ∧ many ≤ 9223372036854775807) (hcalls : -9223372036854775808 ≤ calls ∧ calls ≤ 9223372036854775807) (htimes : -9223372036854775808 ≤ times ∧ times ≤ 9223372036854775807) :
    FnC Tryd.prog 5 #[v0, v1, v2, v3] σ (Ty.bool true) := by
 have hr : ∀ k, -9223372036854775808 ≤ rawAt raw k ∧ rawAt raw k ≤ 9223372036854775807 := fun k => rawAt_bd hraw k
 have hp_many := pick_lt many (n := 60) (by omega)
 have hp_calls := pick_lt calls (n := 3) (by omega)
 have hp_times := pick_lt times (n := 6) (by omega)
 obtain ⟨C, hC⟩ : ∃ C, C = 1 + pick calls 3 := ⟨_, rfl⟩
 obtain ⟨MN, hMN⟩ : ∃ MN, MN = 1 + pick many 60 := ⟨_, rfl⟩
 obtain ⟨N, hN⟩ : ∃ N, N = 1 + pick times 6 := ⟨_, rfl⟩
 obtain ⟨CS, hCS⟩ : ∃ CS, CS = cOf raw 6 (C - 1) := ⟨_, rfl⟩
 obtain ⟨T, hT⟩ : ∃ T, T = leadsOf raw MN C := ⟨_, rfl⟩
 have hCl : CS.length = C := by rw [hCS, cOf_len]; omega
 have hTl : T.length = MN := by rw [hT, leadsOf_len]
 have hTi : ∀ k, k < T.length → 0 ≤ T.getD k 0 ∧ T.getD k 0 < (CS.length : Int) := fun k hk => by (rw [hCl, hT] at *; exact leads_in (by omega) _ (mem_getDD 0 hk))
 have hsg : Sgn CS := by rw [hCS]; exact cOf_sgn (by omega)
 have hcr : ∀ c ∈ CS, -2147483648 ≤ c.1 ∧ c.1 ≤ 2147483647 := by rw [hCS]; exact cOf_asc (by omega)
 obtain ⟨X, hX⟩ : ∃ X, X = ptM (sgOf CS) (ptT CS T) := ⟨_, rfl⟩
 obtain ⟨hX1, hX2⟩ := there hsg (by omega) (by omega) hTi
 rw [← hX] at hX1 hX2
 have hPE : ptE CS T = 0 := (pt_good (by omega) hTi).1
 have hts : (ptT CS T).size ≤ 6 * T.length := by rw [(pt_good (by omega) hTi).2]; exact prt_size CS 0 T
 obtain ⟨Y, hY⟩ : ∃ Y, Y = ptM (sgOf CS) (decB N ++ ByteArray.mk #[40] ++ ptT CS T ++ ByteArray.mk #[41]) := ⟨_, rfl⟩
 obtain ⟨hY1, hY2⟩ := there_times (n := N) hsg (by omega) (by omega) hTi (by omega) (by omega)
 rw [← hY] at hY1 hY2
 have hq1 : (decB N).size ≤ 2 := dec_size
 have hq2 : (ByteArray.mk #[40]).size = 1 := rfl
 have hq3 : (ByteArray.mk #[41]).size = 1 := rfl
 refine fn_intro0 Tryd.func5 rfl Tryd.ntmps5 (Nat.le_of_ble_eq_true rfl) (fun s0 a0 hle F0 ok0 hargs => ?_)
 have p0 : At (Ty.lst Ty.int raw) s0 a0 (.tmp 0) := by have e := hargs 0 _ rfl; show Ty.has _ _ _; rw [e]; exact Ty.up _ hle hv0
 have b1 := sl_le p0
 have p1 : At (Ty.int many) s0 a0 (.tmp 1) := by have e := hargs 1 _ rfl; show Ty.has _ _ _; rw [e]; exact Ty.up _ hle hv1
 have p2 : At (Ty.int calls) s0 a0 (.tmp 2) := by have e := hargs 2 _ rfl; show Ty.has _ _ _; rw [e]; exact Ty.up _ hle hv2
 have p3 : At (Ty.int times) s0 a0 (.tmp 3) := by have e := hargs 3 _ rfl; show Ty.has _ _ _; rw [e]; exact Ty.up _ hle hv3
 clear hargs; refine wp_seq ?_
 refine rg a0 s0 [(Ty.bool false)] ok0 ⟨?_, trivial⟩ ?_
 · intro A B E G H; exact rP (y_assign rfl)
 intro a1 s1 D1; have ok1 := D1.ok; have F1 := F0.step0 D1.stp; have q1 := D1.kt p0 rfl; have q2 := D1.kt p1 rfl; have q3 := D1.kt p2 rfl; have q4 := D1.kt p3 rfl; clear D1; refine tn ?_; refine wp_seq ?_; refine wp_seq ?_
 refine rg a1 s1 [(Ty.lst Ty.int raw), (Ty.nat (List.length raw)), (Ty.bool (decide ((256 : Int) < (((List.length raw) : Nat) : Int))))] ok1 ⟨?_, ?_, ?_, trivial⟩ ?_
 · intro A B E G H; exact rP (y_move (kp (H 0 rfl) E q1))
 · intro A B E G H d0; exact rP (y_len Tryd.underlying26 (ed d0 rfl rfl rfl))
 · intro A B E G H d0; exact rP (y_gtr (ed d0 rfl rfl rfl) rfl)
 intro a2 s2 D2; have ok2 := D2.ok; have F2 := F1.step0 D2.stp; have q5 := D2.kt q1 rfl; have q6 := D2.kt q2 rfl; have q7 := D2.kt q3 rfl; have q8 := D2.kt q4 rfl; have q9 := D2.dn 2 rfl rfl; clear D2; refine tn ?_
 refine cond_p (p := ((256 : Int) < (((List.length raw) : Nat) : Int))) q9 (fun c1 => ?_) (fun c1 => ?_)
 ·
  refine wp_seq ?_
  refine rg a2 s2 [(Ty.bool true)] ok2 ⟨?_, trivial⟩ ?_
  · intro A B E G H; exact rP (y_assign rfl)
  intro a3 s3 D3; have ok3 := D3.ok; have F3 := F2.step0 D3.stp; have q10 := D3.dn 0 rfl rfl; clear D3; refine tn ?_; refine wp_ret ?_; refine tr ?_
  exact retL1 rfl ok3 F3 q10
 ·
  refine wp_skip ?_; refine tn ?_; refine wp_seq ?_
  refine rg a2 s2 [(Ty.int calls), (Ty.nat (pick (calls) (3))), (Ty.nat (1 + (pick (calls) (3)))), (Ty.nat (1 + (pick (calls) (3))))] ok2 ⟨?_, ?_, ?_, ?_, trivial⟩ ?_
  · intro A B E G H; exact rP (y_move (kp (H 2 rfl) E q7))
  · intro A B E G H d0; exact rP (y_call #[A.eval (.tmp 21), A.eval ((Operand.const (Value.int IntKind.i64 3)))] Tryd.func17 rfl rfl (by simp only [List.map_toArray, List.map_cons, List.map_nil]) (pick_fn (calls) (3) _ _ _ (cvi (σ := B) (by omega) (ed d0 rfl rfl rfl)) (cvi (σ := B) (by omega) rfl) (by omega) (by omega)))
  · intro A B E G H d0; exact rP ((y_add rfl (ed d0 rfl rfl rfl) (w64 (by omega) (by omega))).mono (fun τ _ h => cvi (σ := τ) (by first | omega | exact (Int.natCast_mul _ _).symm) h))
  · intro A B E G H d0 d1 d2 d3 d4; exact rP (y_assign (ed d0 rfl rfl rfl))
  intro a4 s4 D4; have ok4 := D4.ok; have F4 := F2.step0 D4.stp; have q11 := D4.kt q5 rfl; have q12 := D4.kt q6 rfl; have q13 := D4.kt q8 rfl; have q14 := D4.dn 3 rfl rfl; clear D4
  have q15 : At (Ty.nat C) s4 a4 (.tmp 9) := (cvi (by (rw [hC])) q14)
  refine tn ?_; refine wp_seq ?_
  refine rg a4 s4 [(Ty.lst Ty.int raw), (Ty.nat C), (Ty.lstc 2 callC CS), (Ty.lstc 2 callC CS)] ok4 ⟨?_, ?_, ?_, ?_, trivial⟩ ?_
  · intro A B E G H; exact rP (y_move (kp (H 0 rfl) E q11))
  · intro A B E G H; exact rP (y_move (kp (H 9 rfl) E q15))
  · intro A B E G H d0 d1; exact rP ((y_call #[A.eval (.tmp 24), A.eval ((Operand.const (Value.int IntKind.i64 6))), A.eval (.tmp 25)] Tryd.func19 rfl rfl (by simp only [List.map_toArray, List.map_cons, List.map_nil]) (callsOf_fn (raw) (6) (C) _ _ _ _ (ed d0 rfl rfl rfl) (cvi (σ := B) (by first | omega | exact hr | assumption) rfl) (cvi (σ := B) (by first | omega | exact hr | assumption) (ed d1 rfl rfl rfl)) (by first | omega | exact hr | assumption) (by first | omega | exact hr | assumption) (by first | omega | exact hr | assumption))).mono (fun τ _ h => cvt (σ := τ) (T := (Ty.lstc 2 callC (cOf raw (6) ((C) - 1)))) (U := (Ty.lstc 2 callC CS)) (by rw [hCS]) h))
  · intro A B E G H d0 d1 d2 d3 d4; exact rP (y_assign (ed d0 rfl rfl rfl))
  intro a5 s5 D5; have ok5 := D5.ok; have F5 := F4.step0 D5.stp; have q16 := D5.kt q11 rfl; have q17 := D5.kt q12 rfl; have q18 := D5.kt q13 rfl; have q19 := D5.kt q15 rfl; have q20 := D5.dn 3 rfl rfl; clear D5; refine tn ?_; refine wp_seq ?_
  refine rg a5 s5 [(Ty.lst Ty.int raw), (Ty.int many), (Ty.nat (pick (many) (60))), (Ty.nat (1 + (pick (many) (60)))), (Ty.nat C), (Ty.lst Ty.int T), (Ty.lst Ty.int T)] ok5 ⟨?_, ?_, ?_, ?_, ?_, ?_, ?_, trivial⟩ ?_
  · intro A B E G H; exact rP (y_move (kp (H 0 rfl) E q16))
  · intro A B E G H; exact rP (y_move (kp (H 1 rfl) E q17))
  · intro A B E G H d0; exact rP (y_call #[A.eval (.tmp 28), A.eval ((Operand.const (Value.int IntKind.i64 60)))] Tryd.func17 rfl rfl (by simp only [List.map_toArray, List.map_cons, List.map_nil]) (pick_fn (many) (60) _ _ _ (cvi (σ := B) (by omega) (ed d0 rfl rfl rfl)) (cvi (σ := B) (by omega) rfl) (by omega) (by omega)))
  · intro A B E G H d0; exact rP ((y_add rfl (ed d0 rfl rfl rfl) (w64 (by omega) (by omega))).mono (fun τ _ h => cvi (σ := τ) (by first | omega | exact (Int.natCast_mul _ _).symm) h))
  · intro A B E G H; exact rP (y_move (kp (H 9 rfl) E q19))
  · intro A B E G H d0 d1 d2 d3; exact rP ((y_call #[A.eval (.tmp 27), A.eval (.tmp 30), A.eval (.tmp 31)] Tryd.func20 rfl rfl (by simp only [List.map_toArray, List.map_cons, List.map_nil]) (rLeadsOf_fn (raw) ((1 + (pick (many) (60)))) (C) _ _ _ _ (ed d0 rfl rfl rfl) (cvi (σ := B) (by first | omega | assumption) (ed d1 rfl rfl rfl)) (cvi (σ := B) (by first | omega | assumption) (ed d2 rfl rfl rfl)) (by first | omega | assumption) (by first | omega | assumption) (by first | omega | assumption))).mono (fun τ _ h => cvt (σ := τ) (T := (Ty.lst Ty.int (leadsOf raw ((1 + (pick (many) (60)))) (C)))) (U := (Ty.lst Ty.int T)) (by rw [hT, hMN]) h))
  · intro A B E G H d0 d1 d2 d3 d4 d5 d6 d7; exact rP (y_assign (ed d0 rfl rfl rfl))
  intro a6 s6 D6; have ok6 := D6.ok; have F6 := F5.step0 D6.stp; have q21 := D6.kt q18 rfl; have q22 := D6.kt q20 rfl; have q23 := D6.dn 6 rfl rfl; clear D6; refine tn ?_; refine wp_seq ?_
  refine rg a6 s6 [(Ty.lstc 2 callC CS), (Ty.lst Ty.int T), (Ty.tup2 (Ty.val (Value.string (ptT CS T))) (Ty.int (0 : Int))), (Ty.tup2 (Ty.val (Value.string (ptT CS T))) (Ty.int (0 : Int))), (Ty.val (Value.string (ptT CS T))), (Ty.int (0 : Int)), (Ty.val (Value.string (ptT CS T))), (Ty.int (0 : Int))] ok6 ⟨?_, ?_, ?_, ?_, ?_, ?_, ?_, ?_, trivial⟩ ?_
  · intro A B E G H; exact rP (y_move (kp (H 10 rfl) E q22))
  · intro A B E G H; exact rP (y_move (kp (H 11 rfl) E q23))
  · intro A B E G H d0 d1; exact rP ((y_call #[A.eval (.tmp 34), A.eval (.tmp 35)] Tryd.func10 rfl rfl (by simp only [List.map_toArray, List.map_cons, List.map_nil]) (print_fn (CS) (T) _ _ _ (ed d0 rfl rfl rfl) (ed d1 rfl rfl rfl) (by first | omega | assumption | rfl))).mono (fun τ _ h => cvt (σ := τ) (T := (Ty.tup2 (Ty.val (Value.string (ptT (CS) (T)))) (Ty.int (ptE (CS) (T))))) (U := (Ty.tup2 (Ty.val (Value.string (ptT CS T))) (Ty.int (0 : Int)))) (by rw [hPE]) h))
  · intro A B E G H d0; exact rP (y_move (ed d0 rfl rfl rfl))
  · intro A B E G H d0; exact rP (y_ext2_0 (ed d0 rfl rfl rfl))
  · intro A B E G H d0 d1; exact rP (y_ext2_1 (ed d0 rfl rfl rfl))
  · intro A B E G H d0 d1 d2 d3 d4 d5 d6 d7; exact rP (y_assign (ed d0 rfl rfl rfl))
  · intro A B E G H d0 d1 d2 d3 d4 d5 d6 d7 d8; exact rP (y_assign (ed d0 rfl rfl rfl))
  intro a7 s7 D7; have ok7 := D7.ok; have F7 := F6.step0 D7.stp; have q24 := D7.kt q21 rfl; have q25 := D7.kt q22 rfl; have q26 := D7.kt q23 rfl; have q27 := D7.dn 6 rfl rfl; have q28 := D7.dn 7 rfl rfl; clear D7; refine tn ?_; refine wp_seq ?_
  refine rg a7 s7 [(Ty.lstc 2 callC CS), (Ty.val (Value.string (ptT CS T))), (Ty.tup2 (Ty.lst Ty.int T) (Ty.int (0 : Int))), (Ty.tup2 (Ty.lst Ty.int T) (Ty.int (0 : Int))), (Ty.lst Ty.int T), (Ty.int (0 : Int)), (Ty.lst Ty.int T), (Ty.int (0 : Int))] ok7 ⟨?_, ?_, ?_, ?_, ?_, ?_, ?_, ?_, trivial⟩ ?_
  · intro A B E G H; exact rP (y_move (kp (H 10 rfl) E q25))
  · intro A B E G H; exact rP (y_move (kp (H 12 rfl) E q27))
  · intro A B E G H d0 d1; exact rP ((y_call #[A.eval (.tmp 40), A.eval (.tmp 41)] Tryd.func21 rfl rfl (by simp only [List.map_toArray, List.map_cons, List.map_nil]) (parse_fn (CS) ((ptT CS T)) _ _ _ (ed d0 rfl rfl rfl) (ed d1 rfl rfl rfl) )).mono (fun τ _ h => cvt (σ := τ) (T := (Ty.tup2 (Ty.lst Ty.int (ptM (sgOf (CS)) ((ptT CS T))).out) (Ty.int (ptM (sgOf (CS)) ((ptT CS T))).err))) (U := (Ty.tup2 (Ty.lst Ty.int T) (Ty.int (0 : Int)))) (by rw [← hX, hX1, hX2]) h))
  · intro A B E G H d0; exact rP (y_move (ed d0 rfl rfl rfl))
  · intro A B E G H d0; exact rP (y_ext2_0 (ed d0 rfl rfl rfl))
  · intro A B E G H d0 d1; exact rP (y_ext2_1 (ed d0 rfl rfl rfl))
  · intro A B E G H d0 d1 d2 d3 d4 d5 d6 d7; exact rP (y_assign (ed d0 rfl rfl rfl))
  · intro A B E G H d0 d1 d2 d3 d4 d5 d6 d7 d8; exact rP (y_assign (ed d0 rfl rfl rfl))
  intro a8 s8 D8; have ok8 := D8.ok; have F8 := F7.step0 D8.stp; have q29 := D8.kt q24 rfl; have q30 := D8.kt q25 rfl; have q31 := D8.kt q26 rfl; have q32 := D8.kt q27 rfl; have q33 := D8.kt q28 rfl; have q34 := D8.dn 6 rfl rfl; have q35 := D8.dn 7 rfl rfl; clear D8; refine tn ?_; refine wp_seq ?_; refine wp_seq ?_
  refine rg a8 s8 [(Ty.int (0 : Int)), (Ty.bool false), (Ty.bool false), (Ty.grd (false = false) (Ty.int (0 : Int))), (Ty.grd (false = false) (Ty.bool false)), (Ty.bool (false || false)), (Ty.bool (false || false)), (Ty.grd ((false || false) = false) (Ty.lst Ty.int T)), (Ty.grd ((false || false) = false) (Ty.lst Ty.int T)), (Ty.grd ((false || false) = false) (Ty.bool (decide ((T) = (T))))), (Ty.grd ((false || false) = false) (Ty.bool (!(decide ((T) = (T)))))), (Ty.bool ((false || false) || (!(decide ((T) = (T))))))] ok8 ⟨?_, ?_, ?_, ?_, ?_, ?_, ?_, ?_, ?_, ?_, ?_, ?_, trivial⟩ ?_
  · intro A B E G H; exact rP (y_move (kp (H 13 rfl) E q33))
  · intro A B E G H d0; exact rP ((y_neq (ed d0 rfl rfl rfl) rfl).mono (fun τ _ h => cvb (σ := τ) (by decide) h))
  · intro A B E G H d0; exact rP (y_move (ed d0 rfl rfl rfl))
  · intro A B E G H d0
    refine run_guard G rfl rfl (by decide) (ed d0 rfl rfl rfl) (fun hg => ?_)
    exact y_move (kp (H 15 rfl) E q35)
  · intro A B E G H d0 d1
    refine run_guard G rfl rfl (by decide) (ed d1 rfl rfl rfl) (fun hg => ?_)
    exact (y_neq ((ed d0 rfl rfl rfl).1 hg) rfl).mono (fun τ _ h => cvb (σ := τ) (by decide) h)
  · intro A B E G H d0 d1; exact rP (y_pick_or (ed d0 rfl rfl rfl) rfl (ed d1 rfl rfl rfl))
  · intro A B E G H d0 d1; exact rP (y_move (ed d0 rfl rfl rfl))
  · intro A B E G H d0
    refine run_guard G rfl rfl (by decide) (ed d0 rfl rfl rfl) (fun hg => ?_)
    obtain ⟨d1, d2⟩ := Bool.or_eq_false_iff.mp hg
    exact y_move (kp (H 14 rfl) E q34)
  · intro A B E G H d0
    refine run_guard G rfl rfl (by decide) (ed d0 rfl rfl rfl) (fun hg => ?_)
    obtain ⟨d3, d4⟩ := Bool.or_eq_false_iff.mp hg
    exact y_move (kp (H 11 rfl) E q31)
  · intro A B E G H d0 d1 d2 d3
    refine run_guard G rfl rfl (by decide) (ed d2 rfl rfl rfl) (fun hg => ?_)
    obtain ⟨d5, d6⟩ := Bool.or_eq_false_iff.mp hg
    exact y_call #[A.eval (.tmp 52), A.eval (.tmp 53)] Tryd.func22 rfl rfl (by simp only [List.map_toArray, List.map_cons, List.map_nil]) (rsame_fn (T) (T) _ _ _ ((ed d0 rfl rfl rfl).1 hg) ((ed d1 rfl rfl rfl).1 hg) )
  · intro A B E G H d0 d1
    refine run_guard G rfl rfl (by decide) (ed d1 rfl rfl rfl) (fun hg => ?_)
    obtain ⟨d7, d8⟩ := Bool.or_eq_false_iff.mp hg
    exact y_not ((ed d0 rfl rfl rfl).1 hg)
  · intro A B E G H d0 d1; exact rP (y_pick_or (ed d0 rfl rfl rfl) rfl (ed d1 rfl rfl rfl))
  intro a9 s9 D9; have ok9 := D9.ok; have F9 := F8.step0 D9.stp; have q36 := D9.kt q29 rfl; have q37 := D9.kt q30 rfl; have q38 := D9.kt q31 rfl; have q39 := D9.kt q32 rfl; have q40 := D9.dn 11 rfl rfl; clear D9; refine tn ?_
  refine cond_t q40 (fun c2 => ?_) (fun c2 => ?_)
  ·
   exfalso
   simp at c2
  ·
   obtain ⟨d9, d10⟩ := Bool.or_eq_false_iff.mp c2
   obtain ⟨d11, d12⟩ := Bool.or_eq_false_iff.mp d9
   refine wp_skip ?_; refine tn ?_; refine wp_seq ?_
   refine rg a9 s9 [(Ty.int times), (Ty.nat (pick (times) (6))), (Ty.nat (1 + (pick (times) (6)))), (Ty.nat (1 + (pick (times) (6))))] ok9 ⟨?_, ?_, ?_, ?_, trivial⟩ ?_
   · intro A B E G H; exact rP (y_move (kp (H 3 rfl) E q36))
   · intro A B E G H d0; exact rP (y_call #[A.eval (.tmp 57), A.eval ((Operand.const (Value.int IntKind.i64 6)))] Tryd.func17 rfl rfl (by simp only [List.map_toArray, List.map_cons, List.map_nil]) (pick_fn (times) (6) _ _ _ (cvi (σ := B) (by omega) (ed d0 rfl rfl rfl)) (cvi (σ := B) (by omega) rfl) (by omega) (by omega)))
   · intro A B E G H d0; exact rP ((y_add rfl (ed d0 rfl rfl rfl) (w64 (by omega) (by omega))).mono (fun τ _ h => cvi (σ := τ) (by first | omega | exact (Int.natCast_mul _ _).symm) h))
   · intro A B E G H d0 d1 d2 d3 d4; exact rP (y_assign (ed d0 rfl rfl rfl))
   intro a10 s10 D10; have ok10 := D10.ok; have F10 := F9.step0 D10.stp; have q41 := D10.kt q37 rfl; have q42 := D10.kt q38 rfl; have q43 := D10.kt q39 rfl; have q44 := D10.dn 3 rfl rfl; clear D10
   have q45 : At (Ty.nat N) s10 a10 (.tmp 3) := (cvi (by (rw [hN])) q44)
   refine tn ?_; refine wp_seq ?_
   refine rg a10 s10 [(Ty.lstc 2 callC CS), (Ty.nat N), (Ty.val (Value.string (decB (N)))), (Ty.val (Value.string ((decB (N)) ++ (ByteArray.mk #[40])))), (Ty.val (Value.string (ptT CS T))), (Ty.val (Value.string (((decB (N)) ++ (ByteArray.mk #[40])) ++ (ptT CS T)))), (Ty.val (Value.string ((((decB (N)) ++ (ByteArray.mk #[40])) ++ (ptT CS T)) ++ (ByteArray.mk #[41])))), (Ty.tup2 (Ty.lst Ty.int (repL N T)) (Ty.int (0 : Int))), (Ty.tup2 (Ty.lst Ty.int (repL N T)) (Ty.int (0 : Int))), (Ty.lst Ty.int (repL N T)), (Ty.int (0 : Int)), (Ty.lst Ty.int (repL N T)), (Ty.int (0 : Int))] ok10 ⟨?_, ?_, ?_, ?_, ?_, ?_, ?_, ?_, ?_, ?_, ?_, ?_, ?_, trivial⟩ ?_
   · intro A B E G H; exact rP (y_move (kp (H 10 rfl) E q41))
   · intro A B E G H; exact rP (y_move (kp (H 3 rfl) E q45))
   · intro A B E G H d0; exact rP (y_call #[A.eval (.tmp 62)] Tryd.func23 rfl rfl (by simp only [List.map_toArray, List.map_cons, List.map_nil]) (rDec_fn ((N)) (N) _ _ (cvi (σ := B) (by first | omega | rfl) (ed d0 rfl rfl rfl)) (by first | omega | rfl) (by first | omega | rfl)))
   · intro A B E G H d0; exact rP (y_scat (ed d0 rfl rfl rfl) rfl (by first | omega | (simp only [ByteArray.size_append]; omega)))
   · intro A B E G H; exact rP (y_move (kp (H 12 rfl) E q43))
   · intro A B E G H d0 d1; exact rP (y_scat (ed d0 rfl rfl rfl) (ed d1 rfl rfl rfl) (by first | omega | (simp only [ByteArray.size_append]; omega)))
   · intro A B E G H d0; exact rP (y_scat (ed d0 rfl rfl rfl) rfl (by first | omega | (simp only [ByteArray.size_append]; omega)))
   · intro A B E G H d0 d1 d2; exact rP ((y_call #[A.eval (.tmp 61), A.eval (.tmp 67)] Tryd.func21 rfl rfl (by simp only [List.map_toArray, List.map_cons, List.map_nil]) (parse_fn (CS) (((((decB (N)) ++ (ByteArray.mk #[40])) ++ (ptT CS T)) ++ (ByteArray.mk #[41]))) _ _ _ (ed d0 rfl rfl rfl) (ed d1 rfl rfl rfl) )).mono (fun τ _ h => cvt (σ := τ) (T := (Ty.tup2 (Ty.lst Ty.int (ptM (sgOf (CS)) (((((decB (N)) ++ (ByteArray.mk #[40])) ++ (ptT CS T)) ++ (ByteArray.mk #[41])))).out) (Ty.int (ptM (sgOf (CS)) (((((decB (N)) ++ (ByteArray.mk #[40])) ++ (ptT CS T)) ++ (ByteArray.mk #[41])))).err))) (U := (Ty.tup2 (Ty.lst Ty.int (repL N T)) (Ty.int (0 : Int)))) (by rw [← hY, hY1, hY2]) h))
   · intro A B E G H d0; exact rP (y_move (ed d0 rfl rfl rfl))
   · intro A B E G H d0; exact rP (y_ext2_0 (ed d0 rfl rfl rfl))
   · intro A B E G H d0 d1; exact rP (y_ext2_1 (ed d0 rfl rfl rfl))
   · intro A B E G H d0 d1 d2 d3 d4 d5 d6 d7 d8 d9 d10 d11 d12; exact rP (y_assign (ed d0 rfl rfl rfl))
   · intro A B E G H d0 d1 d2 d3 d4 d5 d6 d7 d8 d9 d10 d11 d12 d13; exact rP (y_assign (ed d0 rfl rfl rfl))
   intro a11 s11 D11; have ok11 := D11.ok; have F11 := F10.step0 D11.stp; have q46 := D11.kt q42 rfl; have q47 := D11.kt q45 rfl; have q48 := D11.dn 11 rfl rfl; have q49 := D11.dn 12 rfl rfl; clear D11; refine tn ?_; refine wp_seq ?_
   refine rg a11 s11 [(Ty.val (Value.slice none 0 0))] ok11 ⟨?_, trivial⟩ ?_
   · intro A B E G H; exact rP (y_assign rfl)
   intro a12 s12 D12; have ok12 := D12.ok; have F12 := F11.step0 D12.stp; have q50 := D12.kt q46 rfl; have q51 := D12.kt q47 rfl; have q52 := D12.kt q48 rfl; have q53 := D12.kt q49 rfl; have q54 := D12.dn 0 rfl rfl; clear D12; refine tn ?_; refine wp_seq ?_; refine wp_seq ?_
   refine rg a12 s12 [(Ty.int (0 : Int))] ok12 ⟨?_, trivial⟩ ?_
   · intro A B E G H; exact rP (y_assign rfl)
   intro a13 s13 D13; have ok13 := D13.ok; have F13 := F12.step0 D13.stp; have q55 := D13.kt q50 rfl; have q56 := D13.kt q51 rfl; have q57 := D13.kt q52 rfl; have q58 := D13.kt q53 rfl; have q59 := D13.kt q54 rfl; have q60 := D13.dn 0 rfl rfl; clear D13; refine tn ?_; refine wp_block ?_
   have o1 : Own s13 6 3 1 (Value.slice none 0 0) 0 (List.map Ty.int ([] : List Int)) := Own.nil _ _ _ _
   refine loop (fun n1 a14 w1 => ∃ (t1 : GW) (j : Nat) (x16_0 : Value), t1.w = w1 ∧ FromL [] s0 t1 ∧ Ok 86 a14 ∧ At (Ty.nat j) t1 a14 (.tmp 17) ∧ At (Ty.val x16_0) t1 a14 (.tmp 16) ∧ At (Ty.lst Ty.int T) t1 a14 (.tmp 11) ∧ At (Ty.nat N) t1 a14 (.tmp 3) ∧ At (Ty.lst Ty.int (repL N T)) t1 a14 (.tmp 14) ∧ At (Ty.int (0 : Int)) t1 a14 (.tmp 13) ∧ Own t1 6 3 1 x16_0 (List.length (repL j T)) (List.map Ty.int (repL j T)) ∧ (j ≤ N) ∧ n1 = N - j) (N - (0)) ?_ ?_
   ·
    exact ⟨s13, 0, (Value.slice none 0 0), rfl, F13, ok13, (cvi (by (first | rfl | omega | (simp_all; done) | (simp_all; omega))) q60), q59, q55, q56, q57, q58, (cvo (by (rfl)) (by (rfl)) o1), by omega, rfl⟩
   ·
    rintro n2 a15 w2 ⟨t2, j, x16_0, rfl, F14, ok14, q61, q62, q63, q64, q65, q66, o2, hj, rfl⟩
    have hrl : (repL j T).length ≤ 6 * 60 := by (rw [repL_len]; exact Nat.mul_le_mul (by omega) (by omega))
    refine wp_seq ?_; refine wp_seq ?_
    refine reg (a := a15) (σ := t2) rfl (fun i_ => List.getD [(Ty.pr (Ty.nat j)), (Ty.pr (Ty.nat N)), (Ty.pr (Ty.bool (decide (((j : Nat) : Int) < ((N : Nat) : Int)))))] i_ Pr.any) ok14 rfl ⟨?_, ?_, ?_, trivial⟩ ?_
    · intro A B E G H; exact rP (y_move (kp (H 17 rfl) E q61))
    · intro A B E G H; exact rP (y_move (kp (H 3 rfl) E q64))
    · intro A B E G H d0 d1; exact rP (y_lss (ed d0 rfl rfl rfl) (ed d1 rfl rfl rfl))
    intro a16 s14 D14; have ok15 := D14.ok; have F15 := F14.step0 D14.stp; have q67 := D14.kt q61 rfl; have q68 := D14.kt q62 rfl; have q69 := D14.kt q63 rfl; have q70 := D14.kt q64 rfl; have q71 := D14.kt q65 rfl; have q72 := D14.kt q66 rfl; have o3 := Own.k0 o2 D14.stp; have q73 := D14.dn 2 rfl rfl; clear D14; refine tn ?_
    refine cond_p (p := (((j : Nat) : Int) < ((N : Nat) : Int))) q73 (fun c3 => ?_) (fun c3 => ?_)
    ·
     refine wp_skip ?_; refine tn ?_; refine wp_seq ?_; refine wp_block ?_
     refine reg2 (a := a16) (σ := s14) rfl 2 (fun i_ => List.getD [(Ty.pr (Ty.val x16_0)), (Ty.pr (Ty.lst Ty.int T))] i_ Pr.any) ok15 rfl (by decide) rfl ⟨?_, ?_, trivial⟩ ?_
     · intro A B E G H; exact rP (y_move (kp (H 16 rfl) E q68))
     · intro A B E G H; exact rP (y_move (kp (H 11 rfl) E q69))
     intro a17 s15 D15; have ok16 := D15.ok; have F16 := F15.step0 D15.stp; have q74 := D15.kt q67 rfl; have q75 := D15.kt q68 rfl; have q76 := D15.kt q69 rfl; have q77 := D15.kt q70 rfl; have q78 := D15.kt q71 rfl; have q79 := D15.kt q72 rfl; have o4 := Own.k0 o3 D15.stp
     have q80 : At (Ty.val x16_0) s15 a17 (.tmp 76) := D15.done 0 (by decide)
     have q81 := D15.dn 1 (by decide) rfl rfl; clear D15
     refine tailL (L := [6]) (R := (fun v τ => Own τ 6 3 1 v ((List.length (repL j T)) + (List.length T)) ((List.map Ty.int (repL j T)) ++ (List.map Ty.int T)))) rfl rfl (by decide) ok16 (YldM.toL (m_append Tryd.underlying26 Tryd.inf3 (by decide) rfl (by decide) (al (R := (Pr.own 6 3 1 (List.length (repL j T)) (List.map Ty.int (repL j T)))) q80 o4) q81 (one_map (fun _ => one_val rfl)) (by omega) (by omega))) (fun a18 s16 hs1 ok17 r1 sm1 => ?_)
     have F17 := F16.stepL hs1 (by decide); have q82 := kpL hs1 (by decide) (sm1 17 (by decide)) q74; have q83 := kpL hs1 (by decide) (sm1 16 (by decide)) q75; have q84 := kpL hs1 (by decide) (sm1 11 (by decide)) q76; have q85 := kpL hs1 (by decide) (sm1 3 (by decide)) q77; have q86 := kpL hs1 (by decide) (sm1 14 (by decide)) q78; have q87 := kpL hs1 (by decide) (sm1 13 (by decide)) q79
     obtain ⟨x1, hx1⟩ : ∃ x, a18.eval (.tmp 78) = x := ⟨_, rfl⟩
     have q88 : At (Ty.val x1) s16 a18 (.tmp 78) := hx1
     have o5 : Own s16 6 3 1 x1 (List.length ((repL j T) ++ T)) (List.map Ty.int ((repL j T) ++ T)) := al2 (R := (Pr.own 6 3 1 (List.length ((repL j T) ++ T)) (List.map Ty.int ((repL j T) ++ T)))) hx1 (cvo (by simp) (by first | (rw [List.map_append]; rfl) | simp) r1)
     clear r1
     refine tailL (L := []) (R := (fun v τ => Pr.has (Ty.pr (Ty.val x1)) τ v)) rfl rfl (by decide) ok17 (Yld.toL (y_assign q88)) (fun a19 s17 hs2 ok18 r2 sm2 => ?_)
     have F18 := F17.stepL hs2 (by decide); have q89 := kpL hs2 (by decide) (sm2 17 (by decide)) q82; have q90 := kpL hs2 (by decide) (sm2 11 (by decide)) q84; have q91 := kpL hs2 (by decide) (sm2 3 (by decide)) q85; have q92 := kpL hs2 (by decide) (sm2 14 (by decide)) q86; have q93 := kpL hs2 (by decide) (sm2 13 (by decide)) q87; have o6 := Own.keepL o5 hs2 (by decide) (by decide)
     have q94 : At (Ty.val x1) s17 a19 (.tmp 16) := r2
     clear r2; refine wpList_nil ?_; refine bn ?_; refine tn ?_
     refine rg a19 s17 [(Ty.nat j), (Ty.nat (j + 1)), (Ty.nat (j + 1))] ok18 ⟨?_, ?_, ?_, trivial⟩ ?_
     · intro A B E G H; exact rP (y_move (kp (H 17 rfl) E q89))
     · intro A B E G H d0; exact rP ((y_add (ed d0 rfl rfl rfl) rfl (w64 (by omega) (by omega))).mono (fun τ _ h => cvi (σ := τ) (by first | omega | exact (Int.natCast_mul _ _).symm) h))
     · intro A B E G H d0 d1 d2; exact rP (y_assign (ed d0 rfl rfl rfl))
     intro a20 s18 D16; have ok19 := D16.ok; have F19 := F18.step0 D16.stp; have q95 := D16.kt q90 rfl; have q96 := D16.kt q91 rfl; have q97 := D16.kt q92 rfl; have q98 := D16.kt q93 rfl; have q99 := D16.kt q94 rfl; have o7 := Own.k0 o6 D16.stp; have q100 := D16.dn 2 rfl rfl; clear D16
     exact tn ⟨N - ((j+1)), by omega, s18, (j+1), x1, rfl, F19, ok19, (cvi (by (first | rfl | omega | (simp_all; done) | (simp_all; omega))) q100), q99, q95, q96, q97, q98, (cvo (by (rw [repL_succ])) (by (rw [repL_succ])) o7), by omega, rfl⟩
    ·
     refine wp_exit ?_; refine tx ?_; refine tx ?_; refine bx ?_; refine tn ?_; refine wp_seq ?_
     obtain ⟨t3, e1, h1, q101⟩ := Own.seal o3 (by decide)
     rw [← e1]
     have F20 := F15.step h1 (by decide); have q102 := Ty.up (Ty.nat j) (h1.le (by decide)) q67
     have q103 : At (Ty.lst Ty.int (repL j T)) t3 a16 (.tmp 16) := by have e : a16.eval (.tmp 16) = x16_0 := q68; show Ty.has _ _ _; rw [e]; exact q101
     have q104 := Ty.up (Ty.lst Ty.int T) (h1.le (by decide)) q69; have q105 := Ty.up (Ty.nat N) (h1.le (by decide)) q70; have q106 := Ty.up (Ty.lst Ty.int (repL N T)) (h1.le (by decide)) q71; have q107 := Ty.up (Ty.int (0 : Int)) (h1.le (by decide)) q72; have q108 := Ty.up (Ty.bool (decide (((j : Nat) : Int) < ((N : Nat) : Int)))) (h1.le (by decide)) q73
     refine reg (a := a16) (σ := t3) rfl (fun i_ => List.getD [(Ty.pr (Ty.int (0 : Int))), (Ty.pr (Ty.bool true)), (Ty.pr (Ty.bool true)), (Ty.pr (Ty.grd (true = true) (Ty.lst Ty.int (repL N T)))), (Ty.pr (Ty.grd (true = true) (Ty.lst Ty.int (repL j T)))), (Ty.pr (Ty.grd (true = true) (Ty.bool (decide (((repL N T)) = ((repL j T))))))), (Ty.pr (Ty.bool (true && (decide (((repL N T)) = ((repL j T))))))), (Ty.pr (Ty.bool (true && (decide (((repL N T)) = ((repL j T)))))))] i_ Pr.any) ok15 rfl ⟨?_, ?_, ?_, ?_, ?_, ?_, ?_, ?_, trivial⟩ ?_
     · intro A B E G H; exact rP (y_move (kp (H 13 rfl) E q107))
     · intro A B E G H d0; exact rP ((y_eql (ed d0 rfl rfl rfl) rfl).mono (fun τ _ h => cvb (σ := τ) (by decide) h))
     · intro A B E G H d0; exact rP (y_move (ed d0 rfl rfl rfl))
     · intro A B E G H d0
       refine run_guard G rfl rfl (by decide) (ed d0 rfl rfl rfl) (fun hg => ?_)
       exact y_move (kp (H 14 rfl) E q106)
     · intro A B E G H d0
       refine run_guard G rfl rfl (by decide) (ed d0 rfl rfl rfl) (fun hg => ?_)
       exact y_move (kp (H 16 rfl) E q103)
     · intro A B E G H d0 d1 d2 d3
       refine run_guard G rfl rfl (by decide) (ed d2 rfl rfl rfl) (fun hg => ?_)
       exact y_call #[A.eval (.tmp 82), A.eval (.tmp 83)] Tryd.func22 rfl rfl (by simp only [List.map_toArray, List.map_cons, List.map_nil]) (rsame_fn ((repL N T)) ((repL j T)) _ _ _ ((ed d0 rfl rfl rfl).1 hg) ((ed d1 rfl rfl rfl).1 hg) )
     · intro A B E G H d0 d1; exact rP (y_pick_and (ed d0 rfl rfl rfl) (ed d1 rfl rfl rfl) rfl)
     · intro A B E G H d0 d1 d2 d3 d4 d5 d6 d7 d8; exact rP (y_assign (ed d0 rfl rfl rfl))
     intro a21 s19 D17; have ok20 := D17.ok; have F21 := F20.step0 D17.stp; have q109 := D17.dn 7 rfl rfl; clear D17; refine tn ?_; refine wp_ret ?_
     exact retL1 rfl ok20 F21 (cvb (by (simp [show j = N by omega])) q109)


end Go.Proofs.YtbilebfnanlgfaaDoor
