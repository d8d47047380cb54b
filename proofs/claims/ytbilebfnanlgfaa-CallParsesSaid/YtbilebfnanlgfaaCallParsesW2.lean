/- The functions that the law CallParses reaches, each by its contract. Part 2. -/
import Derived.Test.YtbilebfnanlgfaaCallParsesW1
namespace Go.Proofs.Ytbilebfnanlgfaa
open Go.KL
theorem Try.inf22 : Info Try.prog 22 (.slice none 0 0) 1 24 := by unfold Info; kernel_rfl
theorem Try.fld79_0 : fieldOf Try.prog 79 0 = some (22, 0) := by kernel_rfl
def ItemsAt (d : Nat) : Prop := ∀ (r : Value) (cs : List BCall) (l : List Int) (deep : Nat) (σ : GW) (hlow : Low [40] σ) (v0 v1 : Value) (hv0 : Ty.has (Ty.val r) σ v0) (hv1 : Ty.has (Ty.nat deep) σ v1) (ho_r : OwnP σ 40 r [(Ty.lstc 2 callC cs), (Ty.lst Ty.rune l)]) (hd : l.length ≤ d) (hll : l.length ≤ 1000000) (hdp : deep ≤ 6), FnL Try.prog 44 #[v0, v1] σ [40] (fun v τ => ∃ (z : List Int), (Ty.has (Ty.tup2 (Ty.lst Ty.int (parM (sgOf cs) deep [] l).out) (Ty.int (parM (sgOf cs) deep [] l).err)) τ v) ∧ (OwnP τ 40 r [(Ty.lstc 2 callC cs), (Ty.lst Ty.rune z)]) ∧ ((parM (sgOf cs) deep [] l).err = 0 → z = (parM (sgOf cs) deep [] l).rest))
set_option maxHeartbeats 4000000 in
set_option maxRecDepth 100000 in
theorem item_fn (d : Nat) (r : Value) (cs : List BCall) (l : List Int) (deep : Nat) (σ : GW) (hlow : Low [40] σ) (v0 v1 : Value) (hv0 : Ty.has (Ty.val r) σ v0) (hv1 : Ty.has (Ty.nat deep) σ v1) (ho_r : OwnP σ 40 r [(Ty.lstc 2 callC cs), (Ty.lst Ty.rune l)]) (hd : l.length ≤ d + 1) (hl1 : 1 ≤ l.length) (hll : l.length ≤ 1000000) (hdp : deep ≤ 6) (hIt : ItemsAt d) :
    FnL Try.prog 73 #[v0, v1] σ [40] (fun v τ => ∃ (z : List Int), (Ty.has (Ty.tup2 (Ty.lst Ty.int (itM (sgOf cs) deep l).out) (Ty.int (itM (sgOf cs) deep l).err)) τ v) ∧ (OwnP τ 40 r [(Ty.lstc 2 callC cs), (Ty.lst Ty.rune z)]) ∧ ((itM (sgOf cs) deep l).err = 0 → z = (itM (sgOf cs) deep l).rest)) := by
 obtain ⟨N, hN⟩ : ∃ N, N = (numR 0 false l) := ⟨_, rfl⟩
 obtain ⟨I, hI⟩ : ∃ I, I = (itM (sgOf cs) deep l) := ⟨_, rfl⟩
 refine fn_introL hlow Try.func73 rfl Try.ntmps73 (Nat.le_of_ble_eq_true rfl) (fun a0 F0 ok0 hargs => ?_)
 have p0 : At (Ty.val r) σ a0 (.tmp 0) := by have e := hargs 0 _ rfl; show Ty.has _ _ _; rw [e]; exact hv0
 have p1 : At (Ty.nat deep) σ a0 (.tmp 1) := by have e := hargs 1 _ rfl; show Ty.has _ _ _; rw [e]; exact hv1
 clear hargs; refine wp_seq ?_
 refine reg (a := a0) (σ := σ) rfl (fun i_ => List.getD [(Ty.pr (Ty.val (Value.slice none 0 0))), (Ty.pr (Ty.int (0 : Int)))] i_ Pr.any) ok0 rfl ⟨?_, ?_, trivial⟩ ?_
 · intro A B E G H; exact rP (y_assign rfl)
 · intro A B E G H d0; exact rP (y_assign rfl)
 intro a1 s1 D1; have ok1 := D1.ok; have F1 := F0.step0 D1.stp; have q1 := D1.kt p0 rfl; have q2 := D1.kt p1 rfl; have o1 := OwnP.k0 ho_r D1.stp; clear D1; refine tn ?_; refine wp_seq ?_
 refine reg2 (a := a1) (σ := s1) rfl 1 (fun i_ => List.getD [(Ty.pr (Ty.val r))] i_ Pr.any) ok1 rfl (by decide) rfl ⟨?_, trivial⟩ ?_
 · intro A B E G H; exact rP (y_move (kp (H 0 rfl) E q1))
 intro a2 s2 D2; have ok2 := D2.ok; have F2 := F1.step0 D2.stp; have q3 := D2.kt q1 rfl; have q4 := D2.kt q2 rfl; have o2 := OwnP.k0 o1 D2.stp; have q5 := D2.dn 0 (by decide) rfl rfl; clear D2
 refine tailL (L := [40]) (R := (fun v τ' => ∃ τ, (fun v τ => ∃ (z : List Int), (Ty.has (Ty.tup2 (Ty.int (if (numR 0 false l).err = 0 then timesM (numR 0 false l) else 0)) (Ty.int (numR 0 false l).err)) τ v) ∧ (OwnP τ 40 r [(Ty.lstc 2 callC cs), (Ty.lst Ty.rune z)]) ∧ ((numR 0 false l).err = 0 → z = (numR 0 false l).rest)) v τ ∧ Back [(40, 40)] τ τ')) rfl rfl (by decide) ok2 (y_callL (L := [40]) [(40, 40)] [(40, 40)] #[a2.eval (.tmp 12)] rfl (by decide) Try.func95 rfl rfl (by simp only [List.map_toArray, List.map_cons, List.map_nil]) (number_fn (r) (cs) (l) _ (GW.low_lend _ (by decide)) _ (Ty.up _ (GW.le_lend _ _) q5) (OwnP.ren o2 (GW.ren_lend _ _ (by decide) rfl)) (by first | omega | assumption))) (fun a3 s3 hs1 ok3 r1 sm1 => ?_)
 have F3 := F2.stepL hs1 (by decide); have q6 := kpL hs1 (by decide) (sm1 0 (by decide)) q3; have q7 := kpL hs1 (by decide) (sm1 1 (by decide)) q4
 obtain ⟨t1, ⟨g1, hT1, o3, hp1⟩, B1⟩ := r1
 have q8 : At (Ty.tup2 (Ty.int (if (numR 0 false l).err = 0 then timesM (numR 0 false l) else 0)) (Ty.int (numR 0 false l).err)) s3 a3 (.tmp 13) := Ty.up _ B1.le hT1
 have o4 : OwnP s3 40 r [(Ty.lstc 2 callC cs), (Ty.lst Ty.rune (g1))] := OwnP.ren o3 (B1.ren (by decide) rfl)
 refine tailL (L := []) (R := (fun v τ => Pr.has (Ty.pr (Ty.tup2 (Ty.int (if (numR 0 false l).err = 0 then timesM (numR 0 false l) else 0)) (Ty.int (numR 0 false l).err))) τ v)) rfl rfl (by decide) ok3 (Yld.toL (y_move q8)) (fun a4 s4 hs2 ok4 r2 sm2 => ?_)
 have F4 := F3.stepL hs2 (by decide); have q9 := kpL hs2 (by decide) (sm2 0 (by decide)) q6; have q10 := kpL hs2 (by decide) (sm2 1 (by decide)) q7; have o5 := OwnP.keepL o4 hs2 (by decide) (by decide)
 have q11 : At (Ty.tup2 (Ty.int (if (numR 0 false l).err = 0 then timesM (numR 0 false l) else 0)) (Ty.int (numR 0 false l).err)) s4 a4 (.tmp 11) := r2
 clear r2
 refine tailL (L := []) (R := (fun v τ => Pr.has (Ty.pr (Ty.int (if (numR 0 false l).err = 0 then timesM (numR 0 false l) else 0))) τ v)) rfl rfl (by decide) ok4 (Yld.toL (y_ext2_0 q11)) (fun a5 s5 hs3 ok5 r3 sm3 => ?_)
 have F5 := F4.stepL hs3 (by decide); have q12 := kpL hs3 (by decide) (sm3 0 (by decide)) q9; have q13 := kpL hs3 (by decide) (sm3 1 (by decide)) q10; have q14 := kpL hs3 (by decide) (sm3 11 (by decide)) q11; have o6 := OwnP.keepL o5 hs3 (by decide) (by decide)
 have q15 : At (Ty.int (if (numR 0 false l).err = 0 then timesM (numR 0 false l) else 0)) s5 a5 (.tmp 14) := r3
 clear r3
 refine tailL (L := []) (R := (fun v τ => Pr.has (Ty.pr (Ty.int (numR 0 false l).err)) τ v)) rfl rfl (by decide) ok5 (Yld.toL (y_ext2_1 q14)) (fun a6 s6 hs4 ok6 r4 sm4 => ?_)
 have F6 := F5.stepL hs4 (by decide); have q16 := kpL hs4 (by decide) (sm4 0 (by decide)) q12; have q17 := kpL hs4 (by decide) (sm4 1 (by decide)) q13; have q18 := kpL hs4 (by decide) (sm4 14 (by decide)) q15; have o7 := OwnP.keepL o6 hs4 (by decide) (by decide)
 have q19 : At (Ty.int (numR 0 false l).err) s6 a6 (.tmp 15) := r4
 clear r4
 refine tailL (L := []) (R := (fun v τ => Pr.has (Ty.pr (Ty.int (if (numR 0 false l).err = 0 then timesM (numR 0 false l) else 0))) τ v)) rfl rfl (by decide) ok6 (Yld.toL (y_assign q18)) (fun a7 s7 hs5 ok7 r5 sm5 => ?_)
 have F7 := F6.stepL hs5 (by decide); have q20 := kpL hs5 (by decide) (sm5 0 (by decide)) q16; have q21 := kpL hs5 (by decide) (sm5 1 (by decide)) q17; have q22 := kpL hs5 (by decide) (sm5 15 (by decide)) q19; have o8 := OwnP.keepL o7 hs5 (by decide) (by decide)
 have q23 : At (Ty.int (if (numR 0 false l).err = 0 then timesM (numR 0 false l) else 0)) s7 a7 (.tmp 6) := r5
 clear r5
 refine tailL (L := []) (R := (fun v τ => Pr.has (Ty.pr (Ty.int (numR 0 false l).err)) τ v)) rfl rfl (by decide) ok7 (Yld.toL (y_assign q22)) (fun a8 s8 hs6 ok8 r6 sm6 => ?_)
 have F8 := F7.stepL hs6 (by decide); have q24 := kpL hs6 (by decide) (sm6 0 (by decide)) q20; have q25 := kpL hs6 (by decide) (sm6 1 (by decide)) q21; have q26 := kpL hs6 (by decide) (sm6 6 (by decide)) q23; have o9 := OwnP.keepL o8 hs6 (by decide) (by decide)
 have q27 : At (Ty.int (numR 0 false l).err) s8 a8 (.tmp 7) := r6
 clear r6; refine wpList_nil ?_; refine tn ?_; refine wp_seq ?_; refine wp_seq ?_
 refine rg a8 s8 [(Ty.int (numR 0 false l).err), (Ty.bool (decide ((numR 0 false l).err ≠ (0 : Int))))] ok8 ⟨?_, ?_, trivial⟩ ?_
 · intro A B E G H; exact rP (y_move (kp (H 7 rfl) E q27))
 · intro A B E G H d0; exact rP (y_neq (ed d0 rfl rfl rfl) rfl)
 intro a9 s9 D3; have ok9 := D3.ok; have F9 := F8.step0 D3.stp; have q28 := D3.kt q24 rfl; have q29 := D3.kt q25 rfl; have q30 := D3.kt q26 rfl; have q31 := D3.kt q27 rfl; have o10 := OwnP.k0 o9 D3.stp; have q32 := D3.dn 1 rfl rfl; clear D3; refine tn ?_
 refine cond_p (p := ((numR 0 false l).err ≠ (0 : Int))) q32 (fun c1 => ?_) (fun c1 => ?_)
 ·
  have hIe : I = ⟨12, [], []⟩ := (by rw [hI]; exact it_num c1); have hN12 := num_err c1
  refine wp_seq ?_
  refine rg a9 s9 [(Ty.int (numR 0 false l).err), (Ty.val (Value.slice none 0 0)), (Ty.int (numR 0 false l).err)] ok9 ⟨?_, ?_, ?_, trivial⟩ ?_
  · intro A B E G H d0; exact rP (y_move (kp (H 7 rfl) E q31))
  · intro A B E G H d0; exact rP (y_assign rfl)
  · intro A B E G H d0 d1 d2 d3; exact rP (y_assign (ed d0 rfl rfl rfl))
  intro a10 s10 D4; have ok10 := D4.ok; have F10 := F9.step0 D4.stp; have o11 := OwnP.k0 o10 D4.stp; have q33 := D4.dn 1 rfl rfl; have q34 := D4.dn 2 rfl rfl; clear D4; refine tn ?_; refine wp_ret ?_; refine tr ?_
  exact retL2 rfl ok10 F10 ⟨g1, (hasT2 (nil_lst (by (rw [← hI, hIe])) q33) (cvi (by (rw [← hI, hIe, hN12])) q34)), o11, (by rw [← hI, hIe]; exact fun h_ => absurd h_ (by simp))⟩
 ·
  have hN0 : (numR 0 false l).err = 0 := Classical.not_not.1 c1; obtain ⟨s, hsd⟩ : ∃ s, s = (numR 0 false l).rest := ⟨_, rfl⟩; have hgs : g1 = s := (by rw [hsd]; exact hp1 hN0); have hst : Tail s l := (by rw [hsd]; exact numR_tail l 0 false hN0); have hsl := hst.len; obtain ⟨T, hT1, hT2, hT3⟩ := num_times hN0
  have q35 : At (Ty.nat T) s9 a9 (.tmp 6) := cvt (T := (Ty.int (if (numR 0 false l).err = 0 then timesM (numR 0 false l) else 0))) (U := (Ty.nat T)) (by rw [if_pos hN0, ← hT1]) q30
  have o12 : OwnP s9 40 r [(Ty.lstc 2 callC cs), (Ty.lst Ty.rune s)] := (ownp_cell 1 (Ty.lst Ty.rune s) o10 rfl (fun _ _ h => (cvt (by (rw [hgs])) h)))
  refine wp_skip ?_; refine tn ?_; refine wp_seq ?_; refine wp_seq ?_
  refine rg a9 s9 [(Ty.val r), (Ty.val r), (Ty.val (ptrAt r 1)), (Ty.lst Ty.rune s), (Ty.nat (List.length s)), (Ty.bool (decide ((((List.length s) : Nat) : Int) = (0 : Int))))] ok9 ⟨?_, ?_, ?_, ?_, ?_, ?_, trivial⟩ ?_
  · intro A B E G H; exact rP (y_move (kp (H 0 rfl) E q28))
  · intro A B E G H d0; exact rP (y_nilp (OwnP.k0 o12 E) (ed d0 rfl rfl rfl))
  · intro A B E G H d0; exact rP (ownp_field Try.fld79_1 Try.inf76 (by decide) (OwnP.k0 o12 E) (ed d0 rfl rfl rfl))
  · intro A B E G H d0; exact rP (ownp_load Try.underlying76 rfl (OwnP.k0 o12 E) (ed d0 rfl rfl rfl) rfl)
  · intro A B E G H d0; exact rP (y_len Try.underlying76 (ed d0 rfl rfl rfl))
  · intro A B E G H d0; exact rP (y_eql (ed d0 rfl rfl rfl) rfl)
  intro a11 s11 D5; have ok11 := D5.ok; have F11 := F9.step0 D5.stp; have q36 := D5.kt q28 rfl; have q37 := D5.kt q29 rfl; have q38 := D5.kt q35 rfl; have o13 := OwnP.k0 o12 D5.stp; have q39 := D5.dn 5 rfl rfl; clear D5; refine tn ?_
  refine cond_p (p := ((((List.length s) : Nat) : Int) = (0 : Int))) q39 (fun c2 => ?_) (fun c2 => ?_)
  ·
   have hse : s = [] := List.eq_nil_of_length_eq_zero (by omega); have hIe : I = ⟨5, [], []⟩ := (by rw [hI]; exact it_shortM hN0 (by rw [← hsd]; exact hse))
   refine wp_seq ?_
   refine rg a11 s11 [(Ty.val (Value.slice none 0 0)), (Ty.int (5 : Int))] ok11 ⟨?_, ?_, trivial⟩ ?_
   · intro A B E G H; exact rP (y_assign rfl)
   · intro A B E G H d0 d1; exact rP (y_assign rfl)
   intro a12 s12 D6; have ok12 := D6.ok; have F12 := F11.step0 D6.stp; have o14 := OwnP.k0 o13 D6.stp; have q40 := D6.dn 0 rfl rfl; have q41 := D6.dn 1 rfl rfl; clear D6; refine tn ?_; refine wp_ret ?_; refine tr ?_
   exact retL2 rfl ok12 F12 ⟨s, (hasT2 (nil_lst (by (rw [← hI, hIe])) q40) (cvi (by (rw [← hI, hIe])) q41)), (ownp_cell 1 (Ty.lst Ty.rune (s)) o14 rfl (fun _ _ h => (cvt (by (first | rfl | omega | (simp_all; done) | (simp_all; omega))) h))), (by rw [← hI, hIe]; exact fun h_ => absurd h_ (by simp))⟩
  ·
   have hs0 : s ≠ [] := (fun e_ => by rw [e_] at c2; simp at c2); obtain ⟨Q, hQ⟩ : ∃ Q, Q = oneM (sgOf cs) (parM (sgOf cs)) deep s := ⟨_, rfl⟩; have hit : I = (if Q.err ≠ 0 then ⟨Q.err, [], []⟩ else rpM T Q.out Q.rest) := (by rw [hI, hQ]; exact it_oneM hT1 hN0 hsd hs0); have hdl : (s.drop 1).length = s.length - 1 := List.length_drop
   refine wp_skip ?_; refine tn ?_; refine wp_seq ?_
   refine reg2 (a := a11) (σ := s11) rfl 7 (fun i_ => List.getD [(Ty.pr (Ty.val r)), (Ty.pr (Ty.val r)), (Ty.pr (Ty.val (ptrAt r 1))), (Ty.pr (Ty.lst Ty.rune s)), (Ty.pr (Ty.ref [(Ty.val (Value.int .i32 (s.getD ((0 : Int)).toNat 0)))])), (Ty.pr (Ty.val (Value.int .i32 (s.getD ((0 : Int)).toNat 0)))), (Pr.ownp 5 [(Ty.val (Value.int .i32 0))])] i_ Pr.any) ok11 rfl (by decide) rfl ⟨?_, ?_, ?_, ?_, ?_, ?_, ?_, trivial⟩ ?_
   · intro A B E G H; exact rP (y_move (kp (H 0 rfl) E q36))
   · intro A B E G H d0; exact rP (y_nilp (OwnP.k0 o13 E) (ed d0 rfl rfl rfl))
   · intro A B E G H d0; exact rP (ownp_field Try.fld79_1 Try.inf76 (by decide) (OwnP.k0 o13 E) (ed d0 rfl rfl rfl))
   · intro A B E G H d0; exact rP (ownp_load Try.underlying76 rfl (OwnP.k0 o13 E) (ed d0 rfl rfl rfl) rfl)
   · intro A B E G H d0; exact rP (y_index1 Try.underlying76 Try.inf21 (ed d0 rfl rfl rfl) rfl (by omega) (lst_get Ty.rune s 0 ((0 : Int)).toNat (by omega)))
   · intro A B E G H d0; exact rP (y_load Try.underlying21 rfl (ed d0 rfl rfl rfl) rfl)
   · intro A B E G H; exact rP (y_alloc Try.inf21 rfl (alloc_vals (vs := [.int .i32 0]) rfl))
   intro a13 s13 D7; have ok13 := D7.ok; have F13 := F11.step0 D7.stp; have q42 := D7.kt q36 rfl; have q43 := D7.kt q37 rfl; have q44 := D7.kt q38 rfl; have o15 := OwnP.k0 o13 D7.stp; have q45 := D7.dn 5 (by decide) rfl rfl
   obtain ⟨x1, hx1⟩ : ∃ x, a13.eval (.tmp 8) = x := ⟨_, rfl⟩
   have q46 : At (Ty.val x1) s13 a13 (.tmp 8) := hx1
   have o16 : OwnP s13 5 x1 [(Ty.val (Value.int .i32 0))] := al2 (R := (Pr.ownp 5 [(Ty.val (Value.int .i32 0))])) hx1 (D7.done 6 (by decide))
   clear D7
   refine tailL0 (L := [5]) (R := (fun _ τ => OwnP τ 5 x1 ([(Ty.val (Value.int .i32 0))].set 0 (Ty.val (Value.int .i32 (s.getD ((0 : Int)).toNat 0)))))) rfl rfl (YldM.toL (m_storep Try.inf21 (by decide) o16 (ptr0 o16 q46) (Nat.le_of_ble_eq_true rfl) q45 (one_val rfl))) (fun v1 s14 hs7 r7 => ?_)
   have F14 := F13.stepL hs7 (by decide); have q47 := kpL hs7 (by decide) rfl q42; have q48 := kpL hs7 (by decide) rfl q43; have q49 := kpL hs7 (by decide) rfl q44; have q50 := kpL hs7 (by decide) rfl q46; have o18 := OwnP.keepL o15 hs7 (by decide) (by decide)
   have o17 : OwnP s14 5 x1 [(Ty.val (Value.int .i32 (s.getD ((0 : Int)).toNat 0)))] := r7
   clear r7; refine wpList_nil ?_; refine tn ?_; refine wp_seq ?_
   refine reg2 (a := a13) (σ := s14) rfl 8 (fun i_ => List.getD [(Ty.pr (Ty.val r)), (Ty.pr (Ty.val r)), (Ty.pr (Ty.val r)), (Ty.pr (Ty.val (ptrAt r 1))), (Ty.pr (Ty.lst Ty.rune s)), (Ty.pr (Ty.lst Ty.rune (s.drop 1))), (Ty.pr (Ty.val r)), (Ty.pr (Ty.val (ptrAt r 1)))] i_ Pr.any) ok13 rfl (by decide) rfl ⟨?_, ?_, ?_, ?_, ?_, ?_, ?_, ?_, trivial⟩ ?_
   · intro A B E G H; exact rP (y_move (kp (H 0 rfl) E q47))
   · intro A B E G H; exact rP (y_move (kp (H 0 rfl) E q47))
   · intro A B E G H d0; exact rP (y_nilp (OwnP.k0 o18 E) (ed d0 rfl rfl rfl))
   · intro A B E G H d0; exact rP (ownp_field Try.fld79_1 Try.inf76 (by decide) (OwnP.k0 o18 E) (ed d0 rfl rfl rfl))
   · intro A B E G H d0; exact rP (ownp_load Try.underlying76 rfl (OwnP.k0 o18 E) (ed d0 rfl rfl rfl) rfl)
   · intro A B E G H d0; exact rP (y_drop Try.underlying76 Try.inf21 (ed d0 rfl rfl rfl) (toN (σ := B) rfl (by omega)) (by omega))
   · intro A B E G H d0 d1 d2 d3 d4 d5 d6; exact rP (y_nilp (OwnP.k0 o18 E) (ed d0 rfl rfl rfl))
   · intro A B E G H d0 d1 d2 d3 d4 d5 d6; exact rP (ownp_field Try.fld79_1 Try.inf76 (by decide) (OwnP.k0 o18 E) (ed d0 rfl rfl rfl))
   intro a14 s15 D8; have ok14 := D8.ok; have F15 := F14.step0 D8.stp; have q52 := D8.kt q47 rfl; have q53 := D8.kt q48 rfl; have q54 := D8.kt q49 rfl; have q55 := D8.kt q50 rfl; have o19 := OwnP.k0 o18 D8.stp; have o20 := OwnP.k0 o17 D8.stp; have q56 := D8.dn 5 (by decide) rfl rfl
   have b1 := sl_le q56
   have q57 := D8.dn 7 (by decide) rfl rfl; clear D8
   refine tailL0 (L := [40]) (R := (fun _ τ => OwnP τ 40 r ([(Ty.lstc 2 callC cs), (Ty.lst Ty.rune s)].set 1 (Ty.lst Ty.rune (s.drop 1))))) rfl rfl (YldM.toL (m_storep Try.inf76 (by decide) o19 q57 (Nat.le_of_ble_eq_true rfl) q56 (one_sl))) (fun v2 s16 hs8 r8 => ?_)
   have F16 := F15.stepL hs8 (by decide); have q58 := kpL hs8 (by decide) rfl q52; have q59 := kpL hs8 (by decide) rfl q53; have q60 := kpL hs8 (by decide) rfl q54; have q61 := kpL hs8 (by decide) rfl q55; have o22 := OwnP.keepL o20 hs8 (by decide) (by decide)
   have o21 : OwnP s16 40 r [(Ty.lstc 2 callC cs), (Ty.lst Ty.rune (s.drop 1))] := r8
   clear r8; refine wpList_nil ?_; refine tn ?_; refine wp_seq ?_
   refine rg a14 s16 [(Ty.val (Value.slice none 0 0))] ok14 ⟨?_, trivial⟩ ?_
   · intro A B E G H; exact rP (y_assign rfl)
   intro a15 s17 D9; have ok15 := D9.ok; have F17 := F16.step0 D9.stp; have q63 := D9.kt q58 rfl; have q64 := D9.kt q59 rfl; have q65 := D9.kt q60 rfl; have q66 := D9.kt q61 rfl; have o23 := OwnP.k0 o22 D9.stp; have o24 := OwnP.k0 o21 D9.stp; clear D9; refine tn ?_; refine wp_seq ?_; refine wp_seq ?_
   refine rg a15 s17 [(Ty.val (Value.int .i32 (s.getD ((0 : Int)).toNat 0))), (Ty.bool (decide ((s.getD ((0 : Int)).toNat 0) = (40 : Int))))] ok15 ⟨?_, ?_, trivial⟩ ?_
   · intro A B E G H; exact rP (ownp_load Try.underlying21 rfl (OwnP.k0 o23 E) (ptr0 (OwnP.k0 o23 E) (kp (H 8 rfl) E q66)) rfl)
   · intro A B E G H d0; exact rP (y_eql (ed d0 rfl rfl rfl) rfl)
   intro a16 s18 D10; have ok16 := D10.ok; have F18 := F17.step0 D10.stp; have q67 := D10.kt q63 rfl; have q68 := D10.kt q64 rfl; have q69 := D10.kt q65 rfl; have q70 := D10.kt q66 rfl; have o25 := OwnP.k0 o23 D10.stp; have o26 := OwnP.k0 o24 D10.stp; have q71 := D10.dn 1 rfl rfl; clear D10; refine tn ?_
   refine cond_p (p := ((s.getD ((0 : Int)).toNat 0) = (40 : Int))) q71 (fun c3 => ?_) (fun c3 => ?_)
   ·
    have h40 : s.getD 0 0 = 40 := c3; obtain ⟨Y, hY⟩ : ∃ Y, Y = parM (sgOf cs) (deep + 1) [] (s.drop 1) := ⟨_, rfl⟩
    refine wp_seq ?_; refine wp_seq ?_
    refine rg a16 s18 [(Ty.nat deep), (Ty.bool (decide (((deep : Nat) : Int) = (6 : Int))))] ok16 ⟨?_, ?_, trivial⟩ ?_
    · intro A B E G H; exact rP (y_move (kp (H 1 rfl) E q68))
    · intro A B E G H d0; exact rP (y_eql (ed d0 rfl rfl rfl) rfl)
    intro a17 s19 D11; have ok17 := D11.ok; have F19 := F18.step0 D11.stp; have q72 := D11.kt q67 rfl; have q73 := D11.kt q68 rfl; have q74 := D11.kt q69 rfl; have o27 := OwnP.k0 o25 D11.stp; have o28 := OwnP.k0 o26 D11.stp; have q75 := D11.dn 1 rfl rfl; clear D11; refine tn ?_
    refine cond_p (p := (((deep : Nat) : Int) = (6 : Int))) q75 (fun c4 => ?_) (fun c4 => ?_)
    ·
     have hQe : Q = ⟨13, [], []⟩ := (by rw [hQ]; exact one_deep h40 (by omega)); have hIe : I = ⟨13, [], []⟩ := it_e hit hQe (by decide)
     refine wp_seq ?_
     refine rg a17 s19 [(Ty.val (Value.slice none 0 0)), (Ty.int (13 : Int))] ok17 ⟨?_, ?_, trivial⟩ ?_
     · intro A B E G H; exact rP (y_assign rfl)
     · intro A B E G H d0 d1; exact rP (y_assign rfl)
     intro a18 s20 D12; have ok18 := D12.ok; have F20 := F19.step0 D12.stp; have o29 := OwnP.k0 o28 D12.stp; have q76 := D12.dn 0 rfl rfl; have q77 := D12.dn 1 rfl rfl; clear D12; refine tn ?_; refine wp_ret ?_; refine tr ?_; refine tr ?_
     exact retL2 rfl ok18 F20 ⟨(s.drop 1), (hasT2 (nil_lst (by (rw [← hI, hIe])) q76) (cvi (by (rw [← hI, hIe])) q77)), (ownp_cell 1 (Ty.lst Ty.rune ((s.drop 1))) o29 rfl (fun _ _ h => (cvt (by (first | rfl | omega | (simp_all; done) | (simp_all; omega))) h))), (by rw [← hI, hIe]; exact fun h_ => absurd h_ (by simp))⟩
    ·
     have hd6 : ¬ deep = 6 := (by omega)
     refine wp_skip ?_; refine tn ?_; refine wp_seq ?_; refine wp_seq ?_
     refine reg2 (a := a17) (σ := s19) rfl 3 (fun i_ => List.getD [(Ty.pr (Ty.val r)), (Ty.pr (Ty.nat deep)), (Ty.pr (Ty.nat (deep + 1)))] i_ Pr.any) ok17 rfl (by decide) rfl ⟨?_, ?_, ?_, trivial⟩ ?_
     · intro A B E G H; exact rP (y_move (kp (H 0 rfl) E q72))
     · intro A B E G H; exact rP (y_move (kp (H 1 rfl) E q73))
     · intro A B E G H d0; exact rP ((y_add (ed d0 rfl rfl rfl) rfl (w64 (by omega) (by omega))).mono (fun τ _ h => cvi (σ := τ) (by first | omega | exact (Int.natCast_mul _ _).symm) h))
     intro a19 s21 D13; have ok19 := D13.ok; have F21 := F19.step0 D13.stp; have q78 := D13.kt q72 rfl; have q79 := D13.kt q74 rfl; have o30 := OwnP.k0 o28 D13.stp; have q80 := D13.dn 0 (by decide) rfl rfl; have q81 := D13.dn 2 (by decide) rfl rfl; clear D13
     refine tailL (L := [40]) (R := (fun v τ' => ∃ τ, (fun v τ => ∃ (z : List Int), (Ty.has (Ty.tup2 (Ty.lst Ty.int (parM (sgOf cs) ((deep + 1)) [] ((s.drop 1))).out) (Ty.int (parM (sgOf cs) ((deep + 1)) [] ((s.drop 1))).err)) τ v) ∧ (OwnP τ 40 r [(Ty.lstc 2 callC cs), (Ty.lst Ty.rune z)]) ∧ ((parM (sgOf cs) ((deep + 1)) [] ((s.drop 1))).err = 0 → z = (parM (sgOf cs) ((deep + 1)) [] ((s.drop 1))).rest)) v τ ∧ Back [(40, 40)] τ τ')) rfl rfl (by decide) ok19 (y_callL (L := [40]) [(40, 40)] [(40, 40)] #[a19.eval (.tmp 44), a19.eval (.tmp 46)] rfl (by decide) Try.func44 rfl rfl (by simp only [List.map_toArray, List.map_cons, List.map_nil]) (hIt (r) (cs) ((s.drop 1)) ((deep + 1)) _ (GW.low_lend _ (by decide)) _ _ (Ty.up _ (GW.le_lend _ _) q80) (Ty.up _ (GW.le_lend _ _) (cvi (σ := s21) (by first | omega | assumption | exact ih _ (by omega)) q81)) (OwnP.ren (ownp_cell 1 (Ty.lst Ty.rune ((s.drop 1))) o30 rfl (fun _ _ h => (cvt (by (first | rfl | omega | (simp_all; done) | (simp_all; omega))) h))) (GW.ren_lend _ _ (by decide) rfl)) (by first | omega | assumption | exact ih _ (by omega)) (by first | omega | assumption | exact ih _ (by omega)) (by first | omega | assumption | exact ih _ (by omega)))) (fun a20 s22 hs9 ok20 r9 sm7 => ?_)
     have F22 := F21.stepL hs9 (by decide); have q82 := kpL hs9 (by decide) (sm7 0 (by decide)) q78; have q83 := kpL hs9 (by decide) (sm7 6 (by decide)) q79
     obtain ⟨t2, ⟨g2, hT2, o31, hp2⟩, B2⟩ := r9
     have q84 : At (Ty.tup2 (Ty.lst Ty.int (parM (sgOf cs) ((deep + 1)) [] ((s.drop 1))).out) (Ty.int (parM (sgOf cs) ((deep + 1)) [] ((s.drop 1))).err)) s22 a20 (.tmp 47) := Ty.up _ B2.le hT2
     have o32 : OwnP s22 40 r [(Ty.lstc 2 callC cs), (Ty.lst Ty.rune (g2))] := OwnP.ren o31 (B2.ren (by decide) rfl)
     refine tailL (L := []) (R := (fun v τ => Pr.has (Ty.pr (Ty.tup2 (Ty.lst Ty.int (parM (sgOf cs) ((deep + 1)) [] ((s.drop 1))).out) (Ty.int (parM (sgOf cs) ((deep + 1)) [] ((s.drop 1))).err))) τ v)) rfl rfl (by decide) ok20 (Yld.toL (y_move q84)) (fun a21 s23 hs10 ok21 r10 sm8 => ?_)
     have F23 := F22.stepL hs10 (by decide); have q85 := kpL hs10 (by decide) (sm8 0 (by decide)) q82; have q86 := kpL hs10 (by decide) (sm8 6 (by decide)) q83; have o33 := OwnP.keepL o32 hs10 (by decide) (by decide)
     have q87 : At (Ty.tup2 (Ty.lst Ty.int (parM (sgOf cs) ((deep + 1)) [] ((s.drop 1))).out) (Ty.int (parM (sgOf cs) ((deep + 1)) [] ((s.drop 1))).err)) s23 a21 (.tmp 43) := r10
     clear r10
     refine tailL (L := []) (R := (fun v τ => Pr.has (Ty.pr (Ty.lst Ty.int (parM (sgOf cs) ((deep + 1)) [] ((s.drop 1))).out)) τ v)) rfl rfl (by decide) ok21 (Yld.toL (y_ext2_0 q87)) (fun a22 s24 hs11 ok22 r11 sm9 => ?_)
     have F24 := F23.stepL hs11 (by decide); have q88 := kpL hs11 (by decide) (sm9 0 (by decide)) q85; have q89 := kpL hs11 (by decide) (sm9 6 (by decide)) q86; have q90 := kpL hs11 (by decide) (sm9 43 (by decide)) q87; have o34 := OwnP.keepL o33 hs11 (by decide) (by decide)
     have q91 : At (Ty.lst Ty.int (parM (sgOf cs) ((deep + 1)) [] ((s.drop 1))).out) s24 a22 (.tmp 48) := r11
     clear r11
     refine tailL (L := []) (R := (fun v τ => Pr.has (Ty.pr (Ty.int (parM (sgOf cs) ((deep + 1)) [] ((s.drop 1))).err)) τ v)) rfl rfl (by decide) ok22 (Yld.toL (y_ext2_1 q90)) (fun a23 s25 hs12 ok23 r12 sm10 => ?_)
     have F25 := F24.stepL hs12 (by decide); have q92 := kpL hs12 (by decide) (sm10 0 (by decide)) q88; have q93 := kpL hs12 (by decide) (sm10 6 (by decide)) q89; have q94 := kpL hs12 (by decide) (sm10 48 (by decide)) q91; have o35 := OwnP.keepL o34 hs12 (by decide) (by decide)
     have q95 : At (Ty.int (parM (sgOf cs) ((deep + 1)) [] ((s.drop 1))).err) s25 a23 (.tmp 49) := r12
     clear r12
     refine tailL (L := []) (R := (fun v τ => Pr.has (Ty.pr (Ty.lst Ty.int (parM (sgOf cs) ((deep + 1)) [] ((s.drop 1))).out)) τ v)) rfl rfl (by decide) ok23 (Yld.toL (y_assign q94)) (fun a24 s26 hs13 ok24 r13 sm11 => ?_)
     have F26 := F25.stepL hs13 (by decide); have q96 := kpL hs13 (by decide) (sm11 0 (by decide)) q92; have q97 := kpL hs13 (by decide) (sm11 6 (by decide)) q93; have q98 := kpL hs13 (by decide) (sm11 49 (by decide)) q95; have o36 := OwnP.keepL o35 hs13 (by decide) (by decide)
     have q99 : At (Ty.lst Ty.int (parM (sgOf cs) ((deep + 1)) [] ((s.drop 1))).out) s26 a24 (.tmp 9) := r13
     clear r13
     refine tailL (L := []) (R := (fun v τ => Pr.has (Ty.pr (Ty.int (parM (sgOf cs) ((deep + 1)) [] ((s.drop 1))).err)) τ v)) rfl rfl (by decide) ok24 (Yld.toL (y_assign q98)) (fun a25 s27 hs14 ok25 r14 sm12 => ?_)
     have F27 := F26.stepL hs14 (by decide); have q100 := kpL hs14 (by decide) (sm12 0 (by decide)) q96; have q101 := kpL hs14 (by decide) (sm12 6 (by decide)) q97; have q102 := kpL hs14 (by decide) (sm12 9 (by decide)) q99; have o37 := OwnP.keepL o36 hs14 (by decide) (by decide)
     have q103 : At (Ty.int (parM (sgOf cs) ((deep + 1)) [] ((s.drop 1))).err) s27 a25 (.tmp 7) := r14
     clear r14; refine wpList_nil ?_
     have q104 : At (Ty.lst Ty.int Y.out) s27 a25 (.tmp 9) := (cvt (by (rw [hY])) q102)
     have q105 : At (Ty.int Y.err) s27 a25 (.tmp 7) := (cvi (by (rw [hY])) q103)
     refine tn ?_; refine wp_seq ?_
     refine rg a25 s27 [(Ty.int Y.err), (Ty.bool (decide (Y.err ≠ (0 : Int))))] ok25 ⟨?_, ?_, trivial⟩ ?_
     · intro A B E G H; exact rP (y_move (kp (H 7 rfl) E q105))
     · intro A B E G H d0; exact rP (y_neq (ed d0 rfl rfl rfl) rfl)
     intro a26 s28 D14; have ok26 := D14.ok; have F28 := F27.step0 D14.stp; have q106 := D14.kt q100 rfl; have q107 := D14.kt q101 rfl; have q108 := D14.kt q104 rfl; have q109 := D14.kt q105 rfl; have o38 := OwnP.k0 o37 D14.stp; have q110 := D14.dn 1 rfl rfl; clear D14; refine tn ?_
     refine cond_p (p := (Y.err ≠ (0 : Int))) q110 (fun c5 => ?_) (fun c5 => ?_)
     ·
      have hQe : Q = ⟨Y.err, [], []⟩ := (by rw [hQ]; rw [one_err h40 hd6 (by rw [← hY]; exact c5), ← hY]); have hIe : I = ⟨Y.err, [], []⟩ := it_e hit hQe c5
      refine wp_seq ?_
      refine rg a26 s28 [(Ty.int Y.err), (Ty.val (Value.slice none 0 0)), (Ty.int Y.err)] ok26 ⟨?_, ?_, ?_, trivial⟩ ?_
      · intro A B E G H d0; exact rP (y_move (kp (H 7 rfl) E q109))
      · intro A B E G H d0; exact rP (y_assign rfl)
      · intro A B E G H d0 d1 d2 d3; exact rP (y_assign (ed d0 rfl rfl rfl))
      intro a27 s29 D15; have ok27 := D15.ok; have F29 := F28.step0 D15.stp; have o39 := OwnP.k0 o38 D15.stp; have q111 := D15.dn 1 rfl rfl; have q112 := D15.dn 2 rfl rfl; clear D15; refine tn ?_; refine wp_ret ?_; refine tr ?_; refine tr ?_
      exact retL2 rfl ok27 F29 ⟨g2, (hasT2 (nil_lst (by (rw [← hI, hIe])) q111) (cvi (by (rw [← hI, hIe])) q112)), o39, (by rw [← hI, hIe]; exact fun h_ => absurd h_ c5)⟩
     ·
      have hY0 : Y.err = 0 := Classical.not_not.1 c5; have hg2 : g2 = Y.rest := (by rw [hY]; exact hp2 (by rw [← hY]; exact hY0)); have hyo : Y.out.length ≤ 400 := (by rw [hY]; exact (par_out (Nat.zero_le _)).1)
      have o40 : OwnP s28 40 r [(Ty.lstc 2 callC cs), (Ty.lst Ty.rune Y.rest)] := (ownp_cell 1 (Ty.lst Ty.rune Y.rest) o38 rfl (fun _ _ h => (cvt (by (rw [hg2])) h)))
      refine wp_skip ?_; refine tn ?_; refine wp_seq ?_; refine wp_seq ?_
      refine rg a26 s28 [(Ty.val r), (Ty.val r), (Ty.val (ptrAt r 1)), (Ty.lst Ty.rune Y.rest), (Ty.nat (List.length Y.rest)), (Ty.bool (decide ((((List.length Y.rest) : Nat) : Int) = (0 : Int))))] ok26 ⟨?_, ?_, ?_, ?_, ?_, ?_, trivial⟩ ?_
      · intro A B E G H; exact rP (y_move (kp (H 0 rfl) E q106))
      · intro A B E G H d0; exact rP (y_nilp (OwnP.k0 o40 E) (ed d0 rfl rfl rfl))
      · intro A B E G H d0; exact rP (ownp_field Try.fld79_1 Try.inf76 (by decide) (OwnP.k0 o40 E) (ed d0 rfl rfl rfl))
      · intro A B E G H d0; exact rP (ownp_load Try.underlying76 rfl (OwnP.k0 o40 E) (ed d0 rfl rfl rfl) rfl)
      · intro A B E G H d0; exact rP (y_len Try.underlying76 (ed d0 rfl rfl rfl))
      · intro A B E G H d0; exact rP (y_eql (ed d0 rfl rfl rfl) rfl)
      intro a28 s30 D16; have ok28 := D16.ok; have F30 := F28.step0 D16.stp; have q113 := D16.kt q106 rfl; have q114 := D16.kt q107 rfl; have q115 := D16.kt q108 rfl; have o41 := OwnP.k0 o40 D16.stp; have q116 := D16.dn 5 rfl rfl; clear D16; refine tn ?_
      refine cond_p (p := ((((List.length Y.rest) : Nat) : Int) = (0 : Int))) q116 (fun c6 => ?_) (fun c6 => ?_)
      ·
       have hQe : Q = ⟨5, [], []⟩ := (by rw [hQ]; exact one_short h40 hd6 (by rw [← hY]; exact hY0) (by rw [← hY]; exact List.eq_nil_of_length_eq_zero (by omega))); have hIe : I = ⟨5, [], []⟩ := it_e hit hQe (by decide)
       refine wp_seq ?_
       refine rg a28 s30 [(Ty.val (Value.slice none 0 0)), (Ty.int (5 : Int))] ok28 ⟨?_, ?_, trivial⟩ ?_
       · intro A B E G H; exact rP (y_assign rfl)
       · intro A B E G H d0 d1; exact rP (y_assign rfl)
       intro a29 s31 D17; have ok29 := D17.ok; have F31 := F30.step0 D17.stp; have o42 := OwnP.k0 o41 D17.stp; have q117 := D17.dn 0 rfl rfl; have q118 := D17.dn 1 rfl rfl; clear D17; refine tn ?_; refine wp_ret ?_; refine tr ?_; refine tr ?_
       exact retL2 rfl ok29 F31 ⟨Y.rest, (hasT2 (nil_lst (by (rw [← hI, hIe])) q117) (cvi (by (rw [← hI, hIe])) q118)), (ownp_cell 1 (Ty.lst Ty.rune (Y.rest)) o42 rfl (fun _ _ h => (cvt (by (first | rfl | omega | (simp_all; done) | (simp_all; omega))) h))), (by rw [← hI, hIe]; exact fun h_ => absurd h_ (by simp))⟩
      ·
       have hYn : Y.rest ≠ [] := (fun e_ => by rw [e_] at c6; simp at c6)
       refine wp_skip ?_; refine tn ?_; refine wp_seq ?_
       refine reg2 (a := a28) (σ := s30) rfl 8 (fun i_ => List.getD [(Ty.pr (Ty.val r)), (Ty.pr (Ty.val r)), (Ty.pr (Ty.val r)), (Ty.pr (Ty.val (ptrAt r 1))), (Ty.pr (Ty.lst Ty.rune Y.rest)), (Ty.pr (Ty.lst Ty.rune (Y.rest.drop 1))), (Ty.pr (Ty.val r)), (Ty.pr (Ty.val (ptrAt r 1)))] i_ Pr.any) ok28 rfl (by decide) rfl ⟨?_, ?_, ?_, ?_, ?_, ?_, ?_, ?_, trivial⟩ ?_
       · intro A B E G H; exact rP (y_move (kp (H 0 rfl) E q113))
       · intro A B E G H; exact rP (y_move (kp (H 0 rfl) E q113))
       · intro A B E G H d0; exact rP (y_nilp (OwnP.k0 o41 E) (ed d0 rfl rfl rfl))
       · intro A B E G H d0; exact rP (ownp_field Try.fld79_1 Try.inf76 (by decide) (OwnP.k0 o41 E) (ed d0 rfl rfl rfl))
       · intro A B E G H d0; exact rP (ownp_load Try.underlying76 rfl (OwnP.k0 o41 E) (ed d0 rfl rfl rfl) rfl)
       · intro A B E G H d0; exact rP (y_drop Try.underlying76 Try.inf21 (ed d0 rfl rfl rfl) (toN (σ := B) rfl (by omega)) (by omega))
       · intro A B E G H d0 d1 d2 d3 d4 d5 d6; exact rP (y_nilp (OwnP.k0 o41 E) (ed d0 rfl rfl rfl))
       · intro A B E G H d0 d1 d2 d3 d4 d5 d6; exact rP (ownp_field Try.fld79_1 Try.inf76 (by decide) (OwnP.k0 o41 E) (ed d0 rfl rfl rfl))
       intro a30 s32 D18; have ok30 := D18.ok; have F32 := F30.step0 D18.stp; have q119 := D18.kt q114 rfl; have q120 := D18.kt q115 rfl; have o43 := OwnP.k0 o41 D18.stp; have q121 := D18.dn 5 (by decide) rfl rfl
       have b2 := sl_le q121
       have q122 := D18.dn 7 (by decide) rfl rfl; clear D18
       refine tailL0 (L := [40]) (R := (fun _ τ => OwnP τ 40 r ([(Ty.lstc 2 callC cs), (Ty.lst Ty.rune Y.rest)].set 1 (Ty.lst Ty.rune (Y.rest.drop 1))))) rfl rfl (YldM.toL (m_storep Try.inf76 (by decide) o43 q122 (Nat.le_of_ble_eq_true rfl) q121 (one_sl))) (fun v3 s33 hs15 r15 => ?_)
       have F33 := F32.stepL hs15 (by decide); have q123 := kpL hs15 (by decide) rfl q119; have q124 := kpL hs15 (by decide) rfl q120
       have o44 : OwnP s33 40 r [(Ty.lstc 2 callC cs), (Ty.lst Ty.rune (Y.rest.drop 1))] := r15
       clear r15; refine wpList_nil ?_; refine tn ?_; refine wp_seq ?_
       refine rg a30 s33 [(Ty.lst Ty.int Y.out), (Ty.nat (List.length Y.out)), (Ty.bool (decide ((((List.length Y.out) : Nat) : Int) = (0 : Int))))] ok30 ⟨?_, ?_, ?_, trivial⟩ ?_
       · intro A B E G H; exact rP (y_move (kp (H 9 rfl) E q124))
       · intro A B E G H d0; exact rP (y_len Try.underlying23 (ed d0 rfl rfl rfl))
       · intro A B E G H d0; exact rP (y_eql (ed d0 rfl rfl rfl) rfl)
       intro a31 s34 D19; have ok31 := D19.ok; have F34 := F33.step0 D19.stp; have q126 := D19.kt q123 rfl; have q127 := D19.kt q124 rfl; have o45 := OwnP.k0 o44 D19.stp; have q128 := D19.dn 2 rfl rfl; clear D19; refine tn ?_
       refine cond_p (p := ((((List.length Y.out) : Nat) : Int) = (0 : Int))) q128 (fun c7 => ?_) (fun c7 => ?_)
       ·
        have hQe : Q = ⟨4, [], []⟩ := (by rw [hQ]; exact one_word h40 hd6 (by rw [← hY]; exact hY0) (by rw [← hY]; exact hYn) (by rw [← hY]; exact List.eq_nil_of_length_eq_zero (by omega))); have hIe : I = ⟨4, [], []⟩ := it_e hit hQe (by decide)
        refine wp_seq ?_
        refine rg a31 s34 [(Ty.val (Value.slice none 0 0)), (Ty.int (4 : Int))] ok31 ⟨?_, ?_, trivial⟩ ?_
        · intro A B E G H; exact rP (y_assign rfl)
        · intro A B E G H d0 d1; exact rP (y_assign rfl)
        intro a32 s35 D20; have ok32 := D20.ok; have F35 := F34.step0 D20.stp; have o46 := OwnP.k0 o45 D20.stp; have q129 := D20.dn 0 rfl rfl; have q130 := D20.dn 1 rfl rfl; clear D20; refine tn ?_; refine wp_ret ?_; refine tr ?_
        exact retL2 rfl ok32 F35 ⟨(Y.rest.drop 1), (hasT2 (nil_lst (by (rw [← hI, hIe])) q129) (cvi (by (rw [← hI, hIe])) q130)), (ownp_cell 1 (Ty.lst Ty.rune ((Y.rest.drop 1))) o46 rfl (fun _ _ h => (cvt (by (first | rfl | omega | (simp_all; done) | (simp_all; omega))) h))), (by rw [← hI, hIe]; exact fun h_ => absurd h_ (by simp))⟩
       ·
        have hYo : Y.out ≠ [] := (fun e_ => by rw [e_] at c7; simp at c7); have hQi : Q = ⟨0, Y.out, Y.rest.drop 1⟩ := (by rw [hQ, one_in h40 hd6 (by rw [← hY]; exact hY0) (by rw [← hY]; exact hYn) (by rw [← hY]; exact hYo), ← hY]); have hIr : I = rpM T Y.out (Y.rest.drop 1) := (by have h_ := it_g hit (by rw [hQi]); rw [hQi] at h_; exact h_); have hmI : ((T : Nat) : Int) * ((Y.out.length : Nat) : Int) = ((T * Y.out.length : Nat) : Int) := (Int.natCast_mul _ _).symm; have hmb : T * Y.out.length ≤ 99 * 400 := Nat.mul_le_mul hT3 hyo; have hmc := Nat.mul_comm Y.out.length T; have hy1 : 1 ≤ Y.out.length := (by omega)
        refine wp_skip ?_; refine tn ?_; refine wp_seq ?_; refine wp_seq ?_
        refine rg a31 s34 [(Ty.nat T), (Ty.lst Ty.int Y.out), (Ty.nat (List.length Y.out)), (Ty.nat (T * (List.length Y.out))), (Ty.bool (decide ((400 : Int) < (((T * (List.length Y.out)) : Nat) : Int))))] ok31 ⟨?_, ?_, ?_, ?_, ?_, trivial⟩ ?_
        · intro A B E G H; exact rP (y_move (kp (H 6 rfl) E q126))
        · intro A B E G H; exact rP (y_move (kp (H 9 rfl) E q127))
        · intro A B E G H d0; exact rP (y_len Try.underlying23 (ed d0 rfl rfl rfl))
        · intro A B E G H d0 d1; exact rP ((y_mul (ed d0 rfl rfl rfl) (ed d1 rfl rfl rfl) (w64 (by omega) (by omega))).mono (fun τ _ h => cvi (σ := τ) (by first | omega | exact (Int.natCast_mul _ _).symm) h))
        · intro A B E G H d0; exact rP (y_gtr (ed d0 rfl rfl rfl) rfl)
        intro a33 s36 D21; have ok33 := D21.ok; have F36 := F34.step0 D21.stp; have q131 := D21.kt q126 rfl; have q132 := D21.kt q127 rfl; have o47 := OwnP.k0 o45 D21.stp; have q133 := D21.dn 4 rfl rfl; clear D21; refine tn ?_
        refine cond_p (p := ((400 : Int) < (((T * (List.length Y.out)) : Nat) : Int))) q133 (fun c8 => ?_) (fun c8 => ?_)
        ·
         have hIe : I = ⟨3, [], []⟩ := hIr.trans (rp_lim (by omega))
         refine wp_seq ?_
         refine rg a33 s36 [(Ty.val (Value.slice none 0 0)), (Ty.int (3 : Int))] ok33 ⟨?_, ?_, trivial⟩ ?_
         · intro A B E G H; exact rP (y_assign rfl)
         · intro A B E G H d0 d1; exact rP (y_assign rfl)
         intro a34 s37 D22; have ok34 := D22.ok; have F37 := F36.step0 D22.stp; have o48 := OwnP.k0 o47 D22.stp; have q134 := D22.dn 0 rfl rfl; have q135 := D22.dn 1 rfl rfl; clear D22; refine tn ?_; refine wp_ret ?_; refine tr ?_
         exact retL2 rfl ok34 F37 ⟨(Y.rest.drop 1), (hasT2 (nil_lst (by (rw [← hI, hIe])) q134) (cvi (by (rw [← hI, hIe])) q135)), (ownp_cell 1 (Ty.lst Ty.rune ((Y.rest.drop 1))) o48 rfl (fun _ _ h => (cvt (by (first | rfl | omega | (simp_all; done) | (simp_all; omega))) h))), (by rw [← hI, hIe]; exact fun h_ => absurd h_ (by simp))⟩
        ·
         have hIg : I = ⟨0, repL T Y.out, Y.rest.drop 1⟩ := hIr.trans ((rp_ok (by omega)).trans (by rw [Int.toNat_natCast]))
         refine wp_skip ?_; refine tn ?_; refine wp_seq ?_
         refine rg a33 s36 [(Ty.lst Ty.int Y.out), (Ty.nat T), (Ty.lst Ty.int (repL (T) (Y.out))), (Ty.lst Ty.int (repL (T) (Y.out))), (Ty.int (0 : Int))] ok33 ⟨?_, ?_, ?_, ?_, ?_, trivial⟩ ?_
         · intro A B E G H; exact rP (y_move (kp (H 9 rfl) E q132))
         · intro A B E G H; exact rP (y_move (kp (H 6 rfl) E q131))
         · intro A B E G H d0 d1; exact rP (y_call #[A.eval (.tmp 89), A.eval (.tmp 90)] Try.func98 rfl rfl (by simp only [List.map_toArray, List.map_cons, List.map_nil]) (repeat_fn (Y.out) (T) _ _ _ (ed d0 rfl rfl rfl) (cvi (σ := B) (by first | omega | assumption) (ed d1 rfl rfl rfl)) (by first | omega | assumption) (by first | omega | assumption) (by first | omega | assumption)))
         · intro A B E G H d0 d1 d2 d3 d4; exact rP (y_assign (ed d0 rfl rfl rfl))
         · intro A B E G H d0 d1 d2 d3 d4; exact rP (y_assign rfl)
         intro a35 s38 D23; have ok35 := D23.ok; have F38 := F36.step0 D23.stp; have o49 := OwnP.k0 o47 D23.stp; have q136 := D23.dn 3 rfl rfl; have q137 := D23.dn 4 rfl rfl; clear D23; refine tn ?_; refine wp_ret ?_
         exact retL2 rfl ok35 F38 ⟨(Y.rest.drop 1), (hasT2 (cvt (by (rw [← hI, hIg])) q136) (cvi (by (rw [← hI, hIg])) q137)), (ownp_cell 1 (Ty.lst Ty.rune ((Y.rest.drop 1))) o49 rfl (fun _ _ h => (cvt (by (first | rfl | omega | (simp_all; done) | (simp_all; omega))) h))), (by rw [← hI, hIg]; exact fun _ => rfl)⟩
   ·
    have h40 : ¬ s.getD 0 0 = 40 := c3
    refine wp_seq ?_
    obtain ⟨t3, e1, h1, q138⟩ := OwnP.seal o25 (by decide)
    rw [← e1]
    have F39 := F18.step h1 (by decide); have o50 := OwnP.keepL o26 (h1.toL (L := [5]) (by simp)) (by decide) (by decide); have q139 := Ty.up (Ty.val r) (h1.le (by decide)) q67; have q140 := Ty.up (Ty.nat deep) (h1.le (by decide)) q68; have q141 := Ty.up (Ty.nat T) (h1.le (by decide)) q69
    have q142 : At (Ty.ref [(Ty.val (Value.int .i32 (s.getD ((0 : Int)).toNat 0)))]) t3 a16 (.tmp 8) := by have e : a16.eval (.tmp 8) = x1 := q70; show Ty.has _ _ _; rw [e]; exact q138
    have q143 := Ty.up (Ty.bool (decide ((s.getD ((0 : Int)).toNat 0) = (40 : Int)))) (h1.le (by decide)) q71
    refine reg (a := a16) (σ := t3) rfl (fun i_ => List.getD [(Ty.pr (Ty.val r)), (Ty.pr (Ty.val r)), (Ty.pr (Ty.val (ptrAt r 0))), (Ty.pr (Ty.lstc 2 callC cs)), (Ty.pr (Ty.clo 97 [(Ty.val (Value.int .i32 (s.getD ((0 : Int)).toNat 0)))])), (Ty.pr (Ty.int (indexL (cs.map (·.1)) ((s.getD ((0 : Int)).toNat 0))))), (Ty.pr (Ty.int (indexL (cs.map (·.1)) ((s.getD ((0 : Int)).toNat 0)))))] i_ Pr.any) ok16 rfl ⟨?_, ?_, ?_, ?_, ?_, ?_, ?_, trivial⟩ ?_
    · intro A B E G H; exact rP (y_move (kp (H 0 rfl) E q139))
    · intro A B E G H d0; exact rP (y_nilp (OwnP.k0 o50 E) (ed d0 rfl rfl rfl))
    · intro A B E G H d0; exact rP (ownp_field Try.fld79_0 Try.inf22 (by decide) (OwnP.k0 o50 E) (ed d0 rfl rfl rfl))
    · intro A B E G H d0; exact rP (ownp_load Try.underlying22 rfl (OwnP.k0 o50 E) (ed d0 rfl rfl rfl) rfl)
    · intro A B E G H; exact rP (y_clo (kp (H 8 rfl) E q142))
    · intro A B E G H d0 d1; exact rP (y_call #[A.eval (.tmp 73), A.eval (.tmp 74)] Try.func96 rfl rfl (by simp only [List.map_toArray, List.map_cons, List.map_nil]) (idxRune_fn (cs) ((s.getD ((0 : Int)).toNat 0)) _ _ _ (ed d0 rfl rfl rfl) (ed d1 rfl rfl rfl) ))
    · intro A B E G H d0 d1 d2 d3 d4 d5 d6 d7; exact rP (y_assign (ed d0 rfl rfl rfl))
    intro a36 s39 D24; have ok36 := D24.ok; have F40 := F39.step0 D24.stp; have q144 := D24.kt q141 rfl; have q145 := D24.kt q142 rfl; have o51 := OwnP.k0 o50 D24.stp; have q146 := D24.dn 6 rfl rfl; clear D24; refine tn ?_; refine wp_seq ?_; refine wp_seq ?_
    refine rg a36 s39 [(Ty.int (indexL (cs.map (·.1)) ((s.getD ((0 : Int)).toNat 0)))), (Ty.bool (decide ((indexL (cs.map (·.1)) ((s.getD ((0 : Int)).toNat 0))) < (0 : Int)))), (Ty.bool (decide ((indexL (cs.map (·.1)) ((s.getD ((0 : Int)).toNat 0))) < (0 : Int)))), (Ty.grd ((decide ((indexL (cs.map (·.1)) ((s.getD ((0 : Int)).toNat 0))) < (0 : Int))) = false) (Ty.val (Value.int .i32 (s.getD ((0 : Int)).toNat 0)))), (Ty.grd ((decide ((indexL (cs.map (·.1)) ((s.getD ((0 : Int)).toNat 0))) < (0 : Int))) = false) (Ty.bool (decide ((s.getD ((0 : Int)).toNat 0) < (0 : Int))))), (Ty.bool ((decide ((indexL (cs.map (·.1)) ((s.getD ((0 : Int)).toNat 0))) < (0 : Int))) || (decide ((s.getD ((0 : Int)).toNat 0) < (0 : Int)))))] ok36 ⟨?_, ?_, ?_, ?_, ?_, ?_, trivial⟩ ?_
    · intro A B E G H; exact rP (y_move (kp (H 10 rfl) E q146))
    · intro A B E G H d0; exact rP (y_lss (ed d0 rfl rfl rfl) rfl)
    · intro A B E G H d0; exact rP (y_move (ed d0 rfl rfl rfl))
    · intro A B E G H d0
      refine run_guard G rfl rfl (by decide) (ed d0 rfl rfl rfl) (fun hg => ?_)
      have hp := of_decide_eq_false hg
      exact y_load Try.underlying21 rfl (kp (H 8 rfl) E q145) rfl
    · intro A B E G H d0 d1
      refine run_guard G rfl rfl (by decide) (ed d1 rfl rfl rfl) (fun hg => ?_)
      have hp := of_decide_eq_false hg
      exact y_lss ((ed d0 rfl rfl rfl).1 hg) rfl
    · intro A B E G H d0 d1; exact rP (y_pick_or (ed d0 rfl rfl rfl) rfl (ed d1 rfl rfl rfl))
    intro a37 s40 D25; have ok37 := D25.ok; have F41 := F40.step0 D25.stp; have q147 := D25.kt q144 rfl; have q148 := D25.kt q146 rfl; have o52 := OwnP.k0 o51 D25.stp; have q149 := D25.dn 5 rfl rfl; clear D25; refine tn ?_
    refine cond_t q149 (fun c9 => ?_) (fun c9 => ?_)
    ·
     simp only [Bool.or_eq_true, decide_eq_true_eq] at c9; have hQe : Q = ⟨4, [], []⟩ := (by rw [hQ]; exact one_none h40 (by rcases c9 with h_ | h_; exact .inl (fun hm_ => by have := indexL_iff.2 hm_; have h2_ : (indexL (sgOf cs) (s.getD 0 0)) < 0 := h_; omega); exact .inr h_)); have hIe : I = ⟨4, [], []⟩ := it_e hit hQe (by decide)
     refine wp_seq ?_
     refine rg a37 s40 [(Ty.val (Value.slice none 0 0)), (Ty.int (4 : Int))] ok37 ⟨?_, ?_, trivial⟩ ?_
     · intro A B E G H; exact rP (y_assign rfl)
     · intro A B E G H d0 d1; exact rP (y_assign rfl)
     intro a38 s41 D26; have ok38 := D26.ok; have F42 := F41.step0 D26.stp; have o53 := OwnP.k0 o52 D26.stp; have q150 := D26.dn 0 rfl rfl; have q151 := D26.dn 1 rfl rfl; clear D26; refine tn ?_; refine wp_ret ?_; refine tr ?_; refine tr ?_
     exact retL2 rfl ok38 F42 ⟨(s.drop 1), (hasT2 (nil_lst (by (rw [← hI, hIe])) q150) (cvi (by (rw [← hI, hIe])) q151)), (ownp_cell 1 (Ty.lst Ty.rune ((s.drop 1))) o53 rfl (fun _ _ h => (cvt (by (first | rfl | omega | (simp_all; done) | (simp_all; omega))) h))), (by rw [← hI, hIe]; exact fun h_ => absurd h_ (by simp))⟩
    ·
     obtain ⟨d1, d2⟩ := Bool.or_eq_false_iff.mp c9
     replace d1 := of_decide_eq_false d1
     replace d2 := of_decide_eq_false d2
     simp only [Bool.or_eq_false_iff, decide_eq_false_iff_not] at c9; have hi0 : 0 ≤ (indexL (sgOf cs) (s.getD 0 0)) := (by have h_ := c9.1; have h2_ : ¬ (indexL (sgOf cs) (s.getD 0 0)) < 0 := h_; omega); have hQi : Q = ⟨0, [(indexL (sgOf cs) (s.getD 0 0))], s.drop 1⟩ := (by rw [hQ, one_sign h40 (by rintro (h_ | h_); exact h_ (indexL_iff.1 hi0); exact c9.2 h_)]); have hIr : I = rpM T [(indexL (sgOf cs) (s.getD 0 0))] (s.drop 1) := (by have h_ := it_g hit (by rw [hQi]); rw [hQi] at h_; exact h_); obtain ⟨K, hK⟩ : ∃ K, K = [(indexL (sgOf cs) (s.getD 0 0))] := ⟨_, rfl⟩; rw [← hK] at hIr; have hKl : K.length = 1 := (by rw [hK]; rfl); have hmK : T * K.length = T := (by rw [hKl, Nat.mul_one]); have hmK2 : K.length * T = T := (by rw [hKl, Nat.one_mul]); have hmK3 : ((T : Nat) : Int) * ((K.length : Nat) : Int) = ((T * K.length : Nat) : Int) := (Int.natCast_mul _ _).symm; have hln1 : [(indexL (sgOf cs) (s.getD 0 0))].length = 1 := rfl
     refine wp_skip ?_; refine tn ?_
     refine rg a37 s40 [(Ty.int (indexL (cs.map (·.1)) ((s.getD ((0 : Int)).toNat 0)))), (Ty.sl 1 1 [(Ty.int (indexL (cs.map (·.1)) ((s.getD ((0 : Int)).toNat 0))))]), (Ty.sl 1 1 [(Ty.int (indexL (cs.map (·.1)) ((s.getD ((0 : Int)).toNat 0))))])] ok37 ⟨?_, ?_, ?_, trivial⟩ ?_
     · intro A B E G H; exact rP (y_move (kp (H 10 rfl) E q148))
     · intro A B E G H d0; exact rP (y_build1o Try.underlying23 Try.inf3 rfl (one_val rfl) (ed d0 rfl rfl rfl))
     · intro A B E G H d0 d1 d2; exact rP (y_assign (ed d0 rfl rfl rfl))
     intro a39 s42 D27; have ok39 := D27.ok; have F43 := F41.step0 D27.stp; have q152 := D27.kt q147 rfl; have o54 := OwnP.k0 o52 D27.stp; have q153 := D27.dn 2 rfl rfl; clear D27
     have q154 : At (Ty.lst Ty.int K) s42 a39 (.tmp 9) := (cvt (by (rw [hK]; rfl)) q153)
     refine tn ?_; refine wp_seq ?_; refine wp_seq ?_
     refine rg a39 s42 [(Ty.nat T), (Ty.lst Ty.int K), (Ty.nat (List.length K)), (Ty.nat (T * (List.length K))), (Ty.bool (decide ((400 : Int) < (((T * (List.length K)) : Nat) : Int))))] ok39 ⟨?_, ?_, ?_, ?_, ?_, trivial⟩ ?_
     · intro A B E G H; exact rP (y_move (kp (H 6 rfl) E q152))
     · intro A B E G H; exact rP (y_move (kp (H 9 rfl) E q154))
     · intro A B E G H d0; exact rP (y_len Try.underlying23 (ed d0 rfl rfl rfl))
     · intro A B E G H d0 d1; exact rP ((y_mul (ed d0 rfl rfl rfl) (ed d1 rfl rfl rfl) (w64 (by omega) (by omega))).mono (fun τ _ h => cvi (σ := τ) (by first | omega | exact (Int.natCast_mul _ _).symm) h))
     · intro A B E G H d0; exact rP (y_gtr (ed d0 rfl rfl rfl) rfl)
     intro a40 s43 D28; have ok40 := D28.ok; have F44 := F43.step0 D28.stp; have q155 := D28.kt q152 rfl; have q156 := D28.kt q154 rfl; have o55 := OwnP.k0 o54 D28.stp; have q157 := D28.dn 4 rfl rfl; clear D28; refine tn ?_
     refine cond_p (p := ((400 : Int) < (((T * (List.length K)) : Nat) : Int))) q157 (fun c10 => ?_) (fun c10 => ?_)
     ·
      have hIe : I = ⟨3, [], []⟩ := hIr.trans (rp_lim (by omega))
      refine wp_seq ?_
      refine rg a40 s43 [(Ty.val (Value.slice none 0 0)), (Ty.int (3 : Int))] ok40 ⟨?_, ?_, trivial⟩ ?_
      · intro A B E G H; exact rP (y_assign rfl)
      · intro A B E G H d0 d1; exact rP (y_assign rfl)
      intro a41 s44 D29; have ok41 := D29.ok; have F45 := F44.step0 D29.stp; have o56 := OwnP.k0 o55 D29.stp; have q158 := D29.dn 0 rfl rfl; have q159 := D29.dn 1 rfl rfl; clear D29; refine tn ?_; refine wp_ret ?_; refine tr ?_
      exact retL2 rfl ok41 F45 ⟨(s.drop 1), (hasT2 (nil_lst (by (rw [← hI, hIe])) q158) (cvi (by (rw [← hI, hIe])) q159)), (ownp_cell 1 (Ty.lst Ty.rune ((s.drop 1))) o56 rfl (fun _ _ h => (cvt (by (first | rfl | omega | (simp_all; done) | (simp_all; omega))) h))), (by rw [← hI, hIe]; exact fun h_ => absurd h_ (by simp))⟩
     ·
      have hIg : I = ⟨0, repL T K, s.drop 1⟩ := hIr.trans ((rp_ok (by omega)).trans (by rw [Int.toNat_natCast]))
      refine wp_skip ?_; refine tn ?_; refine wp_seq ?_
      refine rg a40 s43 [(Ty.lst Ty.int K), (Ty.nat T), (Ty.lst Ty.int (repL (T) (K))), (Ty.lst Ty.int (repL (T) (K))), (Ty.int (0 : Int))] ok40 ⟨?_, ?_, ?_, ?_, ?_, trivial⟩ ?_
      · intro A B E G H; exact rP (y_move (kp (H 9 rfl) E q156))
      · intro A B E G H; exact rP (y_move (kp (H 6 rfl) E q155))
      · intro A B E G H d0 d1; exact rP (y_call #[A.eval (.tmp 89), A.eval (.tmp 90)] Try.func98 rfl rfl (by simp only [List.map_toArray, List.map_cons, List.map_nil]) (repeat_fn (K) (T) _ _ _ (ed d0 rfl rfl rfl) (cvi (σ := B) (by first | omega | assumption) (ed d1 rfl rfl rfl)) (by first | omega | assumption) (by first | omega | assumption) (by first | omega | assumption)))
      · intro A B E G H d0 d1 d2 d3 d4; exact rP (y_assign (ed d0 rfl rfl rfl))
      · intro A B E G H d0 d1 d2 d3 d4; exact rP (y_assign rfl)
      intro a42 s45 D30; have ok42 := D30.ok; have F46 := F44.step0 D30.stp; have o57 := OwnP.k0 o55 D30.stp; have q160 := D30.dn 3 rfl rfl; have q161 := D30.dn 4 rfl rfl; clear D30; refine tn ?_; refine wp_ret ?_
      exact retL2 rfl ok42 F46 ⟨(s.drop 1), (hasT2 (cvt (by (rw [← hI, hIg])) q160) (cvi (by (rw [← hI, hIg])) q161)), (ownp_cell 1 (Ty.lst Ty.rune ((s.drop 1))) o57 rfl (fun _ _ h => (cvt (by (first | rfl | omega | (simp_all; done) | (simp_all; omega))) h))), (by rw [← hI, hIg]; exact fun _ => rfl)⟩


set_option maxHeartbeats 4000000 in
set_option maxRecDepth 100000 in
theorem items_fn : ∀ (d : Nat), ItemsAt d := by
 intro d
 induction d using Nat.strongRecOn with
 | _ d ih =>
 intro r cs l deep σ hlow v0 v1 hv0 hv1 ho_r hd hll hdp
 obtain ⟨X, hX⟩ : ∃ X, X = (parM (sgOf cs) deep [] l) := ⟨_, rfl⟩
 refine fn_introL hlow Try.func44 rfl Try.ntmps44 (Nat.le_of_ble_eq_true rfl) (fun a0 F0 ok0 hargs => ?_)
 have p0 : At (Ty.val r) σ a0 (.tmp 0) := by have e := hargs 0 _ rfl; show Ty.has _ _ _; rw [e]; exact hv0
 have p1 : At (Ty.nat deep) σ a0 (.tmp 1) := by have e := hargs 1 _ rfl; show Ty.has _ _ _; rw [e]; exact hv1
 clear hargs; refine wp_seq ?_
 refine reg (a := a0) (σ := σ) rfl (fun i_ => List.getD [(Ty.pr (Ty.val (Value.slice none 0 0))), (Ty.pr (Ty.int (0 : Int)))] i_ Pr.any) ok0 rfl ⟨?_, ?_, trivial⟩ ?_
 · intro A B E G H; exact rP (y_assign rfl)
 · intro A B E G H d0; exact rP (y_assign rfl)
 intro a1 s1 D1; have ok1 := D1.ok; have F1 := F0.step0 D1.stp; have q1 := D1.kt p0 rfl; have q2 := D1.kt p1 rfl; have o1 := OwnP.k0 ho_r D1.stp; clear D1; refine tn ?_; refine wp_seq ?_
 refine rg a1 s1 [(Ty.val (Value.slice none 0 0))] ok1 ⟨?_, trivial⟩ ?_
 · intro A B E G H; exact rP (y_assign rfl)
 intro a2 s2 D2; have ok2 := D2.ok; have F2 := F1.step0 D2.stp; have q3 := D2.kt q1 rfl; have q4 := D2.kt q2 rfl; have o2 := OwnP.k0 o1 D2.stp; have q5 := D2.dn 0 rfl rfl; clear D2; refine tn ?_; refine wp_seq ?_; refine wp_block ?_
 have o3 : Own s2 6 3 1 (Value.slice none 0 0) 0 (List.map Ty.int ([] : List Int)) := Own.nil _ _ _ _
 refine loop (fun n1 a3 w1 => ∃ (t1 : GW) (r0 : List Int) (out : List Int) (x6_0 : Value), t1.w = w1 ∧ FromL [40] σ t1 ∧ Ok 40 a3 ∧ At (Ty.val x6_0) t1 a3 (.tmp 6) ∧ At (Ty.val r) t1 a3 (.tmp 0) ∧ At (Ty.nat deep) t1 a3 (.tmp 1) ∧ Own t1 6 3 1 x6_0 (List.length out) (List.map Ty.int out) ∧ OwnP t1 40 r [(Ty.lstc 2 callC cs), (Ty.lst Ty.rune r0)] ∧ (parM (sgOf cs) deep out r0 = X) ∧ (r0.length ≤ l.length) ∧ (out.length ≤ 400) ∧ n1 = r0.length) ((l).length) ?_ ?_
 ·
  exact ⟨s2, l, ([] : List Int), (Value.slice none 0 0), rfl, F2, ok2, q5, q3, q4, (cvo (by (simp)) (by (simp)) o3), (ownp_cell 1 (Ty.lst Ty.rune (l)) o2 rfl (fun _ _ h => (cvt (by (rfl)) h))), hX.symm, by omega, by simp, rfl⟩
 ·
  rintro n2 a4 w2 ⟨t2, r0, out, x6_0, rfl, F3, ok3, q6, q7, q8, o4, o5, hx, hrl, hol, rfl⟩
  refine wp_seq ?_; refine wp_seq ?_
  refine reg (a := a4) (σ := t2) rfl (fun i_ => List.getD [(Ty.pr (Ty.val r)), (Ty.pr (Ty.val r)), (Ty.pr (Ty.val (ptrAt r 1))), (Ty.pr (Ty.lst Ty.rune r0)), (Ty.pr (Ty.nat (List.length r0))), (Ty.pr (Ty.bool (decide ((0 : Int) < (((List.length r0) : Nat) : Int))))), (Ty.pr (Ty.bool (decide ((0 : Int) < (((List.length r0) : Nat) : Int))))), (Ty.pr (Ty.grd ((decide ((0 : Int) < (((List.length r0) : Nat) : Int))) = true) (Ty.val r))), (Ty.pr (Ty.grd ((decide ((0 : Int) < (((List.length r0) : Nat) : Int))) = true) (Ty.val r))), (Ty.pr (Ty.grd ((decide ((0 : Int) < (((List.length r0) : Nat) : Int))) = true) (Ty.val (ptrAt r 1)))), (Ty.pr (Ty.grd ((decide ((0 : Int) < (((List.length r0) : Nat) : Int))) = true) (Ty.lst Ty.rune r0))), (Ty.pr (Ty.grd ((decide ((0 : Int) < (((List.length r0) : Nat) : Int))) = true) (Ty.ref [(Ty.val (Value.int .i32 (r0.getD ((0 : Int)).toNat 0)))]))), (Ty.pr (Ty.grd ((decide ((0 : Int) < (((List.length r0) : Nat) : Int))) = true) (Ty.val (Value.int .i32 (r0.getD ((0 : Int)).toNat 0))))), (Ty.pr (Ty.grd ((decide ((0 : Int) < (((List.length r0) : Nat) : Int))) = true) (Ty.bool (decide ((r0.getD ((0 : Int)).toNat 0) ≠ (41 : Int)))))), (Ty.pr (Ty.bool ((decide ((0 : Int) < (((List.length r0) : Nat) : Int))) && (decide ((r0.getD ((0 : Int)).toNat 0) ≠ (41 : Int))))))] i_ Pr.any) ok3 rfl ⟨?_, ?_, ?_, ?_, ?_, ?_, ?_, ?_, ?_, ?_, ?_, ?_, ?_, ?_, ?_, trivial⟩ ?_
  · intro A B E G H; exact rP (y_move (kp (H 0 rfl) E q7))
  · intro A B E G H d0; exact rP (y_nilp (OwnP.k0 o5 E) (ed d0 rfl rfl rfl))
  · intro A B E G H d0; exact rP (ownp_field Try.fld79_1 Try.inf76 (by decide) (OwnP.k0 o5 E) (ed d0 rfl rfl rfl))
  · intro A B E G H d0; exact rP (ownp_load Try.underlying76 rfl (OwnP.k0 o5 E) (ed d0 rfl rfl rfl) rfl)
  · intro A B E G H d0; exact rP (y_len Try.underlying76 (ed d0 rfl rfl rfl))
  · intro A B E G H d0; exact rP (y_gtr (ed d0 rfl rfl rfl) rfl)
  · intro A B E G H d0; exact rP (y_move (ed d0 rfl rfl rfl))
  · intro A B E G H d0
    refine run_guard G rfl rfl (by decide) (ed d0 rfl rfl rfl) (fun hg => ?_)
    have hp := of_decide_eq_true hg
    exact y_move (kp (H 0 rfl) E q7)
  · intro A B E G H d0 d1
    refine run_guard G rfl rfl (by decide) (ed d1 rfl rfl rfl) (fun hg => ?_)
    have hp := of_decide_eq_true hg
    exact y_nilp (OwnP.k0 o5 E) ((ed d0 rfl rfl rfl).1 hg)
  · intro A B E G H d0 d1
    refine run_guard G rfl rfl (by decide) (ed d1 rfl rfl rfl) (fun hg => ?_)
    have hp := of_decide_eq_true hg
    exact ownp_field Try.fld79_1 Try.inf76 (by decide) (OwnP.k0 o5 E) ((ed d0 rfl rfl rfl).1 hg)
  · intro A B E G H d0 d1
    refine run_guard G rfl rfl (by decide) (ed d1 rfl rfl rfl) (fun hg => ?_)
    have hp := of_decide_eq_true hg
    exact ownp_load Try.underlying76 rfl (OwnP.k0 o5 E) ((ed d0 rfl rfl rfl).1 hg) rfl
  · intro A B E G H d0 d1
    refine run_guard G rfl rfl (by decide) (ed d1 rfl rfl rfl) (fun hg => ?_)
    have hp := of_decide_eq_true hg
    exact y_index1 Try.underlying76 Try.inf21 ((ed d0 rfl rfl rfl).1 hg) rfl (by omega) (lst_get Ty.rune r0 0 ((0 : Int)).toNat (by omega))
  · intro A B E G H d0 d1
    refine run_guard G rfl rfl (by decide) (ed d1 rfl rfl rfl) (fun hg => ?_)
    have hp := of_decide_eq_true hg
    exact y_load Try.underlying21 rfl ((ed d0 rfl rfl rfl).1 hg) rfl
  · intro A B E G H d0 d1
    refine run_guard G rfl rfl (by decide) (ed d1 rfl rfl rfl) (fun hg => ?_)
    have hp := of_decide_eq_true hg
    exact y_neq ((ed d0 rfl rfl rfl).1 hg) rfl
  · intro A B E G H d0 d1; exact rP (y_pick_and (ed d0 rfl rfl rfl) (ed d1 rfl rfl rfl) rfl)
  intro a5 s3 D3; have ok4 := D3.ok; have F4 := F3.step0 D3.stp; have q9 := D3.kt q6 rfl; have q10 := D3.kt q7 rfl; have q11 := D3.kt q8 rfl; have o6 := Own.k0 o4 D3.stp; have o7 := OwnP.k0 o5 D3.stp; have q12 := D3.dn 14 rfl rfl; clear D3; refine tn ?_
  refine cond_t q12 (fun c1 => ?_) (fun c1 => ?_)
  ·
   obtain ⟨d1, d2⟩ := Bool.and_eq_true_iff.mp c1
   replace d1 := of_decide_eq_true d1
   replace d2 := of_decide_eq_true d2
   simp only [Bool.and_eq_true, decide_eq_true_eq] at c1; have hr1 : 1 ≤ r0.length := (by omega); have hne : ¬ (r0 = [] ∨ r0.getD 0 0 = 41) := (by rintro (h_ | h_); (rw [h_] at hr1; simp at hr1); exact c1.2 h_); obtain ⟨I, hI⟩ : ∃ I, I = itM (sgOf cs) deep r0 := ⟨_, rfl⟩
   refine wp_skip ?_; refine tn ?_; refine wp_block ?_; refine wp_seq ?_
   refine reg2 (a := a5) (σ := s3) rfl 2 (fun i_ => List.getD [(Ty.pr (Ty.val r)), (Ty.pr (Ty.nat deep))] i_ Pr.any) ok4 rfl (by decide) rfl ⟨?_, ?_, trivial⟩ ?_
   · intro A B E G H; exact rP (y_move (kp (H 0 rfl) E q10))
   · intro A B E G H; exact rP (y_move (kp (H 1 rfl) E q11))
   intro a6 s4 D4; have ok5 := D4.ok; have F5 := F4.step0 D4.stp; have q13 := D4.kt q9 rfl; have q14 := D4.kt q10 rfl; have q15 := D4.kt q11 rfl; have o8 := Own.k0 o6 D4.stp; have o9 := OwnP.k0 o7 D4.stp; have q16 := D4.dn 0 (by decide) rfl rfl; have q17 := D4.dn 1 (by decide) rfl rfl; clear D4
   refine tailL (L := [40]) (R := (fun v τ' => ∃ τ, (fun v τ => ∃ (z : List Int), (Ty.has (Ty.tup2 (Ty.lst Ty.int (itM (sgOf cs) deep (r0)).out) (Ty.int (itM (sgOf cs) deep (r0)).err)) τ v) ∧ (OwnP τ 40 r [(Ty.lstc 2 callC cs), (Ty.lst Ty.rune z)]) ∧ ((itM (sgOf cs) deep (r0)).err = 0 → z = (itM (sgOf cs) deep (r0)).rest)) v τ ∧ Back [(40, 40)] τ τ')) rfl rfl (by decide) ok5 (y_callL (L := [40]) [(40, 40)] [(40, 40)] #[a6.eval (.tmp 25), a6.eval (.tmp 26)] rfl (by decide) Try.func73 rfl rfl (by simp only [List.map_toArray, List.map_cons, List.map_nil]) (item_fn ((d - 1)) (r) (cs) (r0) (deep) _ (GW.low_lend _ (by decide)) _ _ (Ty.up _ (GW.le_lend _ _) q16) (Ty.up _ (GW.le_lend _ _) q17) (OwnP.ren (ownp_cell 1 (Ty.lst Ty.rune (r0)) o9 rfl (fun _ _ h => (cvt (by (first | rfl | omega | (simp_all; done) | (simp_all; omega))) h))) (GW.ren_lend _ _ (by decide) rfl)) (by first | omega | assumption | exact ih _ (by omega)) (by first | omega | assumption | exact ih _ (by omega)) (by first | omega | assumption | exact ih _ (by omega)) (by first | omega | assumption | exact ih _ (by omega)) (by first | omega | assumption | exact ih _ (by omega)))) (fun a7 s5 hs1 ok6 r1 sm1 => ?_)
   have F6 := F5.stepL hs1 (by decide); have q18 := kpL hs1 (by decide) (sm1 6 (by decide)) q13; have q19 := kpL hs1 (by decide) (sm1 0 (by decide)) q14; have q20 := kpL hs1 (by decide) (sm1 1 (by decide)) q15; have o12 := Own.keepL o8 hs1 (by decide) (by decide)
   obtain ⟨t3, ⟨g1, hT1, o10, hp1⟩, B1⟩ := r1
   have q21 : At (Ty.tup2 (Ty.lst Ty.int (itM (sgOf cs) deep (r0)).out) (Ty.int (itM (sgOf cs) deep (r0)).err)) s5 a7 (.tmp 27) := Ty.up _ B1.le hT1
   have o11 : OwnP s5 40 r [(Ty.lstc 2 callC cs), (Ty.lst Ty.rune (g1))] := OwnP.ren o10 (B1.ren (by decide) rfl)
   refine tailL (L := []) (R := (fun v τ => Pr.has (Ty.pr (Ty.tup2 (Ty.lst Ty.int (itM (sgOf cs) deep (r0)).out) (Ty.int (itM (sgOf cs) deep (r0)).err))) τ v)) rfl rfl (by decide) ok6 (Yld.toL (y_move q21)) (fun a8 s6 hs2 ok7 r2 sm2 => ?_)
   have F7 := F6.stepL hs2 (by decide); have q22 := kpL hs2 (by decide) (sm2 6 (by decide)) q18; have q23 := kpL hs2 (by decide) (sm2 0 (by decide)) q19; have q24 := kpL hs2 (by decide) (sm2 1 (by decide)) q20; have o13 := Own.keepL o12 hs2 (by decide) (by decide); have o14 := OwnP.keepL o11 hs2 (by decide) (by decide)
   have q25 : At (Ty.tup2 (Ty.lst Ty.int (itM (sgOf cs) deep (r0)).out) (Ty.int (itM (sgOf cs) deep (r0)).err)) s6 a8 (.tmp 24) := r2
   clear r2
   refine tailL (L := []) (R := (fun v τ => Pr.has (Ty.pr (Ty.lst Ty.int (itM (sgOf cs) deep (r0)).out)) τ v)) rfl rfl (by decide) ok7 (Yld.toL (y_ext2_0 q25)) (fun a9 s7 hs3 ok8 r3 sm3 => ?_)
   have F8 := F7.stepL hs3 (by decide); have q26 := kpL hs3 (by decide) (sm3 6 (by decide)) q22; have q27 := kpL hs3 (by decide) (sm3 0 (by decide)) q23; have q28 := kpL hs3 (by decide) (sm3 1 (by decide)) q24; have q29 := kpL hs3 (by decide) (sm3 24 (by decide)) q25; have o15 := Own.keepL o13 hs3 (by decide) (by decide); have o16 := OwnP.keepL o14 hs3 (by decide) (by decide)
   have q30 : At (Ty.lst Ty.int (itM (sgOf cs) deep (r0)).out) s7 a9 (.tmp 28) := r3
   clear r3
   refine tailL (L := []) (R := (fun v τ => Pr.has (Ty.pr (Ty.int (itM (sgOf cs) deep (r0)).err)) τ v)) rfl rfl (by decide) ok8 (Yld.toL (y_ext2_1 q29)) (fun a10 s8 hs4 ok9 r4 sm4 => ?_)
   have F9 := F8.stepL hs4 (by decide); have q31 := kpL hs4 (by decide) (sm4 6 (by decide)) q26; have q32 := kpL hs4 (by decide) (sm4 0 (by decide)) q27; have q33 := kpL hs4 (by decide) (sm4 1 (by decide)) q28; have q34 := kpL hs4 (by decide) (sm4 28 (by decide)) q30; have o17 := Own.keepL o15 hs4 (by decide) (by decide); have o18 := OwnP.keepL o16 hs4 (by decide) (by decide)
   have q35 : At (Ty.int (itM (sgOf cs) deep (r0)).err) s8 a10 (.tmp 29) := r4
   clear r4
   refine tailL (L := []) (R := (fun v τ => Pr.has (Ty.pr (Ty.lst Ty.int (itM (sgOf cs) deep (r0)).out)) τ v)) rfl rfl (by decide) ok9 (Yld.toL (y_assign q34)) (fun a11 s9 hs5 ok10 r5 sm5 => ?_)
   have F10 := F9.stepL hs5 (by decide); have q36 := kpL hs5 (by decide) (sm5 6 (by decide)) q31; have q37 := kpL hs5 (by decide) (sm5 0 (by decide)) q32; have q38 := kpL hs5 (by decide) (sm5 1 (by decide)) q33; have q39 := kpL hs5 (by decide) (sm5 29 (by decide)) q35; have o19 := Own.keepL o17 hs5 (by decide) (by decide); have o20 := OwnP.keepL o18 hs5 (by decide) (by decide)
   have q40 : At (Ty.lst Ty.int (itM (sgOf cs) deep (r0)).out) s9 a11 (.tmp 7) := r5
   clear r5
   refine tailL (L := []) (R := (fun v τ => Pr.has (Ty.pr (Ty.int (itM (sgOf cs) deep (r0)).err)) τ v)) rfl rfl (by decide) ok10 (Yld.toL (y_assign q39)) (fun a12 s10 hs6 ok11 r6 sm6 => ?_)
   have F11 := F10.stepL hs6 (by decide); have q41 := kpL hs6 (by decide) (sm6 6 (by decide)) q36; have q42 := kpL hs6 (by decide) (sm6 0 (by decide)) q37; have q43 := kpL hs6 (by decide) (sm6 1 (by decide)) q38; have q44 := kpL hs6 (by decide) (sm6 7 (by decide)) q40; have o21 := Own.keepL o19 hs6 (by decide) (by decide); have o22 := OwnP.keepL o20 hs6 (by decide) (by decide)
   have q45 : At (Ty.int (itM (sgOf cs) deep (r0)).err) s10 a12 (.tmp 8) := r6
   clear r6; refine wpList_nil ?_
   have q46 : At (Ty.lst Ty.int I.out) s10 a12 (.tmp 7) := (cvt (by (rw [hI])) q44)
   have q47 : At (Ty.int I.err) s10 a12 (.tmp 8) := (cvi (by (rw [hI])) q45)
   refine tn ?_; refine wp_seq ?_; refine wp_seq ?_
   refine rg a12 s10 [(Ty.int I.err), (Ty.bool (decide (I.err ≠ (0 : Int))))] ok11 ⟨?_, ?_, trivial⟩ ?_
   · intro A B E G H; exact rP (y_move (kp (H 8 rfl) E q47))
   · intro A B E G H d0; exact rP (y_neq (ed d0 rfl rfl rfl) rfl)
   intro a13 s11 D5; have ok12 := D5.ok; have F12 := F11.step0 D5.stp; have q48 := D5.kt q41 rfl; have q49 := D5.kt q42 rfl; have q50 := D5.kt q43 rfl; have q51 := D5.kt q46 rfl; have q52 := D5.kt q47 rfl; have o23 := Own.k0 o21 D5.stp; have o24 := OwnP.k0 o22 D5.stp; have q53 := D5.dn 1 rfl rfl; clear D5; refine tn ?_
   refine cond_p (p := (I.err ≠ (0 : Int))) q53 (fun c2 => ?_) (fun c2 => ?_)
   ·
    have hiE : itM (sgOf cs) deep r0 = ⟨I.err, [], []⟩ := (by rw [hI] at c2 ⊢; exact it_errE c2); have hXe : X = ⟨I.err, [], []⟩ := x_err hx hne hiE c2
    refine wp_seq ?_
    refine rg a13 s11 [(Ty.int I.err), (Ty.val (Value.slice none 0 0)), (Ty.int I.err)] ok12 ⟨?_, ?_, ?_, trivial⟩ ?_
    · intro A B E G H d0; exact rP (y_move (kp (H 8 rfl) E q52))
    · intro A B E G H d0; exact rP (y_assign rfl)
    · intro A B E G H d0 d1 d2 d3; exact rP (y_assign (ed d0 rfl rfl rfl))
    intro a14 s12 D6; have ok13 := D6.ok; have F13 := F12.step0 D6.stp; have o25 := Own.k0 o23 D6.stp; have o26 := OwnP.k0 o24 D6.stp; have q54 := D6.dn 1 rfl rfl; have q55 := D6.dn 2 rfl rfl; clear D6; refine tn ?_; refine wp_ret ?_; refine tr ?_; refine br ?_; refine tr ?_; refine br ?_; refine tr ?_
    exact retL2 rfl ok13 F13 ⟨g1, (hasT2 (nil_lst (by (rw [← hX, hXe])) q54) (cvi (by (rw [← hX, hXe])) q55)), o26, (by rw [← hX, hXe]; exact fun h_ => absurd h_ c2)⟩
   ·
    have hI0 : I.err = 0 := Classical.not_not.1 c2; have hg1 : g1 = I.rest := (by rw [hI]; exact hp1 (by rw [← hI]; exact hI0)); have hiI : itM (sgOf cs) deep r0 = ⟨0, I.out, I.rest⟩ := (by rw [← hI, ← hI0]); have hIt := (itM_tl (sg := sgOf cs) (deep := deep) (rest := r0) (by rw [← hI]; exact hI0)).2; rw [← hI] at hIt; have hIo : I.out.length ≤ 400 := (by rw [hI]; exact it_out)
    have o27 : OwnP s11 40 r [(Ty.lstc 2 callC cs), (Ty.lst Ty.rune I.rest)] := (ownp_cell 1 (Ty.lst Ty.rune I.rest) o24 rfl (fun _ _ h => (cvt (by (rw [hg1])) h)))
    refine wp_skip ?_; refine tn ?_; refine wp_seq ?_
    refine reg2 (a := a13) (σ := s11) rfl 2 (fun i_ => List.getD [(Ty.pr (Ty.val x6_0)), (Ty.pr (Ty.lst Ty.int I.out))] i_ Pr.any) ok12 rfl (by decide) rfl ⟨?_, ?_, trivial⟩ ?_
    · intro A B E G H; exact rP (y_move (kp (H 6 rfl) E q48))
    · intro A B E G H; exact rP (y_move (kp (H 7 rfl) E q51))
    intro a15 s13 D7; have ok14 := D7.ok; have F14 := F12.step0 D7.stp; have q56 := D7.kt q48 rfl; have q57 := D7.kt q49 rfl; have q58 := D7.kt q50 rfl; have o28 := Own.k0 o23 D7.stp; have o29 := OwnP.k0 o27 D7.stp
    have q59 : At (Ty.val x6_0) s13 a15 (.tmp 33) := D7.done 0 (by decide)
    have q60 := D7.dn 1 (by decide) rfl rfl; clear D7
    refine tailL (L := [6]) (R := (fun v τ => Own τ 6 3 1 v ((List.length out) + (List.length I.out)) ((List.map Ty.int out) ++ (List.map Ty.int I.out)))) rfl rfl (by decide) ok14 (YldM.toL (m_append Try.underlying23 Try.inf3 (by decide) rfl (by decide) (al (R := (Pr.own 6 3 1 (List.length out) (List.map Ty.int out))) q59 o28) q60 (one_map (fun _ => one_val rfl)) (by omega) (by omega))) (fun a16 s14 hs7 ok15 r7 sm7 => ?_)
    have F15 := F14.stepL hs7 (by decide); have q61 := kpL hs7 (by decide) (sm7 6 (by decide)) q56; have q62 := kpL hs7 (by decide) (sm7 0 (by decide)) q57; have q63 := kpL hs7 (by decide) (sm7 1 (by decide)) q58; have o31 := OwnP.keepL o29 hs7 (by decide) (by decide)
    obtain ⟨x1, hx1⟩ : ∃ x, a16.eval (.tmp 35) = x := ⟨_, rfl⟩
    have q64 : At (Ty.val x1) s14 a16 (.tmp 35) := hx1
    have o30 : Own s14 6 3 1 x1 (List.length (out ++ I.out)) (List.map Ty.int (out ++ I.out)) := al2 (R := (Pr.own 6 3 1 (List.length (out ++ I.out)) (List.map Ty.int (out ++ I.out)))) hx1 (cvo (by simp) (by first | (rw [List.map_append]; rfl) | simp) r7)
    clear r7
    refine tailL (L := []) (R := (fun v τ => Pr.has (Ty.pr (Ty.val x1)) τ v)) rfl rfl (by decide) ok15 (Yld.toL (y_assign q64)) (fun a17 s15 hs8 ok16 r8 sm8 => ?_)
    have F16 := F15.stepL hs8 (by decide); have q65 := kpL hs8 (by decide) (sm8 0 (by decide)) q62; have q66 := kpL hs8 (by decide) (sm8 1 (by decide)) q63; have o32 := OwnP.keepL o31 hs8 (by decide) (by decide); have o33 := Own.keepL o30 hs8 (by decide) (by decide)
    have q67 : At (Ty.val x1) s15 a17 (.tmp 6) := r8
    clear r8; refine wpList_nil ?_; refine tn ?_; refine wp_seq ?_
    refine rg a17 s15 [(Ty.val x1), (Ty.nat (List.length (out ++ I.out))), (Ty.bool (decide ((400 : Int) < (((List.length (out ++ I.out)) : Nat) : Int))))] ok16 ⟨?_, ?_, ?_, trivial⟩ ?_
    · intro A B E G H; exact rP (y_move (kp (H 6 rfl) E q67))
    · intro A B E G H d0; exact rP (own_len Try.underlying23 (al (R := (Pr.own 6 3 1 (List.length (out ++ I.out)) (List.map Ty.int (out ++ I.out)))) (ed d0 rfl rfl rfl) (Own.k0 o33 E)))
    · intro A B E G H d0; exact rP (y_gtr (ed d0 rfl rfl rfl) rfl)
    intro a18 s16 D8; have ok17 := D8.ok; have F17 := F16.step0 D8.stp; have q68 := D8.kt q65 rfl; have q69 := D8.kt q66 rfl; have q70 := D8.kt q67 rfl; have o34 := OwnP.k0 o32 D8.stp; have o35 := Own.k0 o33 D8.stp; have q71 := D8.dn 2 rfl rfl; clear D8; refine tn ?_
    refine cond_p (p := ((400 : Int) < (((List.length (out ++ I.out)) : Nat) : Int))) q71 (fun c3 => ?_) (fun c3 => ?_)
    ·
     have hXe : X = ⟨3, [], []⟩ := x_lim hx hne hiI (by omega)
     refine wp_seq ?_
     refine rg a18 s16 [(Ty.val (Value.slice none 0 0)), (Ty.int (3 : Int))] ok17 ⟨?_, ?_, trivial⟩ ?_
     · intro A B E G H; exact rP (y_assign rfl)
     · intro A B E G H d0 d1; exact rP (y_assign rfl)
     intro a19 s17 D9; have ok18 := D9.ok; have F18 := F17.step0 D9.stp; have o36 := OwnP.k0 o34 D9.stp; have o37 := Own.k0 o35 D9.stp; have q72 := D9.dn 0 rfl rfl; have q73 := D9.dn 1 rfl rfl; clear D9; refine tn ?_; refine wp_ret ?_; refine br ?_; refine tr ?_; refine br ?_; refine tr ?_
     exact retL2 rfl ok18 F18 ⟨I.rest, (hasT2 (nil_lst (by (rw [← hX, hXe])) q72) (cvi (by (rw [← hX, hXe])) q73)), (ownp_cell 1 (Ty.lst Ty.rune (I.rest)) o36 rfl (fun _ _ h => (cvt (by (first | rfl | omega | (simp_all; done) | (simp_all; omega))) h))), (by rw [← hX, hXe]; exact fun h_ => absurd h_ (by simp))⟩
    ·
     refine wp_skip ?_; refine bn ?_
     exact tn ⟨(I.rest).length, by omega, s16, I.rest, (out ++ I.out), x1, rfl, F17, ok17, q70, q68, q69, (cvo (by (simp)) (by (simp)) o35), (ownp_cell 1 (Ty.lst Ty.rune (I.rest)) o34 rfl (fun _ _ h => (cvt (by (first | rfl | omega | (simp_all; done) | (simp_all; omega))) h))), x_go hx hne hiI (by omega), by omega, by omega, rfl⟩
  ·
   have hX2 : X = ⟨0, out, r0⟩ := (by rw [← hx]; exact par_stop (by simp only [Bool.and_eq_false_iff, decide_eq_false_iff_not] at c1; rcases c1 with h_ | h_; exact .inl (List.eq_nil_of_length_eq_zero (by omega)); exact .inr (Classical.not_not.1 h_)))
   refine wp_exit ?_; refine tx ?_; refine tx ?_; refine bx ?_; refine tn ?_; refine wp_seq ?_
   refine rg a5 s3 [(Ty.val x6_0), (Ty.val x6_0), (Ty.int (0 : Int))] ok4 ⟨?_, ?_, ?_, trivial⟩ ?_
   · intro A B E G H; exact rP (y_move (kp (H 6 rfl) E q9))
   · intro A B E G H d0 d1; exact rP (y_assign (ed d0 rfl rfl rfl))
   · intro A B E G H d0 d1 d2; exact rP (y_assign rfl)
   intro a20 s18 D10; have ok19 := D10.ok; have F19 := F4.step0 D10.stp; have o38 := Own.k0 o6 D10.stp; have o39 := OwnP.k0 o7 D10.stp
   have q74 : At (Ty.val x6_0) s18 a20 (.tmp 4) := D10.done 1
   have q75 := D10.dn 2 rfl rfl; clear D10; refine tn ?_; refine wp_ret ?_
   obtain ⟨t4, e1, h1, q76⟩ := Own.seal o38 (by decide)
   rw [← e1]
   have F20 := F19.step h1 (by decide); have o40 := OwnP.keepL o39 (h1.toL (L := [6]) (by simp)) (by decide) (by decide)
   have q77 : At (Ty.lst Ty.int out) t4 a20 (.tmp 4) := by have e : a20.eval (.tmp 4) = x6_0 := q74; show Ty.has _ _ _; rw [e]; exact q76
   have q78 := Ty.up (Ty.int (0 : Int)) (h1.le (by decide)) q75
   exact retL2 rfl ok19 F20 ⟨r0, (hasT2 (cvt (by (rw [← hX, hX2])) q77) (cvi (by (rw [← hX, hX2])) q78)), (ownp_cell 1 (Ty.lst Ty.rune (r0)) o40 rfl (fun _ _ h => (cvt (by (first | rfl | omega | (simp_all; done) | (simp_all; omega))) h))), (by rw [← hX, hX2]; exact fun _ => rfl)⟩

theorem Try.inf79 : Info Try.prog 79 (.agg #[.slice none 0 0, .slice none 0 0]) 2 48 := by unfold Info; kernel_rfl
set_option maxHeartbeats 4000000 in
set_option maxRecDepth 100000 in
theorem parse_fn (cs : List BCall) (s : ByteArray) (σ : GW)  (v0 v1 : Value) (hv0 : Ty.has (Ty.lstc 2 callC cs) σ v0) (hv1 : Ty.has (Ty.val (Value.string s)) σ v1)   :
    FnC Try.prog 12 #[v0, v1] σ (Ty.tup2 (Ty.lst Ty.int (ptM (sgOf cs) s).out) (Ty.int (ptM (sgOf cs) s).err)) := by
 have hLl := runsL_len s
 obtain ⟨L, hL⟩ : ∃ L, L = runsL s := ⟨_, rfl⟩
 rw [← hL] at hLl
 obtain ⟨X, hX⟩ : ∃ X, X = parM (sgOf cs) 0 [] L := ⟨_, rfl⟩
 have hXL := hX
 rw [hL] at hXL
 refine fn_intro0 Try.func12 rfl Try.ntmps12 (Nat.le_of_ble_eq_true rfl) (fun s0 a0 hle F0 ok0 hargs => ?_)
 have p0 : At (Ty.lstc 2 callC cs) s0 a0 (.tmp 0) := by have e := hargs 0 _ rfl; show Ty.has _ _ _; rw [e]; exact Ty.up _ hle hv0
 have b1 := sl_le p0
 have p1 : At (Ty.val (Value.string s)) s0 a0 (.tmp 1) := by have e := hargs 1 _ rfl; show Ty.has _ _ _; rw [e]; exact Ty.up _ hle hv1
 clear hargs; refine wp_seq ?_
 refine rg a0 s0 [(Ty.val (Value.slice none 0 0)), (Ty.int (0 : Int))] ok0 ⟨?_, ?_, trivial⟩ ?_
 · intro A B E G H; exact rP (y_assign rfl)
 · intro A B E G H d0; exact rP (y_assign rfl)
 intro a1 s1 D1; have ok1 := D1.ok; have F1 := F0.step0 D1.stp; have q1 := D1.kt p0 rfl; have q2 := D1.kt p1 rfl; clear D1; refine tn ?_; refine wp_seq ?_; refine wp_seq ?_
 refine rg a1 s1 [(Ty.val (Value.string s)), (Ty.nat (ByteArray.size s)), (Ty.bool (decide ((4000 : Int) < (((ByteArray.size s) : Nat) : Int))))] ok1 ⟨?_, ?_, ?_, trivial⟩ ?_
 · intro A B E G H; exact rP (y_move (kp (H 1 rfl) E q2))
 · intro A B E G H d0; exact rP (y_len_str Try.underlying9 (ed d0 rfl rfl rfl))
 · intro A B E G H d0; exact rP (y_gtr (ed d0 rfl rfl rfl) rfl)
 intro a2 s2 D2; have ok2 := D2.ok; have F2 := F1.step0 D2.stp; have q3 := D2.kt q1 rfl; have q4 := D2.kt q2 rfl; have q5 := D2.dn 2 rfl rfl; clear D2; refine tn ?_
 refine cond_p (p := ((4000 : Int) < (((ByteArray.size s) : Nat) : Int))) q5 (fun c1 => ?_) (fun c1 => ?_)
 ·
  refine wp_seq ?_
  refine rg a2 s2 [(Ty.val (Value.slice none 0 0)), (Ty.int (3 : Int))] ok2 ⟨?_, ?_, trivial⟩ ?_
  · intro A B E G H; exact rP (y_assign rfl)
  · intro A B E G H d0 d1; exact rP (y_assign rfl)
  intro a3 s3 D3; have ok3 := D3.ok; have F3 := F2.step0 D3.stp; have q6 := D3.dn 0 rfl rfl; have q7 := D3.dn 1 rfl rfl; clear D3; refine tn ?_; refine wp_ret ?_; refine tr ?_
  exact retL2 rfl ok3 F3 (hasT2 (nil_lst (by (rw [pt_lim (by omega)])) q6) (cvi (by (rw [pt_lim (by omega)])) q7))
 ·
  have hsz : ¬ 4000 < s.size := (by omega)
  refine wp_skip ?_; refine tn ?_; refine wp_seq ?_
  refine reg2 (a := a2) (σ := s2) rfl 5 (fun i_ => List.getD [(Ty.pr (Ty.lstc 2 callC cs)), (Ty.pr (Ty.val (Value.string s))), (Ty.pr (Ty.lst Ty.rune L)), (Ty.pr (Ty.agg [(Ty.lstc 2 callC cs), (Ty.lst Ty.rune L)])), (Pr.ownp 40 [(Ty.lstc 2 callC cs), (Ty.lst Ty.rune L)])] i_ Pr.any) ok2 rfl (by decide) rfl ⟨?_, ?_, ?_, ?_, ?_, trivial⟩ ?_
  · intro A B E G H; exact rP (y_move (kp (H 0 rfl) E q3))
  · intro A B E G H; exact rP (y_move (kp (H 1 rfl) E q4))
  · intro A B E G H d0; exact rP ((y_call #[A.eval (.tmp 13)] Try.func43 rfl rfl (by simp only [List.map_toArray, List.map_cons, List.map_nil]) (cRunes_fn (s) _ _ (ed d0 rfl rfl rfl) (by omega))).mono (fun τ _ h => cvt (σ := τ) (T := (Ty.lst Ty.rune (runsL s))) (U := (Ty.lst Ty.rune L)) (by rw [hL]) h))
  · intro A B E G H d0 d1; exact rP (y_bld [(0, (.tmp 12), (Ty.lstc 2 callC cs)), (1, (.tmp 14), (Ty.lst Ty.rune L))] [(Ty.val (Value.slice none 0 0)), (Ty.val (Value.slice none 0 0))] (l := [(0, 1), (1, 1)]) rfl Try.inf79 rfl (alloc_vals (vs := [.slice none 0 0, .slice none 0 0]) rfl) rfl (by intro p hp; simp only [List.mem_cons, List.not_mem_nil, or_false] at hp; rcases hp with rfl | rfl; exact ⟨one_sl, (ed d0 rfl rfl rfl)⟩; exact ⟨one_sl, (ed d1 rfl rfl rfl)⟩))
  · intro A B E G H d0; exact rP (y_boxo 40 (ed d0 rfl rfl rfl))
  intro a4 s4 D4; have ok4 := D4.ok; have F4 := F2.step0 D4.stp
  obtain ⟨x1, hx1⟩ : ∃ x, a4.eval (.tmp 16) = x := ⟨_, rfl⟩
  have q8 : At (Ty.val x1) s4 a4 (.tmp 16) := hx1
  have o1 : OwnP s4 40 x1 [(Ty.lstc 2 callC cs), (Ty.lst Ty.rune L)] := al2 (R := (Pr.ownp 40 [(Ty.lstc 2 callC cs), (Ty.lst Ty.rune L)])) hx1 (D4.done 4 (by decide))
  clear D4
  refine tailL (L := []) (R := (fun v τ => Pr.has (Ty.pr (Ty.val x1)) τ v)) rfl rfl (by decide) ok4 (Yld.toL (y_assign q8)) (fun a5 s5 hs1 ok5 r1 sm1 => ?_)
  have F5 := F4.stepL hs1 (by decide); have o2 := OwnP.keepL o1 hs1 (by decide) (by decide)
  have q9 : At (Ty.val x1) s5 a5 (.tmp 6) := r1
  clear r1; refine wpList_nil ?_; refine tn ?_; refine wp_seq ?_
  refine reg2 (a := a5) (σ := s5) rfl 1 (fun i_ => List.getD [(Ty.pr (Ty.val x1))] i_ Pr.any) ok5 rfl (by decide) rfl ⟨?_, trivial⟩ ?_
  · intro A B E G H; exact rP (y_move (kp (H 6 rfl) E q9))
  intro a6 s6 D5; have ok6 := D5.ok; have F6 := F5.step0 D5.stp; have q10 := D5.kt q9 rfl; have o3 := OwnP.k0 o2 D5.stp
  have q11 : At (Ty.val x1) s6 a6 (.tmp 18) := D5.done 0 (by decide)
  clear D5
  refine tailL (L := [40]) (R := (fun v τ' => ∃ τ, (fun v τ => ∃ (z : List Int), (Ty.has (Ty.tup2 (Ty.lst Ty.int (parM (sgOf cs) (0) [] (L)).out) (Ty.int (parM (sgOf cs) (0) [] (L)).err)) τ v) ∧ (OwnP τ 40 x1 [(Ty.lstc 2 callC cs), (Ty.lst Ty.rune z)]) ∧ ((parM (sgOf cs) (0) [] (L)).err = 0 → z = (parM (sgOf cs) (0) [] (L)).rest)) v τ ∧ Back [(40, 40)] τ τ')) rfl rfl (by decide) ok6 (y_callL (L := [40]) [(40, 40)] [(40, 40)] #[a6.eval (.tmp 18), a6.eval ((Operand.const (Value.int IntKind.i64 0)))] rfl (by decide) Try.func44 rfl rfl (by simp only [List.map_toArray, List.map_cons, List.map_nil]) (items_fn ((L).length) (x1) (cs) (L) (0) _ (GW.low_lend _ (by decide)) _ _ (Ty.up _ (GW.le_lend _ _) q11) (Ty.up _ (GW.le_lend _ _) (cvi (σ := s6) (by first | omega | assumption | exact ih _ (by omega)) rfl)) (OwnP.ren (ownp_cell 1 (Ty.lst Ty.rune (L)) o3 rfl (fun _ _ h => (cvt (by (first | rfl | omega | (simp_all; done) | (simp_all; omega))) h))) (GW.ren_lend _ _ (by decide) rfl)) (by first | omega | assumption | exact ih _ (by omega)) (by first | omega | assumption | exact ih _ (by omega)) (by first | omega | assumption | exact ih _ (by omega)))) (fun a7 s7 hs2 ok7 r2 sm2 => ?_)
  have F7 := F6.stepL hs2 (by decide); have q12 := kpL hs2 (by decide) (sm2 6 (by decide)) q10
  obtain ⟨t1, ⟨g1, hT1, o4, hp1⟩, B1⟩ := r2
  have q13 : At (Ty.tup2 (Ty.lst Ty.int (parM (sgOf cs) (0) [] (L)).out) (Ty.int (parM (sgOf cs) (0) [] (L)).err)) s7 a7 (.tmp 19) := Ty.up _ B1.le hT1
  have o5 : OwnP s7 40 x1 [(Ty.lstc 2 callC cs), (Ty.lst Ty.rune (g1))] := OwnP.ren o4 (B1.ren (by decide) rfl)
  refine tailL (L := []) (R := (fun v τ => Pr.has (Ty.pr (Ty.tup2 (Ty.lst Ty.int (parM (sgOf cs) (0) [] (L)).out) (Ty.int (parM (sgOf cs) (0) [] (L)).err))) τ v)) rfl rfl (by decide) ok7 (Yld.toL (y_move q13)) (fun a8 s8 hs3 ok8 r3 sm3 => ?_)
  have F8 := F7.stepL hs3 (by decide); have q14 := kpL hs3 (by decide) (sm3 6 (by decide)) q12; have o6 := OwnP.keepL o5 hs3 (by decide) (by decide)
  have q15 : At (Ty.tup2 (Ty.lst Ty.int (parM (sgOf cs) (0) [] (L)).out) (Ty.int (parM (sgOf cs) (0) [] (L)).err)) s8 a8 (.tmp 17) := r3
  clear r3
  refine tailL (L := []) (R := (fun v τ => Pr.has (Ty.pr (Ty.lst Ty.int (parM (sgOf cs) (0) [] (L)).out)) τ v)) rfl rfl (by decide) ok8 (Yld.toL (y_ext2_0 q15)) (fun a9 s9 hs4 ok9 r4 sm4 => ?_)
  have F9 := F8.stepL hs4 (by decide); have q16 := kpL hs4 (by decide) (sm4 6 (by decide)) q14; have q17 := kpL hs4 (by decide) (sm4 17 (by decide)) q15; have o7 := OwnP.keepL o6 hs4 (by decide) (by decide)
  have q18 : At (Ty.lst Ty.int (parM (sgOf cs) (0) [] (L)).out) s9 a9 (.tmp 20) := r4
  clear r4
  refine tailL (L := []) (R := (fun v τ => Pr.has (Ty.pr (Ty.int (parM (sgOf cs) (0) [] (L)).err)) τ v)) rfl rfl (by decide) ok9 (Yld.toL (y_ext2_1 q17)) (fun a10 s10 hs5 ok10 r5 sm5 => ?_)
  have F10 := F9.stepL hs5 (by decide); have q19 := kpL hs5 (by decide) (sm5 6 (by decide)) q16; have q20 := kpL hs5 (by decide) (sm5 20 (by decide)) q18; have o8 := OwnP.keepL o7 hs5 (by decide) (by decide)
  have q21 : At (Ty.int (parM (sgOf cs) (0) [] (L)).err) s10 a10 (.tmp 21) := r5
  clear r5
  refine tailL (L := []) (R := (fun v τ => Pr.has (Ty.pr (Ty.lst Ty.int (parM (sgOf cs) (0) [] (L)).out)) τ v)) rfl rfl (by decide) ok10 (Yld.toL (y_assign q20)) (fun a11 s11 hs6 ok11 r6 sm6 => ?_)
  have F11 := F10.stepL hs6 (by decide); have q22 := kpL hs6 (by decide) (sm6 6 (by decide)) q19; have q23 := kpL hs6 (by decide) (sm6 21 (by decide)) q21; have o9 := OwnP.keepL o8 hs6 (by decide) (by decide)
  have q24 : At (Ty.lst Ty.int (parM (sgOf cs) (0) [] (L)).out) s11 a11 (.tmp 7) := r6
  clear r6
  refine tailL (L := []) (R := (fun v τ => Pr.has (Ty.pr (Ty.int (parM (sgOf cs) (0) [] (L)).err)) τ v)) rfl rfl (by decide) ok11 (Yld.toL (y_assign q23)) (fun a12 s12 hs7 ok12 r7 sm7 => ?_)
  have F12 := F11.stepL hs7 (by decide); have q25 := kpL hs7 (by decide) (sm7 6 (by decide)) q22; have q26 := kpL hs7 (by decide) (sm7 7 (by decide)) q24; have o10 := OwnP.keepL o9 hs7 (by decide) (by decide)
  have q27 : At (Ty.int (parM (sgOf cs) (0) [] (L)).err) s12 a12 (.tmp 8) := r7
  clear r7; refine wpList_nil ?_
  have q28 : At (Ty.lst Ty.int X.out) s12 a12 (.tmp 7) := (cvt (by (rw [hX])) q26)
  have q29 : At (Ty.int X.err) s12 a12 (.tmp 8) := (cvi (by (rw [hX])) q27)
  refine tn ?_; refine wp_seq ?_; refine wp_block ?_; refine wp_seq ?_
  refine rg a12 s12 [(Ty.int X.err), (Ty.bool (decide (X.err ≠ (0 : Int)))), (Ty.bool (decide (X.err ≠ (0 : Int))))] ok12 ⟨?_, ?_, ?_, trivial⟩ ?_
  · intro A B E G H; exact rP (y_move (kp (H 8 rfl) E q29))
  · intro A B E G H d0; exact rP (y_neq (ed d0 rfl rfl rfl) rfl)
  · intro A B E G H d0; exact rP (y_assign (ed d0 rfl rfl rfl))
  intro a13 s13 D6; have ok13 := D6.ok; have F13 := F12.step0 D6.stp; have q30 := D6.kt q25 rfl; have q31 := D6.kt q28 rfl; have q32 := D6.kt q29 rfl; have o11 := OwnP.k0 o10 D6.stp; have q33 := D6.dn 2 rfl rfl; clear D6; refine tn ?_
  refine cond_p (p := (X.err ≠ (0 : Int))) q33 (fun c2 => ?_) (fun c2 => ?_)
  ·
   have hX1 := c2
   refine wp_seq ?_
   refine rg a13 s13 [(Ty.int X.err), (Ty.val (Value.slice none 0 0)), (Ty.int X.err)] ok13 ⟨?_, ?_, ?_, trivial⟩ ?_
   · intro A B E G H d0; exact rP (y_move (kp (H 8 rfl) E q32))
   · intro A B E G H d0; exact rP (y_assign rfl)
   · intro A B E G H d0 d1 d2 d3; exact rP (y_assign (ed d0 rfl rfl rfl))
   intro a14 s14 D7; have ok14 := D7.ok; have F14 := F13.step0 D7.stp; have o12 := OwnP.k0 o11 D7.stp; have q34 := D7.dn 1 rfl rfl; have q35 := D7.dn 2 rfl rfl; clear D7; refine tn ?_; refine wp_ret ?_; refine br ?_; refine tr ?_
   exact retL2 rfl ok14 F14 (hasT2 (nil_lst (by (rw [pt_err hsz hXL hX1])) q34) (cvi (by (rw [pt_err hsz hXL hX1])) q35))
  ·
   have hX0 : X.err = 0 := Classical.not_not.1 c2; have hg1 : g1 = X.rest := (by rw [hX]; exact hp1 (by rw [← hX]; exact hX0))
   refine wp_seq ?_
   refine rg a13 s13 [(Ty.val x1), (Ty.val x1), (Ty.val (ptrAt x1 1)), (Ty.lst Ty.rune (g1)), (Ty.nat (List.length (g1))), (Ty.bool (decide ((0 : Int) < (((List.length (g1)) : Nat) : Int)))), (Ty.bool (decide ((0 : Int) < (((List.length (g1)) : Nat) : Int))))] ok13 ⟨?_, ?_, ?_, ?_, ?_, ?_, ?_, trivial⟩ ?_
   · intro A B E G H; exact rP (y_move (kp (H 6 rfl) E q30))
   · intro A B E G H d0; exact rP (y_nilp (OwnP.k0 o11 E) (ed d0 rfl rfl rfl))
   · intro A B E G H d0; exact rP (ownp_field Try.fld79_1 Try.inf76 (by decide) (OwnP.k0 o11 E) (ed d0 rfl rfl rfl))
   · intro A B E G H d0; exact rP (ownp_load Try.underlying76 rfl (OwnP.k0 o11 E) (ed d0 rfl rfl rfl) rfl)
   · intro A B E G H d0; exact rP (y_len Try.underlying76 (ed d0 rfl rfl rfl))
   · intro A B E G H d0; exact rP (y_gtr (ed d0 rfl rfl rfl) rfl)
   · intro A B E G H d0; exact rP (y_assign (ed d0 rfl rfl rfl))
   intro a15 s15 D8; have ok15 := D8.ok; have F15 := F13.step0 D8.stp; have q36 := D8.kt q31 rfl; have o13 := OwnP.k0 o11 D8.stp; have q37 := D8.dn 6 rfl rfl; clear D8; refine tn ?_
   refine cond_p (p := ((0 : Int) < (((List.length (g1)) : Nat) : Int))) q37 (fun c3 => ?_) (fun c3 => ?_)
   ·
    have hXr : X.rest ≠ [] := (fun e_ => by rw [hg1, e_] at c3; simp at c3)
    refine wp_seq ?_
    refine rg a15 s15 [(Ty.val (Value.slice none 0 0)), (Ty.int (4 : Int))] ok15 ⟨?_, ?_, trivial⟩ ?_
    · intro A B E G H; exact rP (y_assign rfl)
    · intro A B E G H d0 d1; exact rP (y_assign rfl)
    intro a16 s16 D9; have ok16 := D9.ok; have F16 := F15.step0 D9.stp; have q38 := D9.dn 0 rfl rfl; have q39 := D9.dn 1 rfl rfl; clear D9; refine tn ?_; refine wp_ret ?_; refine br ?_; refine tr ?_
    exact retL2 rfl ok16 F16 (hasT2 (nil_lst (by (rw [pt_word hsz hXL hX0 hXr])) q38) (cvi (by (rw [pt_word hsz hXL hX0 hXr])) q39))
   ·
    have hXr : X.rest = [] := List.eq_nil_of_length_eq_zero (by rw [← hg1]; omega)
    refine wp_seq ?_
    refine rg a15 s15 [(Ty.lst Ty.int X.out), (Ty.nat (List.length X.out)), (Ty.bool (decide ((((List.length X.out) : Nat) : Int) = (0 : Int)))), (Ty.bool (decide ((((List.length X.out) : Nat) : Int) = (0 : Int))))] ok15 ⟨?_, ?_, ?_, ?_, trivial⟩ ?_
    · intro A B E G H; exact rP (y_move (kp (H 7 rfl) E q36))
    · intro A B E G H d0; exact rP (y_len Try.underlying23 (ed d0 rfl rfl rfl))
    · intro A B E G H d0; exact rP (y_eql (ed d0 rfl rfl rfl) rfl)
    · intro A B E G H d0; exact rP (y_assign (ed d0 rfl rfl rfl))
    intro a17 s17 D10; have ok17 := D10.ok; have F17 := F15.step0 D10.stp; have q40 := D10.kt q36 rfl; have q41 := D10.dn 3 rfl rfl; clear D10; refine tn ?_
    refine cond_p (p := ((((List.length X.out) : Nat) : Int) = (0 : Int))) q41 (fun c4 => ?_) (fun c4 => ?_)
    ·
     have hXo : X.out = [] := List.eq_nil_of_length_eq_zero (by omega)
     refine wp_seq ?_
     refine rg a17 s17 [(Ty.val (Value.slice none 0 0)), (Ty.int (5 : Int))] ok17 ⟨?_, ?_, trivial⟩ ?_
     · intro A B E G H; exact rP (y_assign rfl)
     · intro A B E G H d0 d1; exact rP (y_assign rfl)
     intro a18 s18 D11; have ok18 := D11.ok; have F18 := F17.step0 D11.stp; have q42 := D11.dn 0 rfl rfl; have q43 := D11.dn 1 rfl rfl; clear D11; refine tn ?_; refine wp_ret ?_; refine br ?_; refine tr ?_
     exact retL2 rfl ok18 F18 (hasT2 (nil_lst (by (rw [pt_none hsz hXL hX0 hXr hXo])) q42) (cvi (by (rw [pt_none hsz hXL hX0 hXr hXo])) q43))
    ·
     have hXo : X.out ≠ [] := (fun e_ => by rw [e_] at c4; simp at c4)
     refine wp_skip ?_; refine bn ?_; refine tn ?_; refine wp_seq ?_
     refine rg a17 s17 [(Ty.lst Ty.int X.out), (Ty.lst Ty.int X.out), (Ty.int (0 : Int))] ok17 ⟨?_, ?_, ?_, trivial⟩ ?_
     · intro A B E G H; exact rP (y_move (kp (H 7 rfl) E q40))
     · intro A B E G H d0 d1; exact rP (y_assign (ed d0 rfl rfl rfl))
     · intro A B E G H d0 d1 d2; exact rP (y_assign rfl)
     intro a19 s19 D12; have ok19 := D12.ok; have F19 := F17.step0 D12.stp; have q44 := D12.dn 1 rfl rfl; have q45 := D12.dn 2 rfl rfl; clear D12; refine tn ?_; refine wp_ret ?_
     exact retL2 rfl ok19 F19 (hasT2 (cvt (by (rw [pt_ok hsz hXL hX0 hXr hXo])) q44) (cvi (by (rw [pt_ok hsz hXL hX0 hXr hXo])) q45))


set_option maxHeartbeats 4000000 in
set_option maxRecDepth 100000 in
theorem rRuneAt_fn (s : ByteArray) (σ : GW)  (v0 : Value) (hv0 : Ty.has (Ty.val (Value.string s)) σ v0)  (E : 1 ≤ s.size) :
    FnC Try.prog 74 #[v0] σ (Ty.tup2 (Ty.int (runM s 0)) (Ty.nat (wid s 0))) := by
 have hb256 := UInt8.toNat_lt (s.get! 0)
 have hb257 := UInt8.toNat_lt (s.get! ((0 : Int)).toNat)
 have hnb := nb_bd ((s.get! 0).toNat)
 refine fn_intro0 Try.func74 rfl Try.ntmps74 (Nat.le_of_ble_eq_true rfl) (fun s0 a0 hle F0 ok0 hargs => ?_)
 have p0 : At (Ty.val (Value.string s)) s0 a0 (.tmp 0) := by have e := hargs 0 _ rfl; show Ty.has _ _ _; rw [e]; exact Ty.up _ hle hv0
 clear hargs; refine wp_seq ?_
 refine rg a0 s0 [(Ty.int (0 : Int)), (Ty.int (0 : Int))] ok0 ⟨?_, ?_, trivial⟩ ?_
 · intro A B E G H; exact rP (y_assign rfl)
 · intro A B E G H d0; exact rP (y_assign rfl)
 intro a1 s1 D1; have ok1 := D1.ok; have F1 := F0.step0 D1.stp; have q1 := D1.kt p0 rfl; clear D1; refine tn ?_; refine wp_seq ?_
 refine rg a1 s1 [(Ty.val (Value.string s)), (Ty.val (Value.int .u8 (((s.get! ((0 : Int)).toNat).toNat : Nat) : Int))), (Ty.nat (s.get! ((0 : Int)).toNat).toNat), (Ty.nat (s.get! ((0 : Int)).toNat).toNat)] ok1 ⟨?_, ?_, ?_, ?_, trivial⟩ ?_
 · intro A B E G H; exact rP (y_move (kp (H 0 rfl) E q1))
 · intro A B E G H d0; exact rP (y_sindex Try.underlying9 (ed d0 rfl rfl rfl) rfl (by omega) (by omega))
 · intro A B E G H d0; exact rP (y_conv Try.underlying3 (ed d0 rfl rfl rfl) (by exact w64 (by omega) (by omega)) (by rw [Try.underlying5]; rfl))
 · intro A B E G H d0 d1 d2 d3; exact rP (y_assign (ed d0 rfl rfl rfl))
 intro a2 s2 D2; have ok2 := D2.ok; have F2 := F1.step0 D2.stp; have q2 := D2.kt q1 rfl; have q3 := D2.dn 3 rfl rfl; clear D2
 have q4 : At (Ty.nat ((s.get! 0).toNat)) s2 a2 (.tmp 4) := (cvi (by (rfl)) q3)
 refine tn ?_; refine wp_seq ?_; refine wp_seq ?_
 refine rg a2 s2 [(Ty.nat ((s.get! 0).toNat)), (Ty.bool (decide (((((s.get! 0).toNat) : Nat) : Int) < (128 : Int))))] ok2 ⟨?_, ?_, trivial⟩ ?_
 · intro A B E G H; exact rP (y_move (kp (H 4 rfl) E q4))
 · intro A B E G H d0; exact rP (y_lss (ed d0 rfl rfl rfl) rfl)
 intro a3 s3 D3; have ok3 := D3.ok; have F3 := F2.step0 D3.stp; have q5 := D3.kt q2 rfl; have q6 := D3.kt q4 rfl; have q7 := D3.dn 1 rfl rfl; clear D3; refine tn ?_
 refine cond_p (p := (((((s.get! 0).toNat) : Nat) : Int) < (128 : Int))) q7 (fun c1 => ?_) (fun c1 => ?_)
 ·
  refine wp_seq ?_
  refine rg a3 s3 [(Ty.nat ((s.get! 0).toNat)), (Ty.nat ((s.get! 0).toNat)), (Ty.int (1 : Int))] ok3 ⟨?_, ?_, ?_, trivial⟩ ?_
  · intro A B E G H; exact rP (y_move (kp (H 4 rfl) E q6))
  · intro A B E G H d0 d1; exact rP (y_assign (ed d0 rfl rfl rfl))
  · intro A B E G H d0 d1 d2; exact rP (y_assign rfl)
  intro a4 s4 D4; have ok4 := D4.ok; have F4 := F3.step0 D4.stp; have q8 := D4.dn 1 rfl rfl; have q9 := D4.dn 2 rfl rfl; clear D4; refine tn ?_; refine wp_ret ?_; refine tr ?_
  exact retL2 rfl ok4 F4 (hasT2 (cvi (by (exact (rn_low (by omega)).1.symm)) q8) (cvi (by (have := (rn_low (s := s) (by omega)).2; omega)) q9))
 ·
  refine wp_skip ?_; refine tn ?_; refine wp_seq ?_
  refine rg a3 s3 [(Ty.int (0 : Int))] ok3 ⟨?_, trivial⟩ ?_
  · intro A B E G H; exact rP (y_assign rfl)
  intro a5 s5 D5; have ok5 := D5.ok; have F5 := F3.step0 D5.stp; have q10 := D5.kt q5 rfl; have q11 := D5.kt q6 rfl; have q12 := D5.dn 0 rfl rfl; clear D5; refine tn ?_; refine wp_seq ?_
  refine rg a5 s5 [(Ty.int (0 : Int))] ok5 ⟨?_, trivial⟩ ?_
  · intro A B E G H; exact rP (y_assign rfl)
  intro a6 s6 D6; have ok6 := D6.ok; have F6 := F5.step0 D6.stp; have q13 := D6.kt q10 rfl; have q14 := D6.kt q11 rfl; have q15 := D6.kt q12 rfl; have q16 := D6.dn 0 rfl rfl; clear D6; refine tn ?_; refine wp_seq ?_; refine wp_seq ?_
  refine rg a6 s6 [(Ty.nat ((s.get! 0).toNat)), (Ty.bool (decide ((194 : Int) ≤ ((((s.get! 0).toNat) : Nat) : Int)))), (Ty.bool (decide ((194 : Int) ≤ ((((s.get! 0).toNat) : Nat) : Int)))), (Ty.grd ((decide ((194 : Int) ≤ ((((s.get! 0).toNat) : Nat) : Int))) = true) (Ty.nat ((s.get! 0).toNat))), (Ty.grd ((decide ((194 : Int) ≤ ((((s.get! 0).toNat) : Nat) : Int))) = true) (Ty.bool (decide (((((s.get! 0).toNat) : Nat) : Int) < (224 : Int))))), (Ty.bool ((decide ((194 : Int) ≤ ((((s.get! 0).toNat) : Nat) : Int))) && (decide (((((s.get! 0).toNat) : Nat) : Int) < (224 : Int)))))] ok6 ⟨?_, ?_, ?_, ?_, ?_, ?_, trivial⟩ ?_
  · intro A B E G H; exact rP (y_move (kp (H 4 rfl) E q14))
  · intro A B E G H d0; exact rP (y_geq (ed d0 rfl rfl rfl) rfl)
  · intro A B E G H d0; exact rP (y_move (ed d0 rfl rfl rfl))
  · intro A B E G H d0
    refine run_guard G rfl rfl (by decide) (ed d0 rfl rfl rfl) (fun hg => ?_)
    have hp := of_decide_eq_true hg
    exact y_move (kp (H 4 rfl) E q14)
  · intro A B E G H d0 d1
    refine run_guard G rfl rfl (by decide) (ed d1 rfl rfl rfl) (fun hg => ?_)
    have hp := of_decide_eq_true hg
    exact y_lss ((ed d0 rfl rfl rfl).1 hg) rfl
  · intro A B E G H d0 d1; exact rP (y_pick_and (ed d0 rfl rfl rfl) (ed d1 rfl rfl rfl) rfl)
  intro a7 s7 D7; have ok7 := D7.ok; have F7 := F6.step0 D7.stp; have q17 := D7.kt q13 rfl; have q18 := D7.kt q14 rfl; have q19 := D7.kt q15 rfl; have q20 := D7.kt q16 rfl; have q21 := D7.dn 5 rfl rfl; clear D7; refine tn ?_
  refine Go.KL.join_then (Q' := fun a8 w1 => ∃ (t1 : GW), t1.w = w1 ∧ FromL [] s0 t1 ∧ Ok 86 a8 ∧ At (Ty.nat (nB ((s.get! 0).toNat))) t1 a8 (.tmp 5) ∧ At (Ty.nat (cB ((s.get! 0).toNat))) t1 a8 (.tmp 4) ∧ At (Ty.nat (lowB ((s.get! 0).toNat))) t1 a8 (.tmp 6) ∧ At (Ty.val (Value.string s)) t1 a8 (.tmp 0) ∧ True) ?_ ?_
  ·
   refine cond_t q21 (fun c2 => ?_) (fun c2 => ?_)
   ·
    obtain ⟨d1, d2⟩ := Bool.and_eq_true_iff.mp c2
    replace d1 := of_decide_eq_true d1
    replace d2 := of_decide_eq_true d2
    simp only [Bool.and_eq_true, decide_eq_true_eq] at c2; obtain ⟨n1, n2, n3⟩ := nb2 (b := ((s.get! 0).toNat)) (by omega)
    refine wp_seq ?_
    refine rg a7 s7 [(Ty.int (2 : Int))] ok7 ⟨?_, trivial⟩ ?_
    · intro A B E G H; exact rP (y_assign rfl)
    intro a9 s8 D8; have ok8 := D8.ok; have F8 := F7.step0 D8.stp; have q22 := D8.kt q17 rfl; have q23 := D8.kt q18 rfl; have q24 := D8.dn 0 rfl rfl; clear D8; refine tn ?_; refine wp_seq ?_
    refine rg a9 s8 [(Ty.nat ((s.get! 0).toNat)), (Ty.int (((((s.get! 0).toNat) : Nat) : Int) - (192 : Int))), (Ty.int (((((s.get! 0).toNat) : Nat) : Int) - (192 : Int)))] ok8 ⟨?_, ?_, ?_, trivial⟩ ?_
    · intro A B E G H; exact rP (y_move (kp (H 4 rfl) E q23))
    · intro A B E G H d0; exact rP (y_sub (ed d0 rfl rfl rfl) rfl (w64 (by omega) (by omega)))
    · intro A B E G H d0 d1 d2; exact rP (y_assign (ed d0 rfl rfl rfl))
    intro a10 s9 D9; have ok9 := D9.ok; have F9 := F8.step0 D9.stp; have q25 := D9.kt q22 rfl; have q26 := D9.kt q24 rfl; have q27 := D9.dn 2 rfl rfl; clear D9; refine tn ?_
    refine rg a10 s9 [(Ty.int (128 : Int))] ok9 ⟨?_, trivial⟩ ?_
    · intro A B E G H; exact rP (y_assign rfl)
    intro a11 s10 D10; have ok10 := D10.ok; have F10 := F9.step0 D10.stp; have q28 := D10.kt q25 rfl; have q29 := D10.kt q26 rfl; have q30 := D10.kt q27 rfl; have q31 := D10.dn 0 rfl rfl; clear D10
    exact tn ⟨s10, rfl, F10, ok10, (cvi (by (first | rfl | omega | (simp_all; done) | (simp_all; omega))) q29), (cvi (by (first | rfl | omega | (simp_all; done) | (simp_all; omega))) q30), (cvi (by (first | rfl | omega | (simp_all; done) | (simp_all; omega))) q31), q28, trivial⟩
   ·
    simp only [Bool.and_eq_false_iff, decide_eq_false_iff_not] at c2; have k1 : ¬ (194 ≤ ((s.get! 0).toNat) ∧ ((s.get! 0).toNat) < 224) := (by omega)
    refine wp_seq ?_
    refine rg a7 s7 [(Ty.nat ((s.get! 0).toNat)), (Ty.bool (decide ((224 : Int) ≤ ((((s.get! 0).toNat) : Nat) : Int)))), (Ty.bool (decide ((224 : Int) ≤ ((((s.get! 0).toNat) : Nat) : Int)))), (Ty.grd ((decide ((224 : Int) ≤ ((((s.get! 0).toNat) : Nat) : Int))) = true) (Ty.nat ((s.get! 0).toNat))), (Ty.grd ((decide ((224 : Int) ≤ ((((s.get! 0).toNat) : Nat) : Int))) = true) (Ty.bool (decide (((((s.get! 0).toNat) : Nat) : Int) < (240 : Int))))), (Ty.bool ((decide ((224 : Int) ≤ ((((s.get! 0).toNat) : Nat) : Int))) && (decide (((((s.get! 0).toNat) : Nat) : Int) < (240 : Int)))))] ok7 ⟨?_, ?_, ?_, ?_, ?_, ?_, trivial⟩ ?_
    · intro A B E G H; exact rP (y_move (kp (H 4 rfl) E q18))
    · intro A B E G H d0; exact rP (y_geq (ed d0 rfl rfl rfl) rfl)
    · intro A B E G H d0; exact rP (y_move (ed d0 rfl rfl rfl))
    · intro A B E G H d0
      refine run_guard G rfl rfl (by decide) (ed d0 rfl rfl rfl) (fun hg => ?_)
      have hp := of_decide_eq_true hg
      exact y_move (kp (H 4 rfl) E q18)
    · intro A B E G H d0 d1
      refine run_guard G rfl rfl (by decide) (ed d1 rfl rfl rfl) (fun hg => ?_)
      have hp := of_decide_eq_true hg
      exact y_lss ((ed d0 rfl rfl rfl).1 hg) rfl
    · intro A B E G H d0 d1; exact rP (y_pick_and (ed d0 rfl rfl rfl) (ed d1 rfl rfl rfl) rfl)
    intro a12 s11 D11; have ok11 := D11.ok; have F11 := F7.step0 D11.stp; have q32 := D11.kt q17 rfl; have q33 := D11.kt q18 rfl; have q34 := D11.kt q19 rfl; have q35 := D11.kt q20 rfl; have q36 := D11.dn 5 rfl rfl; clear D11; refine tn ?_
    refine cond_t q36 (fun c3 => ?_) (fun c3 => ?_)
    ·
     obtain ⟨d3, d4⟩ := Bool.and_eq_true_iff.mp c3
     replace d3 := of_decide_eq_true d3
     replace d4 := of_decide_eq_true d4
     simp only [Bool.and_eq_true, decide_eq_true_eq] at c3; obtain ⟨n1, n2, n3⟩ := nb3 (b := ((s.get! 0).toNat)) (by omega)
     refine wp_seq ?_
     refine rg a12 s11 [(Ty.int (3 : Int))] ok11 ⟨?_, trivial⟩ ?_
     · intro A B E G H; exact rP (y_assign rfl)
     intro a13 s12 D12; have ok12 := D12.ok; have F12 := F11.step0 D12.stp; have q37 := D12.kt q32 rfl; have q38 := D12.kt q33 rfl; have q39 := D12.dn 0 rfl rfl; clear D12; refine tn ?_; refine wp_seq ?_
     refine rg a13 s12 [(Ty.nat ((s.get! 0).toNat)), (Ty.int (((((s.get! 0).toNat) : Nat) : Int) - (224 : Int))), (Ty.int (((((s.get! 0).toNat) : Nat) : Int) - (224 : Int)))] ok12 ⟨?_, ?_, ?_, trivial⟩ ?_
     · intro A B E G H; exact rP (y_move (kp (H 4 rfl) E q38))
     · intro A B E G H d0; exact rP (y_sub (ed d0 rfl rfl rfl) rfl (w64 (by omega) (by omega)))
     · intro A B E G H d0 d1 d2; exact rP (y_assign (ed d0 rfl rfl rfl))
     intro a14 s13 D13; have ok13 := D13.ok; have F13 := F12.step0 D13.stp; have q40 := D13.kt q37 rfl; have q41 := D13.kt q39 rfl; have q42 := D13.dn 2 rfl rfl; clear D13; refine tn ?_
     refine rg a14 s13 [(Ty.int (2048 : Int))] ok13 ⟨?_, trivial⟩ ?_
     · intro A B E G H; exact rP (y_assign rfl)
     intro a15 s14 D14; have ok14 := D14.ok; have F14 := F13.step0 D14.stp; have q43 := D14.kt q40 rfl; have q44 := D14.kt q41 rfl; have q45 := D14.kt q42 rfl; have q46 := D14.dn 0 rfl rfl; clear D14
     exact tn ⟨s14, rfl, F14, ok14, (cvi (by (first | rfl | omega | (simp_all; done) | (simp_all; omega))) q44), (cvi (by (first | rfl | omega | (simp_all; done) | (simp_all; omega))) q45), (cvi (by (first | rfl | omega | (simp_all; done) | (simp_all; omega))) q46), q43, trivial⟩
    ·
     simp only [Bool.and_eq_false_iff, decide_eq_false_iff_not] at c3; have k2 : ¬ (224 ≤ ((s.get! 0).toNat) ∧ ((s.get! 0).toNat) < 240) := (by omega)
     refine wp_seq ?_
     refine rg a12 s11 [(Ty.nat ((s.get! 0).toNat)), (Ty.bool (decide ((240 : Int) ≤ ((((s.get! 0).toNat) : Nat) : Int)))), (Ty.bool (decide ((240 : Int) ≤ ((((s.get! 0).toNat) : Nat) : Int)))), (Ty.grd ((decide ((240 : Int) ≤ ((((s.get! 0).toNat) : Nat) : Int))) = true) (Ty.nat ((s.get! 0).toNat))), (Ty.grd ((decide ((240 : Int) ≤ ((((s.get! 0).toNat) : Nat) : Int))) = true) (Ty.bool (decide (((((s.get! 0).toNat) : Nat) : Int) < (245 : Int))))), (Ty.bool ((decide ((240 : Int) ≤ ((((s.get! 0).toNat) : Nat) : Int))) && (decide (((((s.get! 0).toNat) : Nat) : Int) < (245 : Int)))))] ok11 ⟨?_, ?_, ?_, ?_, ?_, ?_, trivial⟩ ?_
     · intro A B E G H; exact rP (y_move (kp (H 4 rfl) E q33))
     · intro A B E G H d0; exact rP (y_geq (ed d0 rfl rfl rfl) rfl)
     · intro A B E G H d0; exact rP (y_move (ed d0 rfl rfl rfl))
     · intro A B E G H d0
       refine run_guard G rfl rfl (by decide) (ed d0 rfl rfl rfl) (fun hg => ?_)
       have hp := of_decide_eq_true hg
       exact y_move (kp (H 4 rfl) E q33)
     · intro A B E G H d0 d1
       refine run_guard G rfl rfl (by decide) (ed d1 rfl rfl rfl) (fun hg => ?_)
       have hp := of_decide_eq_true hg
       exact y_lss ((ed d0 rfl rfl rfl).1 hg) rfl
     · intro A B E G H d0 d1; exact rP (y_pick_and (ed d0 rfl rfl rfl) (ed d1 rfl rfl rfl) rfl)
     intro a16 s15 D15; have ok15 := D15.ok; have F15 := F11.step0 D15.stp; have q47 := D15.kt q32 rfl; have q48 := D15.kt q33 rfl; have q49 := D15.kt q34 rfl; have q50 := D15.kt q35 rfl; have q51 := D15.dn 5 rfl rfl; clear D15; refine tn ?_
     refine cond_t q51 (fun c4 => ?_) (fun c4 => ?_)
     ·
      obtain ⟨d5, d6⟩ := Bool.and_eq_true_iff.mp c4
      replace d5 := of_decide_eq_true d5
      replace d6 := of_decide_eq_true d6
      simp only [Bool.and_eq_true, decide_eq_true_eq] at c4; obtain ⟨n1, n2, n3⟩ := nb4 (b := ((s.get! 0).toNat)) (by omega)
      refine wp_seq ?_
      refine rg a16 s15 [(Ty.int (4 : Int))] ok15 ⟨?_, trivial⟩ ?_
      · intro A B E G H; exact rP (y_assign rfl)
      intro a17 s16 D16; have ok16 := D16.ok; have F16 := F15.step0 D16.stp; have q52 := D16.kt q47 rfl; have q53 := D16.kt q48 rfl; have q54 := D16.dn 0 rfl rfl; clear D16; refine tn ?_; refine wp_seq ?_
      refine rg a17 s16 [(Ty.nat ((s.get! 0).toNat)), (Ty.int (((((s.get! 0).toNat) : Nat) : Int) - (240 : Int))), (Ty.int (((((s.get! 0).toNat) : Nat) : Int) - (240 : Int)))] ok16 ⟨?_, ?_, ?_, trivial⟩ ?_
      · intro A B E G H; exact rP (y_move (kp (H 4 rfl) E q53))
      · intro A B E G H d0; exact rP (y_sub (ed d0 rfl rfl rfl) rfl (w64 (by omega) (by omega)))
      · intro A B E G H d0 d1 d2; exact rP (y_assign (ed d0 rfl rfl rfl))
      intro a18 s17 D17; have ok17 := D17.ok; have F17 := F16.step0 D17.stp; have q55 := D17.kt q52 rfl; have q56 := D17.kt q54 rfl; have q57 := D17.dn 2 rfl rfl; clear D17; refine tn ?_
      refine rg a18 s17 [(Ty.int (65536 : Int))] ok17 ⟨?_, trivial⟩ ?_
      · intro A B E G H; exact rP (y_assign rfl)
      intro a19 s18 D18; have ok18 := D18.ok; have F18 := F17.step0 D18.stp; have q58 := D18.kt q55 rfl; have q59 := D18.kt q56 rfl; have q60 := D18.kt q57 rfl; have q61 := D18.dn 0 rfl rfl; clear D18
      exact tn ⟨s18, rfl, F18, ok18, (cvi (by (first | rfl | omega | (simp_all; done) | (simp_all; omega))) q59), (cvi (by (first | rfl | omega | (simp_all; done) | (simp_all; omega))) q60), (cvi (by (first | rfl | omega | (simp_all; done) | (simp_all; omega))) q61), q58, trivial⟩
     ·
      simp only [Bool.and_eq_false_iff, decide_eq_false_iff_not] at c4; have k3 : ¬ (240 ≤ ((s.get! 0).toNat) ∧ ((s.get! 0).toNat) < 245) := (by omega); obtain ⟨n1, n2, n3⟩ := nb0 k1 k2 k3
      refine wp_skip ?_
      exact tn ⟨s15, rfl, F15, ok15, (cvi (by (first | rfl | omega | (simp_all; done) | (simp_all; omega))) q49), (cvi (by (first | rfl | omega | (simp_all; done) | (simp_all; omega))) q48), (cvi (by (first | rfl | omega | (simp_all; done) | (simp_all; omega))) q50), q47, trivial⟩
  ·
   rintro a20 w2 ⟨t2, rfl, F19, ok19, q62, q63, q64, q65, -⟩
   refine wp_seq ?_; refine wp_seq ?_
   refine reg (a := a20) (σ := t2) rfl (fun i_ => List.getD [(Ty.pr (Ty.nat (nB ((s.get! 0).toNat)))), (Ty.pr (Ty.bool (decide ((((nB ((s.get! 0).toNat)) : Nat) : Int) = (0 : Int))))), (Ty.pr (Ty.bool (decide ((((nB ((s.get! 0).toNat)) : Nat) : Int) = (0 : Int))))), (Ty.pr (Ty.grd ((decide ((((nB ((s.get! 0).toNat)) : Nat) : Int) = (0 : Int))) = false) (Ty.val (Value.string s)))), (Ty.pr (Ty.grd ((decide ((((nB ((s.get! 0).toNat)) : Nat) : Int) = (0 : Int))) = false) (Ty.nat (ByteArray.size s)))), (Ty.pr (Ty.grd ((decide ((((nB ((s.get! 0).toNat)) : Nat) : Int) = (0 : Int))) = false) (Ty.nat (nB ((s.get! 0).toNat))))), (Ty.pr (Ty.grd ((decide ((((nB ((s.get! 0).toNat)) : Nat) : Int) = (0 : Int))) = false) (Ty.bool (decide ((((ByteArray.size s) : Nat) : Int) < (((nB ((s.get! 0).toNat)) : Nat) : Int)))))), (Ty.pr (Ty.bool ((decide ((((nB ((s.get! 0).toNat)) : Nat) : Int) = (0 : Int))) || (decide ((((ByteArray.size s) : Nat) : Int) < (((nB ((s.get! 0).toNat)) : Nat) : Int))))))] i_ Pr.any) ok19 rfl ⟨?_, ?_, ?_, ?_, ?_, ?_, ?_, ?_, trivial⟩ ?_
   · intro A B E G H; exact rP (y_move (kp (H 5 rfl) E q62))
   · intro A B E G H d0; exact rP (y_eql (ed d0 rfl rfl rfl) rfl)
   · intro A B E G H d0; exact rP (y_move (ed d0 rfl rfl rfl))
   · intro A B E G H d0
     refine run_guard G rfl rfl (by decide) (ed d0 rfl rfl rfl) (fun hg => ?_)
     have hp := of_decide_eq_false hg
     exact y_move (kp (H 0 rfl) E q65)
   · intro A B E G H d0 d1
     refine run_guard G rfl rfl (by decide) (ed d1 rfl rfl rfl) (fun hg => ?_)
     have hp := of_decide_eq_false hg
     exact y_len_str Try.underlying9 ((ed d0 rfl rfl rfl).1 hg)
   · intro A B E G H d0
     refine run_guard G rfl rfl (by decide) (ed d0 rfl rfl rfl) (fun hg => ?_)
     have hp := of_decide_eq_false hg
     exact y_move (kp (H 5 rfl) E q62)
   · intro A B E G H d0 d1 d2
     refine run_guard G rfl rfl (by decide) (ed d2 rfl rfl rfl) (fun hg => ?_)
     have hp := of_decide_eq_false hg
     exact y_lss ((ed d0 rfl rfl rfl).1 hg) ((ed d1 rfl rfl rfl).1 hg)
   · intro A B E G H d0 d1; exact rP (y_pick_or (ed d0 rfl rfl rfl) rfl (ed d1 rfl rfl rfl))
   intro a21 s19 D19; have ok20 := D19.ok; have F20 := F19.step0 D19.stp; have q66 := D19.kt q62 rfl; have q67 := D19.kt q63 rfl; have q68 := D19.kt q64 rfl; have q69 := D19.kt q65 rfl; have q70 := D19.dn 7 rfl rfl; clear D19; refine tn ?_
   refine cond_t q70 (fun c5 => ?_) (fun c5 => ?_)
   ·
    simp only [Bool.or_eq_true, decide_eq_true_eq] at c5
    refine wp_seq ?_
    refine rg a21 s19 [(Ty.int (-1 : Int)), (Ty.int (1 : Int))] ok20 ⟨?_, ?_, trivial⟩ ?_
    · intro A B E G H; exact rP (y_assign rfl)
    · intro A B E G H d0 d1; exact rP (y_assign rfl)
    intro a22 s20 D20; have ok21 := D20.ok; have F21 := F20.step0 D20.stp; have q71 := D20.dn 0 rfl rfl; have q72 := D20.dn 1 rfl rfl; clear D20; refine tn ?_; refine wp_ret ?_; refine tr ?_
    exact retL2 rfl ok21 F21 (hasT2 (cvi (by (exact (rn_short (by omega) (by omega) E).1.symm)) q71) (cvi (by (have := (rn_short (s := s) (by omega) (by omega) E).2; omega)) q72))
   ·
    obtain ⟨d7, d8⟩ := Bool.or_eq_false_iff.mp c5
    replace d7 := of_decide_eq_false d7
    replace d8 := of_decide_eq_false d8
    simp only [Bool.or_eq_false_iff, decide_eq_false_iff_not] at c5; have h0 : nB ((s.get! 0).toNat) ≠ 0 := (by omega); have hsz : nB ((s.get! 0).toNat) ≤ s.size := (by omega); have hcb := hnb.2 h0
    refine wp_skip ?_; refine tn ?_; refine wp_seq ?_; refine wp_seq ?_
    refine rg a21 s19 [(Ty.int (1 : Int))] ok20 ⟨?_, trivial⟩ ?_
    · intro A B E G H; exact rP (y_assign rfl)
    intro a23 s21 D21; have ok22 := D21.ok; have F22 := F20.step0 D21.stp; have q73 := D21.kt q66 rfl; have q74 := D21.kt q67 rfl; have q75 := D21.kt q68 rfl; have q76 := D21.kt q69 rfl; have q77 := D21.dn 0 rfl rfl; clear D21; refine tn ?_; refine wp_block ?_
    refine loop (fun n1 a24 w3 => ∃ (t3 : GW) (j : Nat), t3.w = w3 ∧ FromL [] s0 t3 ∧ Ok 86 a24 ∧ At (Ty.nat (j + 1)) t3 a24 (.tmp 7) ∧ At (Ty.nat (accR s (cB ((s.get! 0).toNat)) j)) t3 a24 (.tmp 4) ∧ At (Ty.nat (nB ((s.get! 0).toNat))) t3 a24 (.tmp 5) ∧ At (Ty.nat (lowB ((s.get! 0).toNat))) t3 a24 (.tmp 6) ∧ At (Ty.val (Value.string s)) t3 a24 (.tmp 0) ∧ (j + 1 ≤ nB ((s.get! 0).toNat)) ∧ (∀ i, i < j → 128 ≤ (s.get! (i + 1)).toNat ∧ (s.get! (i + 1)).toNat < 192) ∧ n1 = nB ((s.get! 0).toNat) - j) (nB ((s.get! 0).toNat) - (0)) ?_ ?_
    ·
     exact ⟨s21, 0, rfl, F22, ok22, (cvi (by (rfl)) q77), (cvi (by (rfl)) q74), q73, q75, q76, by omega, fun j hj => absurd hj (Nat.not_lt_zero j), rfl⟩
    ·
     rintro n2 a25 w4 ⟨t4, j, rfl, F23, ok23, q78, q79, q80, q81, q82, hj, hc, rfl⟩
     have hab := acc_bd (s := s) (c := cB ((s.get! 0).toNat)) (by omega) hc (by omega)
     have hbk := UInt8.toNat_lt (s.get! (j + 1))
     refine wp_seq ?_; refine wp_seq ?_
     refine reg (a := a25) (σ := t4) rfl (fun i_ => List.getD [(Ty.pr (Ty.nat (j + 1))), (Ty.pr (Ty.nat (nB ((s.get! 0).toNat)))), (Ty.pr (Ty.bool (decide ((((j + 1) : Nat) : Int) < (((nB ((s.get! 0).toNat)) : Nat) : Int)))))] i_ Pr.any) ok23 rfl ⟨?_, ?_, ?_, trivial⟩ ?_
     · intro A B E G H; exact rP (y_move (kp (H 7 rfl) E q78))
     · intro A B E G H; exact rP (y_move (kp (H 5 rfl) E q80))
     · intro A B E G H d0 d1; exact rP (y_lss (ed d0 rfl rfl rfl) (ed d1 rfl rfl rfl))
     intro a26 s22 D22; have ok24 := D22.ok; have F24 := F23.step0 D22.stp; have q83 := D22.kt q78 rfl; have q84 := D22.kt q79 rfl; have q85 := D22.kt q80 rfl; have q86 := D22.kt q81 rfl; have q87 := D22.kt q82 rfl; have q88 := D22.dn 2 rfl rfl; clear D22; refine tn ?_
     refine cond_p (p := ((((j + 1) : Nat) : Int) < (((nB ((s.get! 0).toNat)) : Nat) : Int))) q88 (fun c6 => ?_) (fun c6 => ?_)
     ·
      refine wp_skip ?_; refine tn ?_; refine wp_seq ?_; refine wp_block ?_; refine wp_seq ?_; refine wp_seq ?_
      refine rg a26 s22 [(Ty.val (Value.string s)), (Ty.nat (j + 1)), (Ty.val (Value.int .u8 (((s.get! (j + 1)).toNat : Nat) : Int))), (Ty.bool (decide ((((s.get! (j + 1)).toNat : Nat) : Int) < (128 : Int)))), (Ty.bool (decide ((((s.get! (j + 1)).toNat : Nat) : Int) < (128 : Int)))), (Ty.grd ((decide ((((s.get! (j + 1)).toNat : Nat) : Int) < (128 : Int))) = false) (Ty.val (Value.string s))), (Ty.grd ((decide ((((s.get! (j + 1)).toNat : Nat) : Int) < (128 : Int))) = false) (Ty.nat (j + 1))), (Ty.grd ((decide ((((s.get! (j + 1)).toNat : Nat) : Int) < (128 : Int))) = false) (Ty.val (Value.int .u8 (((s.get! (j + 1)).toNat : Nat) : Int)))), (Ty.grd ((decide ((((s.get! (j + 1)).toNat : Nat) : Int) < (128 : Int))) = false) (Ty.bool (decide ((192 : Int) ≤ (((s.get! (j + 1)).toNat : Nat) : Int))))), (Ty.bool ((decide ((((s.get! (j + 1)).toNat : Nat) : Int) < (128 : Int))) || (decide ((192 : Int) ≤ (((s.get! (j + 1)).toNat : Nat) : Int)))))] ok24 ⟨?_, ?_, ?_, ?_, ?_, ?_, ?_, ?_, ?_, ?_, trivial⟩ ?_
      · intro A B E G H; exact rP (y_move (kp (H 0 rfl) E q87))
      · intro A B E G H; exact rP (y_move (kp (H 7 rfl) E q83))
      · intro A B E G H d0 d1; exact rP (y_sindex Try.underlying9 (ed d0 rfl rfl rfl) (ed d1 rfl rfl rfl) (by omega) (by omega))
      · intro A B E G H d0; exact rP (y_lss (ed d0 rfl rfl rfl) rfl)
      · intro A B E G H d0; exact rP (y_move (ed d0 rfl rfl rfl))
      · intro A B E G H d0
        refine run_guard G rfl rfl (by decide) (ed d0 rfl rfl rfl) (fun hg => ?_)
        have hp := of_decide_eq_false hg
        exact y_move (kp (H 0 rfl) E q87)
      · intro A B E G H d0
        refine run_guard G rfl rfl (by decide) (ed d0 rfl rfl rfl) (fun hg => ?_)
        have hp := of_decide_eq_false hg
        exact y_move (kp (H 7 rfl) E q83)
      · intro A B E G H d0 d1 d2
        refine run_guard G rfl rfl (by decide) (ed d2 rfl rfl rfl) (fun hg => ?_)
        have hp := of_decide_eq_false hg
        exact y_sindex Try.underlying9 ((ed d0 rfl rfl rfl).1 hg) ((ed d1 rfl rfl rfl).1 hg) (by omega) (by omega)
      · intro A B E G H d0 d1
        refine run_guard G rfl rfl (by decide) (ed d1 rfl rfl rfl) (fun hg => ?_)
        have hp := of_decide_eq_false hg
        exact y_geq ((ed d0 rfl rfl rfl).1 hg) rfl
      · intro A B E G H d0 d1; exact rP (y_pick_or (ed d0 rfl rfl rfl) rfl (ed d1 rfl rfl rfl))
      intro a27 s23 D23; have ok25 := D23.ok; have F25 := F24.step0 D23.stp; have q89 := D23.kt q83 rfl; have q90 := D23.kt q84 rfl; have q91 := D23.kt q85 rfl; have q92 := D23.kt q86 rfl; have q93 := D23.kt q87 rfl; have q94 := D23.dn 9 rfl rfl; clear D23; refine tn ?_
      refine cond_t q94 (fun c7 => ?_) (fun c7 => ?_)
      ·
       simp only [Bool.or_eq_true, decide_eq_true_eq] at c7
       refine wp_seq ?_
       refine rg a27 s23 [(Ty.int (-1 : Int)), (Ty.int (1 : Int))] ok25 ⟨?_, ?_, trivial⟩ ?_
       · intro A B E G H; exact rP (y_assign rfl)
       · intro A B E G H d0 d1; exact rP (y_assign rfl)
       intro a28 s24 D24; have ok26 := D24.ok; have F26 := F25.step0 D24.stp; have q95 := D24.dn 0 rfl rfl; have q96 := D24.dn 1 rfl rfl; clear D24; refine tn ?_; refine wp_ret ?_; refine tr ?_; refine br ?_; refine tr ?_; refine tr ?_; refine br ?_; refine tr ?_
       exact retL2 rfl ok26 F26 (hasT2 (cvi (by (exact (rn_cont (j := j) (by omega) (by omega)).1.symm)) q95) (cvi (by (have := (rn_cont (s := s) (j := j) (by omega) (by omega)).2; omega)) q96))
      ·
       obtain ⟨d9, d10⟩ := Bool.or_eq_false_iff.mp c7
       replace d9 := of_decide_eq_false d9
       replace d10 := of_decide_eq_false d10
       simp only [Bool.or_eq_false_iff, decide_eq_false_iff_not] at c7
       refine wp_skip ?_; refine tn ?_
       refine rg a27 s23 [(Ty.nat (accR s (cB ((s.get! 0).toNat)) j)), (Ty.nat ((accR s (cB ((s.get! 0).toNat)) j) * 64)), (Ty.val (Value.string s)), (Ty.nat (j + 1)), (Ty.val (Value.int .u8 (((s.get! (j + 1)).toNat : Nat) : Int))), (Ty.nat (s.get! (j + 1)).toNat), (Ty.nat (((accR s (cB ((s.get! 0).toNat)) j) * 64) + (s.get! (j + 1)).toNat)), (Ty.int ((((((accR s (cB ((s.get! 0).toNat)) j) * 64) + (s.get! (j + 1)).toNat) : Nat) : Int) - (128 : Int))), (Ty.int ((((((accR s (cB ((s.get! 0).toNat)) j) * 64) + (s.get! (j + 1)).toNat) : Nat) : Int) - (128 : Int)))] ok25 ⟨?_, ?_, ?_, ?_, ?_, ?_, ?_, ?_, ?_, trivial⟩ ?_
       · intro A B E G H; exact rP (y_move (kp (H 4 rfl) E q90))
       · intro A B E G H d0; exact rP ((y_mul (ed d0 rfl rfl rfl) rfl (w64 (by omega) (by omega))).mono (fun τ _ h => cvi (σ := τ) (by first | omega | exact (Int.natCast_mul _ _).symm) h))
       · intro A B E G H; exact rP (y_move (kp (H 0 rfl) E q93))
       · intro A B E G H; exact rP (y_move (kp (H 7 rfl) E q89))
       · intro A B E G H d0 d1; exact rP (y_sindex Try.underlying9 (ed d0 rfl rfl rfl) (ed d1 rfl rfl rfl) (by omega) (by omega))
       · intro A B E G H d0; exact rP (y_conv Try.underlying3 (ed d0 rfl rfl rfl) (by exact w64 (by omega) (by omega)) (by rw [Try.underlying5]; rfl))
       · intro A B E G H d0 d1; exact rP ((y_add (ed d0 rfl rfl rfl) (ed d1 rfl rfl rfl) (w64 (by omega) (by omega))).mono (fun τ _ h => cvi (σ := τ) (by first | omega | exact (Int.natCast_mul _ _).symm) h))
       · intro A B E G H d0; exact rP (y_sub (ed d0 rfl rfl rfl) rfl (w64 (by omega) (by omega)))
       · intro A B E G H d0 d1 d2 d3 d4 d5 d6 d7 d8; exact rP (y_assign (ed d0 rfl rfl rfl))
       intro a29 s25 D25; have ok27 := D25.ok; have F27 := F25.step0 D25.stp; have q97 := D25.kt q89 rfl; have q98 := D25.kt q91 rfl; have q99 := D25.kt q92 rfl; have q100 := D25.kt q93 rfl; have q101 := D25.dn 8 rfl rfl; clear D25; refine bn ?_; refine tn ?_
       refine rg a29 s25 [(Ty.nat (j + 1)), (Ty.nat ((j + 1) + 1)), (Ty.nat ((j + 1) + 1))] ok27 ⟨?_, ?_, ?_, trivial⟩ ?_
       · intro A B E G H; exact rP (y_move (kp (H 7 rfl) E q97))
       · intro A B E G H d0; exact rP ((y_add (ed d0 rfl rfl rfl) rfl (w64 (by omega) (by omega))).mono (fun τ _ h => cvi (σ := τ) (by first | omega | exact (Int.natCast_mul _ _).symm) h))
       · intro A B E G H d0 d1 d2; exact rP (y_assign (ed d0 rfl rfl rfl))
       intro a30 s26 D26; have ok28 := D26.ok; have F28 := F27.step0 D26.stp; have q102 := D26.kt q98 rfl; have q103 := D26.kt q99 rfl; have q104 := D26.kt q100 rfl; have q105 := D26.kt q101 rfl; have q106 := D26.dn 2 rfl rfl; clear D26
       have hac : accR s (cB ((s.get! 0).toNat)) (j + 1) = accR s (cB ((s.get! 0).toNat)) j * 64 + ((s.get! (j + 1)).toNat - 128) := rfl
       exact tn ⟨nB ((s.get! 0).toNat) - ((j + 1)), by omega, s26, (j + 1), rfl, F28, ok28, (cvi (by (first | rfl | omega | (simp_all; done) | (simp_all; omega))) q106), (cvi (by (first | rfl | omega | (simp_all; done) | (simp_all; omega))) q105), q102, q103, q104, by omega, acc_snoc hc (by omega) (by omega), rfl⟩
     ·
      have hje : j + 1 = nB ((s.get! 0).toNat) := (by omega)
      refine wp_exit ?_; refine tx ?_; refine tx ?_; refine bx ?_; refine tn ?_; refine wp_seq ?_; refine wp_seq ?_
      refine rg a26 s22 [(Ty.nat (accR s (cB ((s.get! 0).toNat)) j)), (Ty.nat (lowB ((s.get! 0).toNat))), (Ty.bool (decide ((((accR s (cB ((s.get! 0).toNat)) j) : Nat) : Int) < (((lowB ((s.get! 0).toNat)) : Nat) : Int)))), (Ty.bool (decide ((((accR s (cB ((s.get! 0).toNat)) j) : Nat) : Int) < (((lowB ((s.get! 0).toNat)) : Nat) : Int)))), (Ty.grd ((decide ((((accR s (cB ((s.get! 0).toNat)) j) : Nat) : Int) < (((lowB ((s.get! 0).toNat)) : Nat) : Int))) = false) (Ty.nat (accR s (cB ((s.get! 0).toNat)) j))), (Ty.grd ((decide ((((accR s (cB ((s.get! 0).toNat)) j) : Nat) : Int) < (((lowB ((s.get! 0).toNat)) : Nat) : Int))) = false) (Ty.bool (decide ((1114111 : Int) < (((accR s (cB ((s.get! 0).toNat)) j) : Nat) : Int))))), (Ty.bool ((decide ((((accR s (cB ((s.get! 0).toNat)) j) : Nat) : Int) < (((lowB ((s.get! 0).toNat)) : Nat) : Int))) || (decide ((1114111 : Int) < (((accR s (cB ((s.get! 0).toNat)) j) : Nat) : Int))))), (Ty.bool ((decide ((((accR s (cB ((s.get! 0).toNat)) j) : Nat) : Int) < (((lowB ((s.get! 0).toNat)) : Nat) : Int))) || (decide ((1114111 : Int) < (((accR s (cB ((s.get! 0).toNat)) j) : Nat) : Int))))), (Ty.grd (((decide ((((accR s (cB ((s.get! 0).toNat)) j) : Nat) : Int) < (((lowB ((s.get! 0).toNat)) : Nat) : Int))) || (decide ((1114111 : Int) < (((accR s (cB ((s.get! 0).toNat)) j) : Nat) : Int)))) = false) (Ty.nat (accR s (cB ((s.get! 0).toNat)) j))), (Ty.grd (((decide ((((accR s (cB ((s.get! 0).toNat)) j) : Nat) : Int) < (((lowB ((s.get! 0).toNat)) : Nat) : Int))) || (decide ((1114111 : Int) < (((accR s (cB ((s.get! 0).toNat)) j) : Nat) : Int)))) = false) (Ty.bool (decide ((55296 : Int) ≤ (((accR s (cB ((s.get! 0).toNat)) j) : Nat) : Int))))), (Ty.grd (((decide ((((accR s (cB ((s.get! 0).toNat)) j) : Nat) : Int) < (((lowB ((s.get! 0).toNat)) : Nat) : Int))) || (decide ((1114111 : Int) < (((accR s (cB ((s.get! 0).toNat)) j) : Nat) : Int)))) = false) (Ty.bool (decide ((55296 : Int) ≤ (((accR s (cB ((s.get! 0).toNat)) j) : Nat) : Int))))), (Ty.grd ((((decide ((((accR s (cB ((s.get! 0).toNat)) j) : Nat) : Int) < (((lowB ((s.get! 0).toNat)) : Nat) : Int))) || (decide ((1114111 : Int) < (((accR s (cB ((s.get! 0).toNat)) j) : Nat) : Int)))) = false) ∧ (decide ((55296 : Int) ≤ (((accR s (cB ((s.get! 0).toNat)) j) : Nat) : Int))) = true) (Ty.nat (accR s (cB ((s.get! 0).toNat)) j))), (Ty.grd ((((decide ((((accR s (cB ((s.get! 0).toNat)) j) : Nat) : Int) < (((lowB ((s.get! 0).toNat)) : Nat) : Int))) || (decide ((1114111 : Int) < (((accR s (cB ((s.get! 0).toNat)) j) : Nat) : Int)))) = false) ∧ (decide ((55296 : Int) ≤ (((accR s (cB ((s.get! 0).toNat)) j) : Nat) : Int))) = true) (Ty.bool (decide ((((accR s (cB ((s.get! 0).toNat)) j) : Nat) : Int) < (57344 : Int))))), (Ty.grd (((decide ((((accR s (cB ((s.get! 0).toNat)) j) : Nat) : Int) < (((lowB ((s.get! 0).toNat)) : Nat) : Int))) || (decide ((1114111 : Int) < (((accR s (cB ((s.get! 0).toNat)) j) : Nat) : Int)))) = false) (Ty.bool ((decide ((55296 : Int) ≤ (((accR s (cB ((s.get! 0).toNat)) j) : Nat) : Int))) && (decide ((((accR s (cB ((s.get! 0).toNat)) j) : Nat) : Int) < (57344 : Int)))))), (Ty.bool (((decide ((((accR s (cB ((s.get! 0).toNat)) j) : Nat) : Int) < (((lowB ((s.get! 0).toNat)) : Nat) : Int))) || (decide ((1114111 : Int) < (((accR s (cB ((s.get! 0).toNat)) j) : Nat) : Int)))) || ((decide ((55296 : Int) ≤ (((accR s (cB ((s.get! 0).toNat)) j) : Nat) : Int))) && (decide ((((accR s (cB ((s.get! 0).toNat)) j) : Nat) : Int) < (57344 : Int))))))] ok24 ⟨?_, ?_, ?_, ?_, ?_, ?_, ?_, ?_, ?_, ?_, ?_, ?_, ?_, ?_, ?_, trivial⟩ ?_
      · intro A B E G H; exact rP (y_move (kp (H 4 rfl) E q84))
      · intro A B E G H; exact rP (y_move (kp (H 6 rfl) E q86))
      · intro A B E G H d0 d1; exact rP (y_lss (ed d0 rfl rfl rfl) (ed d1 rfl rfl rfl))
      · intro A B E G H d0; exact rP (y_move (ed d0 rfl rfl rfl))
      · intro A B E G H d0
        refine run_guard G rfl rfl (by decide) (ed d0 rfl rfl rfl) (fun hg => ?_)
        have hp := of_decide_eq_false hg
        exact y_move (kp (H 4 rfl) E q84)
      · intro A B E G H d0 d1
        refine run_guard G rfl rfl (by decide) (ed d1 rfl rfl rfl) (fun hg => ?_)
        have hp := of_decide_eq_false hg
        exact y_gtr ((ed d0 rfl rfl rfl).1 hg) rfl
      · intro A B E G H d0 d1; exact rP (y_pick_or (ed d0 rfl rfl rfl) rfl (ed d1 rfl rfl rfl))
      · intro A B E G H d0 d1; exact rP (y_move (ed d0 rfl rfl rfl))
      · intro A B E G H d0
        refine run_guard G rfl rfl (by decide) (ed d0 rfl rfl rfl) (fun hg => ?_)
        obtain ⟨d11, d12⟩ := Bool.or_eq_false_iff.mp hg
        have d11 := of_decide_eq_false d11
        have d12 := of_decide_eq_false d12
        exact y_move (kp (H 4 rfl) E q84)
      · intro A B E G H d0 d1
        refine run_guard G rfl rfl (by decide) (ed d1 rfl rfl rfl) (fun hg => ?_)
        obtain ⟨d13, d14⟩ := Bool.or_eq_false_iff.mp hg
        have d13 := of_decide_eq_false d13
        have d14 := of_decide_eq_false d14
        exact y_geq ((ed d0 rfl rfl rfl).1 hg) rfl
      · intro A B E G H d0 d1 d2
        refine run_guard G rfl rfl (by decide) (ed d1 rfl rfl rfl) (fun hg => ?_)
        obtain ⟨d15, d16⟩ := Bool.or_eq_false_iff.mp hg
        have d15 := of_decide_eq_false d15
        have d16 := of_decide_eq_false d16
        exact y_move ((ed d0 rfl rfl rfl).1 hg)
      · intro A B E G H d0
        refine run_guard2 G rfl rfl (by decide) (ed d0 rfl rfl rfl) (fun hg => ?_)
        have hp := of_decide_eq_true hg.2
        exact y_move (kp (H 4 rfl) E q84)
      · intro A B E G H d0 d1
        refine run_guard2 G rfl rfl (by decide) (ed d1 rfl rfl rfl) (fun hg => ?_)
        have hp := of_decide_eq_true hg.2
        exact y_lss ((ed d0 rfl rfl rfl).1 hg) rfl
      · intro A B E G H d0 d1 d2
        refine run_guard G rfl rfl (by decide) (ed d2 rfl rfl rfl) (fun hg => ?_)
        obtain ⟨d17, d18⟩ := Bool.or_eq_false_iff.mp hg
        have d17 := of_decide_eq_false d17
        have d18 := of_decide_eq_false d18
        exact y_pick_and ((ed d0 rfl rfl rfl).1 hg) (grd_part hg (ed d1 rfl rfl rfl)) rfl
      · intro A B E G H d0 d1; exact rP (y_pick_or (ed d0 rfl rfl rfl) rfl (ed d1 rfl rfl rfl))
      intro a31 s27 D27; have ok29 := D27.ok; have F29 := F24.step0 D27.stp; have q107 := D27.kt q84 rfl; have q108 := D27.kt q85 rfl; have q109 := D27.dn 14 rfl rfl; clear D27; refine tn ?_
      refine cond_t q109 (fun c8 => ?_) (fun c8 => ?_)
      ·
       simp only [Bool.or_eq_true, Bool.and_eq_true, decide_eq_true_eq] at c8
       refine wp_seq ?_
       refine rg a31 s27 [(Ty.int (-1 : Int)), (Ty.int (1 : Int))] ok29 ⟨?_, ?_, trivial⟩ ?_
       · intro A B E G H; exact rP (y_assign rfl)
       · intro A B E G H d0 d1; exact rP (y_assign rfl)
       intro a32 s28 D28; have ok30 := D28.ok; have F30 := F29.step0 D28.stp; have q110 := D28.dn 0 rfl rfl; have q111 := D28.dn 1 rfl rfl; clear D28; refine tn ?_; refine wp_ret ?_; refine tr ?_
       exact retL2 rfl ok30 F30 (hasT2 (cvi (by (exact (rn_bad h0 hsz hje hc (by omega)).1.symm)) q110) (cvi (by (have := (rn_bad h0 hsz hje hc (by omega)).2; omega)) q111))
      ·
       obtain ⟨d19, d20⟩ := Bool.or_eq_false_iff.mp c8
       obtain ⟨d21, d22⟩ := Bool.or_eq_false_iff.mp d19
       replace d21 := of_decide_eq_false d21
       replace d22 := of_decide_eq_false d22
       simp only [Bool.or_eq_false_iff, Bool.and_eq_false_iff, decide_eq_false_iff_not] at c8
       refine wp_skip ?_; refine tn ?_; refine wp_seq ?_
       refine rg a31 s27 [(Ty.nat (accR s (cB ((s.get! 0).toNat)) j)), (Ty.nat (nB ((s.get! 0).toNat))), (Ty.nat (accR s (cB ((s.get! 0).toNat)) j)), (Ty.nat (nB ((s.get! 0).toNat)))] ok29 ⟨?_, ?_, ?_, ?_, trivial⟩ ?_
       · intro A B E G H; exact rP (y_move (kp (H 4 rfl) E q107))
       · intro A B E G H d0; exact rP (y_move (kp (H 5 rfl) E q108))
       · intro A B E G H d0 d1 d2; exact rP (y_assign (ed d0 rfl rfl rfl))
       · intro A B E G H d0 d1 d2 d3 d4; exact rP (y_assign (ed d0 rfl rfl rfl))
       intro a33 s29 D29; have ok31 := D29.ok; have F31 := F29.step0 D29.stp; have q112 := D29.dn 2 rfl rfl; have q113 := D29.dn 3 rfl rfl; clear D29; refine tn ?_; refine wp_ret ?_
       exact retL2 rfl ok31 F31 (hasT2 (cvi (by (exact (rn_ok h0 hsz hje hc (by omega)).1.symm)) q112) (cvi (by (have := (rn_ok h0 hsz hje hc (by omega)).2; omega)) q113))


set_option maxHeartbeats 4000000 in
set_option maxRecDepth 100000 in
theorem rRunes_fn (s : ByteArray) (σ : GW)  (v0 : Value) (hv0 : Ty.has (Ty.val (Value.string s)) σ v0)  (E : s.size ≤ 17592186044416) :
    FnC Try.prog 45 #[v0] σ (Ty.lst Ty.int (runsL s)) := by
 refine fn_intro0 Try.func45 rfl Try.ntmps45 (Nat.le_of_ble_eq_true rfl) (fun s0 a0 hle F0 ok0 hargs => ?_)
 have p0 : At (Ty.val (Value.string s)) s0 a0 (.tmp 0) := by have e := hargs 0 _ rfl; show Ty.has _ _ _; rw [e]; exact Ty.up _ hle hv0
 clear hargs; refine wp_seq ?_
 refine rg a0 s0 [(Ty.val (Value.slice none 0 0))] ok0 ⟨?_, trivial⟩ ?_
 · intro A B E G H; exact rP (y_assign rfl)
 intro a1 s1 D1; have ok1 := D1.ok; have F1 := F0.step0 D1.stp; have q1 := D1.kt p0 rfl; clear D1; refine tn ?_; refine wp_seq ?_
 refine rg a1 s1 [(Ty.val (Value.slice none 0 0))] ok1 ⟨?_, trivial⟩ ?_
 · intro A B E G H; exact rP (y_assign rfl)
 intro a2 s2 D2; have ok2 := D2.ok; have F2 := F1.step0 D2.stp; have q2 := D2.kt q1 rfl; have q3 := D2.dn 0 rfl rfl; clear D2; refine tn ?_; refine wp_seq ?_; refine wp_block ?_
 have o1 : Own s2 5 3 1 (Value.slice none 0 0) 0 (List.map Ty.int ([] : List Int)) := Own.nil _ _ _ _
 refine loop (fun n1 a3 w1 => ∃ (t1 : GW) (p : Nat) (f : Nat) (xs : List Int) (x3_0 : Value), t1.w = w1 ∧ FromL [] s0 t1 ∧ Ok 22 a3 ∧ At (Ty.val (Value.string (ByteArray.extract s p (ByteArray.size s)))) t1 a3 (.tmp 0) ∧ At (Ty.val x3_0) t1 a3 (.tmp 3) ∧ Own t1 5 3 1 x3_0 (List.length xs) (List.map Ty.int xs) ∧ (xs ++ runsF s f p = runsL s) ∧ (s.size ≤ f + p) ∧ (p ≤ s.size) ∧ (xs.length ≤ p) ∧ n1 = s.size + 1 - p) (s.size + 1 - (0)) ?_ ?_
 ·
  exact ⟨s2, 0, s.size, ([] : List Int), (Value.slice none 0 0), rfl, F2, ok2, (cvt (by (rw [ByteArray.extract_zero_size])) q2), q3, (cvo (by (simp)) (by (simp)) o1), rfl, by omega, by omega, by simp, rfl⟩
 ·
  rintro n2 a4 w2 ⟨t2, p, f, xs, x3_0, rfl, F3, ok3, q4, q5, o2, heq, hf, hp, hx, rfl⟩
  have hez : (ByteArray.extract s p (ByteArray.size s)).size = s.size - p := by rw [ByteArray.size_extract]; omega
  have hw := wid_pos s p
  have her := ext_run s p
  refine wp_seq ?_; refine wp_seq ?_
  refine reg (a := a4) (σ := t2) rfl (fun i_ => List.getD [(Ty.pr (Ty.val (Value.string (ByteArray.extract s p (ByteArray.size s))))), (Ty.pr (Ty.nat (ByteArray.size (ByteArray.extract s p (ByteArray.size s))))), (Ty.pr (Ty.bool (decide ((0 : Int) < (((ByteArray.size (ByteArray.extract s p (ByteArray.size s))) : Nat) : Int)))))] i_ Pr.any) ok3 rfl ⟨?_, ?_, ?_, trivial⟩ ?_
  · intro A B E G H; exact rP (y_move (kp (H 0 rfl) E q4))
  · intro A B E G H d0; exact rP (y_len_str Try.underlying9 (ed d0 rfl rfl rfl))
  · intro A B E G H d0; exact rP (y_gtr (ed d0 rfl rfl rfl) rfl)
  intro a5 s3 D3; have ok4 := D3.ok; have F4 := F3.step0 D3.stp; have q6 := D3.kt q4 rfl; have q7 := D3.kt q5 rfl; have o3 := Own.k0 o2 D3.stp; have q8 := D3.dn 2 rfl rfl; clear D3; refine tn ?_
  refine cond_p (p := ((0 : Int) < (((ByteArray.size (ByteArray.extract s p (ByteArray.size s))) : Nat) : Int))) q8 (fun c1 => ?_) (fun c1 => ?_)
  ·
   have hwi := wid_in (s := s) (p := p) (by omega)
   refine wp_skip ?_; refine tn ?_; refine wp_block ?_; refine wp_seq ?_
   refine rg a5 s3 [(Ty.val (Value.string (ByteArray.extract s p (ByteArray.size s)))), (Ty.tup2 (Ty.int (runM s p)) (Ty.nat (wid s p))), (Ty.tup2 (Ty.int (runM s p)) (Ty.nat (wid s p))), (Ty.int (runM s p)), (Ty.nat (wid s p)), (Ty.int (runM s p)), (Ty.nat (wid s p))] ok4 ⟨?_, ?_, ?_, ?_, ?_, ?_, ?_, trivial⟩ ?_
   · intro A B E G H; exact rP (y_move (kp (H 0 rfl) E q6))
   · intro A B E G H d0; exact rP ((y_call #[A.eval (.tmp 10)] Try.func74 rfl rfl (by simp only [List.map_toArray, List.map_cons, List.map_nil]) (rRuneAt_fn ((ByteArray.extract s p (ByteArray.size s))) _ _ (ed d0 rfl rfl rfl) (by omega))).mono (fun τ _ h => cvt (σ := τ) (T := (Ty.tup2 (Ty.int (runM ((ByteArray.extract s p (ByteArray.size s))) 0)) (Ty.nat (wid ((ByteArray.extract s p (ByteArray.size s))) 0)))) (U := (Ty.tup2 (Ty.int (runM s p)) (Ty.nat (wid s p)))) (by rw [her.1, her.2]) h))
   · intro A B E G H d0; exact rP (y_move (ed d0 rfl rfl rfl))
   · intro A B E G H d0; exact rP (y_ext2_0 (ed d0 rfl rfl rfl))
   · intro A B E G H d0 d1; exact rP (y_ext2_1 (ed d0 rfl rfl rfl))
   · intro A B E G H d0 d1 d2 d3 d4 d5 d6; exact rP (y_assign (ed d0 rfl rfl rfl))
   · intro A B E G H d0 d1 d2 d3 d4 d5 d6 d7; exact rP (y_assign (ed d0 rfl rfl rfl))
   intro a6 s4 D4; have ok5 := D4.ok; have F5 := F4.step0 D4.stp; have q9 := D4.kt q6 rfl; have q10 := D4.kt q7 rfl; have o4 := Own.k0 o3 D4.stp; have q11 := D4.dn 5 rfl rfl; have q12 := D4.dn 6 rfl rfl; clear D4; refine tn ?_; refine wp_seq ?_
   refine reg2 (a := a6) (σ := s4) rfl 3 (fun i_ => List.getD [(Ty.pr (Ty.val x3_0)), (Ty.pr (Ty.int (runM s p))), (Ty.pr (Ty.sl 1 1 [(Ty.int (runM s p))]))] i_ Pr.any) ok5 rfl (by decide) rfl ⟨?_, ?_, ?_, trivial⟩ ?_
   · intro A B E G H; exact rP (y_move (kp (H 3 rfl) E q10))
   · intro A B E G H; exact rP (y_move (kp (H 4 rfl) E q11))
   · intro A B E G H d0; exact rP (y_build1o Try.underlying23 Try.inf3 rfl (one_val rfl) (ed d0 rfl rfl rfl))
   intro a7 s5 D5; have ok6 := D5.ok; have F6 := F5.step0 D5.stp; have q13 := D5.kt q9 rfl; have q14 := D5.kt q10 rfl; have q15 := D5.kt q12 rfl; have o5 := Own.k0 o4 D5.stp
   have q16 : At (Ty.val x3_0) s5 a7 (.tmp 14) := D5.done 0 (by decide)
   have q17 := D5.dn 2 (by decide) rfl rfl
   have b1 := sl_le q17
   clear D5
   refine tailL (L := [5]) (R := (fun v τ => Own τ 5 3 1 v ((List.length xs) + 1) ((List.map Ty.int xs) ++ [(Ty.int (runM s p))]))) rfl rfl (by decide) ok6 (YldM.toL (m_append Try.underlying23 Try.inf3 (by decide) rfl (by decide) (al (R := (Pr.own 5 3 1 (List.length xs) (List.map Ty.int xs))) q16 o5) q17 (by intro U hU; simp at hU; subst hU; exact one_val rfl) (by omega) (by omega))) (fun a8 s6 hs1 ok7 r1 sm1 => ?_)
   have F7 := F6.stepL hs1 (by decide); have q18 := kpL hs1 (by decide) (sm1 0 (by decide)) q13; have q19 := kpL hs1 (by decide) (sm1 3 (by decide)) q14; have q20 := kpL hs1 (by decide) (sm1 5 (by decide)) q15
   obtain ⟨x1, hx1⟩ : ∃ x, a8.eval (.tmp 17) = x := ⟨_, rfl⟩
   have q21 : At (Ty.val x1) s6 a8 (.tmp 17) := hx1
   have o6 : Own s6 5 3 1 x1 (List.length (xs ++ [(runM s p)])) (List.map Ty.int (xs ++ [(runM s p)])) := al2 (R := (Pr.own 5 3 1 (List.length (xs ++ [(runM s p)])) (List.map Ty.int (xs ++ [(runM s p)])))) hx1 (cvo (by simp) (by first | (rw [List.map_append]; rfl) | simp) r1)
   clear r1
   refine tailL (L := []) (R := (fun v τ => Pr.has (Ty.pr (Ty.val x1)) τ v)) rfl rfl (by decide) ok7 (Yld.toL (y_assign q21)) (fun a9 s7 hs2 ok8 r2 sm2 => ?_)
   have F8 := F7.stepL hs2 (by decide); have q22 := kpL hs2 (by decide) (sm2 0 (by decide)) q18; have q23 := kpL hs2 (by decide) (sm2 5 (by decide)) q20; have o7 := Own.keepL o6 hs2 (by decide) (by decide)
   have q24 : At (Ty.val x1) s7 a9 (.tmp 3) := r2
   clear r2; refine wpList_nil ?_; refine tn ?_
   refine rg a9 s7 [(Ty.val (Value.string (ByteArray.extract s p (ByteArray.size s)))), (Ty.nat (wid s p)), (Ty.val (Value.string (ByteArray.extract (ByteArray.extract s p (ByteArray.size s)) (wid s p) (ByteArray.size (ByteArray.extract s p (ByteArray.size s)))))), (Ty.val (Value.string (ByteArray.extract (ByteArray.extract s p (ByteArray.size s)) (wid s p) (ByteArray.size (ByteArray.extract s p (ByteArray.size s))))))] ok8 ⟨?_, ?_, ?_, ?_, trivial⟩ ?_
   · intro A B E G H; exact rP (y_move (kp (H 0 rfl) E q22))
   · intro A B E G H; exact rP (y_move (kp (H 5 rfl) E q23))
   · intro A B E G H d0 d1; exact rP (y_sfrom (l := (wid s p)) Try.underlying9 (ed d0 rfl rfl rfl) (ed d1 rfl rfl rfl) (by omega))
   · intro A B E G H d0 d1 d2 d3; exact rP (y_assign (ed d0 rfl rfl rfl))
   intro a10 s8 D6; have ok9 := D6.ok; have F9 := F8.step0 D6.stp; have q25 := D6.kt q24 rfl; have o8 := Own.k0 o7 D6.stp; have q26 := D6.dn 3 rfl rfl; clear D6; refine bn ?_
   exact tn ⟨s.size + 1 - ((p + wid s p)), by omega, s8, (p + wid s p), (f - 1), (xs ++ [runM s p]), x1, rfl, F9, ok9, (cvt (by (rw [ext_ext hwi])) q26), q25, (cvo (by (simp)) (by (simp)) o8), runsF_step heq (by omega) (by omega), by omega, by omega, by simp; omega, rfl⟩
  ·
   refine wp_exit ?_; refine tx ?_; refine tx ?_; refine bx ?_; refine tn ?_; refine wp_seq ?_
   refine rg a5 s3 [(Ty.val x3_0), (Ty.val x3_0)] ok4 ⟨?_, ?_, trivial⟩ ?_
   · intro A B E G H; exact rP (y_move (kp (H 3 rfl) E q7))
   · intro A B E G H d0 d1; exact rP (y_assign (ed d0 rfl rfl rfl))
   intro a11 s9 D7; have ok10 := D7.ok; have F10 := F4.step0 D7.stp; have o9 := Own.k0 o3 D7.stp
   have q27 : At (Ty.val x3_0) s9 a11 (.tmp 2) := D7.done 1
   clear D7; refine tn ?_; refine wp_ret ?_
   obtain ⟨t3, e1, h1, q28⟩ := Own.seal o9 (by decide)
   rw [← e1]
   have F11 := F10.step h1 (by decide)
   have q29 : At (Ty.lst Ty.int xs) t3 a11 (.tmp 2) := by have e : a11.eval (.tmp 2) = x3_0 := q27; show Ty.has _ _ _; rw [e]; exact q28
   exact retL1 rfl ok10 F11 (cvt (by (rw [runsF_end (by omega), List.append_nil] at heq; rw [heq])) q29)


end Go.Proofs.Ytbilebfnanlgfaa
