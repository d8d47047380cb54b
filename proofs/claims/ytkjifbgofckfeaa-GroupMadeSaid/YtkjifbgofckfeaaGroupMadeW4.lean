/- The functions that the law GroupMade reaches, each by its contract. Part 4. -/
import Derived.Test.YtkjifbgofckfeaaGroupMadeW3
namespace Go.Proofs.Ytkjifbgofckfeaa
open Go.KL

set_option maxHeartbeats 4000000 in
set_option maxRecDepth 100000 in
theorem gSize_fn (gv : Value) (gs : Value) (cs : Value) (us : List Value) (n : Nat) (c : Nat → Lev) (gens : List (List Int)) (σ : GW) (hlow : Low [41, 42, 43] σ) (v0 : Value) (hv0 : Ty.has (Ty.val gv) σ v0) (ho_gv : OwnP σ 41 gv [(Ty.nat n), (Ty.val gs), (Ty.val cs)]) (ho_cs : ChnU σ 42 22 108 cs n c us) (ho_gs : Own σ 43 22 1 gs (List.length gens) (List.map Ty.ints gens)) (hC : ChnOf n gens c) (hG : ∀ x ∈ gens, RowN n x) :
    FnL Try.prog 42 #[v0] σ [41, 42, 43] (fun v τ => (Ty.has (Ty.nat (szTo n (fun y => y ∈ gens) n)) τ v) ∧ (OwnP τ 41 gv [(Ty.nat n), (Ty.val gs), (Ty.val cs)]) ∧ (ChnU τ 42 22 108 cs n c us) ∧ (Own τ 43 22 1 gs (List.length gens) (List.map Ty.ints gens))) := by
 have hnn := hC.wc.nn
 have hsb := fun k => szTo_bd (n := n) (S := fun y => y ∈ gens) (k := k) hnn.2
 refine fn_introL hlow Try.func42 rfl Try.ntmps42 (Nat.le_of_ble_eq_true rfl) (fun a0 F0 ok0 hargs => ?_)
 have p0 := pB (hargs 0 _ rfl) hv0
 clear hargs; refine wp_seq ?_
 refine gI a0 σ ok0 (gC (Ty.int (0 : Int)) (gE ok0 fun a1 s1 ok1 D1 => ?_)); have o1 := OwnP.k0 ho_gv D1.stp; have o2 := ChnU.k0 ho_cs D1.stp; have o3 := Own.k0 ho_gs D1.stp; refine tn (wp_seq ?_)
 refine gI a1 s1 ok1 (gC (Ty.int (1 : Int)) (gE ok1 fun a2 s2 ok2 D2 => ?_)); have o4 := OwnP.k0 o1 D2.stp; have o5 := ChnU.k0 o2 D2.stp; have o6 := Own.k0 o3 D2.stp; refine tn (wp_seq (wp_seq ?_))
 have o7 : Own s2 42 108 1 cs n (List.map Ty.val us) := ChnU.row o5
 have hul1 := ChnU.ul o5
 refine gI a2 s2 ok2 (gM (D2.k (D1.k p0)) (gT (Ty.val gv) rfl (fun A B E H I d0 => rP (y_nilp (OwnP.k0 o4 E) (eI d0))) (gT (Ty.val (ptrAt gv 2)) rfl (fun A B E H I d0 => rP (ownp_field Try.fld95_2 Try.inf93 dE (OwnP.k0 o4 E) (eI d0))) (gS rfl (fun A B E H I d0 => rP (ownp_load Try.underlying93 rfl (OwnP.k0 o4 E) (eI d0) rfl)) (gT (Ty.nat n) rfl (fun A B E H I d0 => rP (own_len Try.underlying93 (al (R := (Pr.own 42 108 1 n (List.map Ty.val us))) (eI d0) (Own.k0 o7 E)))) (gT (Ty.int (0 : Int)) rfl (fun A B E H I => rP (y_move rfl)) (gE ok2 fun a3 s3 ok3 D3 => ?_))))))); have o8 := OwnP.k0 o4 D3.stp; have o9 := Own.k0 o7 D3.stp; have o10 := Own.k0 o6 D3.stp; have o11 := ChnU.k0 o5 D3.stp; refine tn (wp_block ?_)
 refine loop (fun n1 a4 w1 => ∃ (t1 : GW) (i : Nat), t1.w = w1 ∧ FromL [41, 42, 43] σ t1 ∧ Ok 24 [] a4 ∧ At (Ty.nat i) t1 a4 (.tmp 11) ∧ At (Ty.nat (szTo n (fun y => y ∈ gens) i)) t1 a4 (.tmp 3) ∧ At (Ty.val cs) t1 a4 (.tmp 9) ∧ At (Ty.nat n) t1 a4 (.tmp 10) ∧ OwnP t1 41 gv [(Ty.nat n), (Ty.val gs), (Ty.val cs)] ∧ ChnU t1 42 22 108 cs n c us ∧ Own t1 43 22 1 gs (List.length gens) (List.map Ty.ints gens) ∧ (i ≤ n) ∧ n1 = n - i) (n - (0)) ?_ ?_
 ·
  exact ⟨s3, 0, rfl, (((F0.step0 D1.stp).step0 D2.stp).step0 D3.stp), ok3, (cJ (D3.m 5 rfl)), (cvi (by (rfl)) (D3.k (D2.m 0 rfl))), (D3.m 3 rfl), (D3.m 4 rfl), o8, o11, o10, by omega, rfl⟩
 ·
  rintro n2 a5 w2 ⟨t2, i, rfl, F4, ok4, q8, q9, q10, q11, o12, o13, o14, hi, rfl⟩
  refine wp_seq ?_
  refine gI a5 t2 ok4 (gS rfl (fun A B E H I => rP (y_lss (kp (I 11 rfl) E q8) (kp (I 10 rfl) E q11))) (gE ok4 fun a6 s4 ok5 D4 => ?_)); have F5 := F4.step0 D4.stp; have q12 := D4.k q8; have q13 := D4.k q9; have q14 := D4.k q10; have o15 := OwnP.k0 o12 D4.stp; have o16 := ChnU.k0 o13 D4.stp; have o17 := Own.k0 o14 D4.stp; refine tn (wp_seq ?_)
  refine cond_p (p := (((i : Nat) : Int) < ((n : Nat) : Int))) (D4.m 0 rfl) (fun c1 => ?_) (fun c1 => ?_)
  ·
   have hml := hC.szS hG (k := i) oM; have hsb1 := hsb (i + 1) oM
   refine wp_skip (tn (wp_seq (wp_block (wp_seq ?_))))
   have o18 : Own s4 42 108 1 cs n (List.map Ty.val us) := ChnU.row o16
   have hul2 := ChnU.ul o16
   refine gI a6 s4 ok5 (gT (Ty.val (cellPtr cs i)) rfl (fun A B E H I => rP (own_index1 (i := ((i : Nat) : Int)) Try.underlying93 Try.inf108 (Own.k0 o18 E) (kp (I 9 rfl) E q14) (kp (I 11 rfl) E q12) oM oM)) (gS rfl (fun A B E H I d0 => rP (own_load Try.underlying108 rfl (Own.k0 o18 E) (eI d0) (lst_get Ty.val us undef i oM))) (gB 0 (gE ok5 fun a7 s5 ok6 D5 => ?_)))); have o19 := OwnP.k0 o15 D5.stp; have o20 := Own.k0 o18 D5.stp; have o21 := Own.k0 o17 D5.stp; have o22 := ChnU.k0 o16 D5.stp
   obtain ⟨ms1, rs1, hN1⟩ := o22
   have o23 : ChnU s5 42 22 108 cs n c us := ⟨ms1, rs1, hN1⟩
   have hl1 := hN1.lev i oM
   obtain ⟨mq1, hmq1⟩ : ∃ x_, ms1 i = x_ := ⟨_, rfl⟩
   obtain ⟨rq1, hrq1⟩ : ∃ x_, rs1 i = x_ := ⟨_, rfl⟩
   have o24 : OwnP s5 42 (us.getD i undef) [(Ty.nat i), (Ty.val mq1), (Ty.val rq1)] := by have h_ := hl1.p; simp only [hmq1, hrq1] at h_; exact h_
   have o25 : OwnM Ty.ints kI s5 42 mq1 (c i).orb := by have h_ := hl1.m; simp only [hmq1, hrq1] at h_; exact h_
   refine tn ?_
   refine gI a7 s5 ok6 (gM (D5.k q13) (gM (D5.m 2 rfl) (gT (Ty.val (us.getD i undef)) rfl (fun A B E H I d0 => rP (y_nilp (OwnP.k0 o24 E) (eI d0))) (gT (Ty.val (ptrAt (us.getD i undef) 1)) rfl (fun A B E H I d0 => rP (ownp_field Try.fld111_1 Try.inf109 dE (OwnP.k0 o24 E) (eI d0))) (gS rfl (fun A B E H I d0 => rP (ownp_load Try.underlying109 rfl (OwnP.k0 o24 E) (eI d0) rfl)) (gT (Ty.nat (n - noO n (c i).orb)) rfl (fun A B E H I d0 => rP (y_mlen Try.underlying109 (OwnM.k0 o25 E) (eI d0) (by exact fun p_ t_ h_ => by obtain ⟨a1_, _, a3_⟩ := (hC.wc.lev i oM).pt p_ t_ h_; have h5_ := a1_.at (show i < n by omega); rw [a3_] at h5_; exact h5_))) (gT (Ty.nat ((szTo n (fun y => y ∈ gens) i) * (n - noO n (c i).orb))) rfl (fun A B E H I d0 d1 => rP ((y_mul (eI d0) (eI d1) wX).mono (fun τ _ h => cN (σ := τ) h))) (gB 0 (gE ok6 fun a8 s6 ok7 D6 => ?_))))))))); have o26 := OwnP.k0 o19 D6.stp; have o27 := ChnU.k0 o23 D6.stp; have o28 := Own.k0 o21 D6.stp; have o29 := OwnP.k0 o24 D6.stp; have o30 := OwnM.k0 o25 D6.stp; refine bn (tn ?_)
   refine gI a8 s6 ok7 (gT (Ty.nat (i + 1)) rfl (fun A B E H I => rP ((y_add (kp (I 11 rfl) E (D6.k (D5.k q12))) rfl wX).mono (fun τ _ h => cN (σ := τ) h))) (gS rfl (fun A B E H I d0 => rP (y_move (eI d0))) (gE ok7 fun a9 s7 ok8 D7 => ?_))); have o31 := OwnP.k0 o26 D7.stp; have o32 := ChnU.k0 o27 D7.stp; have o33 := Own.k0 o28 D7.stp
   exact tn ⟨n - ((i+1)), by omega, s7, (i+1), rfl, (((F5.step0 D5.stp).step0 D6.stp).step0 D7.stp), ok8, (cJ (D7.m 1 rfl)), (cvi (by (rw [hml])) (D7.k (D6.m 7 rfl))), (D7.k (D6.k (D5.k q14))), (D7.k (D6.k (D5.k (D4.k q11)))), o31, o32, o33, by omega, rfl⟩
  ·
   refine wp_exit (tx (tx (bx (tn (wp_seq ?_)))))
   refine gI a6 s4 ok5 (gM q13 (gB 0 (gE ok5 fun a10 s8 ok9 D8 => ?_))); have o34 := OwnP.k0 o15 D8.stp; have o35 := ChnU.k0 o16 D8.stp; have o36 := Own.k0 o17 D8.stp; refine tn (wp_ret ?_)
   exact retL1 rfl ok9 (F5.step0 D8.stp) ⟨(cvi (by (rw [show i = n by omega])) (D8.m 1 rfl)), o34, o35, o36⟩


set_option maxHeartbeats 4000000 in
set_option maxRecDepth 100000 in
theorem gBells_fn (gv : Value) (gs : Value) (cs : Value) (us : List Value) (n : Nat) (c : Nat → Lev) (gens : List (List Int)) (σ : GW) (hlow : Low [41, 42, 43] σ) (v0 : Value) (hv0 : Ty.has (Ty.val gv) σ v0) (ho_gv : OwnP σ 41 gv [(Ty.nat n), (Ty.val gs), (Ty.val cs)]) (ho_cs : ChnU σ 42 22 108 cs n c us) (ho_gs : Own σ 43 22 1 gs (List.length gens) (List.map Ty.ints gens))  :
    FnL Try.prog 43 #[v0] σ [41, 42, 43] (fun v τ => (Ty.has (Ty.nat n) τ v) ∧ (OwnP τ 41 gv [(Ty.nat n), (Ty.val gs), (Ty.val cs)]) ∧ (ChnU τ 42 22 108 cs n c us) ∧ (Own τ 43 22 1 gs (List.length gens) (List.map Ty.ints gens))) := by
 refine fn_introL hlow Try.func43 rfl Try.ntmps43 (Nat.le_of_ble_eq_true rfl) (fun a0 F0 ok0 hargs => ?_)
 have p0 := pB (hargs 0 _ rfl) hv0
 clear hargs; refine wp_seq ?_
 refine gI a0 σ ok0 (gC (Ty.int (0 : Int)) (gE ok0 fun a1 s1 ok1 D1 => ?_)); have o1 := OwnP.k0 ho_gv D1.stp; have o2 := ChnU.k0 ho_cs D1.stp; have o3 := Own.k0 ho_gs D1.stp; refine tn (wp_seq ?_)
 refine gI a1 s1 ok1 (gM (D1.k p0) (gT (Ty.val gv) rfl (fun A B E H I d0 => rP (y_nilp (OwnP.k0 o1 E) (eI d0))) (gT (Ty.val (ptrAt gv 0)) rfl (fun A B E H I d0 => rP (ownp_field Try.fld95_0 Try.inf3 dE (OwnP.k0 o1 E) (eI d0))) (gS rfl (fun A B E H I d0 => rP (ownp_load Try.underlying3 rfl (OwnP.k0 o1 E) (eI d0) rfl)) (gB 0 (gE ok1 fun a2 s2 ok2 D2 => ?_)))))); have o4 := OwnP.k0 o1 D2.stp; have o5 := ChnU.k0 o2 D2.stp; have o6 := Own.k0 o3 D2.stp; refine tn (wp_ret ?_)
 exact retL1 rfl ok2 ((F0.step0 D1.stp).step0 D2.stp) ⟨(D2.m 4 rfl), o4, o5, o6⟩


set_option maxHeartbeats 4000000 in
set_option maxRecDepth 100000 in
theorem gGen_fn (gv : Value) (gs : Value) (cs : Value) (n : Nat) (gens : List (List Int)) (k : Int) (σ : GW) (hlow : Low [41, 43] σ) (v0 v1 : Value) (hv0 : Ty.has (Ty.val gv) σ v0) (hv1 : Ty.has (Ty.int k) σ v1) (ho_gv : OwnP σ 41 gv [(Ty.nat n), (Ty.val gs), (Ty.val cs)]) (ho_gs : Own σ 43 22 1 gs (List.length gens) (List.map Ty.ints gens)) (hG : ∀ x ∈ gens, RowN n x) (hGl : gens.length ≤ 1000000) (hk0 : k ≠ 0) (hk1 : k ≤ gens.length) (hk2 : -(gens.length : Int) ≤ k) :
    FnL Try.prog 75 #[v0, v1] σ [41, 43] (fun v τ => (Ty.has (Ty.lst Ty.int (genL gens k)) τ v) ∧ (OwnP τ 41 gv [(Ty.nat n), (Ty.val gs), (Ty.val cs)]) ∧ (Own τ 43 22 1 gs (List.length gens) (List.map Ty.ints gens))) := by
 refine fn_introL hlow Try.func75 rfl Try.ntmps75 (Nat.le_of_ble_eq_true rfl) (fun a0 F0 ok0 hargs => ?_)
 have p0 := pB (hargs 0 _ rfl) hv0
 have p1 := pB (hargs 1 _ rfl) hv1
 clear hargs; refine wp_seq ?_
 refine gI a0 σ ok0 (gC (Ty.val (Value.slice none 0 0)) (gE ok0 fun a1 s1 ok1 D1 => ?_)); have q2 := D1.k p1; have o1 := OwnP.k0 ho_gv D1.stp; have o2 := Own.k0 ho_gs D1.stp; refine tn (wp_seq (wp_seq ?_))
 refine gI a1 s1 ok1 (gM q2 (gS rfl (fun A B E H I d0 => rP (y_lss (eI d0) rfl)) (gE ok1 fun a2 s2 ok2 D2 => ?_))); have F2 := (F0.step0 D1.stp).step0 D2.stp; have q3 := D2.k (D1.k p0); have q4 := D2.k q2; have o3 := OwnP.k0 o1 D2.stp; have o4 := Own.k0 o2 D2.stp; refine tn ?_
 refine cond_p (p := (k < (0 : Int))) (D2.m 1 rfl) (fun c1 => ?_) (fun c1 => ?_)
 ·
  have hrr := (hG _ (mem_atD [] (show (-k - 1).toNat < gens.length by omega))).row
  refine wp_seq ?_
  refine gI a2 s2 ok2 (gM q3 (gT (Ty.val gv) rfl (fun A B E H I d0 => rP (y_nilp (OwnP.k0 o3 E) (eI d0))) (gT (Ty.val (ptrAt gv 1)) rfl (fun A B E H I d0 => rP (ownp_field Try.fld95_1 Try.inf24 dE (OwnP.k0 o3 E) (eI d0))) (gS rfl (fun A B E H I d0 => rP (ownp_load Try.underlying24 rfl (OwnP.k0 o3 E) (eI d0) rfl)) (gM q4 (gT (Ty.int (-k)) rfl (fun A B E H I d0 => rP (y_neg (eI d0) wX)) (gT (Ty.int ((-k) - (1 : Int))) rfl (fun A B E H I d0 => rP (y_sub (eI d0) rfl wX)) (gT (Ty.val (cellPtr gs (((-k) - (1 : Int))).toNat)) rfl (fun A B E H I d0 d1 => rP (own_index1 (i := ((-k) - (1 : Int))) Try.underlying24 Try.inf22 (Own.k0 o4 E) (eI d0) (eI d1) oM oM)) (gS rfl (fun A B E H I d0 => rP (own_load Try.underlying22 rfl (Own.k0 o4 E) (eI d0) (lst_get Ty.ints gens [] (((-k) - (1 : Int))).toNat oM))) (gS rfl (fun A B E H I d0 => rP (y_call _ Try.func65 rfl rfl my1 (inverse_fn ((gens.getD (((-k) - (1 : Int))).toNat [])) _ _ (eI d0) (by assumption)))) (gB 0 (gE ok2 fun a3 s3 ok3 D3 => ?_)))))))))))); have o5 := OwnP.k0 o3 D3.stp; have o6 := Own.k0 o4 D3.stp; refine tn (wp_ret (tr ?_))
  exact retL1 rfl ok3 (F2.step0 D3.stp) ⟨(cvt (by (unfold genL; rw [if_pos c1])) (D3.m 10 rfl)), o5, o6⟩
 ·
  refine wp_skip (tn (wp_seq ?_))
  refine gI a2 s2 ok2 (gM q3 (gT (Ty.val gv) rfl (fun A B E H I d0 => rP (y_nilp (OwnP.k0 o3 E) (eI d0))) (gT (Ty.val (ptrAt gv 1)) rfl (fun A B E H I d0 => rP (ownp_field Try.fld95_1 Try.inf24 dE (OwnP.k0 o3 E) (eI d0))) (gS rfl (fun A B E H I d0 => rP (ownp_load Try.underlying24 rfl (OwnP.k0 o3 E) (eI d0) rfl)) (gM q4 (gT (Ty.int (k - (1 : Int))) rfl (fun A B E H I d0 => rP (y_sub (eI d0) rfl wX)) (gT (Ty.val (cellPtr gs ((k - (1 : Int))).toNat)) rfl (fun A B E H I d0 d1 => rP (own_index1 (i := (k - (1 : Int))) Try.underlying24 Try.inf22 (Own.k0 o4 E) (eI d0) (eI d1) oM oM)) (gS rfl (fun A B E H I d0 => rP (own_load Try.underlying22 rfl (Own.k0 o4 E) (eI d0) (lst_get Ty.ints gens [] ((k - (1 : Int))).toNat oM))) (gB 0 (gE ok2 fun a4 s4 ok4 D4 => ?_)))))))))); have o7 := OwnP.k0 o3 D4.stp; have o8 := Own.k0 o4 D4.stp; refine tn (wp_ret ?_)
  exact retL1 rfl ok4 (F2.step0 D4.stp) ⟨(cvt (by (unfold genL; rw [if_neg c1])) (D4.m 8 rfl)), o7, o8⟩


set_option maxHeartbeats 4000000 in
set_option maxRecDepth 100000 in
theorem gSay_fn (gv : Value) (gs : Value) (cs : Value) (n : Nat) (gens : List (List Int)) (w : List Int) (σ : GW) (hlow : Low [41, 43] σ) (v0 v1 : Value) (hv0 : Ty.has (Ty.val gv) σ v0) (hv1 : Ty.has (Ty.lst Ty.int w) σ v1) (ho_gv : OwnP σ 41 gv [(Ty.nat n), (Ty.val gs), (Ty.val cs)]) (ho_gs : Own σ 43 22 1 gs (List.length gens) (List.map Ty.ints gens)) (hn : 1 ≤ n ∧ n ≤ 12) (hG : ∀ x ∈ gens, RowN n x) (hGl : gens.length ≤ 1000000) :
    FnL Try.prog 44 #[v0, v1] σ [41, 43] (fun v τ => (Ty.has (Ty.tup2 (Ty.lst Ty.int (sayR n gens w)) (Ty.int (sayE gens w))) τ v) ∧ (OwnP τ 41 gv [(Ty.nat n), (Ty.val gs), (Ty.val cs)]) ∧ (Own τ 43 22 1 gs (List.length gens) (List.map Ty.ints gens))) := by
 refine fn_introL hlow Try.func44 rfl Try.ntmps44 (Nat.le_of_ble_eq_true rfl) (fun a0 F0 ok0 hargs => ?_)
 have p0 := pB (hargs 0 _ rfl) hv0
 have p1 := pB (hargs 1 _ rfl) hv1
 have b1 := sl_le p1
 clear hargs; refine wp_seq ?_
 refine gI a0 σ ok0 (gC (Ty.val (Value.slice none 0 0)) (gC (Ty.int (0 : Int)) (gE ok0 fun a1 s1 ok1 D1 => ?_))); have q2 := D1.k p1; have o1 := OwnP.k0 ho_gv D1.stp; have o2 := Own.k0 ho_gs D1.stp; refine tn (wp_seq (wp_seq ?_))
 refine gI a1 s1 ok1 (gM q2 (gS rfl (fun A B E H I d0 => rP (y_len Try.underlying22 (eI d0))) (gS rfl (fun A B E H I d0 => rP (y_gtr (eI d0) rfl)) (gE ok1 fun a2 s2 ok2 D2 => ?_)))); have F2 := (F0.step0 D1.stp).step0 D2.stp; have q3 := D2.k (D1.k p0); have o3 := OwnP.k0 o1 D2.stp; have o4 := Own.k0 o2 D2.stp; refine tn ?_
 refine cond_p (p := ((20000 : Int) < (((List.length w) : Nat) : Int))) (D2.m 2 rfl) (fun c1 => ?_) (fun c1 => ?_)
 ·
  obtain ⟨hE, hR⟩ := say_3 (n := n) (G := gens) (w := w) oM
  refine wp_seq ?_
  refine gI a2 s2 ok2 (gC (Ty.val (Value.slice none 0 0)) (gC (Ty.int (3 : Int)) (gE ok2 fun a3 s3 ok3 D3 => ?_))); have o5 := OwnP.k0 o3 D3.stp; have o6 := Own.k0 o4 D3.stp; refine tn (wp_ret (tr ?_))
  exact retL2 rfl ok3 (F2.step0 D3.stp) ⟨(hasT2 (nil_lst (by (rw [hR])) (D3.m 0 rfl)) (cvi (by (rw [hE])) (D3.m 1 rfl))), o5, o6⟩
 ·
  have hw2 : ¬ 20000 < w.length := oM
  refine wp_skip (tn (wp_seq ?_))
  refine gI a2 s2 ok2 (gM q3 (gT (Ty.val gv) rfl (fun A B E H I d0 => rP (y_nilp (OwnP.k0 o3 E) (eI d0))) (gT (Ty.val (ptrAt gv 0)) rfl (fun A B E H I d0 => rP (ownp_field Try.fld95_0 Try.inf3 dE (OwnP.k0 o3 E) (eI d0))) (gS rfl (fun A B E H I d0 => rP (ownp_load Try.underlying3 rfl (OwnP.k0 o3 E) (eI d0) rfl)) (gS rfl (fun A B E H I d0 => rP (y_call _ Try.func74 rfl rfl my1 (rounds_fn (n) _ _ (eI d0) oM))) (gS rfl (fun A B E H I d0 => rP (y_move (eI d0))) (gT (Ty.lst Ty.int (roundsL n)) rfl (fun A B E H I d0 => rP (y_ext2_0 (eI d0))) (gT (Ty.int (0 : Int)) rfl (fun A B E H I d0 d1 => rP (y_ext2_1 (eI d0))) (gB 0 (gB 0 (gE ok2 fun a4 s4 ok4 D4 => ?_))))))))))); have o7 := OwnP.k0 o3 D4.stp; have o8 := Own.k0 o4 D4.stp; refine tn (wp_seq (wp_seq ?_))
  refine gI a4 s4 ok4 (gM (D4.k (D2.k q2)) (gS rfl (fun A B E H I d0 => rP (y_len Try.underlying22 (eI d0))) (gT (Ty.int (0 : Int)) rfl (fun A B E H I => rP (y_move rfl)) (gE ok4 fun a5 s5 ok5 D5 => ?_)))); have o9 := OwnP.k0 o7 D5.stp; have o10 := Own.k0 o8 D5.stp; refine tn (wp_block ?_)
  refine loop (fun n1 a6 w1 => ∃ (t1 : GW) (j : Nat), t1.w = w1 ∧ FromL [41, 43] σ t1 ∧ Ok 55 [] a6 ∧ At (Ty.nat j) t1 a6 (.tmp 23) ∧ At (Ty.lst Ty.int (sayT n gens w j)) t1 a6 (.tmp 6) ∧ At (Ty.val gv) t1 a6 (.tmp 0) ∧ At (Ty.lst Ty.int w) t1 a6 (.tmp 21) ∧ At (Ty.nat (List.length w)) t1 a6 (.tmp 22) ∧ OwnP t1 41 gv [(Ty.nat n), (Ty.val gs), (Ty.val cs)] ∧ Own t1 43 22 1 gs (List.length gens) (List.map Ty.ints gens) ∧ (j ≤ w.length) ∧ (badW gens w j = false) ∧ n1 = w.length - j) (w.length - (0)) ?_ ?_
  ·
   exact ⟨s5, 0, rfl, ((F2.step0 D4.stp).step0 D5.stp), ok5, (cJ (D5.m 2 rfl)), (cvt (by (rfl)) (D5.k (D4.m 8 rfl))), (D5.k (D4.k q3)), (D5.m 0 rfl), (D5.m 1 rfl), o9, o10, by omega, rfl, rfl⟩
  ·
   rintro n2 a7 w2 ⟨t2, j, rfl, F6, ok6, q16, q17, q18, q19, q20, o11, o12, hj, hB, rfl⟩
   refine wp_seq ?_
   refine gI a7 t2 ok6 (gS rfl (fun A B E H I => rP (y_lss (kp (I 23 rfl) E q16) (kp (I 22 rfl) E q20))) (gE ok6 fun a8 s6 ok7 D6 => ?_)); have F7 := F6.step0 D6.stp; have q21 := D6.k q16; have q22 := D6.k q17; have q24 := D6.k q19; have o13 := OwnP.k0 o11 D6.stp; have o14 := Own.k0 o12 D6.stp; refine tn (wp_seq ?_)
   refine cond_p (p := (((j : Nat) : Int) < (((List.length w) : Nat) : Int))) (D6.m 0 rfl) (fun c2 => ?_) (fun c2 => ?_)
   ·
    have hsr := say_row hn hG hB; have hsl := hsr.len
    refine wp_skip (tn (wp_seq (wp_block (wp_seq ?_))))
    refine gI a8 s6 ok7 (gT (Ty.ref [(Ty.int (w.getD j 0))]) rfl (fun A B E H I => rP (y_index1 Try.underlying22 Try.inf3 (kp (I 21 rfl) E q24) (kp (I 23 rfl) E q21) oM (lst_get Ty.int w 0 j oM))) (gS rfl (fun A B E H I d0 => rP (y_load Try.underlying3 rfl (eI d0) rfl)) (gB 0 (gE ok7 fun a9 s7 ok8 D7 => ?_)))); have q29 := D7.k (D6.k q18); have o15 := OwnP.k0 o13 D7.stp; have o16 := Own.k0 o14 D7.stp; have q32 := D7.m 2 rfl; refine tn (wp_seq (wp_seq ?_))
    refine gI a9 s7 ok8 (gM q32 (gS rfl (fun A B E H I d0 => rP (y_eql (eI d0) rfl)) (gS rfl (fun A B E H I d0 => rP (y_move (eI d0))) (gS rfl (fun A B E H I d0 => gu H (eI d0) fun hg => y_move (kp (I 9 rfl) E q32)) (gS rfl (fun A B E H I d0 => gu H (eI d0) fun hg => y_move (kp (I 0 rfl) E q29)) (gT (Ty.grd ((decide ((w.getD j 0) = (0 : Int))) = false) (Ty.val gv)) rfl (fun A B E H I d0 d1 => gu H (eI d1) fun hg => y_nilp (OwnP.k0 o15 E) ((ef d0 rfl).1 hg)) (gT (Ty.grd ((decide ((w.getD j 0) = (0 : Int))) = false) (Ty.val (ptrAt gv 1))) rfl (fun A B E H I d0 d1 => guf H (eI d1) fun hg hp => ownp_field Try.fld95_1 Try.inf24 dE (OwnP.k0 o15 E) ((ef d0 rfl).1 hg)) (gS rfl (fun A B E H I d0 d1 => gu H (eI d1) fun hg => ownp_load Try.underlying24 rfl (OwnP.k0 o15 E) ((ef d0 rfl).1 hg) rfl) (gT (Ty.grd ((decide ((w.getD j 0) = (0 : Int))) = false) (Ty.nat (List.length gens))) rfl (fun A B E H I d0 d1 => gu H (eI d1) fun hg => own_len Try.underlying24 (al (R := (Pr.own 43 22 1 (List.length gens) (List.map Ty.ints gens))) ((ef d0 rfl).1 hg) (Own.k0 o16 E))) (gS rfl (fun A B E H I d0 d1 d2 => gu H (eI d2) fun hg => y_gtr ((ef d0 rfl).1 hg) ((ef d1 rfl).1 hg)) (gS rfl (fun A B E H I d0 d1 => rP (y_pick_or (eI d0) rfl (eI d1))) (gS rfl (fun A B E H I d0 d1 => rP (y_move (eI d0))) ?_))))))))))))
    refine gT (Ty.grd (((decide ((w.getD j 0) = (0 : Int))) || (decide ((((List.length gens) : Nat) : Int) < (w.getD j 0)))) = false) (Ty.int (w.getD j 0))) rfl (by intro A B E H I d0; refine run_guard H rfl rfl dE (eI d0) (fun hg => ?_); obtain ⟨d1, d2⟩ := Bool.or_eq_false_iff.mp hg; have d1 := of_decide_eq_false d1; have d2 := of_decide_eq_false d2; exact y_move (kp (I 9 rfl) E q32)) (gT (Ty.grd (((decide ((w.getD j 0) = (0 : Int))) || (decide ((((List.length gens) : Nat) : Int) < (w.getD j 0)))) = false) (Ty.val gv)) rfl (by intro A B E H I d0; refine run_guard H rfl rfl dE (eI d0) (fun hg => ?_); obtain ⟨d3, d4⟩ := Bool.or_eq_false_iff.mp hg; have d3 := of_decide_eq_false d3; have d4 := of_decide_eq_false d4; exact y_move (kp (I 0 rfl) E q29)) (gT (Ty.grd (((decide ((w.getD j 0) = (0 : Int))) || (decide ((((List.length gens) : Nat) : Int) < (w.getD j 0)))) = false) (Ty.val gv)) rfl (by intro A B E H I d0 d1; refine run_guard H rfl rfl dE (eI d1) (fun hg => ?_); obtain ⟨d5, d6⟩ := Bool.or_eq_false_iff.mp hg; have d5 := of_decide_eq_false d5; have d6 := of_decide_eq_false d6; exact y_nilp (OwnP.k0 o15 E) ((ef d0 rfl).1 hg)) (gT (Ty.grd (((decide ((w.getD j 0) = (0 : Int))) || (decide ((((List.length gens) : Nat) : Int) < (w.getD j 0)))) = false) (Ty.val (ptrAt gv 1))) rfl (by intro A B E H I d0 d1; refine run_guard H rfl rfl dE (eI d1) (fun hg => ?_); obtain ⟨d7, d8⟩ := Bool.or_eq_false_iff.mp hg; have d7 := of_decide_eq_false d7; have d8 := of_decide_eq_false d8; exact ownp_field Try.fld95_1 Try.inf24 dE (OwnP.k0 o15 E) ((ef d0 rfl).1 hg)) ?_)))
    refine gT (Ty.grd (((decide ((w.getD j 0) = (0 : Int))) || (decide ((((List.length gens) : Nat) : Int) < (w.getD j 0)))) = false) (Ty.val gs)) rfl (by intro A B E H I d0 d1; refine run_guard H rfl rfl dE (eI d1) (fun hg => ?_); obtain ⟨d9, d10⟩ := Bool.or_eq_false_iff.mp hg; have d9 := of_decide_eq_false d9; have d10 := of_decide_eq_false d10; exact ownp_load Try.underlying24 rfl (OwnP.k0 o15 E) ((ef d0 rfl).1 hg) rfl) (gT (Ty.grd (((decide ((w.getD j 0) = (0 : Int))) || (decide ((((List.length gens) : Nat) : Int) < (w.getD j 0)))) = false) (Ty.nat (List.length gens))) rfl (by intro A B E H I d0 d1; refine run_guard H rfl rfl dE (eI d1) (fun hg => ?_); obtain ⟨d11, d12⟩ := Bool.or_eq_false_iff.mp hg; have d11 := of_decide_eq_false d11; have d12 := of_decide_eq_false d12; exact own_len Try.underlying24 (al (R := (Pr.own 43 22 1 (List.length gens) (List.map Ty.ints gens))) ((ef d0 rfl).1 hg) (Own.k0 o16 E))) (gT (Ty.grd (((decide ((w.getD j 0) = (0 : Int))) || (decide ((((List.length gens) : Nat) : Int) < (w.getD j 0)))) = false) (Ty.int (-(((List.length gens) : Nat) : Int)))) rfl (by intro A B E H I d0 d1; refine run_guard H rfl rfl dE (eI d1) (fun hg => ?_); obtain ⟨d13, d14⟩ := Bool.or_eq_false_iff.mp hg; have d13 := of_decide_eq_false d13; have d14 := of_decide_eq_false d14; exact y_neg ((ef d0 rfl).1 hg) wX) (gT (Ty.grd (((decide ((w.getD j 0) = (0 : Int))) || (decide ((((List.length gens) : Nat) : Int) < (w.getD j 0)))) = false) (Ty.bool (decide ((w.getD j 0) < (-(((List.length gens) : Nat) : Int)))))) rfl (by intro A B E H I d0 d1 d2; refine run_guard H rfl rfl dE (eI d2) (fun hg => ?_); obtain ⟨d15, d16⟩ := Bool.or_eq_false_iff.mp hg; have d15 := of_decide_eq_false d15; have d16 := of_decide_eq_false d16; exact y_lss ((ef d0 rfl).1 hg) ((ef d1 rfl).1 hg)) ?_)))
    refine gS rfl (fun A B E H I d0 d1 => rP (y_pick_or (eI d0) rfl (eI d1))) (gE ok8 fun a10 s8 ok9 D8 => ?_); have F9 := (F7.step0 D7.stp).step0 D8.stp; have q34 := D8.k (D7.k q22); have q35 := D8.k q29; have o17 := OwnP.k0 o15 D8.stp; have o18 := Own.k0 o16 D8.stp; refine tn ?_
    refine cond_t (D8.m 20 rfl) (fun c3 => ?_) (fun c3 => ?_)
    ·
     simp only [Bool.or_eq_true, decide_eq_true_eq] at c3; obtain ⟨hE, hR⟩ := say_12 (n := n) (G := gens) (w := w) hw2 (badW_yes (G := gens) (show j < w.length by omega) oM)
     refine wp_seq ?_
     refine gI a10 s8 ok9 (gC (Ty.val (Value.slice none 0 0)) (gC (Ty.int (12 : Int)) (gE ok9 fun a11 s9 ok10 D9 => ?_))); have o19 := OwnP.k0 o17 D9.stp; have o20 := Own.k0 o18 D9.stp; refine tn (wp_ret (tr (br (tr (tr (br (tr ?_)))))))
     exact retL2 rfl ok10 (F9.step0 D9.stp) ⟨(hasT2 (nil_lst (by (rw [hR])) (D9.m 0 rfl)) (cvi (by (rw [hE])) (D9.m 1 rfl))), o19, o20⟩
    ·
     obtain ⟨d17, d18⟩ := Bool.or_eq_false_iff.mp c3
     obtain ⟨d19, d20⟩ := Bool.or_eq_false_iff.mp d17
     replace d19 := of_decide_eq_false d19
     replace d20 := of_decide_eq_false d20
     replace d18 := of_decide_eq_false d18
     simp only [Bool.or_eq_false_iff, decide_eq_false_iff_not] at c3; have hok : ¬ (w.getD j 0 = 0 ∨ (gens.length : Int) < w.getD j 0 ∨ w.getD j 0 < -(gens.length : Int)) := oM; have hB2 := badW_succ hB hok; have hgr := gen_row (n := n) hG (k := w.getD j 0) oM oM oM; have hgb := hgr.bds hsl; have hgl := hgr.len; have hsrr := hsr.row; have hgrr := hgr.row
     refine wp_skip (tn ?_)
     refine gI a10 s8 ok9 (gM q34 (gM q35 (gM (D8.k q32) (gE2 ok9 fun a12 s10 ok11 D10 => ?_)))); have o21 := OwnP.k0 o17 D10.stp; have o22 := Own.k0 o18 D10.stp
     refine tL ok11 (y_callL (L := [41, 43]) [(41, 41), (43, 43)] [(41, 41), (43, 43)] #[a12.eval (.tmp 49), a12.eval (.tmp 50)] rfl dE Try.func75 rfl rfl my2 (gGen_fn (gv) (gs) (cs) (n) (gens) ((w.getD j 0)) _ lW _ _ (uL (D10.m 1 rfl)) (uL (cvi (σ := s10) oX (D10.m 2 rfl))) (OwnP.ren o21 (GW.ren_lend _ _ dE rfl)) (Own.ren o22 (GW.ren_lend _ _ dE rfl)) oX oX oX oX oX)) fun a13 s11 hs1 ok12 r1 sm1 => ?_
     obtain ⟨t3, ⟨hT1, o23, o24⟩, B1⟩ := r1
     have q56 : At (Ty.lst Ty.int (genL gens ((w.getD j 0)))) s11 a13 (.tmp 51) := Ty.up _ B1.le hT1
     have o25 : OwnP s11 41 gv [(Ty.nat n), (Ty.val gs), (Ty.val cs)] := OwnP.ren o23 (B1.ren dE rfl)
     have o26 : Own s11 43 22 1 gs (List.length gens) (List.map Ty.ints gens) := Own.ren o24 (B1.ren dE rfl)
     refine tL (R := (fun v τ => Pr.has (Ty.pr (Ty.lst Ty.int (byL ((sayT n gens w j)) ((genL gens ((w.getD j 0))))))) τ v)) ok12 (Yld.toL (y_call _ Try.func64 rfl rfl my2 (product_fn ((sayT n gens w j)) ((genL gens ((w.getD j 0)))) _ _ _ (kq hs1 sm1 48 (D10.m 0 rfl)) q56 (by first | assumption | omega) (by first | assumption | omega) (by first | assumption | omega)))) fun a14 s12 hs2 ok13 r2 sm2 => ?_
     have q58 := kq hs2 sm2 6 (kq hs1 sm1 6 (D10.k q34))
     have q62 : At (Ty.lst Ty.int (byL ((sayT n gens w j)) ((genL gens ((w.getD j 0)))))) s12 a14 (.tmp 52) := r2
     clear r2
     refine tL ok13 (Yld.toL (y_as q62)) fun a15 s13 hs3 ok14 r3 sm3 => ?_
     have q67 : At (Ty.lst Ty.int (byL ((sayT n gens w j)) ((genL gens ((w.getD j 0)))))) s13 a15 (.tmp 6) := r3
     clear r3; refine wpList_nil (bn (tn ?_))
     refine gI a15 s13 ok14 (gT (Ty.nat (j + 1)) rfl (fun A B E H I => rP ((y_add (kp (I 23 rfl) E (kq hs3 sm3 23 (kq hs2 sm2 23 (kq hs1 sm1 23 (D10.k (D8.k (D7.k q21))))))) rfl wX).mono (fun τ _ h => cN (σ := τ) h))) (gS rfl (fun A B E H I d0 => rP (y_move (eI d0))) (gE ok14 fun a16 s14 ok15 D11 => ?_))); have o31 := OwnP.k0 (OwnP.kl (OwnP.kl o25 hs2) hs3) D11.stp; have o32 := Own.k0 (Own.kl (Own.kl o26 hs2) hs3) D11.stp
     exact tn ⟨w.length - ((j+1)), by omega, s14, (j+1), rfl, (((((F9.step0 D10.stp).sl hs1).sl hs2).sl hs3).step0 D11.stp), ok15, (cJ (D11.m 1 rfl)), (cvt (by (rfl)) (D11.k q67)), (D11.k (kq hs3 sm3 0 (kq hs2 sm2 0 (kq hs1 sm1 0 (D10.k q35))))), (D11.k (kq hs3 sm3 21 (kq hs2 sm2 21 (kq hs1 sm1 21 (D10.k (D8.k (D7.k q24))))))), (D11.k (kq hs3 sm3 22 (kq hs2 sm2 22 (kq hs1 sm1 22 (D10.k (D8.k (D7.k (D6.k q20)))))))), o31, o32, by omega, hB2, rfl⟩
   ·
    have ej : j = w.length := oM; obtain ⟨hE, hR⟩ := say_0 (n := n) hw2 (ej ▸ hB)
    refine wp_exit (tx (tx (bx (tn (wp_seq ?_)))))
    refine gI a8 s6 ok7 (gM q22 (gB 0 (gC (Ty.int (0 : Int)) (gE ok7 fun a17 s15 ok16 D12 => ?_)))); have o33 := OwnP.k0 o13 D12.stp; have o34 := Own.k0 o14 D12.stp; refine tn (wp_ret ?_)
    exact retL2 rfl ok16 (F7.step0 D12.stp) ⟨(hasT2 (cvt (by (rw [hR, ej])) (D12.m 1 rfl)) (cvi (by (rw [hE])) (D12.m 2 rfl))), o33, o34⟩


set_option maxHeartbeats 4000000 in
set_option maxRecDepth 100000 in
theorem rSay_fn (n : Nat) (G : List (List Int)) (w : List Int) (σ : GW)  (v0 v1 v2 : Value) (hv0 : Ty.has (Ty.nat n) σ v0) (hv1 : Ty.has (Ty.lst Ty.ints G) σ v1) (hv2 : Ty.has (Ty.lst Ty.int w) σ v2)  (hn : 1 ≤ n ∧ n ≤ 12) (hG : ∀ x ∈ G, RowN n x) (hGl : G.length ≤ 8) (hwb : ∀ j, -9223372036854775808 ≤ w.getD j 0 ∧ w.getD j 0 ≤ 9223372036854775807) :
    FnC Try.prog 45 #[v0, v1, v2] σ (Ty.tup2 (Ty.lst Ty.int (sayR n G w)) (Ty.int (sayE G w))) := by
 refine fn_intro0 Try.func45 rfl Try.ntmps45 (Nat.le_of_ble_eq_true rfl) (fun s0 a0 hle F0 ok0 hargs => ?_)
 have p0 := pA hle (hargs 0 _ rfl) hv0
 have p1 := pA hle (hargs 1 _ rfl) hv1
 have b1 := sl_le p1
 have p2 := pA hle (hargs 2 _ rfl) hv2
 have b2 := sl_le p2
 clear hargs; refine wp_seq ?_
 refine gI a0 s0 ok0 (gC (Ty.val (Value.slice none 0 0)) (gC (Ty.int (0 : Int)) (gE ok0 fun a1 s1 ok1 D1 => ?_))); have q3 := D1.k p2; refine tn (wp_seq (wp_seq ?_))
 refine gI a1 s1 ok1 (gM q3 (gS rfl (fun A B E H I d0 => rP (y_len Try.underlying22 (eI d0))) (gS rfl (fun A B E H I d0 => rP (y_gtr (eI d0) rfl)) (gE ok1 fun a2 s2 ok2 D2 => ?_)))); have F2 := (F0.step0 D1.stp).step0 D2.stp; refine tn ?_
 refine cond_p (p := ((20000 : Int) < (((List.length w) : Nat) : Int))) (D2.m 2 rfl) (fun c1 => ?_) (fun c1 => ?_)
 ·
  obtain ⟨hE, hR⟩ := say_3 (n := n) (G := G) (w := w) oM
  refine wp_seq ?_
  refine gI a2 s2 ok2 (gC (Ty.val (Value.slice none 0 0)) (gC (Ty.int (3 : Int)) (gE ok2 fun a3 s3 ok3 D3 => ?_))); refine tn (wp_ret (tr ?_))
  exact retL2 rfl ok3 (F2.step0 D3.stp) (hasT2 (nil_lst (by (rw [hR])) (D3.m 0 rfl)) (cvi (by (rw [hE])) (D3.m 1 rfl)))
 ·
  have hw2 : ¬ 20000 < w.length := oM
  refine wp_skip (tn (wp_seq ?_))
  refine gI a2 s2 ok2 (gM (D2.k (D1.k p0)) (gS rfl (fun A B E H I d0 => rP (y_call _ Try.func39 rfl rfl my1 (rRounds_fn (n) _ _ (eI d0) oM))) (gB 0 (gE ok2 fun a4 s4 ok4 D4 => ?_)))); refine tn (wp_seq (wp_seq ?_))
  refine gI a4 s4 ok4 (gC (Ty.int (0 : Int)) (gE ok4 fun a5 s5 ok5 D5 => ?_)); refine tn (wp_block ?_)
  refine loop (fun n1 a6 w1 => ∃ (t1 : GW) (j : Nat), t1.w = w1 ∧ FromL [] s0 t1 ∧ Ok 64 [] a6 ∧ At (Ty.nat j) t1 a6 (.tmp 9) ∧ At (Ty.lst Ty.int (sayT n G w j)) t1 a6 (.tmp 8) ∧ At (Ty.lst Ty.ints G) t1 a6 (.tmp 1) ∧ At (Ty.lst Ty.int w) t1 a6 (.tmp 2) ∧ (j ≤ w.length) ∧ (badW G w j = false) ∧ n1 = w.length - j) (w.length - (0)) ?_ ?_
  ·
   exact ⟨s5, 0, rfl, ((F2.step0 D4.stp).step0 D5.stp), ok5, (cJ (D5.m 0 rfl)), (cvt (by (rfl)) (D5.k (D4.m 2 rfl))), (D5.k (D4.k (D2.k (D1.k p1)))), (D5.k (D4.k (D2.k q3))), by omega, rfl, rfl⟩
  ·
   rintro n2 a7 w2 ⟨t2, j, rfl, F6, ok6, q17, q18, q19, q20, hj, hB, rfl⟩
   refine wp_seq (wp_seq ?_)
   refine gI a7 t2 ok6 (gM q17 (gM q20 (gS rfl (fun A B E H I d0 => rP (y_len Try.underlying22 (eI d0))) (gS rfl (fun A B E H I d0 d1 => rP (y_lss (eI d0) (eI d1))) (gE ok6 fun a8 s6 ok7 D6 => ?_))))); have F7 := F6.step0 D6.stp; have q21 := D6.k q17; have q22 := D6.k q18; have q24 := D6.k q20; refine tn ?_
   refine cond_p (p := (((j : Nat) : Int) < (((List.length w) : Nat) : Int))) (D6.m 3 rfl) (fun c2 => ?_) (fun c2 => ?_)
   ·
    have hsr := say_row hn hG hB; have hsl := hsr.len; have hwj := hwb j; have hwr := wr64_neg hwj.1 hwj.2
    refine wp_skip (tn (wp_seq (wp_block (wp_seq ?_))))
    refine gI a8 s6 ok7 (gM q24 (gM q21 (gT (Ty.ref [(Ty.int (w.getD j 0))]) rfl (fun A B E H I d0 d1 => rP (y_index1 Try.underlying22 Try.inf3 (eI d0) (eI d1) oM (lst_get Ty.int w 0 j oM))) (gS rfl (fun A B E H I d0 => rP (y_load Try.underlying3 rfl (eI d0) rfl)) (gB 0 (gE ok7 fun a9 s7 ok8 D7 => ?_)))))); have q28 := D7.k (D6.k q19); have q30 := D7.m 4 rfl; refine tn (wp_seq (wp_seq ?_))
    refine gI a9 s7 ok8 (gM q30 (gS rfl (fun A B E H I d0 => rP (y_eql (eI d0) rfl)) (gS rfl (fun A B E H I d0 => rP (y_move (eI d0))) (gS rfl (fun A B E H I d0 => gu H (eI d0) fun hg => y_move (kp (I 10 rfl) E q30)) (gS rfl (fun A B E H I d0 => gu H (eI d0) fun hg => y_move (kp (I 1 rfl) E q28)) (gS rfl (fun A B E H I d0 d1 => gu H (eI d1) fun hg => y_len Try.underlying24 ((ef d0 rfl).1 hg)) (gS rfl (fun A B E H I d0 d1 d2 => gu H (eI d2) fun hg => y_gtr ((ef d0 rfl).1 hg) ((ef d1 rfl).1 hg)) (gS rfl (fun A B E H I d0 d1 => rP (y_pick_or (eI d0) rfl (eI d1))) (gS rfl (fun A B E H I d0 d1 => rP (y_move (eI d0))) (gT (Ty.grd (((decide ((w.getD j 0) = (0 : Int))) || (decide ((((List.length G) : Nat) : Int) < (w.getD j 0)))) = false) (Ty.int (w.getD j 0))) rfl (by intro A B E H I d0; refine run_guard H rfl rfl dE (eI d0) (fun hg => ?_); obtain ⟨d1, d2⟩ := Bool.or_eq_false_iff.mp hg; have d1 := of_decide_eq_false d1; have d2 := of_decide_eq_false d2; exact y_move (kp (I 10 rfl) E q30)) (gT (Ty.grd (((decide ((w.getD j 0) = (0 : Int))) || (decide ((((List.length G) : Nat) : Int) < (w.getD j 0)))) = false) (Ty.int (wr64 (-(w.getD j 0))))) rfl (by intro A B E H I d0 d1; refine run_guard H rfl rfl dE (eI d1) (fun hg => ?_); obtain ⟨d3, d4⟩ := Bool.or_eq_false_iff.mp hg; have d3 := of_decide_eq_false d3; have d4 := of_decide_eq_false d4; exact y_negW ((ef d0 rfl).1 hg)) ?_)))))))))))
    refine gT (Ty.grd (((decide ((w.getD j 0) = (0 : Int))) || (decide ((((List.length G) : Nat) : Int) < (w.getD j 0)))) = false) (Ty.lst Ty.ints G)) rfl (by intro A B E H I d0; refine run_guard H rfl rfl dE (eI d0) (fun hg => ?_); obtain ⟨d5, d6⟩ := Bool.or_eq_false_iff.mp hg; have d5 := of_decide_eq_false d5; have d6 := of_decide_eq_false d6; exact y_move (kp (I 1 rfl) E q28)) (gT (Ty.grd (((decide ((w.getD j 0) = (0 : Int))) || (decide ((((List.length G) : Nat) : Int) < (w.getD j 0)))) = false) (Ty.nat (List.length G))) rfl (by intro A B E H I d0 d1; refine run_guard H rfl rfl dE (eI d1) (fun hg => ?_); obtain ⟨d7, d8⟩ := Bool.or_eq_false_iff.mp hg; have d7 := of_decide_eq_false d7; have d8 := of_decide_eq_false d8; exact y_len Try.underlying24 ((ef d0 rfl).1 hg)) (gT (Ty.grd (((decide ((w.getD j 0) = (0 : Int))) || (decide ((((List.length G) : Nat) : Int) < (w.getD j 0)))) = false) (Ty.bool (decide ((((List.length G) : Nat) : Int) < (wr64 (-(w.getD j 0))))))) rfl (by intro A B E H I d0 d1 d2; refine run_guard H rfl rfl dE (eI d2) (fun hg => ?_); obtain ⟨d9, d10⟩ := Bool.or_eq_false_iff.mp hg; have d9 := of_decide_eq_false d9; have d10 := of_decide_eq_false d10; exact y_gtr ((ef d0 rfl).1 hg) ((ef d1 rfl).1 hg)) (gS rfl (fun A B E H I d0 d1 => rP (y_pick_or (eI d0) rfl (eI d1))) (gS rfl (fun A B E H I d0 d1 => rP (y_move (eI d0))) ?_))))
    refine gT (Ty.grd ((((decide ((w.getD j 0) = (0 : Int))) || (decide ((((List.length G) : Nat) : Int) < (w.getD j 0)))) || (decide ((((List.length G) : Nat) : Int) < (wr64 (-(w.getD j 0)))))) = false) (Ty.int (w.getD j 0))) rfl (by intro A B E H I d0; refine run_guard H rfl rfl dE (eI d0) (fun hg => ?_); obtain ⟨d11, d12⟩ := Bool.or_eq_false_iff.mp hg; obtain ⟨d13, d14⟩ := Bool.or_eq_false_iff.mp d11; have d13 := of_decide_eq_false d13; have d14 := of_decide_eq_false d14; have d12 := of_decide_eq_false d12; exact y_move (kp (I 10 rfl) E q30)) (gT (Ty.grd ((((decide ((w.getD j 0) = (0 : Int))) || (decide ((((List.length G) : Nat) : Int) < (w.getD j 0)))) || (decide ((((List.length G) : Nat) : Int) < (wr64 (-(w.getD j 0)))))) = false) (Ty.bool (decide ((w.getD j 0) < (-100 : Int))))) rfl (by intro A B E H I d0 d1; refine run_guard H rfl rfl dE (eI d1) (fun hg => ?_); obtain ⟨d15, d16⟩ := Bool.or_eq_false_iff.mp hg; obtain ⟨d17, d18⟩ := Bool.or_eq_false_iff.mp d15; have d17 := of_decide_eq_false d17; have d18 := of_decide_eq_false d18; have d16 := of_decide_eq_false d16; exact y_lss ((ef d0 rfl).1 hg) rfl) (gS rfl (fun A B E H I d0 d1 => rP (y_pick_or (eI d0) rfl (eI d1))) (gE ok8 fun a10 s8 ok9 D8 => ?_))); have F9 := (F7.step0 D7.stp).step0 D8.stp; have q35 := D8.k q30; refine tn ?_
    refine cond_t (D8.m 18 rfl) (fun c3 => ?_) (fun c3 => ?_)
    ·
     simp only [Bool.or_eq_true, decide_eq_true_eq] at c3; obtain ⟨hE, hR⟩ := say_12 (n := n) (G := G) (w := w) hw2 (badW_yes (G := G) (show j < w.length by omega) oM)
     refine wp_seq ?_
     refine gI a10 s8 ok9 (gC (Ty.val (Value.slice none 0 0)) (gC (Ty.int (12 : Int)) (gE ok9 fun a11 s9 ok10 D9 => ?_))); refine tn (wp_ret (tr (br (tr (tr (br (tr ?_)))))))
     exact retL2 rfl ok10 (F9.step0 D9.stp) (hasT2 (nil_lst (by (rw [hR])) (D9.m 0 rfl)) (cvi (by (rw [hE])) (D9.m 1 rfl)))
    ·
     obtain ⟨d19, d20⟩ := Bool.or_eq_false_iff.mp c3
     obtain ⟨d21, d22⟩ := Bool.or_eq_false_iff.mp d19
     obtain ⟨d23, d24⟩ := Bool.or_eq_false_iff.mp d21
     replace d23 := of_decide_eq_false d23
     replace d24 := of_decide_eq_false d24
     replace d22 := of_decide_eq_false d22
     replace d20 := of_decide_eq_false d20
     simp only [Bool.or_eq_false_iff, decide_eq_false_iff_not] at c3; have hok : ¬ (w.getD j 0 = 0 ∨ (G.length : Int) < w.getD j 0 ∨ w.getD j 0 < -(G.length : Int)) := oM; have hB2 := badW_succ hB hok; have hsrr := hsr.row
     refine wp_skip (tn (wp_seq ?_))
     refine gI a10 s8 ok9 (gM q35 (gS rfl (fun A B E H I d0 => rP (y_gtr (eI d0) rfl)) (gE ok9 fun a12 s10 ok11 D10 => ?_))); have F11 := F9.step0 D10.stp; have q39 := D10.k (D8.k (D7.k q21)); have q40 := D10.k (D8.k (D7.k q22)); have q41 := D10.k (D8.k q28); have q42 := D10.k (D8.k (D7.k q24)); have q43 := D10.k q35; refine tn ?_
     refine cond_p (p := ((0 : Int) < (w.getD j 0))) (D10.m 1 rfl) (fun c4 => ?_) (fun c4 => ?_)
     ·
      have hgr := hG _ (mem_atD [] (show (w.getD j 0 - 1).toNat < G.length by omega)); have hgb := hgr.bds hsl; have hgl := hgr.len; have hgrr := hgr.row
      refine gI a12 s10 ok11 (gM q40 (gM q41 (gM q43 (gT (Ty.int ((w.getD j 0) - (1 : Int))) rfl (fun A B E H I d0 => rP (y_sub (eI d0) rfl wX)) (gT (Ty.ref [(Ty.lst Ty.int (G.getD (((w.getD j 0) - (1 : Int))).toNat []))]) rfl (fun A B E H I d0 d1 => rP (y_index1 Try.underlying24 Try.inf22 (eI d0) (eI d1) oM (lst_get Ty.ints G [] (((w.getD j 0) - (1 : Int))).toNat oM))) (gS rfl (fun A B E H I d0 => rP (y_load Try.underlying22 rfl (eI d0) rfl)) (gS rfl (fun A B E H I d0 d1 => rP (y_call _ Try.func22 rfl rfl my2 (rBy_fn ((sayT n G w j)) ((G.getD (((w.getD j 0) - (1 : Int))).toNat [])) _ _ _ (eI d0) (eI d1) (by first | assumption | omega) (by first | assumption | omega)))) (gB 0 (gE ok11 fun a13 s11 ok12 D11 => ?_))))))))); refine bn (tn ?_)
      refine gI a13 s11 ok12 (gM (D11.k q39) (gT (Ty.nat (j + 1)) rfl (fun A B E H I d0 => rP ((y_add (eI d0) rfl wX).mono (fun τ _ h => cN (σ := τ) h))) (gB 0 (gE ok12 fun a14 s12 ok13 D12 => ?_))))
      exact tn ⟨w.length - ((j+1)), by omega, s12, (j+1), rfl, ((F11.step0 D11.stp).step0 D12.stp), ok13, (cJ (D12.m 2 rfl)), (cvt (by (rw [sayT]; unfold genL; rw [if_neg oM])) (D12.k (D11.m 7 rfl))), (D12.k (D11.k q41)), (D12.k (D11.k q42)), by omega, hB2, rfl⟩
     ·
      have hgr := hG _ (mem_atD [] (show (-w.getD j 0 - 1).toNat < G.length by omega)); have hgu := hgr.undo; have hgb := hgu.bds hsl; have hgl := hgu.len; have hgl2 := hgr.len; have hgrr := hgr.row; have hgur := hgu.row
      refine gI a12 s10 ok11 (gM q40 (gM q41 (gM q43 (gT (Ty.int (-(w.getD j 0))) rfl (fun A B E H I d0 => rP (y_neg (eI d0) wX)) (gT (Ty.int ((-(w.getD j 0)) - (1 : Int))) rfl (fun A B E H I d0 => rP (y_sub (eI d0) rfl wX)) (gT (Ty.ref [(Ty.lst Ty.int (G.getD (((-(w.getD j 0)) - (1 : Int))).toNat []))]) rfl (fun A B E H I d0 d1 => rP (y_index1 Try.underlying24 Try.inf22 (eI d0) (eI d1) oM (lst_get Ty.ints G [] (((-(w.getD j 0)) - (1 : Int))).toNat oM))) (gS rfl (fun A B E H I d0 => rP (y_load Try.underlying22 rfl (eI d0) rfl)) (gS rfl (fun A B E H I d0 => rP (y_call _ Try.func23 rfl rfl my1 (rUndo_fn ((G.getD (((-(w.getD j 0)) - (1 : Int))).toNat [])) _ _ (eI d0) (by assumption)))) (gS rfl (fun A B E H I d0 d1 d2 => rP (y_call _ Try.func22 rfl rfl my2 (rBy_fn ((sayT n G w j)) ((undoL ((G.getD (((-(w.getD j 0)) - (1 : Int))).toNat [])))) _ _ _ (eI d0) (eI d1) (by first | assumption | omega) (by first | assumption | omega)))) (gB 0 (gE ok11 fun a15 s13 ok14 D13 => ?_))))))))))); refine bn (tn ?_)
      refine gI a15 s13 ok14 (gM (D13.k q39) (gT (Ty.nat (j + 1)) rfl (fun A B E H I d0 => rP ((y_add (eI d0) rfl wX).mono (fun τ _ h => cN (σ := τ) h))) (gB 0 (gE ok14 fun a16 s14 ok15 D14 => ?_))))
      exact tn ⟨w.length - ((j+1)), by omega, s14, (j+1), rfl, ((F11.step0 D13.stp).step0 D14.stp), ok15, (cJ (D14.m 2 rfl)), (cvt (by (rw [sayT]; unfold genL; rw [if_pos oM])) (D14.k (D13.m 9 rfl))), (D14.k (D13.k q41)), (D14.k (D13.k q42)), by omega, hB2, rfl⟩
   ·
    have ej : j = w.length := oM; obtain ⟨hE, hR⟩ := say_0 (n := n) hw2 (ej ▸ hB)
    refine wp_exit (tx (tx (bx (tn (wp_seq ?_)))))
    refine gI a8 s6 ok7 (gM q22 (gB 0 (gC (Ty.int (0 : Int)) (gE ok7 fun a17 s15 ok16 D15 => ?_)))); refine tn (wp_ret ?_)
    exact retL2 rfl ok16 (F7.step0 D15.stp) (hasT2 (cvt (by (rw [hR, ej])) (D15.m 1 rfl)) (cvi (by (rw [hE])) (D15.m 2 rfl)))


set_option maxRecDepth 100000 in
theorem rsame_fn (xs : List Int) (ys : List Int) (σ : GW) (v0 v1 : Value) (hv0 : Ty.has (Ty.lst Ty.int xs) σ v0) (hv1 : Ty.has (Ty.lst Ty.int ys) σ v1)  :
    FnC Try.prog 37 #[v0, v1] σ (Ty.bool (decide (xs = ys))) := by
 refine fn_intro Try.func37 rfl Try.ntmps37 (Nat.le_of_ble_eq_true rfl) (fun s0 a0 hle F0 ok0 hargs => ?_)
 have p0 := pA hle (hargs 0 _ rfl) hv0
 have b1 := sl_le p0
 have p1 := pA hle (hargs 1 _ rfl) hv1
 have b2 := sl_le p1
 clear hargs; refine wp_seq ?_
 refine gI a0 s0 ok0 (gC (Ty.bool false) (gE ok0 fun a1 s1 ok1 D1 => ?_)); have q1 := D1.k p0; have q2 := D1.k p1; refine tn (wp_seq (wp_seq ?_))
 refine gI a1 s1 ok1 (gM q1 (gS rfl (fun A B E H I d0 => rP (y_len Try.underlying22 (eI d0))) (gM q2 (gS rfl (fun A B E H I d0 => rP (y_len Try.underlying22 (eI d0))) (gS rfl (fun A B E H I d0 d1 => rP (y_neq (eI d0) (eI d1))) (gE ok1 fun a2 s2 ok2 D2 => ?_)))))); have F2 := (F0.step0 D1.stp).step0 D2.stp; refine tn ?_
 refine cond_p (p := ((((List.length xs) : Nat) : Int) ≠ (((List.length ys) : Nat) : Int))) (D2.m 4 rfl) (fun c1 => ?_) (fun c1 => ?_)
 ·
  refine wp_seq ?_
  refine gI a2 s2 ok2 (gC (Ty.bool false) (gE ok2 fun a3 s3 ok3 D3 => ?_)); refine tn (wp_ret (tr ?_))
  exact ret1 rfl ok3 (F2.step0 D3.stp) (cvb (by (rw [decide_eq_false]; intro e; subst e; omega)) (D3.m 0 rfl))
 ·
  refine wp_skip (tn (wp_seq (wp_seq ?_)))
  refine gI a2 s2 ok2 (gC (Ty.int (0 : Int)) (gE ok2 fun a4 s4 ok4 D4 => ?_)); refine tn (wp_block ?_)
  refine loop (fun n1 a5 w1 => ∃ (t1 : GW) (k : Nat), t1.w = w1 ∧ From s0 t1 ∧ Ok 26 [] a5 ∧ At (Ty.nat k) t1 a5 (.tmp 5) ∧ At (Ty.lst Ty.int xs) t1 a5 (.tmp 0) ∧ At (Ty.lst Ty.int ys) t1 a5 (.tmp 1) ∧ (k ≤ xs.length) ∧ (xs.length = ys.length) ∧ (∀ j, j < k → xs.getD j 0 = ys.getD j 0) ∧ n1 = xs.length - k) (xs.length - (0)) ?_ ?_
  ·
   exact ⟨s4, 0, rfl, (F2.step0 D4.stp), ok4, (cJ (D4.m 0 rfl)), (D4.k (D2.k q1)), (D4.k (D2.k q2)), by omega, by omega, fun j hj => absurd hj (Nat.not_lt_zero j), rfl⟩
  ·
   rintro n2 a6 w2 ⟨t2, k, rfl, F5, ok5, q10, q11, q12, hk, hl, heq, rfl⟩
   refine wp_seq (wp_seq ?_)
   refine gI a6 t2 ok5 (gM q10 (gM q11 (gS rfl (fun A B E H I d0 => rP (y_len Try.underlying22 (eI d0))) (gS rfl (fun A B E H I d0 d1 => rP (y_lss (eI d0) (eI d1))) (gE ok5 fun a7 s5 ok6 D5 => ?_))))); have F6 := F5.step0 D5.stp; have q13 := D5.k q10; have q14 := D5.k q11; have q15 := D5.k q12; refine tn ?_
   refine cond_p (p := (((k : Nat) : Int) < (((List.length xs) : Nat) : Int))) (D5.m 3 rfl) (fun c2 => ?_) (fun c2 => ?_)
   ·
    refine wp_skip (tn (wp_seq (wp_block (wp_seq ?_))))
    refine gI a7 s5 ok6 (gM q14 (gM q13 (gT (Ty.ref [(Ty.int (xs.getD k 0))]) rfl (fun A B E H I d0 d1 => rP (y_index1 Try.underlying22 Try.inf3 (eI d0) (eI d1) oM (lst_get Ty.int xs 0 k oM))) (gS rfl (fun A B E H I d0 => rP (y_load Try.underlying3 rfl (eI d0) rfl)) (gM q15 (gM q13 (gT (Ty.ref [(Ty.int (ys.getD k 0))]) rfl (fun A B E H I d0 d1 => rP (y_index1 Try.underlying22 Try.inf3 (eI d0) (eI d1) oM (lst_get Ty.int ys 0 k oM))) (gS rfl (fun A B E H I d0 => rP (y_load Try.underlying3 rfl (eI d0) rfl)) (gS rfl (fun A B E H I d0 d1 => rP (y_neq (eI d0) (eI d1))) (gE ok6 fun a8 s6 ok7 D6 => ?_)))))))))); have F7 := F6.step0 D6.stp; refine tn ?_
    refine cond_p (p := ((xs.getD k 0) ≠ (ys.getD k 0))) (D6.m 8 rfl) (fun c3 => ?_) (fun c3 => ?_)
    ·
     refine wp_seq ?_
     refine gI a8 s6 ok7 (gC (Ty.bool false) (gE ok7 fun a9 s7 ok8 D7 => ?_)); refine tn (wp_ret (br (tr (tr (br (tr ?_))))))
     exact ret1 rfl ok8 (F7.step0 D7.stp) (cvb (by (exact (decide_eq_false (fun e => by subst e; simp_all)).symm)) (D7.m 0 rfl))
    ·
     refine wp_skip (bn (tn ?_))
     refine gI a8 s6 ok7 (gM (D6.k q13) (gT (Ty.int (((k : Nat) : Int) + (1 : Int))) rfl (fun A B E H I d0 => rP (y_add (eI d0) rfl wX)) (gB 0 (gE ok7 fun a10 s8 ok9 D8 => ?_))))
     exact tn ⟨xs.length - ((k+1)), by omega, s8, (k+1), rfl, (F7.step0 D8.stp), ok9, (cJ (D8.m 2 rfl)), (D8.k (D6.k q14)), (D8.k (D6.k q15)), by omega, by omega, all_snoc heq (by assumption), rfl⟩
   ·
    refine wp_exit (tx (tx (bx (tn (wp_seq ?_)))))
    refine gI a7 s5 ok6 (gC (Ty.bool true) (gE ok6 fun a11 s9 ok10 D9 => ?_)); refine tn (wp_ret ?_)
    exact ret1 rfl ok10 (F6.step0 D9.stp) (cvb (by (exact (decide_eq_true (list_ext oM (fun j hj => heq j oM))).symm)) (D9.m 0 rfl))


set_option maxHeartbeats 4000000 in
set_option maxRecDepth 100000 in
theorem gFits_fn (gv : Value) (gs : Value) (cs : Value) (n : Nat) (r : List Int) (σ : GW) (hlow : Low [41] σ) (v0 v1 : Value) (hv0 : Ty.has (Ty.val gv) σ v0) (hv1 : Ty.has (Ty.lst Ty.int r) σ v1) (ho_gv : OwnP σ 41 gv [(Ty.nat n), (Ty.val gs), (Ty.val cs)])  :
    FnL Try.prog 76 #[v0, v1] σ [41] (fun v τ => (Ty.has (Ty.int (fitsE n r)) τ v) ∧ (OwnP τ 41 gv [(Ty.nat n), (Ty.val gs), (Ty.val cs)])) := by
 refine fn_introL hlow Try.func76 rfl Try.ntmps76 (Nat.le_of_ble_eq_true rfl) (fun a0 F0 ok0 hargs => ?_)
 have p0 := pB (hargs 0 _ rfl) hv0
 have p1 := pB (hargs 1 _ rfl) hv1
 have b1 := sl_le p1
 clear hargs; refine wp_seq ?_
 refine gI a0 σ ok0 (gC (Ty.int (0 : Int)) (gE ok0 fun a1 s1 ok1 D1 => ?_)); have q2 := D1.k p1; have o1 := OwnP.k0 ho_gv D1.stp; refine tn (wp_seq (wp_seq ?_))
 refine gI a1 s1 ok1 (gM q2 (gS rfl (fun A B E H I d0 => rP (y_call _ Try.func72 rfl rfl my1 (rowCheck_fn (r) _ _ (eI d0) ))) (gB 0 (gE ok1 fun a2 s2 ok2 D2 => ?_)))); have o2 := OwnP.k0 o1 D2.stp; have q5 := D2.m 2 rfl; refine tn (wp_seq ?_)
 refine gI a2 s2 ok2 (gM q5 (gS rfl (fun A B E H I d0 => rP (y_neq (eI d0) rfl)) (gE ok2 fun a3 s3 ok3 D3 => ?_))); have F3 := ((F0.step0 D1.stp).step0 D2.stp).step0 D3.stp; have o3 := OwnP.k0 o2 D3.stp; refine tn ?_
 refine cond_p (p := ((rowMay r) ≠ (0 : Int))) (D3.m 1 rfl) (fun c1 => ?_) (fun c1 => ?_)
 ·
  have h1 : rowMay r ≠ 0 := c1
  refine wp_seq ?_
  refine gI a3 s3 ok3 (gM (D3.k q5) (gB 0 (gE ok3 fun a4 s4 ok4 D4 => ?_))); have o4 := OwnP.k0 o3 D4.stp; refine tn (wp_ret (tr ?_))
  exact retL1 rfl ok4 (F3.step0 D4.stp) ⟨(cvi (by (unfold fitsE; rw [if_pos h1])) (D4.m 1 rfl)), o4⟩
 ·
  have h1 : ¬ rowMay r ≠ 0 := c1
  refine wp_skip (tn (wp_seq (wp_seq ?_)))
  refine gI a3 s3 ok3 (gM (D3.k (D2.k q2)) (gS rfl (fun A B E H I d0 => rP (y_len Try.underlying22 (eI d0))) (gM (D3.k (D2.k (D1.k p0))) (gT (Ty.val gv) rfl (fun A B E H I d0 => rP (y_nilp (OwnP.k0 o3 E) (eI d0))) (gT (Ty.val (ptrAt gv 0)) rfl (fun A B E H I d0 => rP (ownp_field Try.fld95_0 Try.inf3 dE (OwnP.k0 o3 E) (eI d0))) (gS rfl (fun A B E H I d0 => rP (ownp_load Try.underlying3 rfl (OwnP.k0 o3 E) (eI d0) rfl)) (gS rfl (fun A B E H I d0 d1 => rP (y_neq (eI d0) (eI d1))) (gE ok3 fun a5 s5 ok5 D5 => ?_)))))))); have F5 := F3.step0 D5.stp; have o5 := OwnP.k0 o3 D5.stp; refine tn ?_
  refine cond_p (p := ((((List.length r) : Nat) : Int) ≠ ((n : Nat) : Int))) (D5.m 6 rfl) (fun c2 => ?_) (fun c2 => ?_)
  ·
   have h2 : r.length ≠ n := oM
   refine wp_seq ?_
   refine gI a5 s5 ok5 (gC (Ty.int (1 : Int)) (gE ok5 fun a6 s6 ok6 D6 => ?_)); have o6 := OwnP.k0 o5 D6.stp; refine tn (wp_ret (tr ?_))
   exact retL1 rfl ok6 (F5.step0 D6.stp) ⟨(cvi (by (unfold fitsE; rw [if_neg h1, if_pos h2])) (D6.m 0 rfl)), o6⟩
  ·
   have h2 : ¬ r.length ≠ n := oM
   refine wp_skip (tn (wp_seq ?_))
   refine gI a5 s5 ok5 (gC (Ty.int (0 : Int)) (gE ok5 fun a7 s7 ok7 D7 => ?_)); have o7 := OwnP.k0 o5 D7.stp; refine tn (wp_ret ?_)
   exact retL1 rfl ok7 (F5.step0 D7.stp) ⟨(cvi (by (unfold fitsE; rw [if_neg h1, if_neg h2])) (D7.m 0 rfl)), o7⟩


set_option maxHeartbeats 4000000 in
set_option maxRecDepth 100000 in
theorem gHas_fn (gv : Value) (gs : Value) (cs : Value) (us : List Value) (n : Nat) (c : Nat → Lev) (r : List Int) (σ : GW) (hlow : Low [41, 42] σ) (v0 v1 : Value) (hv0 : Ty.has (Ty.val gv) σ v0) (hv1 : Ty.has (Ty.lst Ty.int r) σ v1) (ho_gv : OwnP σ 41 gv [(Ty.nat n), (Ty.val gs), (Ty.val cs)]) (ho_cs : ChnU σ 42 22 108 cs n c us) (hw : WC n c) :
    FnL Try.prog 46 #[v0, v1] σ [41, 42] (fun v τ => (Ty.has (Ty.tup2 (Ty.bool (hasB n c r)) (Ty.int (fitsE n r))) τ v) ∧ (OwnP τ 41 gv [(Ty.nat n), (Ty.val gs), (Ty.val cs)]) ∧ (ChnU τ 42 22 108 cs n c us)) := by
 refine fn_introL hlow Try.func46 rfl Try.ntmps46 (Nat.le_of_ble_eq_true rfl) (fun a0 F0 ok0 hargs => ?_)
 have p0 := pB (hargs 0 _ rfl) hv0
 have p1 := pB (hargs 1 _ rfl) hv1
 have b1 := sl_le p1
 clear hargs; refine wp_seq ?_
 refine gI a0 σ ok0 (gC (Ty.bool false) (gC (Ty.int (0 : Int)) (gE ok0 fun a1 s1 ok1 D1 => ?_))); have q1 := D1.k p0; have q2 := D1.k p1; have o1 := OwnP.k0 ho_gv D1.stp; have o2 := ChnU.k0 ho_cs D1.stp; refine tn (wp_seq (wp_seq ?_))
 refine gI a1 s1 ok1 (gM q1 (gM q2 (gE2 ok1 fun a2 s2 ok2 D2 => ?_))); have o3 := OwnP.k0 o1 D2.stp; have o4 := ChnU.k0 o2 D2.stp
 refine tL ok2 (y_callL (L := [41]) [(41, 41)] [(41, 41)] #[a2.eval (.tmp 9), a2.eval (.tmp 10)] rfl dE Try.func76 rfl rfl my2 (gFits_fn (gv) (gs) (cs) (n) (r) _ lW _ _ (uL (D2.m 0 rfl)) (uL (D2.m 1 rfl)) (OwnP.ren o3 (GW.ren_lend _ _ dE rfl)) )) fun a3 s3 hs1 ok3 r1 sm1 => ?_
 obtain ⟨t1, ⟨hT1, o5⟩, B1⟩ := r1
 have q9 : At (Ty.int (fitsE n r)) s3 a3 (.tmp 11) := Ty.up _ B1.le hT1
 have o6 : OwnP s3 41 gv [(Ty.nat n), (Ty.val gs), (Ty.val cs)] := OwnP.ren o5 (B1.ren dE rfl)
 refine tL ok3 (Yld.toL (y_as q9)) fun a4 s4 hs2 ok4 r2 sm2 => ?_
 have q12 : At (Ty.int (fitsE n r)) s4 a4 (.tmp 6) := r2
 clear r2; refine wpList_nil (tn (wp_seq ?_))
 refine gI a4 s4 ok4 (gM q12 (gS rfl (fun A B E H I d0 => rP (y_neq (eI d0) rfl)) (gE ok4 fun a5 s5 ok5 D3 => ?_))); have F5 := ((((F0.step0 D1.stp).step0 D2.stp).sl hs1).sl hs2).step0 D3.stp; have q13 := D3.k (kq hs2 sm2 0 (kq hs1 sm1 0 (D2.k q1))); have o10 := ChnU.k0 (ChnU.kl (ChnU.kl o4 hs1) hs2) D3.stp; have o11 := OwnP.k0 (OwnP.kl o6 hs2) D3.stp; refine tn ?_
 refine cond_p (p := ((fitsE n r) ≠ (0 : Int))) (D3.m 1 rfl) (fun c1 => ?_) (fun c1 => ?_)
 ·
  have h0 : fitsE n r ≠ 0 := c1
  refine wp_seq ?_
  refine gI a5 s5 ok5 (gM (D3.k q12) (gC (Ty.bool false) (gB 0 (gE ok5 fun a6 s6 ok6 D4 => ?_)))); have o12 := ChnU.k0 o10 D4.stp; have o13 := OwnP.k0 o11 D4.stp; refine tn (wp_ret (tr ?_))
  exact retL2 rfl ok6 (F5.step0 D4.stp) ⟨(hasT2 (cvb (by (rw [hasB_no h0])) (D4.m 1 rfl)) (D4.m 2 rfl)), o13, o12⟩
 ·
  have h0 : fitsE n r = 0 := oM; have hr := fits_ok.1 h0; have hf0 : Fx 0 r := (fun i hi => by omega)
  refine wp_skip (tn (wp_seq ?_))
  refine gI a5 s5 ok5 (gM q13 (gM (D3.k (kq hs2 sm2 1 (kq hs1 sm1 1 (D2.k q2)))) (gE2 ok5 fun a7 s7 ok7 D5 => ?_))); have o14 := ChnU.k0 o10 D5.stp; have o15 := OwnP.k0 o11 D5.stp
  refine tL ok7 (y_callL (L := [41, 42]) [(41, 41), (42, 42)] [(41, 41), (42, 42)] #[a7.eval (.tmp 16), a7.eval ((Operand.const (Value.int IntKind.i64 0))), a7.eval (.tmp 17)] rfl dE Try.func77 rfl rfl my3 (sift_fn (gv) (gs) (cs) (us) (n) (0) (c) (r) _ lW _ _ _ (uL (D5.m 0 rfl)) (uL (cvi (σ := s7) oX rfl)) (uL (D5.m 1 rfl)) (OwnP.ren o15 (GW.ren_lend _ _ dE rfl)) (ChnU.ren o14 (GW.ren_lend _ _ dE rfl)) oX oX oX oX)) fun a8 s8 hs3 ok8 r3 sm3 => ?_
  obtain ⟨t2, ⟨hT2, o16, o17⟩, B2⟩ := r3
  have q23 : At (Ty.tup2 (Ty.nat (sftL n c (0) r).1) (Ty.lst Ty.int (sftL n c (0) r).2)) s8 a8 (.tmp 18) := Ty.up _ B2.le hT2
  have o18 : OwnP s8 41 gv [(Ty.nat n), (Ty.val gs), (Ty.val cs)] := OwnP.ren o16 (B2.ren dE rfl)
  have o19 : ChnU s8 42 22 108 cs n c us := ChnU.ren o17 (B2.ren dE rfl)
  refine tL ok8 (Yld.toL (y_mv q23)) fun a9 s9 hs4 ok9 r4 sm4 => ?_
  have q25 : At (Ty.tup2 (Ty.nat (sftL n c (0) r).1) (Ty.lst Ty.int (sftL n c (0) r).2)) s9 a9 (.tmp 15) := r4
  clear r4
  refine tL (R := (fun v τ => Pr.has (Ty.pr (Ty.nat (sftL n c (0) r).1)) τ v)) ok9 (Yld.toL (y_ext2_0 q25)) fun a10 s10 hs5 ok10 r5 sm5 => ?_
  have q28 : At (Ty.nat (sftL n c (0) r).1) s10 a10 (.tmp 19) := r5
  clear r5
  refine tL (R := (fun v τ => Pr.has (Ty.pr (Ty.lst Ty.int (sftL n c (0) r).2)) τ v)) ok10 (Yld.toL (y_ext2_1 (kq hs5 sm5 15 q25))) fun a11 s11 hs6 ok11 r6 sm6 => ?_
  have q31 : At (Ty.lst Ty.int (sftL n c (0) r).2) s11 a11 (.tmp 20) := r6
  clear r6
  refine tL ok11 (Yld.toL (y_as (kq hs6 sm6 19 q28))) fun a12 s12 hs7 ok12 r7 sm7 => ?_
  have q34 : At (Ty.nat (sftL n c (0) r).1) s12 a12 (.tmp 7) := r7
  clear r7
  refine tL ok12 (Yld.toL (y_as (kq hs7 sm7 20 q31))) fun a13 s13 hs8 ok13 r8 sm8 => ?_
  have o28 := OwnP.kl (OwnP.kl (OwnP.kl (OwnP.kl (OwnP.kl o18 hs4) hs5) hs6) hs7) hs8
  have q37 : At (Ty.lst Ty.int (sftL n c (0) r).2) s13 a13 (.tmp 8) := r8
  clear r8; refine wpList_nil (tn (wp_seq ?_))
  refine gI a13 s13 ok13 (gM (kq hs8 sm8 7 q34) (gM (kq hs8 sm8 0 (kq hs7 sm7 0 (kq hs6 sm6 0 (kq hs5 sm5 0 (kq hs4 sm4 0 (kq hs3 sm3 0 (D5.k q13))))))) (gT (Ty.val gv) rfl (fun A B E H I d0 => rP (y_nilp (OwnP.k0 o28 E) (eI d0))) (gT (Ty.val (ptrAt gv 0)) rfl (fun A B E H I d0 => rP (ownp_field Try.fld95_0 Try.inf3 dE (OwnP.k0 o28 E) (eI d0))) (gS rfl (fun A B E H I d0 => rP (ownp_load Try.underlying3 rfl (OwnP.k0 o28 E) (eI d0) rfl)) (gS rfl (fun A B E H I d0 d1 => rP (y_eql (eI d0) (eI d1))) (gB 0 (gC (Ty.int (0 : Int)) (gE ok13 fun a14 s14 ok14 D6 => ?_))))))))); have o30 := OwnP.k0 o28 D6.stp; have o31 := ChnU.k0 (ChnU.kl (ChnU.kl (ChnU.kl (ChnU.kl (ChnU.kl o19 hs4) hs5) hs6) hs7) hs8) D6.stp; refine tn (wp_ret ?_)
  exact retL2 rfl ok14 ((((((((F5.step0 D5.stp).sl hs3).sl hs4).sl hs5).sl hs6).sl hs7).sl hs8).step0 D6.stp) ⟨(hasT2 (cvb (by (rw [hasB_yes h0]; exact decide_eq_decide.2 oM)) (D6.m 6 rfl)) (cvi (by (rw [h0])) (D6.m 7 rfl))), o30, o31⟩


set_option maxHeartbeats 4000000 in
set_option maxRecDepth 100000 in
theorem rowPlace_fn (r : List Int) (σ : GW)  (v0 : Value) (hv0 : Ty.has (Ty.lst Ty.int r) σ v0)  (hr : r.length ≤ 12) :
    FnC Try.prog 94 #[v0] σ (Ty.nat (rankL r)) := by
 refine fn_intro0 Try.func94 rfl Try.ntmps94 (Nat.le_of_ble_eq_true rfl) (fun s0 a0 hle F0 ok0 hargs => ?_)
 have p0 := pA hle (hargs 0 _ rfl) hv0
 have b1 := sl_le p0
 clear hargs; refine wp_seq ?_
 refine gI a0 s0 ok0 (gC (Ty.int (0 : Int)) (gE ok0 fun a1 s1 ok1 D1 => ?_)); refine tn (wp_seq ?_)
 refine gI a1 s1 ok1 (gC (Ty.int (0 : Int)) (gE ok1 fun a2 s2 ok2 D2 => ?_)); have q2 := D2.k (D1.k p0); refine tn (wp_seq (wp_seq ?_))
 refine gI a2 s2 ok2 (gM q2 (gS rfl (fun A B E H I d0 => rP (y_len Try.underlying22 (eI d0))) (gT (Ty.int (0 : Int)) rfl (fun A B E H I => rP (y_move rfl)) (gE ok2 fun a3 s3 ok3 D3 => ?_)))); refine tn (wp_block ?_)
 refine loop (fun n1 a4 w1 => ∃ (t1 : GW) (i : Nat) (q : Nat), t1.w = w1 ∧ FromL [] s0 t1 ∧ Ok 41 [] a4 ∧ At (Ty.nat i) t1 a4 (.tmp 11) ∧ At (Ty.nat q) t1 a4 (.tmp 3) ∧ At (Ty.lst Ty.int r) t1 a4 (.tmp 0) ∧ At (Ty.lst Ty.int r) t1 a4 (.tmp 9) ∧ At (Ty.nat (List.length r)) t1 a4 (.tmp 10) ∧ (i ≤ r.length) ∧ (q * fct (r.length - i) + rankL (r.drop i) = rankL r) ∧ n1 = r.length - i) (r.length - (0)) ?_ ?_
 ·
  exact ⟨s3, 0, 0, rfl, (((F0.step0 D1.stp).step0 D2.stp).step0 D3.stp), ok3, (cJ (D3.m 2 rfl)), (cJ (D3.k (D2.m 0 rfl))), (D3.k q2), (D3.m 0 rfl), (D3.m 1 rfl), by omega, by simp, rfl⟩
 ·
  rintro n2 a5 w2 ⟨t2, i, q, rfl, F4, ok4, q9, q10, q11, q12, q13, hi, hq, rfl⟩
  have hpl := place_le hq
  have hrl := rank_le12 hr
  refine wp_seq ?_
  refine gI a5 t2 ok4 (gS rfl (fun A B E H I => rP (y_lss (kp (I 11 rfl) E q9) (kp (I 10 rfl) E q13))) (gE ok4 fun a6 s4 ok5 D4 => ?_)); have F5 := F4.step0 D4.stp; have q14 := D4.k q9; have q15 := D4.k q10; have q17 := D4.k q12; refine tn (wp_seq ?_)
  refine cond_p (p := (((i : Nat) : Int) < (((List.length r) : Nat) : Int))) (D4.m 0 rfl) (fun c1 => ?_) (fun c1 => ?_)
  ·
   have hmb := place_mul hr oM hq
   refine wp_skip (tn (wp_seq (wp_block (wp_seq ?_))))
   refine gI a6 s4 ok5 (gM q14 (gT (Ty.ref [(Ty.int (r.getD i 0))]) rfl (fun A B E H I => rP (y_index1 Try.underlying22 Try.inf3 (kp (I 9 rfl) E q17) (kp (I 11 rfl) E q14) oM (lst_get Ty.int r 0 i oM))) (gS rfl (fun A B E H I d0 => rP (y_load Try.underlying3 rfl (eI d0) rfl)) (gB 0 (gB 0 (gE ok5 fun a7 s5 ok6 D5 => ?_)))))); refine tn (wp_seq ?_)
   refine gI a7 s5 ok6 (gC (Ty.int (0 : Int)) (gE ok6 fun a8 s6 ok7 D6 => ?_)); have q29 := D6.k (D5.k (D4.k q11)); have q32 := D6.k (D5.m 3 rfl); refine tn (wp_seq (wp_seq ?_))
   refine gI a8 s6 ok7 (gM q29 (gM q32 (gT (Ty.nat (i + 1)) rfl (fun A B E H I d0 => rP ((y_add (eI d0) rfl wX).mono (fun τ _ h => cN (σ := τ) h))) (gT (Ty.lst Ty.int (r.drop (i + 1))) rfl (fun A B E H I d0 d1 => rP (y_drop Try.underlying22 Try.inf3 (eI d0) (eI d1) oM)) (gS rfl (fun A B E H I d0 => rP (y_len Try.underlying22 (eI d0))) (gT (Ty.int (0 : Int)) rfl (fun A B E H I => rP (y_move rfl)) (gE ok7 fun a9 s7 ok8 D7 => ?_))))))); have q43 := D7.m 3 rfl
   have b2 := sl_le q43
   refine tn (wp_block ?_)
   refine loop (fun n3 a10 w3 => ∃ (t3 : GW) (j : Nat), t3.w = w3 ∧ FromL [] s0 t3 ∧ Ok 41 [] a10 ∧ At (Ty.nat j) t3 a10 (.tmp 21) ∧ At (Ty.nat (lessN (r.getD i 0) ((r.drop (i + 1)).take j))) t3 a10 (.tmp 6) ∧ At (Ty.nat i) t3 a10 (.tmp 11) ∧ At (Ty.nat q) t3 a10 (.tmp 3) ∧ At (Ty.lst Ty.int r) t3 a10 (.tmp 0) ∧ At (Ty.lst Ty.int r) t3 a10 (.tmp 9) ∧ At (Ty.nat (List.length r)) t3 a10 (.tmp 10) ∧ At (Ty.nat i) t3 a10 (.tmp 4) ∧ At (Ty.int (r.getD i 0)) t3 a10 (.tmp 5) ∧ At (Ty.lst Ty.int (r.drop (i + 1))) t3 a10 (.tmp 19) ∧ At (Ty.nat (List.length (r.drop (i + 1)))) t3 a10 (.tmp 20) ∧ (j ≤ (r.drop (i + 1)).length) ∧ n3 = (r.drop (i + 1)).length - j) ((r.drop (i + 1)).length - (0)) ?_ ?_
   ·
    exact ⟨s7, 0, rfl, (((F5.step0 D5.stp).step0 D6.stp).step0 D7.stp), ok8, (cJ (D7.m 5 rfl)), (cvi (by (simp [lessN])) (D7.k (D6.m 0 rfl))), (D7.k (D6.k (D5.k q14))), (D7.k (D6.k (D5.k q15))), (D7.k q29), (D7.k (D6.k (D5.k q17))), (D7.k (D6.k (D5.k (D4.k q13)))), (D7.k q32), (D7.k (D6.k (D5.m 4 rfl))), q43, (D7.m 4 rfl), by omega, rfl⟩
   ·
    rintro n4 a11 w4 ⟨t4, j, rfl, F9, ok9, q46, q47, q48, q49, q50, q51, q52, q53, q54, q55, q56, hj, rfl⟩
    have hll := lessN_le (r.getD i 0) ((r.drop (i + 1)).take j)
    have htl := List.length_take_le j (r.drop (i + 1))
    have hdl : (r.drop (i + 1)).length = r.length - (i + 1) := List.length_drop
    refine wp_seq ?_
    refine gI a11 t4 ok9 (gS rfl (fun A B E H I => rP (y_lss (kp (I 21 rfl) E q46) (kp (I 20 rfl) E q56))) (gE ok9 fun a12 s8 ok10 D8 => ?_)); have F10 := F9.step0 D8.stp; have q57 := D8.k q46; have q58 := D8.k q47; have q59 := D8.k q48; have q60 := D8.k q49; have q61 := D8.k q50; have q62 := D8.k q51; have q63 := D8.k q52; have q64 := D8.k q53; have q66 := D8.k q55; refine tn (wp_seq ?_)
    refine cond_p (p := (((j : Nat) : Int) < (((List.length (r.drop (i + 1))) : Nat) : Int))) (D8.m 0 rfl) (fun c2 => ?_) (fun c2 => ?_)
    ·
     refine wp_skip (tn (wp_seq (wp_block (wp_seq ?_))))
     refine gI a12 s8 ok10 (gT (Ty.ref [(Ty.int ((r.drop (i + 1)).getD j 0))]) rfl (fun A B E H I => rP (y_index1 Try.underlying22 Try.inf3 (kp (I 19 rfl) E q66) (kp (I 21 rfl) E q57) oM (lst_get Ty.int (r.drop (i + 1)) 0 j oM))) (gS rfl (fun A B E H I d0 => rP (y_load Try.underlying3 rfl (eI d0) rfl)) (gB 0 (gE ok10 fun a13 s9 ok11 D9 => ?_)))); have q77 := D9.k (D8.k q54); refine tn (wp_seq ?_)
     refine gI a13 s9 ok11 (gM (D9.m 2 rfl) (gM q77 (gS rfl (fun A B E H I d0 d1 => rP (y_lss (eI d0) (eI d1))) (gE ok11 fun a14 s10 ok12 D10 => ?_)))); have F12 := (F10.step0 D9.stp).step0 D10.stp; have q81 := D10.k (D9.k q57); have q82 := D10.k (D9.k q58); have q83 := D10.k (D9.k q59); have q84 := D10.k (D9.k q60); have q85 := D10.k (D9.k q61); have q86 := D10.k (D9.k q62); have q87 := D10.k (D9.k q63); have q88 := D10.k (D9.k q64); have q89 := D10.k q77; have q90 := D10.k (D9.k q66); have q91 := D10.k (D9.k (D8.k q56)); refine tn ?_
     refine cond_p (p := (((r.drop (i + 1)).getD j 0) < (r.getD i 0))) (D10.m 2 rfl) (fun c3 => ?_) (fun c3 => ?_)
     ·
      refine gI a14 s10 ok12 (gM q82 (gT (Ty.nat ((lessN (r.getD i 0) ((r.drop (i + 1)).take j)) + 1)) rfl (fun A B E H I d0 => rP ((y_add (eI d0) rfl wX).mono (fun τ _ h => cN (σ := τ) h))) (gB 0 (gE ok12 fun a15 s11 ok13 D11 => ?_)))); refine bn (tn ?_)
      refine gI a15 s11 ok13 (gT (Ty.nat (j + 1)) rfl (fun A B E H I => rP ((y_add (kp (I 21 rfl) E (D11.k q81)) rfl wX).mono (fun τ _ h => cN (σ := τ) h))) (gS rfl (fun A B E H I d0 => rP (y_move (eI d0))) (gE ok13 fun a16 s12 ok14 D12 => ?_)))
      exact tn ⟨(r.drop (i + 1)).length - ((j+1)), by omega, s12, (j+1), rfl, ((F12.step0 D11.stp).step0 D12.stp), ok14, (cJ (D12.m 1 rfl)), (cvi (by (rw [lessN_snoc _ _ _ oM, if_pos (by assumption)])) (D12.k (D11.m 2 rfl))), (D12.k (D11.k q83)), (D12.k (D11.k q84)), (D12.k (D11.k q85)), (D12.k (D11.k q86)), (D12.k (D11.k q87)), (D12.k (D11.k q88)), (D12.k (D11.k q89)), (D12.k (D11.k q90)), (D12.k (D11.k q91)), by omega, rfl⟩
     ·
      refine wp_skip (bn (tn ?_))
      refine gI a14 s10 ok12 (gT (Ty.nat (j + 1)) rfl (fun A B E H I => rP ((y_add (kp (I 21 rfl) E q81) rfl wX).mono (fun τ _ h => cN (σ := τ) h))) (gS rfl (fun A B E H I d0 => rP (y_move (eI d0))) (gE ok12 fun a17 s13 ok15 D13 => ?_)))
      exact tn ⟨(r.drop (i + 1)).length - ((j+1)), by omega, s13, (j+1), rfl, (F12.step0 D13.stp), ok15, (cJ (D13.m 1 rfl)), (cvi (by (rw [lessN_snoc _ _ _ oM, if_neg (by assumption)]; rfl)) (D13.k q82)), (D13.k q83), (D13.k q84), (D13.k q85), (D13.k q86), (D13.k q87), (D13.k q88), (D13.k q89), (D13.k q90), (D13.k q91), by omega, rfl⟩
    ·
     refine wp_exit (tx (tx (bx (tn ?_))))
     refine gI a12 s8 ok10 (gM q60 (gM q61 (gS rfl (fun A B E H I d0 => rP (y_len Try.underlying22 (eI d0))) (gM q64 (gT (Ty.nat ((List.length r) - i)) rfl (fun A B E H I d0 d1 => rP ((y_sub (eI d0) (eI d1) wX).mono (fun τ _ h => cvi (σ := τ) oM h))) (gT (Ty.nat (q * ((List.length r) - i))) rfl (fun A B E H I d0 d1 => rP ((y_mul (eI d0) (eI d1) wX).mono (fun τ _ h => cN (σ := τ) h))) (gM q58 (gT (Ty.nat ((q * ((List.length r) - i)) + (lessN (r.getD i 0) ((r.drop (i + 1)).take j)))) rfl (fun A B E H I d0 d1 => rP ((y_add (eI d0) (eI d1) wX).mono (fun τ _ h => cN (σ := τ) h))) (gB 0 (gE ok10 fun a18 s14 ok16 D14 => ?_)))))))))); refine bn (tn ?_)
     refine gI a18 s14 ok16 (gT (Ty.nat (i + 1)) rfl (fun A B E H I => rP ((y_add (kp (I 11 rfl) E (D14.k q59)) rfl wX).mono (fun τ _ h => cN (σ := τ) h))) (gS rfl (fun A B E H I d0 => rP (y_move (eI d0))) (gE ok16 fun a19 s15 ok17 D15 => ?_)))
     obtain rfl : j = (r.drop (i + 1)).length := oM
     exact tn ⟨r.length - ((i+1)), by omega, s15, (i+1), (q * (r.length - i) + lessN (r.getD i 0) (r.drop (i + 1))), rfl, ((F10.step0 D14.stp).step0 D15.stp), ok17, (cJ (D15.m 1 rfl)), (cvi (by (rw [List.take_length])) (D15.k (D14.m 8 rfl))), (D15.k (D14.k q61)), (D15.k (D14.k q62)), (D15.k (D14.k q63)), by omega, place_step oM hq, rfl⟩
  ·
   refine wp_exit (tx (tx (bx (tn (wp_seq ?_)))))
   refine gI a6 s4 ok5 (gM q15 (gB 0 (gE ok5 fun a20 s16 ok18 D16 => ?_))); refine tn (wp_ret ?_)
   exact retL1 rfl ok18 (F5.step0 D16.stp) (cvi (by (obtain rfl : i = r.length := oM; exact congrArg _ (place_end hq))) (D16.m 1 rfl))


set_option maxHeartbeats 4000000 in
set_option maxRecDepth 100000 in
theorem equal_fn (xs : List Int) (ys : List Int) (σ : GW)  (v0 v1 : Value) (hv0 : Ty.has (Ty.lst Ty.int xs) σ v0) (hv1 : Ty.has (Ty.lst Ty.int ys) σ v1)   :
    FnC Try.prog 95 #[v0, v1] σ (Ty.bool (decide (xs = ys))) := by
 refine fn_intro0 Try.func95 rfl Try.ntmps95 (Nat.le_of_ble_eq_true rfl) (fun s0 a0 hle F0 ok0 hargs => ?_)
 have p0 := pA hle (hargs 0 _ rfl) hv0
 have b1 := sl_le p0
 have p1 := pA hle (hargs 1 _ rfl) hv1
 have b2 := sl_le p1
 clear hargs; refine wp_seq ?_
 refine gI a0 s0 ok0 (gC (Ty.bool false) (gE ok0 fun a1 s1 ok1 D1 => ?_)); have q1 := D1.k p0; have q2 := D1.k p1; refine tn (wp_seq (wp_seq ?_))
 refine gI a1 s1 ok1 (gM q1 (gS rfl (fun A B E H I d0 => rP (y_len Try.underlying22 (eI d0))) (gM q2 (gS rfl (fun A B E H I d0 => rP (y_len Try.underlying22 (eI d0))) (gS rfl (fun A B E H I d0 d1 => rP (y_neq (eI d0) (eI d1))) (gE ok1 fun a2 s2 ok2 D2 => ?_)))))); have F2 := (F0.step0 D1.stp).step0 D2.stp; have q3 := D2.k q1; refine tn ?_
 refine cond_p (p := ((((List.length xs) : Nat) : Int) ≠ (((List.length ys) : Nat) : Int))) (D2.m 4 rfl) (fun c1 => ?_) (fun c1 => ?_)
 ·
  refine wp_seq ?_
  refine gI a2 s2 ok2 (gC (Ty.bool false) (gE ok2 fun a3 s3 ok3 D3 => ?_)); refine tn (wp_ret (tr ?_))
  exact retL1 rfl ok3 (F2.step0 D3.stp) (cvb (by (rw [decide_eq_false]; intro e; subst e; omega)) (D3.m 0 rfl))
 ·
  refine wp_skip (tn (wp_seq (wp_seq ?_)))
  refine gI a2 s2 ok2 (gM q3 (gS rfl (fun A B E H I d0 => rP (y_len Try.underlying22 (eI d0))) (gT (Ty.int (0 : Int)) rfl (fun A B E H I => rP (y_move rfl)) (gE ok2 fun a4 s4 ok4 D4 => ?_)))); refine tn (wp_block ?_)
  refine loop (fun n1 a5 w1 => ∃ (t1 : GW) (k : Nat), t1.w = w1 ∧ FromL [] s0 t1 ∧ Ok 26 [] a5 ∧ At (Ty.nat k) t1 a5 (.tmp 13) ∧ At (Ty.lst Ty.int xs) t1 a5 (.tmp 0) ∧ At (Ty.lst Ty.int ys) t1 a5 (.tmp 1) ∧ At (Ty.nat (List.length xs)) t1 a5 (.tmp 12) ∧ (k ≤ xs.length) ∧ (xs.length = ys.length) ∧ (∀ j, j < k → xs.getD j 0 = ys.getD j 0) ∧ n1 = xs.length - k) (xs.length - (0)) ?_ ?_
  ·
   exact ⟨s4, 0, rfl, (F2.step0 D4.stp), ok4, (cJ (D4.m 2 rfl)), (D4.k q3), (D4.k (D2.k q2)), (D4.m 1 rfl), by omega, by omega, fun j hj => absurd hj (Nat.not_lt_zero j), rfl⟩
  ·
   rintro n2 a6 w2 ⟨t2, k, rfl, F5, ok5, q11, q12, q13, q14, hk, hl, heq, rfl⟩
   refine wp_seq ?_
   refine gI a6 t2 ok5 (gS rfl (fun A B E H I => rP (y_lss (kp (I 13 rfl) E q11) (kp (I 12 rfl) E q14))) (gE ok5 fun a7 s5 ok6 D5 => ?_)); have F6 := F5.step0 D5.stp; have q15 := D5.k q11; refine tn (wp_seq ?_)
   refine cond_p (p := (((k : Nat) : Int) < (((List.length xs) : Nat) : Int))) (D5.m 0 rfl) (fun c2 => ?_) (fun c2 => ?_)
   ·
    refine wp_skip (tn (wp_seq (wp_block (wp_seq ?_))))
    refine gI a7 s5 ok6 (gM q15 (gB 0 (gE ok6 fun a8 s6 ok7 D6 => ?_))); have q21 := D6.k (D5.k q12); have q22 := D6.k (D5.k q13); have q24 := D6.m 1 rfl; refine tn (wp_seq ?_)
    refine gI a8 s6 ok7 (gM q21 (gM q24 (gT (Ty.ref [(Ty.int (xs.getD k 0))]) rfl (fun A B E H I d0 d1 => rP (y_index1 Try.underlying22 Try.inf3 (eI d0) (eI d1) oM (lst_get Ty.int xs 0 k oM))) (gS rfl (fun A B E H I d0 => rP (y_load Try.underlying3 rfl (eI d0) rfl)) (gM q22 (gM q24 (gT (Ty.ref [(Ty.int (ys.getD k 0))]) rfl (fun A B E H I d0 d1 => rP (y_index1 Try.underlying22 Try.inf3 (eI d0) (eI d1) oM (lst_get Ty.int ys 0 k oM))) (gS rfl (fun A B E H I d0 => rP (y_load Try.underlying3 rfl (eI d0) rfl)) (gS rfl (fun A B E H I d0 d1 => rP (y_neq (eI d0) (eI d1))) (gE ok7 fun a9 s7 ok8 D7 => ?_)))))))))); have F8 := (F6.step0 D6.stp).step0 D7.stp; refine tn ?_
    refine cond_p (p := ((xs.getD k 0) ≠ (ys.getD k 0))) (D7.m 8 rfl) (fun c3 => ?_) (fun c3 => ?_)
    ·
     refine wp_seq ?_
     refine gI a9 s7 ok8 (gC (Ty.bool false) (gE ok8 fun a10 s8 ok9 D8 => ?_)); refine tn (wp_ret (br (tr (tr (br (tr ?_))))))
     exact retL1 rfl ok9 (F8.step0 D8.stp) (cvb (by (exact (decide_eq_false (fun e => by subst e; simp_all)).symm)) (D8.m 0 rfl))
    ·
     refine wp_skip (bn (tn ?_))
     refine gI a9 s7 ok8 (gT (Ty.int (((k : Nat) : Int) + (1 : Int))) rfl (fun A B E H I => rP (y_add (kp (I 13 rfl) E (D7.k (D6.k q15))) rfl wX)) (gS rfl (fun A B E H I d0 => rP (y_move (eI d0))) (gE ok8 fun a11 s9 ok10 D9 => ?_)))
     exact tn ⟨xs.length - ((k+1)), by omega, s9, (k+1), rfl, (F8.step0 D9.stp), ok10, (cJ (D9.m 1 rfl)), (D9.k (D7.k q21)), (D9.k (D7.k q22)), (D9.k (D7.k (D6.k (D5.k q14)))), by omega, by omega, all_snoc heq (by assumption), rfl⟩
   ·
    refine wp_exit (tx (tx (bx (tn (wp_seq ?_)))))
    refine gI a7 s5 ok6 (gC (Ty.bool true) (gE ok6 fun a12 s10 ok11 D10 => ?_)); refine tn (wp_ret ?_)
    exact retL1 rfl ok11 (F6.step0 D10.stp) (cvb (by (exact (decide_eq_true (list_ext oM (fun j hj => heq j oM))).symm)) (D10.m 0 rfl))

theorem Try.inf129 : Info Try.prog 129 (.agg #[.slice none 0 0, .int .i64 0, .int .i64 0]) 3 40 := by unfold Info; kernel_rfl
theorem Try.fld129_1 : fieldOf Try.prog 129 1 = some (3, 1) := by kernel_rfl
theorem Try.fld129_2 : fieldOf Try.prog 129 2 = some (3, 2) := by kernel_rfl
set_option maxHeartbeats 4000000 in
set_option maxRecDepth 100000 in
theorem track_fn (lv : Value) (SP : List Spt) (R : List (List Int)) (W : List (List Int)) (i : Nat) (σ : GW) (hlow : Low [48] σ) (v0 v1 : Value) (hv0 : Ty.has (Ty.val lv) σ v0) (hv1 : Ty.has (Ty.nat i) σ v1) (ho_lv : Own σ 48 129 3 lv (List.length SP) (List.flatMap spotC SP)) (E : SpotP SP R W) (hi : i < R.length) (hl : R.length ≤ 6000) :
    FnL Try.prog 96 #[v0, v1] σ [48] (fun v τ => (Ty.has (Ty.lst Ty.int (backW SP (i + 1) (i : Int)).reverse) τ v) ∧ (Own τ 48 129 3 lv (List.length SP) (List.flatMap spotC SP))) := by
 have hsl := E.len
 refine fn_introL hlow Try.func96 rfl Try.ntmps96 (Nat.le_of_ble_eq_true rfl) (fun a0 F0 ok0 hargs => ?_)
 have p0 := pB (hargs 0 _ rfl) hv0
 have p1 := pB (hargs 1 _ rfl) hv1
 clear hargs; refine wp_seq ?_
 refine gI a0 σ ok0 (gC (Ty.val (Value.slice none 0 0)) (gE ok0 fun a1 s1 ok1 D1 => ?_)); have o1 := Own.k0 ho_lv D1.stp; refine tn (wp_seq ?_)
 refine gI a1 s1 ok1 (gC (Ty.val (Value.slice none 0 0)) (gE ok1 fun a2 s2 ok2 D2 => ?_)); have o2 := Own.k0 o1 D2.stp; refine tn (wp_seq (wp_block ?_))
 have o3 : Own s2 20 3 1 (Value.slice none 0 0) 0 (List.map Ty.int ([] : List Int)) := Own.nil _ _ _ _
 refine loop (fun n1 a3 w1 => ∃ (t1 : GW) (q : Nat) (out : (List Int)) (x5_0 : Value), t1.w = w1 ∧ FromL [48] σ t1 ∧ Ok 28 [] a3 ∧ At (Ty.nat q) t1 a3 (.tmp 1) ∧ At (Ty.val x5_0) t1 a3 (.tmp 5) ∧ At (Ty.val lv) t1 a3 (.tmp 0) ∧ Own t1 20 3 1 x5_0 (List.length out) (List.map Ty.int out) ∧ Own t1 48 129 3 lv (List.length SP) (List.flatMap spotC SP) ∧ (BackP SP i out q) ∧ n1 = 1 * q) (1 * (i)) ?_ ?_
 ·
  exact ⟨s2, i, ([] : List Int), (Value.slice none 0 0), rfl, ((F0.step0 D1.stp).step0 D2.stp), ok2, (cJ (D2.k (D1.k p1))), (D2.m 0 rfl), (D2.k (D1.k p0)), (cvo (by (first | rfl | simp)) (by (first | rfl | simp)) o3), o2, BackP.start, rfl⟩
 ·
  rintro n2 a4 w2 ⟨t2, q, out, x5_0, rfl, F3, ok3, q6, q7, q8, o4, o5, hB, rfl⟩
  have hql := hB.lt
  have hol := hB.len E hi
  refine wp_seq (wp_seq ?_)
  refine gI a4 t2 ok3 (gM q8 (gM q6 (gT (Ty.val (cellPtr lv (q * 3))) rfl (fun A B E H I d0 d1 => rP (y_idxc (i := q) Try.underlying130 Try.inf129 (Own.k0 o5 E) (eI d0) (eI d1) oM)) (gT (Ty.val (cellPtr lv (q * 3 + 2))) rfl (fun A B E H I d0 => rP (y_fieldcc Try.fld129_2 Try.inf3 dE (Own.k0 o5 E) oM (eI d0))) (gS rfl (fun A B E H I d0 => rP (own_load Try.underlying3 rfl (Own.k0 o5 E) (eI d0) (spots_get (xs := SP) (i := q) (f := 2) oM dE rfl))) (gS rfl (fun A B E H I d0 => rP (y_geq (eI d0) rfl)) (gE ok3 fun a5 s3 ok4 D3 => ?_))))))); have F4 := F3.step0 D3.stp; have q9 := D3.k q6; have q10 := D3.k q7; have q11 := D3.k q8; have o6 := Own.k0 o4 D3.stp; have o7 := Own.k0 o5 D3.stp; refine tn ?_
  refine cond_p (p := ((0 : Int) ≤ ((SP.getD q ([], 0, 0))).2.2)) (D3.m 5 rfl) (fun c1 => ?_) (fun c1 => ?_)
  ·
   obtain ⟨hB2, hbl, hbq⟩ := hB.step E hi oM
   refine wp_skip (tn (wp_seq (wp_block ?_)))
   refine gI a5 s3 ok4 (gM q10 (gM q11 (gM q9 (gT (Ty.val (cellPtr lv (q * 3))) rfl (fun A B E H I d0 d1 => rP (y_idxc (i := q) Try.underlying130 Try.inf129 (Own.k0 o7 E) (eI d0) (eI d1) oM)) (gT (Ty.val (cellPtr lv (q * 3 + 1))) rfl (fun A B E H I d0 => rP (y_fieldcc Try.fld129_1 Try.inf3 dE (Own.k0 o7 E) oM (eI d0))) (gS rfl (fun A B E H I d0 => rP (own_load Try.underlying3 rfl (Own.k0 o7 E) (eI d0) (spots_get (xs := SP) (i := q) (f := 1) oM dE rfl))) (gT (Ty.sl 1 1 [(Ty.int ((SP.getD q ([], 0, 0))).2.1)]) rfl (fun A B E H I d0 => rP (y_build1o Try.underlying22 Try.inf3 rfl (one_val rfl) (eI d0))) (gE2 ok4 fun a6 s4 ok5 D4 => ?_)))))))); have o8 := Own.k0 o6 D4.stp; have o9 := Own.k0 o7 D4.stp
   have q16 : At (Ty.val x5_0) s4 a6 (.tmp 17) := D4.done 0 dE
   have q17 := D4.m 6 rfl
   have b1 := sl_le q17
   refine tL ok5 (YldM.toL (m_append Try.underlying22 Try.inf3 dE rfl dE (al (R := (Pr.own 20 3 1 (List.length out) (List.map Ty.int out))) q16 o8) q17 (by intro U hU; simp at hU; subst hU; exact one_val rfl) oM oM)) fun a7 s5 hs1 ok6 r1 sm1 => ?_
   have q19 := kq hs1 sm1 5 (D4.k q10)
   obtain ⟨x1, hx1⟩ : ∃ x, a7.eval (.tmp 24) = x := ⟨_, rfl⟩
   have q21 : At (Ty.val x1) s5 a7 (.tmp 24) := hx1
   have o10 := al2 (R := (Pr.own 20 3 1 (List.length (out ++ [((SP.getD q ([], 0, 0))).2.1])) (List.map Ty.int (out ++ [((SP.getD q ([], 0, 0))).2.1])))) hx1 (cvo (by simp) (by first | (rw [List.map_append]; rfl) | simp) r1)
   clear r1
   refine tL ok6 (Yld.toL (y_as q21)) fun a8 s6 hs2 ok7 r2 sm2 => ?_
   have q23 := kq hs2 sm2 0 (kq hs1 sm1 0 (D4.k q11)); have o12 := Own.kl (Own.kl o9 hs1) hs2
   have q24 : At (Ty.val x1) s6 a8 (.tmp 5) := r2
   clear r2; refine wpList_nil (bn (tn ?_))
   refine gI a8 s6 ok7 (gM q23 (gM (kq hs2 sm2 1 (kq hs1 sm1 1 (D4.k q9))) (gT (Ty.val (cellPtr lv (q * 3))) rfl (fun A B E H I d0 d1 => rP (y_idxc (i := q) Try.underlying130 Try.inf129 (Own.k0 o12 E) (eI d0) (eI d1) oM)) (gT (Ty.val (cellPtr lv (q * 3 + 2))) rfl (fun A B E H I d0 => rP (y_fieldcc Try.fld129_2 Try.inf3 dE (Own.k0 o12 E) oM (eI d0))) (gS rfl (fun A B E H I d0 => rP (own_load Try.underlying3 rfl (Own.k0 o12 E) (eI d0) (spots_get (xs := SP) (i := q) (f := 2) oM dE rfl))) (gB 0 (gE ok7 fun a9 s7 ok8 D5 => ?_))))))); have o14 := Own.k0 o12 D5.stp; have o15 := Own.k0 (Own.kl o10 hs2) D5.stp
   exact tn ⟨1 * ((SP.getD q ([], 0, 0)).2.2.toNat), by omega, s7, (SP.getD q ([], 0, 0)).2.2.toNat, (out ++ [(SP.getD q ([], 0, 0)).2.1]), x1, rfl, ((((F4.step0 D4.stp).sl hs1).sl hs2).step0 D5.stp), ok8, (cvi (by (first | exact congrArg Ty.int hbq | omega)) (D5.m 5 rfl)), (D5.k q24), (D5.k q23), (cvo (by (first | rfl | simp)) (by (first | rfl | simp)) o15), o14, hB2, rfl⟩
  ·
   have hE := hB.done oM
   refine wp_exit (tx (tx (bx (tn (wp_seq ?_)))))
   refine gI a5 s3 ok4 (gM q10 (gE2 ok4 fun a10 s8 ok9 D6 => ?_)); have o16 := Own.k0 o6 D6.stp; have o17 := Own.k0 o7 D6.stp
   have q29 : At (Ty.val x5_0) s8 a10 (.tmp 25) := D6.done 0 dE
   refine tL ok9 (y_callL (L := [41]) [(20, 41)] [(41, 20)] #[a10.eval (.tmp 25)] rfl dE Try.func109 rfl rfl my1 (revI_fn (x5_0) (out) _ lW _ (uL q29) (Own.ren (cvo (by (simp)) (by (simp)) o16) (GW.ren_lend _ _ dE rfl)) oX)) fun a11 s9 hs3 ok10 r3 sm3 => ?_
   obtain ⟨t3, ⟨hT1, o18⟩, B1⟩ := r3
   have o19 : Own s9 20 3 1 x5_0 (List.length (out).reverse) (List.map Ty.int (out).reverse) := Own.ren o18 (B1.ren dE rfl)
   refine wpList_nil (tn (wp_seq ?_))
   refine gI a11 s9 ok10 (gM (kq hs3 sm3 5 (D6.k q10)) (gB 0 (gE ok10 fun a12 s10 ok11 D7 => ?_))); have o21 := Own.k0 (Own.kl o17 hs3) D7.stp; have o22 := Own.k0 o19 D7.stp
   have q32 : At (Ty.val x5_0) s10 a12 (.tmp 4) := D7.done 1
   refine tn (wp_ret ?_)
   obtain ⟨t4, e1, h1, q33⟩ := Own.seal o22 dE
   rw [← e1]
   have F12 := (((F4.step0 D6.stp).sl hs3).step0 D7.stp).step h1 dE; have o23 := Own.keepL o21 (h1.toL (L := [20]) (by simp)) dE dE
   have q34 : At (Ty.lst Ty.int (out).reverse) t4 a12 (.tmp 4) := by have e : a12.eval (.tmp 4) = x5_0 := q32; show Ty.has _ _ _; rw [e]; exact q33
   exact retL1 rfl ok11 F12 ⟨(cvt (by (rw [hE])) q34), o23⟩


set_option maxHeartbeats 4000000 in
set_option maxRecDepth 100000 in
theorem gLetters_fn (gv : Value) (gs : Value) (cs : Value) (n : Nat) (gens : List (List Int)) (σ : GW) (hlow : Low [41, 43] σ) (v0 : Value) (hv0 : Ty.has (Ty.val gv) σ v0) (ho_gv : OwnP σ 41 gv [(Ty.nat n), (Ty.val gs), (Ty.val cs)]) (ho_gs : Own σ 43 22 1 gs (List.length gens) (List.map Ty.ints gens)) (hGl : gens.length ≤ 1000000) :
    FnL Try.prog 97 #[v0] σ [41, 43] (fun v τ => (Ty.has (Ty.lst Ty.int (lettersL gens.length)) τ v) ∧ (OwnP τ 41 gv [(Ty.nat n), (Ty.val gs), (Ty.val cs)]) ∧ (Own τ 43 22 1 gs (List.length gens) (List.map Ty.ints gens))) := by
 refine fn_introL hlow Try.func97 rfl Try.ntmps97 (Nat.le_of_ble_eq_true rfl) (fun a0 F0 ok0 hargs => ?_)
 have p0 := pB (hargs 0 _ rfl) hv0
 clear hargs; refine wp_seq ?_
 refine gI a0 σ ok0 (gC (Ty.val (Value.slice none 0 0)) (gE ok0 fun a1 s1 ok1 D1 => ?_)); have o1 := OwnP.k0 ho_gv D1.stp; have o2 := Own.k0 ho_gs D1.stp; refine tn (wp_seq ?_)
 refine gI a1 s1 ok1 (gC (Ty.val (Value.slice none 0 0)) (gE ok1 fun a2 s2 ok2 D2 => ?_)); have o3 := OwnP.k0 o1 D2.stp; have o4 := Own.k0 o2 D2.stp; refine tn (wp_seq (wp_seq ?_))
 refine gI a2 s2 ok2 (gM (D2.k (D1.k p0)) (gT (Ty.val gv) rfl (fun A B E H I d0 => rP (y_nilp (OwnP.k0 o3 E) (eI d0))) (gT (Ty.val (ptrAt gv 1)) rfl (fun A B E H I d0 => rP (ownp_field Try.fld95_1 Try.inf24 dE (OwnP.k0 o3 E) (eI d0))) (gS rfl (fun A B E H I d0 => rP (ownp_load Try.underlying24 rfl (OwnP.k0 o3 E) (eI d0) rfl)) (gT (Ty.nat (List.length gens)) rfl (fun A B E H I d0 => rP (own_len Try.underlying24 (al (R := (Pr.own 43 22 1 (List.length gens) (List.map Ty.ints gens))) (eI d0) (Own.k0 o4 E)))) (gT (Ty.int (0 : Int)) rfl (fun A B E H I => rP (y_move rfl)) (gE ok2 fun a3 s3 ok3 D3 => ?_))))))); have o5 := OwnP.k0 o3 D3.stp; have o6 := Own.k0 o4 D3.stp; refine tn (wp_block ?_)
 have o7 : Own s3 20 3 1 (Value.slice none 0 0) 0 (List.map Ty.int ([] : List Int)) := Own.nil _ _ _ _
 refine loop (fun n1 a4 w1 => ∃ (t1 : GW) (i : Nat) (x3_0 : Value), t1.w = w1 ∧ FromL [41, 43] σ t1 ∧ Ok 23 [] a4 ∧ At (Ty.nat i) t1 a4 (.tmp 10) ∧ At (Ty.val x3_0) t1 a4 (.tmp 3) ∧ At (Ty.nat (List.length gens)) t1 a4 (.tmp 9) ∧ Own t1 20 3 1 x3_0 (List.length (lettersL i)) (List.map Ty.int (lettersL i)) ∧ OwnP t1 41 gv [(Ty.nat n), (Ty.val gs), (Ty.val cs)] ∧ Own t1 43 22 1 gs (List.length gens) (List.map Ty.ints gens) ∧ (i ≤ gens.length) ∧ n1 = gens.length - i) (gens.length - (0)) ?_ ?_
 ·
  exact ⟨s3, 0, (Value.slice none 0 0), rfl, (((F0.step0 D1.stp).step0 D2.stp).step0 D3.stp), ok3, (cJ (D3.m 5 rfl)), (D3.k (D2.m 0 rfl)), (D3.m 4 rfl), (cvo (by (first | rfl | simp [lettersL])) (by (first | rfl | simp [lettersL])) o7), o5, o6, by omega, rfl⟩
 ·
  rintro n2 a5 w2 ⟨t2, i, x3_0, rfl, F4, ok4, q7, q8, q9, o8, o9, o10, hi, rfl⟩
  have hll := lettersL_len i
  refine wp_seq ?_
  refine gI a5 t2 ok4 (gS rfl (fun A B E H I => rP (y_lss (kp (I 10 rfl) E q7) (kp (I 9 rfl) E q9))) (gE ok4 fun a6 s4 ok5 D4 => ?_)); have F5 := F4.step0 D4.stp; have q10 := D4.k q7; have q11 := D4.k q8; have o11 := Own.k0 o8 D4.stp; have o12 := OwnP.k0 o9 D4.stp; have o13 := Own.k0 o10 D4.stp; refine tn (wp_seq ?_)
  refine cond_p (p := (((i : Nat) : Int) < (((List.length gens) : Nat) : Int))) (D4.m 0 rfl) (fun c1 => ?_) (fun c1 => ?_)
  ·
   refine wp_skip (tn (wp_seq (wp_block (wp_seq ?_))))
   refine gI a6 s4 ok5 (gM q10 (gB 0 (gE ok5 fun a7 s5 ok6 D5 => ?_))); have q15 := D5.k q11; have o14 := Own.k0 o11 D5.stp; have o15 := OwnP.k0 o12 D5.stp; have o16 := Own.k0 o13 D5.stp; have q17 := D5.m 1 rfl; refine tn ?_
   refine gI a7 s5 ok6 (gM q15 (gM q17 (gT (Ty.nat (i + 1)) rfl (fun A B E H I d0 => rP ((y_add (eI d0) rfl wX).mono (fun τ _ h => cN (σ := τ) h))) (gM q17 (gT (Ty.int (-((i : Nat) : Int))) rfl (fun A B E H I d0 => rP (y_neg (eI d0) wX)) (gT (Ty.int ((-((i : Nat) : Int)) - (1 : Int))) rfl (fun A B E H I d0 => rP (y_sub (eI d0) rfl wX)) (gT (Ty.sl 1 2 [(Ty.nat (i + 1)), (Ty.int ((-((i : Nat) : Int)) - (1 : Int)))]) rfl (fun A B E H I d0 d1 => rP (y_build2 Try.underlying22 Try.inf3 rfl (one_val rfl) (one_val rfl) (eI d0) (eI d1))) (gE2 ok6 fun a8 s6 ok7 D6 => ?_)))))))); have o17 := Own.k0 o14 D6.stp; have o18 := OwnP.k0 o15 D6.stp; have o19 := Own.k0 o16 D6.stp
   have q21 : At (Ty.val x3_0) s6 a8 (.tmp 13) := D6.done 0 dE
   have q22 := D6.m 6 rfl
   have b1 := sl_le q22
   refine tL ok7 (YldM.toL (m_append Try.underlying22 Try.inf3 dE rfl dE (al (R := (Pr.own 20 3 1 (List.length (lettersL i)) (List.map Ty.int (lettersL i)))) q21 o17) q22 (by intro U hU; simp at hU; rcases hU with rfl | rfl <;> exact one_val rfl) oM oM)) fun a9 s7 hs1 ok8 r1 sm1 => ?_
   have q24 := kq hs1 sm1 3 (D6.k q15)
   obtain ⟨x1, hx1⟩ : ∃ x, a9.eval (.tmp 20) = x := ⟨_, rfl⟩
   have q26 : At (Ty.val x1) s7 a9 (.tmp 20) := hx1
   have o20 := al2 (R := (Pr.own 20 3 1 (List.length ((lettersL i) ++ [(((i + 1) : Nat) : Int), ((-((i : Nat) : Int)) - (1 : Int))])) (List.map Ty.int ((lettersL i) ++ [(((i + 1) : Nat) : Int), ((-((i : Nat) : Int)) - (1 : Int))])))) hx1 (cvo (by simp) (by first | (rw [List.map_append]; rfl) | simp) r1)
   clear r1
   refine tL ok8 (Yld.toL (y_as q26)) fun a10 s8 hs2 ok9 r2 sm2 => ?_
   have q29 : At (Ty.val x1) s8 a10 (.tmp 3) := r2
   clear r2; refine wpList_nil (bn (tn ?_))
   refine gI a10 s8 ok9 (gT (Ty.nat (i + 1)) rfl (fun A B E H I => rP ((y_add (kp (I 10 rfl) E (kq hs2 sm2 10 (kq hs1 sm1 10 (D6.k (D5.k q10))))) rfl wX).mono (fun τ _ h => cN (σ := τ) h))) (gS rfl (fun A B E H I d0 => rP (y_move (eI d0))) (gE ok9 fun a11 s9 ok10 D7 => ?_))); have o26 := OwnP.k0 (OwnP.kl (OwnP.kl o18 hs1) hs2) D7.stp; have o27 := Own.k0 (Own.kl (Own.kl o19 hs1) hs2) D7.stp; have o28 := Own.k0 (Own.kl o20 hs2) D7.stp
   exact tn ⟨gens.length - ((i+1)), by omega, s9, (i+1), x1, rfl, (((((F5.step0 D5.stp).step0 D6.stp).sl hs1).sl hs2).step0 D7.stp), ok10, (cJ (D7.m 1 rfl)), (D7.k q29), (D7.k (kq hs2 sm2 9 (kq hs1 sm1 9 (D6.k (D5.k (D4.k q9)))))), (cvo (by (first | rfl | (rw [lettersL_succ]; done) | (rw [lettersL_succ]; simp; done))) (by (first | rfl | (rw [lettersL_succ]; done) | (rw [lettersL_succ]; simp; done))) o28), o26, o27, by omega, rfl⟩
  ·
   have ei : i = gens.length := oM
   refine wp_exit (tx (tx (bx (tn (wp_seq ?_)))))
   refine gI a6 s4 ok5 (gM q11 (gB 0 (gE ok5 fun a12 s10 ok11 D8 => ?_))); have o29 := Own.k0 o11 D8.stp; have o30 := OwnP.k0 o12 D8.stp; have o31 := Own.k0 o13 D8.stp
   have q33 : At (Ty.val x3_0) s10 a12 (.tmp 2) := D8.done 1
   refine tn (wp_ret ?_)
   obtain ⟨t3, e1, h1, q34⟩ := Own.seal o29 dE
   rw [← e1]
   have F12 := (F5.step0 D8.stp).step h1 dE; have o32 := OwnP.keepL o30 (h1.toL (L := [20]) (by simp)) dE dE; have o33 := Own.keepL o31 (h1.toL (L := [20]) (by simp)) dE dE
   have q35 : At (Ty.lst Ty.int (lettersL i)) t3 a12 (.tmp 2) := by have e : a12.eval (.tmp 2) = x3_0 := q33; show Ty.has _ _ _; rw [e]; exact q34
   exact retL1 rfl ok11 F12 ⟨(cvt (by (rw [ei])) q35), o32, o33⟩


end Go.Proofs.Ytkjifbgofckfeaa
