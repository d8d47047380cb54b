/- The functions that the law GroupMade reaches, each by its contract. Part 5. -/
import Derived.Test.YtkjifbgofckfeaaGroupMadeW4
namespace Go.Proofs.Ytkjifbgofckfeaa
open Go.KL

theorem Try.fld129_0 : fieldOf Try.prog 129 0 = some (22, 0) := by kernel_rfl
set_option maxHeartbeats 4000000 in
set_option maxRecDepth 100000 in
theorem gWord_fn (gv : Value) (gs : Value) (cs : Value) (us : List Value) (n : Nat) (c : Nat → Lev) (gens : List (List Int)) (r : List Int) (σ : GW) (hlow : Low [41, 42, 43] σ) (v0 v1 : Value) (hv0 : Ty.has (Ty.val gv) σ v0) (hv1 : Ty.has (Ty.lst Ty.int r) σ v1) (ho_gv : OwnP σ 41 gv [(Ty.nat n), (Ty.val gs), (Ty.val cs)]) (ho_cs : ChnU σ 42 22 108 cs n c us) (ho_gs : Own σ 43 22 1 gs (List.length gens) (List.map Ty.ints gens)) (hC : ChnOf n gens c) (hG : ∀ x ∈ gens, RowN n x) (hGl : gens.length ≤ 1000) :
    FnL Try.prog 59 #[v0, v1] σ [41, 42, 43] (fun v τ => ∃ (w : (List Int)), (Ty.has (Ty.tup2 (Ty.lst Ty.int w) (Ty.int (wordE n c gens r))) τ v) ∧ (OwnP τ 41 gv [(Ty.nat n), (Ty.val gs), (Ty.val cs)]) ∧ (ChnU τ 42 22 108 cs n c us) ∧ (Own τ 43 22 1 gs (List.length gens) (List.map Ty.ints gens)) ∧ (WrdP n c gens r w)) := by
 have hn := hC.wc.nn
 have hw := hC.wc
 have hrdl := roundsL_len n
 have hll := lettersL_len gens.length
 refine fn_introL hlow Try.func59 rfl Try.ntmps59 (Nat.le_of_ble_eq_true rfl) (fun a0 F0 ok0 hargs => ?_)
 have p0 := pB (hargs 0 _ rfl) hv0
 have p1 := pB (hargs 1 _ rfl) hv1
 have b1 := sl_le p1
 clear hargs; refine wp_seq ?_
 refine gI a0 σ ok0 (gC (Ty.val (Value.slice none 0 0)) (gC (Ty.int (0 : Int)) (gE ok0 fun a1 s1 ok1 D1 => ?_))); have q1 := D1.k p0; have q2 := D1.k p1; have o1 := OwnP.k0 ho_gv D1.stp; have o2 := ChnU.k0 ho_cs D1.stp; have o3 := Own.k0 ho_gs D1.stp; refine tn (wp_seq ?_)
 refine gI a1 s1 ok1 (gM q1 (gM q2 (gE2 ok1 fun a2 s2 ok2 D2 => ?_))); have o4 := OwnP.k0 o1 D2.stp; have o5 := ChnU.k0 o2 D2.stp; have o6 := Own.k0 o3 D2.stp
 refine tL ok2 (y_callL (L := [41, 42]) [(41, 41), (42, 42)] [(41, 41), (42, 42)] #[a2.eval (.tmp 19), a2.eval (.tmp 20)] rfl dE Try.func46 rfl rfl my2 (gHas_fn (gv) (gs) (cs) (us) (n) (c) (r) _ lW _ _ (uL (D2.m 0 rfl)) (uL (D2.m 1 rfl)) (OwnP.ren o4 (GW.ren_lend _ _ dE rfl)) (ChnU.ren o5 (GW.ren_lend _ _ dE rfl)) oX)) fun a3 s3 hs1 ok3 r1 sm1 => ?_
 obtain ⟨t1, ⟨hT1, o7, o8⟩, B1⟩ := r1
 have q9 : At (Ty.tup2 (Ty.bool (hasB n c r)) (Ty.int (fitsE n r))) s3 a3 (.tmp 21) := Ty.up _ B1.le hT1
 have o9 : OwnP s3 41 gv [(Ty.nat n), (Ty.val gs), (Ty.val cs)] := OwnP.ren o7 (B1.ren dE rfl)
 have o10 : ChnU s3 42 22 108 cs n c us := ChnU.ren o8 (B1.ren dE rfl)
 refine tL ok3 (Yld.toL (y_mv q9)) fun a4 s4 hs2 ok4 r2 sm2 => ?_
 have q12 : At (Ty.tup2 (Ty.bool (hasB n c r)) (Ty.int (fitsE n r))) s4 a4 (.tmp 18) := r2
 clear r2
 refine tL (R := (fun v τ => Pr.has (Ty.pr (Ty.bool (hasB n c r))) τ v)) ok4 (Yld.toL (y_ext2_0 q12)) fun a5 s5 hs3 ok5 r3 sm3 => ?_
 have q16 : At (Ty.bool (hasB n c r)) s5 a5 (.tmp 22) := r3
 clear r3
 refine tL (R := (fun v τ => Pr.has (Ty.pr (Ty.int (fitsE n r))) τ v)) ok5 (Yld.toL (y_ext2_1 (kq hs3 sm3 18 q12))) fun a6 s6 hs4 ok6 r4 sm4 => ?_
 have q20 : At (Ty.int (fitsE n r)) s6 a6 (.tmp 23) := r4
 clear r4
 refine tL ok6 (Yld.toL (y_as (kq hs4 sm4 22 q16))) fun a7 s7 hs5 ok7 r5 sm5 => ?_
 have q24 : At (Ty.bool (hasB n c r)) s7 a7 (.tmp 6) := r5
 clear r5
 refine tL ok7 (Yld.toL (y_as (kq hs5 sm5 23 q20))) fun a8 s8 hs6 ok8 r6 sm6 => ?_
 have q28 : At (Ty.int (fitsE n r)) s8 a8 (.tmp 7) := r6
 clear r6; refine wpList_nil (tn (wp_seq (wp_block (wp_seq ?_))))
 refine gI a8 s8 ok8 (gM q28 (gS rfl (fun A B H I J d0 => rP (y_neq (eI d0) rfl)) (gB 0 (gE ok8 fun a9 s9 ok9 D3 => ?_)))); have F9 := ((((((((F0.step0 D1.stp).step0 D2.stp).sl hs1).sl hs2).sl hs3).sl hs4).sl hs5).sl hs6).step0 D3.stp; have o27 := Own.k0 (Own.kl (Own.kl (Own.kl (Own.kl (Own.kl (Own.kl o6 hs1) hs2) hs3) hs4) hs5) hs6) D3.stp; have o28 := OwnP.k0 (OwnP.kl (OwnP.kl (OwnP.kl (OwnP.kl (OwnP.kl o9 hs2) hs3) hs4) hs5) hs6) D3.stp; have o29 := ChnU.k0 (ChnU.kl (ChnU.kl (ChnU.kl (ChnU.kl (ChnU.kl o10 hs2) hs3) hs4) hs5) hs6) D3.stp; refine tn ?_
 refine cond_p (p := ((fitsE n r) ≠ (0 : Int))) (D3.m 2 rfl) (fun c1 => ?_) (fun c1 => ?_)
 ·
  have hf0 : fitsE n r ≠ 0 := c1; have hE := word_fit (c := c) (G := gens) hf0
  refine wp_seq ?_
  refine gI a9 s9 ok9 (gM (D3.k q28) (gC (Ty.val (Value.slice none 0 0)) (gB 0 (gE ok9 fun a10 s10 ok10 D4 => ?_)))); have o30 := Own.k0 o27 D4.stp; have o31 := OwnP.k0 o28 D4.stp; have o32 := ChnU.k0 o29 D4.stp; refine tn (wp_ret (br (tr ?_)))
  exact retL2 rfl ok10 (F9.step0 D4.stp) ⟨([] : List Int), (hasT2 (nil_lst (by (rfl)) (D4.m 1 rfl)) (cvi (by (rw [hE])) (D4.m 2 rfl))), o31, o32, o30, (by exact wrdP_no oM)⟩
 ·
  have hf0 : fitsE n r = 0 := oM
  refine wp_seq ?_
  refine gI a9 s9 ok9 (gM (D3.k (kq hs6 sm6 6 q24)) (gS rfl (fun A B H I J d0 => rP (y_not (eI d0))) (gB 0 (gE ok9 fun a11 s11 ok11 D5 => ?_)))); have F11 := F9.step0 D5.stp; have q36 := D5.k (D3.k (kq hs6 sm6 0 (kq hs5 sm5 0 (kq hs4 sm4 0 (kq hs3 sm3 0 (kq hs2 sm2 0 (kq hs1 sm1 0 (D2.k q1)))))))); have o33 := Own.k0 o27 D5.stp; have o34 := OwnP.k0 o28 D5.stp; have o35 := ChnU.k0 o29 D5.stp; refine tn ?_
  refine cond_t (D5.m 2 rfl) (fun c2 => ?_) (fun c2 => ?_)
  ·
   have hb0 : hasB n c r = false := (by simpa using c2); have hE := word_14 (G := gens) hf0 hb0
   refine wp_seq ?_
   refine gI a11 s11 ok11 (gC (Ty.val (Value.slice none 0 0)) (gC (Ty.int (14 : Int)) (gE ok11 fun a12 s12 ok12 D6 => ?_))); have o36 := Own.k0 o33 D6.stp; have o37 := OwnP.k0 o34 D6.stp; have o38 := ChnU.k0 o35 D6.stp; refine tn (wp_ret (br (tr ?_)))
   exact retL2 rfl ok12 (F11.step0 D6.stp) ⟨([] : List Int), (hasT2 (nil_lst (by (rfl)) (D6.m 0 rfl)) (cvi (by (rw [hE])) (D6.m 1 rfl))), o37, o38, o36, (by exact wrdP_no oM)⟩
  ·
   have hb : hasB n c r = true := (by simpa using c2); have hrn := fits_ok.1 hf0; have hcl := (hasB_iff hC hG hrn).1 hb; obtain ⟨F, hF⟩ := hC.elts hG
   refine wp_seq ?_
   refine gI a11 s11 ok11 (gM q36 (gE2 ok11 fun a13 s13 ok13 D7 => ?_)); have o39 := Own.k0 o33 D7.stp; have o40 := OwnP.k0 o34 D7.stp; have o41 := ChnU.k0 o35 D7.stp
   refine tL ok13 (y_callL (L := [41, 42, 43]) [(41, 41), (42, 42), (43, 43)] [(41, 41), (42, 42), (43, 43)] #[a13.eval (.tmp 32)] rfl dE Try.func42 rfl rfl my1 (gSize_fn (gv) (gs) (cs) (us) (n) (c) (gens) _ lW _ (uL (D7.m 0 rfl)) (OwnP.ren o40 (GW.ren_lend _ _ dE rfl)) (ChnU.ren o41 (GW.ren_lend _ _ dE rfl)) (Own.ren o39 (GW.ren_lend _ _ dE rfl)) oX oX)) fun a14 s14 hs7 ok14 r7 sm7 => ?_
   obtain ⟨t2, ⟨hT2, o42, o43, o44⟩, B2⟩ := r7
   have q46 : At (Ty.nat (szTo n (fun y => y ∈ gens) n)) s14 a14 (.tmp 33) := Ty.up _ B2.le hT2
   have o45 : OwnP s14 41 gv [(Ty.nat n), (Ty.val gs), (Ty.val cs)] := OwnP.ren o42 (B2.ren dE rfl)
   have o46 : ChnU s14 42 22 108 cs n c us := ChnU.ren o43 (B2.ren dE rfl)
   have o47 : Own s14 43 22 1 gs (List.length gens) (List.map Ty.ints gens) := Own.ren o44 (B2.ren dE rfl)
   refine tL (R := (fun v τ => Pr.has (Ty.pr (Ty.bool (decide ((5040 : Int) < (((szTo n (fun y => y ∈ gens) n) : Nat) : Int))))) τ v)) ok14 (Yld.toL (y_gtr q46 rfl)) fun a15 s15 hs8 ok15 r8 sm8 => ?_
   have q49 : At (Ty.bool (decide ((5040 : Int) < (((szTo n (fun y => y ∈ gens) n) : Nat) : Int)))) s15 a15 (.tmp 34) := r8
   clear r8
   refine tL ok15 (Yld.toL (y_as q49)) fun a16 s16 hs9 ok16 r9 sm9 => ?_
   have F16 := (((F11.step0 D7.stp).sl hs7).sl hs8).sl hs9; have q50 := kq hs9 sm9 0 (kq hs8 sm8 0 (kq hs7 sm7 0 (D7.k q36))); have o51 := OwnP.kl (OwnP.kl o45 hs8) hs9; have o52 := ChnU.kl (ChnU.kl o46 hs8) hs9; have o53 := Own.kl (Own.kl o47 hs8) hs9
   have q52 : At (Ty.bool (decide ((5040 : Int) < (((szTo n (fun y => y ∈ gens) n) : Nat) : Int)))) s16 a16 (.tmp 31) := r9
   clear r9; refine wpList_nil (tn ?_)
   refine cond_p (p := ((5040 : Int) < (((szTo n (fun y => y ∈ gens) n) : Nat) : Int))) q52 (fun c3 => ?_) (fun c3 => ?_)
   ·
    have hE := word_3 (G := gens) hf0 hb oM
    refine wp_seq ?_
    refine gI a16 s16 ok16 (gC (Ty.val (Value.slice none 0 0)) (gC (Ty.int (3 : Int)) (gE ok16 fun a17 s17 ok17 D8 => ?_))); have o54 := OwnP.k0 o51 D8.stp; have o55 := ChnU.k0 o52 D8.stp; have o56 := Own.k0 o53 D8.stp; refine tn (wp_ret (br (tr ?_)))
    exact retL2 rfl ok17 (F16.step0 D8.stp) ⟨([] : List Int), (hasT2 (nil_lst (by (rfl)) (D8.m 0 rfl)) (cvi (by (rw [hE])) (D8.m 1 rfl))), o54, o55, o56, (by exact wrdP_no oM)⟩
   ·
    have hE := word_0 (G := gens) hf0 hb oM
    refine wp_skip (bn (tn (wp_seq ?_)))
    refine gI a16 s16 ok16 (gM q50 (gT (Ty.val gv) rfl (fun A B H I J d0 => rP (y_nilp (OwnP.k0 o51 H) (eI d0))) (gT (Ty.val (ptrAt gv 0)) rfl (fun A B H I J d0 => rP (ownp_field Try.fld95_0 Try.inf3 dE (OwnP.k0 o51 H) (eI d0))) (gS rfl (fun A B H I J d0 => rP (ownp_load Try.underlying3 rfl (OwnP.k0 o51 H) (eI d0) rfl)) (gS rfl (fun A B H I J d0 => rP (y_call _ Try.func74 rfl rfl my1 (rounds_fn (n) _ _ (eI d0) oM))) (gS rfl (fun A B H I J d0 => rP (y_move (eI d0))) (gT (Ty.lst Ty.int (roundsL n)) rfl (fun A B H I J d0 => rP (y_ext2_0 (eI d0))) (gT (Ty.int (0 : Int)) rfl (fun A B H I J d0 d1 => rP (y_ext2_1 (eI d0))) (gB 0 (gB 0 (gE ok16 fun a18 s18 ok18 D9 => ?_))))))))))); have o57 := OwnP.k0 o51 D9.stp; have o58 := ChnU.k0 o52 D9.stp; have o59 := Own.k0 o53 D9.stp; have q57 := D9.m 8 rfl; refine tn (wp_seq ?_)
    refine gI a18 s18 ok18 (gM q57 (gT (Ty.agg [(Ty.lst Ty.int (roundsL n)), (Ty.int (0 : Int)), (Ty.int (-1 : Int))]) rfl (fun A B H I J d0 => rP (y_bld [(0, (.tmp 43), (Ty.lst Ty.int (roundsL n))), (1, ((Operand.const (Value.int IntKind.i64 0))), (Ty.int (0 : Int))), (2, ((Operand.const (Value.int IntKind.i64 (-1)))), (Ty.int (-1 : Int)))] [(Ty.val (Value.slice none 0 0)), (Ty.int (0 : Int)), (Ty.int (0 : Int))] (l := [(0, 1), (1, 1), (2, 1)]) rfl Try.inf129 rfl (alloc_vals (vs := [.slice none 0 0, .int .i64 0, .int .i64 0]) rfl) rfl (by intro p hp; simp only [List.mem_cons, List.not_mem_nil, or_false] at hp; rcases hp with rfl | rfl | rfl; exact ⟨one_sl, (eI d0)⟩; exact ⟨one_val rfl, rfl⟩; exact ⟨one_val rfl, rfl⟩))) (gR (Pr.own 20 129 3 1 (List.flatMap spotC [((roundsL n), (0 : Int), (-1 : Int))])) rfl (by intro A B H I J d0; exact rP ((y_lit1c (k := 20) (c := 3) Try.underlying130 Try.inf129 rfl dE dE rfl (eI d0)).mono (fun _ _ h => cvo (by simp) rfl h))) (gR (Pr.ownm Ty.int kI 22 (fun _ => none : Int → Option Int)) rfl (by intro A B H I J; exact rP (y_makemap 22)) (gM q57 (gS rfl (fun A B H I J d0 => rP (y_call _ Try.func94 rfl rfl my1 (rowPlace_fn ((roundsL n)) _ _ (eI d0) oM))) (gE2 ok18 fun a19 s19 ok19 D10 => ?_))))))); have o60 := OwnP.k0 o57 D10.stp; have o61 := ChnU.k0 o58 D10.stp; have o62 := Own.k0 o59 D10.stp
    obtain ⟨x1, hx1⟩ : ∃ x, a19.eval (.tmp 45) = x := ⟨_, rfl⟩
    have q60 : At (Ty.val x1) s19 a19 (.tmp 45) := hx1
    have o63 := al2 (R := (Pr.own 20 129 3 1 (List.flatMap spotC [((roundsL n), (0 : Int), (-1 : Int))]))) hx1 (D10.done 2 dE)
    obtain ⟨x2, hx2⟩ : ∃ x, a19.eval (.tmp 46) = x := ⟨_, rfl⟩
    have q61 : At (Ty.val x2) s19 a19 (.tmp 46) := hx2
    have o64 := al2 (R := (Pr.ownm Ty.int kI 22 (fun _ => none : Int → Option Int))) hx2 (D10.done 3 dE)
    refine tailL0 (L := [22]) (R := (fun _ τ => OwnM Ty.int kI τ 22 x2 (fun x_ => if x_ = (((rankL ((roundsL n))) : Nat) : Int) then some (1 : Int) else (fun _ => none : Int → Option Int) x_))) rfl rfl (YldM.toL (m_mapins (i := (((rankL ((roundsL n))) : Nat) : Int)) Try.underlying100 (keyInt Try.underlying3) dE o64 q61 (D10.m 5 rfl) rfl)) (fun v1 s20 hs10 r10 => ?_)
    have q63 := kpL hs10 dE rfl (D10.k (D9.k q50)); have q64 := kpL hs10 dE rfl (D10.k (D9.k (kq hs9 sm9 1 (kq hs8 sm8 1 (kq hs7 sm7 1 (D7.k (D5.k (D3.k (kq hs6 sm6 1 (kq hs5 sm5 1 (kq hs4 sm4 1 (kq hs3 sm3 1 (kq hs2 sm2 1 (kq hs1 sm1 1 (D2.k q2))))))))))))))); have q65 := kpL hs10 dE rfl q60; have q66 := kpL hs10 dE rfl q61
    have o65 : OwnM Ty.int kI s20 22 x2 (fun x_ => if x_ = (((rankL ((roundsL n))) : Nat) : Int) then some (1 : Int) else (fun _ => none : Int → Option Int) x_) := r10
    clear r10
    refine tL ok19 (Yld.toL (y_mv q66)) fun a20 s21 hs11 ok20 r11 sm10 => ?_
    have q71 : At (Ty.val x2) s21 a20 (.tmp 49) := r11
    clear r11
    refine tL ok20 (Yld.toL (y_as (kq hs11 sm10 45 q65))) fun a21 s22 hs12 ok21 r12 sm11 => ?_
    have q75 : At (Ty.val x1) s22 a21 (.tmp 10) := r12
    clear r12
    refine tL ok21 (Yld.toL (y_as (kq hs12 sm11 49 q71))) fun a22 s23 hs13 ok22 r13 sm12 => ?_
    have q79 : At (Ty.val x2) s23 a22 (.tmp 11) := r13
    clear r13; refine wpList_nil (tn (wp_seq ?_))
    refine gI a22 s23 ok22 (gC (Ty.int (0 : Int)) (gE ok22 fun a23 s24 ok23 D11 => ?_)); have o85 := OwnP.k0 (OwnP.kl (OwnP.kl (OwnP.kl (OwnP.kl o60 hs10) hs11) hs12) hs13) D11.stp; have o86 := ChnU.k0 (ChnU.kl (ChnU.kl (ChnU.kl (ChnU.kl o61 hs10) hs11) hs12) hs13) D11.stp; have o87 := Own.k0 (Own.kl (Own.kl (Own.kl (Own.kl o62 hs10) hs11) hs12) hs13) D11.stp; have o88 := Own.k0 (Own.kl (Own.kl (Own.kl (Own.kl o63 hs10) hs11) hs12) hs13) D11.stp; have o89 := OwnM.k0 (OwnM.kl (OwnM.kl (OwnM.kl o65 hs11) hs12) hs13) D11.stp; refine tn (wp_block ?_)
    refine loop (fun n1 a24 w1 => ∃ (t3 : GW) (i : Nat) (L : (List (List Int))) (W : (List (List Int))) (SP : (List Spt)) (f : (Int → Option Int)) (x10_0 : Value), t3.w = w1 ∧ FromL [41, 42, 43] σ t3 ∧ Ok 92 [] a24 ∧ At (Ty.nat i) t3 a24 (.tmp 12) ∧ At (Ty.val x10_0) t3 a24 (.tmp 10) ∧ At (Ty.val gv) t3 a24 (.tmp 0) ∧ At (Ty.lst Ty.int r) t3 a24 (.tmp 1) ∧ At (Ty.val x2) t3 a24 (.tmp 11) ∧ Own t3 20 129 3 x10_0 (List.length SP) (List.flatMap spotC SP) ∧ OwnM Ty.int kI t3 22 x2 f ∧ OwnP t3 41 gv [(Ty.nat n), (Ty.val gs), (Ty.val cs)] ∧ ChnU t3 42 22 108 cs n c us ∧ Own t3 43 22 1 gs (List.length gens) (List.map Ty.ints gens) ∧ (ClO n gens L W i r SP f) ∧ n1 = 6000 - i) (6000 - (0)) ?_ ?_
    ·
     exact ⟨s24, 0, [roundsL n], [[]], [(roundsL n, 0, -1)], (fun x => if x = ((rankL (roundsL n) : Nat) : Int) then some (1 : Int) else (fun _ => none) x), x1, rfl, (((((((F16.step0 D9.stp).step0 D10.stp).sl hs10).sl hs11).sl hs12).sl hs13).step0 D11.stp), ok23, (cJ (D11.m 0 rfl)), (D11.k (kq hs13 sm12 10 q75)), (D11.k (kq hs13 sm12 0 (kq hs12 sm11 0 (kq hs11 sm10 0 q63)))), (D11.k (kq hs13 sm12 1 (kq hs12 sm11 1 (kq hs11 sm10 1 q64)))), (D11.k q79), (cvo (by (first | rfl | simp)) (by (first | rfl | simp)) o88), (cvm (by (rfl)) o89), o85, o86, o87, ClO.start hn, rfl⟩
    ·
     rintro n2 a25 w2 ⟨t4, i, L, W, SP, f, x10_0, rfl, F25, ok24, q85, q86, q87, q88, q89, o90, o91, o92, o93, o94, hO, rfl⟩
     obtain ⟨hil, hil2, hie, hir⟩ := hO.in_ hn hG hcl
     obtain ⟨hfw, hspl⟩ := hO.few hn hG hF
     have hirl := hir.len
     have hrr := hir.row
     have hsp := hO.sp
     have hie1 : RowN n (SP.getD i ([], 0, 0)).1 := hie ▸ hir
     have hie2 := hie1.len
     have hie3 := hie1.row
     refine wp_seq (wp_block (wp_seq ?_))
     refine gI a25 t4 ok24 (gM q86 (gM q85 (gT (Ty.val (cellPtr x10_0 (i * 3))) rfl (fun A B H I J d0 d1 => rP (y_idxc (i := i) Try.underlying130 Try.inf129 (Own.k0 o90 H) (eI d0) (eI d1) oM)) (gT (Ty.agg [(Ty.lst Ty.int ((SP.getD i ([], 0, 0))).1), (Ty.int ((SP.getD i ([], 0, 0))).2.1), (Ty.int ((SP.getD i ([], 0, 0))).2.2)]) rfl (fun A B H I J d0 => rP (yld_agg (spots_drop (xs := SP) (i := i) oM) (own_loadst Try.underlying129 Try.inf129 (by rw [spots_len]; omega) dE (Own.k0 o90 H) (eI d0)))) (gR (Pr.ownp 23 [(Ty.val (Value.slice none 0 0)), (Ty.int (0 : Int)), (Ty.int (0 : Int))]) rfl (by intro A B H I J; exact rP (y_alloc Try.inf129 rfl (alloc_vals (vs := [.slice none 0 0, .int .i64 0, .int .i64 0]) rfl))) (gE2 ok24 fun a26 s25 ok25 D12 => ?_)))))); have o95 := Own.k0 o90 D12.stp; have o96 := OwnM.k0 o91 D12.stp; have o97 := OwnP.k0 o92 D12.stp; have o98 := ChnU.k0 o93 D12.stp; have o99 := Own.k0 o94 D12.stp
     obtain ⟨x3, hx3⟩ : ∃ x, a26.eval (.tmp 13) = x := ⟨_, rfl⟩
     have q96 : At (Ty.val x3) s25 a26 (.tmp 13) := hx3
     have o100 := al2 (R := (Pr.ownp 23 [(Ty.val (Value.slice none 0 0)), (Ty.int (0 : Int)), (Ty.int (0 : Int))])) hx3 (D12.done 4 dE)
     refine tailL0 (L := [23]) (R := (fun _ τ => OwnP τ 23 x3 [(Ty.lst Ty.int ((SP.getD i ([], 0, 0))).1), (Ty.int ((SP.getD i ([], 0, 0))).2.1), (Ty.int ((SP.getD i ([], 0, 0))).2.2)])) rfl rfl (YldM.toL (m_storeagg Try.inf129 dE o100 q96 rfl (D12.m 3 rfl) (by intro U hU; simp only [List.mem_cons, List.not_mem_nil, or_false] at hU; rcases hU with rfl | rfl | rfl <;> first | exact one_val rfl | exact one_sl | exact one_flt | exact one_cx | exact one_ref))) (fun v2 s26 hs14 r14 => ?_)
     have q97 := kpL hs14 dE rfl (D12.k q85); have q98 := kpL hs14 dE rfl (D12.k q86); have q99 := kpL hs14 dE rfl (D12.k q87); have q100 := kpL hs14 dE rfl (D12.k q88); have q101 := kpL hs14 dE rfl (D12.k q89); have q102 := kpL hs14 dE rfl q96
     have o101 : OwnP s26 23 x3 [(Ty.lst Ty.int ((SP.getD i ([], 0, 0))).1), (Ty.int ((SP.getD i ([], 0, 0))).2.1), (Ty.int ((SP.getD i ([], 0, 0))).2.2)] := r14
     clear r14; refine wpList_nil (tn (wp_seq (wp_seq ?_)))
     refine gI a26 s26 ok25 (gT (Ty.val (ptrAt x3 0)) rfl (fun A B H I J => rP (ownp_field Try.fld129_0 Try.inf22 dE (OwnP.k0 o101 H) (kp (J 13 rfl) H q102))) (gS rfl (fun A B H I J d0 => rP (ownp_load Try.underlying22 rfl (OwnP.k0 o101 H) (eI d0) rfl)) (gM q100 (gS rfl (fun A B H I J d0 d1 => rP (y_call _ Try.func95 rfl rfl my2 (equal_fn (((SP.getD i ([], 0, 0))).1) (r) _ _ _ (eI d0) (eI d1) ))) (gE ok25 fun a27 s27 ok26 D13 => ?_))))); have F28 := ((F25.step0 D12.stp).sl hs14).step0 D13.stp; have q104 := D13.k q97; have q105 := D13.k q98; have q106 := D13.k q99; have o107 := Own.k0 (Own.kl o95 hs14) D13.stp; have o108 := OwnM.k0 (OwnM.kl o96 hs14) D13.stp; have o109 := OwnP.k0 (OwnP.kl o97 hs14) D13.stp; have o110 := ChnU.k0 (ChnU.kl o98 hs14) D13.stp; have o111 := Own.k0 (Own.kl o99 hs14) D13.stp; have o112 := OwnP.k0 o101 D13.stp; refine tn ?_
     refine cond_t (D13.m 3 rfl) (fun c4 => ?_) (fun c4 => ?_)
     ·
      have her : L.getD i [] = r := (by rw [← hie]; exact of_decide_eq_true c4); have hW := hO.word hil her hE
      refine wp_seq ?_
      refine gI a27 s27 ok26 (gM q105 (gM q104 (gE2 ok26 fun a28 s28 ok27 D14 => ?_))); have o113 := Own.k0 o107 D14.stp; have o114 := OwnM.k0 o108 D14.stp; have o115 := OwnP.k0 o109 D14.stp; have o116 := ChnU.k0 o110 D14.stp; have o117 := Own.k0 o111 D14.stp; have o118 := OwnP.k0 o112 D14.stp
      have q111 : At (Ty.val x10_0) s28 a28 (.tmp 60) := D14.done 0 dE
      refine tL ok27 (y_callL (L := [48]) [(20, 48)] [(48, 20)] #[a28.eval (.tmp 60), a28.eval (.tmp 61)] rfl dE Try.func96 rfl rfl my2 (track_fn (x10_0) (SP) (_) (_) (i) _ lW _ _ (uL q111) (uL (D14.m 1 rfl)) (Own.ren o113 (GW.ren_lend _ _ dE rfl)) oX oX oX)) fun a29 s29 hs15 ok28 r15 sm13 => ?_
      obtain ⟨t5, ⟨hT3, o119⟩, B3⟩ := r15
      have q113 : At (Ty.lst Ty.int (backW SP (i + 1) (i : Int)).reverse) s29 a29 (.tmp 62) := Ty.up _ B3.le hT3
      have o120 : Own s29 20 129 3 x10_0 (List.length SP) (List.flatMap spotC SP) := Own.ren o119 (B3.ren dE rfl)
      refine tL ok28 (Yld.toL (y_as q113)) fun a30 s30 hs16 ok29 r16 sm14 => ?_
      have q114 : At (Ty.lst Ty.int (backW SP (i + 1) (i : Int)).reverse) s30 a30 (.tmp 4) := r16
      clear r16
      refine tL (R := (fun v τ => Pr.has (Ty.pr (Ty.int (0 : Int))) τ v)) ok29 (Yld.toL (y_assign rfl)) fun a31 s31 hs17 ok30 r17 sm15 => ?_
      have o132 := OwnM.kl (OwnM.kl (OwnM.kl o114 hs15) hs16) hs17; have o136 := OwnP.kl (OwnP.kl (OwnP.kl o118 hs15) hs16) hs17; have o137 := Own.kl (Own.kl o120 hs16) hs17
      have q116 : At (Ty.int (0 : Int)) s31 a31 (.tmp 5) := r17
      clear r17; refine wpList_nil (tn (wp_ret (tr (br (tr (tr (br ?_)))))))
      exact retL2 rfl ok30 ((((F28.step0 D14.stp).sl hs15).sl hs16).sl hs17) ⟨(backW SP (i + 1) (i : Int)).reverse, (hasT2 (cvt (by (rfl)) (kq hs17 sm15 4 q114)) (cvi (by (rw [hE])) q116)), (OwnP.kl (OwnP.kl (OwnP.kl o115 hs15) hs16) hs17), (ChnU.kl (ChnU.kl (ChnU.kl o116 hs15) hs16) hs17), (Own.kl (Own.kl (Own.kl o117 hs15) hs16) hs17), (by exact hW)⟩
     ·
      have hne : L.getD i [] ≠ r := (by rw [← hie]; exact of_decide_eq_false c4)
      refine wp_skip (tn (wp_seq ?_))
      refine gI a27 s27 ok26 (gM q106 (gE2 ok26 fun a32 s32 ok31 D15 => ?_)); have o138 := Own.k0 o107 D15.stp; have o139 := OwnM.k0 o108 D15.stp; have o140 := OwnP.k0 o109 D15.stp; have o141 := ChnU.k0 o110 D15.stp; have o142 := Own.k0 o111 D15.stp; have o143 := OwnP.k0 o112 D15.stp
      refine tL ok31 (y_callL (L := [41, 43]) [(41, 41), (43, 43)] [(41, 41), (43, 43)] #[a32.eval (.tmp 63)] rfl dE Try.func97 rfl rfl my1 (gLetters_fn (gv) (gs) (cs) (n) (gens) _ lW _ (uL (D15.m 0 rfl)) (OwnP.ren o140 (GW.ren_lend _ _ dE rfl)) (Own.ren o142 (GW.ren_lend _ _ dE rfl)) oX)) fun a33 s33 hs18 ok32 r18 sm16 => ?_
      obtain ⟨t6, ⟨hT4, o144, o145⟩, B4⟩ := r18
      have q130 : At (Ty.lst Ty.int (lettersL gens.length)) s33 a33 (.tmp 64) := Ty.up _ B4.le hT4
      have o146 : OwnP s33 41 gv [(Ty.nat n), (Ty.val gs), (Ty.val cs)] := OwnP.ren o144 (B4.ren dE rfl)
      have o147 : Own s33 43 22 1 gs (List.length gens) (List.map Ty.ints gens) := Own.ren o145 (B4.ren dE rfl)
      refine tL (R := (fun v τ => Pr.has (Ty.pr (Ty.nat (List.length (lettersL gens.length)))) τ v)) ok32 (Yld.toL (y_len Try.underlying22 q130)) fun a34 s34 hs19 ok33 r19 sm17 => ?_
      have q138 : At (Ty.nat (List.length (lettersL gens.length))) s34 a34 (.tmp 65) := r19
      clear r19
      refine tL (R := (fun v τ => Pr.has (Ty.pr (Ty.int (0 : Int))) τ v)) ok33 (Yld.toL (y_move rfl)) fun a35 s35 hs20 ok34 r20 sm18 => ?_
      have q147 : At (Ty.int (0 : Int)) s35 a35 (.tmp 66) := r20
      clear r20; refine wpList_nil (tn (wp_block ?_))
      refine loop (fun n3 a36 w3 => ∃ (t7 : GW) (j : Nat) (L2 : (List (List Int))) (W2 : (List (List Int))) (SP2 : (List Spt)) (f2 : (Int → Option Int)) (x10_1 : Value), t7.w = w3 ∧ FromL [41, 42, 43] σ t7 ∧ Ok 92 [] a36 ∧ At (Ty.nat j) t7 a36 (.tmp 66) ∧ At (Ty.val x10_1) t7 a36 (.tmp 10) ∧ At (Ty.nat i) t7 a36 (.tmp 12) ∧ At (Ty.val gv) t7 a36 (.tmp 0) ∧ At (Ty.lst Ty.int r) t7 a36 (.tmp 1) ∧ At (Ty.val x2) t7 a36 (.tmp 11) ∧ At (Ty.val x3) t7 a36 (.tmp 13) ∧ At (Ty.lst Ty.int (lettersL gens.length)) t7 a36 (.tmp 64) ∧ At (Ty.nat (List.length (lettersL gens.length))) t7 a36 (.tmp 65) ∧ Own t7 20 129 3 x10_1 (List.length SP2) (List.flatMap spotC SP2) ∧ OwnM Ty.int kI t7 22 x2 f2 ∧ ChnU t7 42 22 108 cs n c us ∧ OwnP t7 23 x3 [(Ty.lst Ty.int ((SP.getD i ([], 0, 0))).1), (Ty.int ((SP.getD i ([], 0, 0))).2.1), (Ty.int ((SP.getD i ([], 0, 0))).2.2)] ∧ OwnP t7 41 gv [(Ty.nat n), (Ty.val gs), (Ty.val cs)] ∧ Own t7 43 22 1 gs (List.length gens) (List.map Ty.ints gens) ∧ (j ≤ 2 * gens.length) ∧ (ClS n gens L2 W2 i j r SP2 f2) ∧ (L2.getD i [] = L.getD i []) ∧ n3 = 2 * gens.length - j) (2 * gens.length - (0)) ?_ ?_
      ·
       exact ⟨s35, 0, L, W, SP, f, x10_0, rfl, ((((F28.step0 D15.stp).sl hs18).sl hs19).sl hs20), ok34, (cJ q147), (kq hs20 sm18 10 (kq hs19 sm17 10 (kq hs18 sm16 10 (D15.k q105)))), (kq hs20 sm18 12 (kq hs19 sm17 12 (kq hs18 sm16 12 (D15.k q104)))), (kq hs20 sm18 0 (kq hs19 sm17 0 (kq hs18 sm16 0 (D15.k q106)))), (kq hs20 sm18 1 (kq hs19 sm17 1 (kq hs18 sm16 1 (D15.k (D13.k q100))))), (kq hs20 sm18 11 (kq hs19 sm17 11 (kq hs18 sm16 11 (D15.k (D13.k q101))))), (kq hs20 sm18 13 (kq hs19 sm17 13 (kq hs18 sm16 13 (D15.k (D13.k q102))))), (kq hs20 sm18 64 (kq hs19 sm17 64 q130)), (kq hs20 sm18 65 q138), (cvo (by (simp)) (by (simp)) (Own.kl (Own.kl (Own.kl o138 hs18) hs19) hs20)), (cvm (by (rfl)) (OwnM.kl (OwnM.kl (OwnM.kl o139 hs18) hs19) hs20)), (ChnU.kl (ChnU.kl (ChnU.kl o141 hs18) hs19) hs20), (OwnP.kl (OwnP.kl (OwnP.kl o143 hs18) hs19) hs20), (OwnP.kl (OwnP.kl o146 hs19) hs20), (Own.kl (Own.kl o147 hs19) hs20), by omega, hO.go hil hne, rfl, rfl⟩
      ·
       rintro n4 a37 w4 ⟨t8, j, L2, W2, SP2, f2, x10_1, rfl, F37, ok35, q148, q149, q150, q151, q152, q153, q154, q155, q156, o164, o165, o166, o167, o168, o169, hj, hS, he, rfl⟩
       obtain ⟨hfw2, hspl2, hil3⟩ := hS.few hn hG oM hF
       refine wp_seq ?_
       refine gI a37 t8 ok35 (gS rfl (fun A B H I J => rP (y_lss (kp (J 66 rfl) H q148) (kp (J 65 rfl) H q156))) (gE ok35 fun a38 s36 ok36 D16 => ?_)); have F38 := F37.step0 D16.stp; have q157 := D16.k q148; have q158 := D16.k q149; have q159 := D16.k q150; have q160 := D16.k q151; have q161 := D16.k q152; have q162 := D16.k q153; have q164 := D16.k q155; have o170 := Own.k0 o164 D16.stp; have o171 := OwnM.k0 o165 D16.stp; have o172 := ChnU.k0 o166 D16.stp; have o173 := OwnP.k0 o167 D16.stp; have o174 := OwnP.k0 o168 D16.stp; have o175 := Own.k0 o169 D16.stp; refine tn (wp_seq ?_)
       refine cond_p (p := (((j : Nat) : Int) < (((List.length (lettersL gens.length)) : Nat) : Int))) (D16.m 0 rfl) (fun c5 => ?_) (fun c5 => ?_)
       ·
        obtain ⟨ht1, ht2, ht3, ht4⟩ := hS.ltr hn hG oM; have hlg := lettersL_get (m := gens.length) (j := j) oM; obtain ⟨hk0, hk1, hk2⟩ := ltrN_bd (G := gens) (j := j) oM; have htl1 := ht1.len; have htl2 := ht2.len; have htl4 := ht4.len; have htb := ht2.bds hie2; have htr := ht4.row
        refine wp_skip (tn (wp_seq (wp_block (wp_seq ?_))))
        refine gI a38 s36 ok36 (gT (Ty.ref [(Ty.int ((lettersL gens.length).getD j 0))]) rfl (fun A B H I J => rP (y_index1 Try.underlying22 Try.inf3 (kp (J 64 rfl) H q164) (kp (J 66 rfl) H q157) oM (lst_get Ty.int (lettersL gens.length) 0 j oM))) (gS rfl (fun A B H I J d0 => rP (y_load Try.underlying3 rfl (eI d0) rfl)) (gB 0 (gE ok36 fun a39 s37 ok37 D17 => ?_)))); have q170 := D17.k q160; have q173 := D17.k (D16.k q154); have o176 := Own.k0 o170 D17.stp; have o177 := OwnM.k0 o171 D17.stp; have o178 := ChnU.k0 o172 D17.stp; have o179 := OwnP.k0 o173 D17.stp; have o180 := OwnP.k0 o174 D17.stp; have o181 := Own.k0 o175 D17.stp
        have q177 : At (Ty.int (ltrN j)) s37 a39 (.tmp 15) := (cvi (by (rw [hlg])) (D17.m 2 rfl))
        refine tn (wp_seq ?_)
        refine reg3 (a := a39) (σ := s37) rfl 5 4 74 [41, 43] dE (⟨fun τ v => (Ty.has (Ty.lst Ty.int (genL gens ((ltrN j)))) τ v) ∧ (OwnP τ 41 gv [(Ty.nat n), (Ty.val gs), (Ty.val cs)]) ∧ (Own τ 43 22 1 gs (List.length gens) (List.map Ty.ints gens)), fun hs_ h_ => by (obtain ⟨h0_, h1_, h2_⟩ := h_; exact ⟨Ty.up _ hs_.le0 h0_, OwnP.k0 h1_ hs_, Own.k0 h2_ hs_⟩)⟩ : Pr) (fun i_ => List.getD [(Ty.val (ptrAt x3 0)), (Ty.lst Ty.int ((SP.getD i ([], 0, 0))).1), (Ty.val gv), (Ty.int (ltrN j)), Ty.any] i_ Ty.any) ok37 rfl dE rfl dE rfl (fun _ _ => trivial) rfl ⟨?_, ?_, ?_, ?_, ?_, trivial⟩ ?_
        · refine obR3 dE ?_
          intro A B H I J
          exact rP (ownp_field Try.fld129_0 Try.inf22 dE (OwnP.keepL o179 H dE dE) (kpL H dE (J 13 rfl) q173))
        · refine obR3 dE ?_
          intro A B H I J d0
          have e0 : At (Ty.val (ptrAt x3 0)) B A (.tmp 70) := d0 rfl
          exact rP (ownp_load Try.underlying22 rfl (OwnP.keepL o179 H dE dE) e0 rfl)
        · refine obR3 dE ?_
          intro A B H I J
          exact rP (y_move (kpL H dE (J 0 rfl) q170))
        · refine obR3 dE ?_
          intro A B H I J
          exact rP (y_move (kpL H dE (J 15 rfl) q177))
        · refine obR3w rfl ?_
          intro A B H I J d0 d1
          have e2 : At (Ty.val gv) B A (.tmp 72) := d0 rfl
          have e3 : At (Ty.int (ltrN j)) B A (.tmp 73) := d1 rfl
          exact YldL.mono (y_callL (L := [41, 43]) [(41, 41), (43, 43)] [(41, 41), (43, 43)] #[A.eval (.tmp 72), A.eval (.tmp 73)] rfl dE Try.func75 rfl rfl my2 (gGen_fn (gv) (gs) (cs) (n) (gens) ((ltrN j)) _ lW _ _ (uL e2) (uL (cvi (σ := B) oX e3)) (OwnP.ren (OwnP.k0 o180 H) (GW.ren_lend _ _ dE rfl)) (Own.ren (Own.k0 o181 H) (GW.ren_lend _ _ dE rfl)) oX oX oX oX oX)) (fun v_ t_ r_ => by obtain ⟨t9, ⟨hT5, o182, o183⟩, B5⟩ := r_; exact ⟨Ty.up _ B5.le hT5, OwnP.ren o182 (B5.ren dE rfl), Own.ren o183 (B5.ren dE rfl)⟩)
        intro a40 s38 D18; have ok38 := D18.ok; have F40 := (F38.step0 D17.stp).stepL D18.stp dE
        have q178 : At (Ty.nat j) s38 a40 (.tmp 66) := D18.kt dE (D17.k q157) rfl
        have q179 : At (Ty.val x10_1) s38 a40 (.tmp 10) := D18.kt dE (D17.k q158) rfl
        have q180 : At (Ty.nat i) s38 a40 (.tmp 12) := D18.kt dE (D17.k q159) rfl
        have q181 : At (Ty.val gv) s38 a40 (.tmp 0) := D18.kt dE q170 rfl
        have q182 : At (Ty.lst Ty.int r) s38 a40 (.tmp 1) := D18.kt dE (D17.k q161) rfl
        have q183 : At (Ty.val x2) s38 a40 (.tmp 11) := D18.kt dE (D17.k q162) rfl
        have q184 : At (Ty.val x3) s38 a40 (.tmp 13) := D18.kt dE q173 rfl
        have q185 : At (Ty.lst Ty.int (lettersL gens.length)) s38 a40 (.tmp 64) := D18.kt dE (D17.k q164) rfl
        have q186 : At (Ty.nat (List.length (lettersL gens.length))) s38 a40 (.tmp 65) := D18.kt dE (D17.k (D16.k q156)) rfl
        have q187 : At (Ty.int (ltrN j)) s38 a40 (.tmp 15) := D18.kt dE q177 rfl
        have o186 := Own.keepL o176 D18.stp dE dE; have o187 := OwnM.keepL o177 D18.stp dE dE; have o188 := ChnU.keepL o178 D18.stp dE dE; have o189 := OwnP.keepL o179 D18.stp dE dE
        have q188 : At (Ty.lst Ty.int ((SP.getD i ([], 0, 0))).1) s38 a40 (.tmp 71) := D18.done 1 dE
        have b2 := sl_le q188
        obtain ⟨hq1, o184, o185⟩ := D18.donep
        have q189 : At (Ty.lst Ty.int (genL gens ((ltrN j)))) s38 a40 (.tmp 74) := hq1
        refine tL (R := (fun v τ => Pr.has (Ty.pr (Ty.lst Ty.int (byL (((SP.getD i ([], 0, 0))).1) ((genL gens ((ltrN j))))))) τ v)) ok38 (Yld.toL (y_call _ Try.func64 rfl rfl my2 (product_fn (((SP.getD i ([], 0, 0))).1) ((genL gens ((ltrN j)))) _ _ _ q188 q189 (by first | assumption | omega) (by first | assumption | omega) (by first | assumption | omega)))) fun a41 s39 hs21 ok39 r21 sm19 => ?_
        have q200 : At (Ty.lst Ty.int (byL (((SP.getD i ([], 0, 0))).1) ((genL gens ((ltrN j)))))) s39 a41 (.tmp 75) := r21
        refine tL ok39 (Yld.toL (y_as q200)) fun a42 s40 hs22 ok40 r22 sm20 => ?_
        have q211 : At (Ty.lst Ty.int (byL (((SP.getD i ([], 0, 0))).1) ((genL gens ((ltrN j)))))) s40 a42 (.tmp 16) := r22
        clear r22; refine wpList_nil ?_
        have q212 : At (Ty.lst Ty.int (byL (L2.getD i []) (ltr gens j))) s40 a42 (.tmp 16) := (cvt (by (rw [hie, ht3, he])) q211)
        refine tn (wp_seq ?_)
        refine gI a42 s40 ok40 (gM q212 (gS rfl (fun A B H I J d0 => rP (y_call _ Try.func94 rfl rfl my1 (rowPlace_fn ((byL (L2.getD i []) (ltr gens j))) _ _ (eI d0) oM))) (gB 0 (gE ok40 fun a43 s41 ok41 D19 => ?_)))); have q218 := D19.k (kq hs22 sm20 11 (kq hs21 sm19 11 q183)); have o202 := Own.k0 (Own.kl (Own.kl o186 hs21) hs22) D19.stp; have o203 := OwnM.k0 (OwnM.kl (OwnM.kl o187 hs21) hs22) D19.stp; have o204 := ChnU.k0 (ChnU.kl (ChnU.kl o188 hs21) hs22) D19.stp; have o205 := OwnP.k0 (OwnP.kl (OwnP.kl o189 hs21) hs22) D19.stp; have o206 := OwnP.k0 (OwnP.kl (OwnP.kl o184 hs21) hs22) D19.stp; have o207 := Own.k0 (Own.kl (Own.kl o185 hs21) hs22) D19.stp; have q224 := D19.m 2 rfl; refine tn (wp_seq ?_)
        refine gI a43 s41 ok41 (gM q218 (gM q224 (gT (Ty.int ((f2 (((rankL ((byL (L2.getD i []) (ltr gens j)))) : Nat) : Int)).getD 0)) rfl (fun A B H I J d0 d1 => rP (y_lookup (i := (((rankL ((byL (L2.getD i []) (ltr gens j)))) : Nat) : Int)) (z := 0) Try.underlying100 (keyInt Try.underlying3) Try.inf3 (fun _ => rfl) (OwnM.k0 o203 H) (eI d0) (eI d1))) (gS rfl (fun A B H I J d0 => rP (y_eql (eI d0) rfl)) (gE ok41 fun a44 s42 ok42 D20 => ?_))))); have F44 := (((F40.sl hs21).sl hs22).step0 D19.stp).step0 D20.stp; have q225 := D20.k (D19.k (kq hs22 sm20 66 (kq hs21 sm19 66 q178))); have q226 := D20.k (D19.k (kq hs22 sm20 10 (kq hs21 sm19 10 q179))); have q227 := D20.k (D19.k (kq hs22 sm20 12 (kq hs21 sm19 12 q180))); have q228 := D20.k (D19.k (kq hs22 sm20 0 (kq hs21 sm19 0 q181))); have q229 := D20.k (D19.k (kq hs22 sm20 1 (kq hs21 sm19 1 q182))); have q230 := D20.k q218; have q231 := D20.k (D19.k (kq hs22 sm20 13 (kq hs21 sm19 13 q184))); have q232 := D20.k (D19.k (kq hs22 sm20 64 (kq hs21 sm19 64 q185))); have q233 := D20.k (D19.k (kq hs22 sm20 65 (kq hs21 sm19 65 q186))); have o208 := Own.k0 o202 D20.stp; have o209 := OwnM.k0 o203 D20.stp; have o210 := ChnU.k0 o204 D20.stp; have o211 := OwnP.k0 o205 D20.stp; have o212 := OwnP.k0 o206 D20.stp; have o213 := Own.k0 o207 D20.stp; refine tn ?_
        refine cond_p (p := (((f2 (((rankL ((byL (L2.getD i []) (ltr gens j)))) : Nat) : Int)).getD 0) = (0 : Int))) (D20.m 3 rfl) (fun c6 => ?_) (fun c6 => ?_)
        ·
         have hS2 := hS.new hn hG oM oM
         refine wp_seq ?_
         refine gI a44 s42 ok42 (gM q230 (gM (D20.k q224) (gE2 ok42 fun a45 s43 ok43 D21 => ?_))); have o214 := Own.k0 o208 D21.stp; have o215 := OwnM.k0 o209 D21.stp; have o216 := ChnU.k0 o210 D21.stp; have o217 := OwnP.k0 o211 D21.stp; have o218 := OwnP.k0 o212 D21.stp; have o219 := Own.k0 o213 D21.stp
         have q249 : At (Ty.val x2) s43 a45 (.tmp 82) := D21.done 0 dE
         refine tailL0 (L := [22]) (R := (fun _ τ => OwnM Ty.int kI τ 22 x2 (fun x_ => if x_ = (((rankL ((byL (L2.getD i []) (ltr gens j)))) : Nat) : Int) then some (1 : Int) else f2 x_))) rfl rfl (YldM.toL (m_mapset (i := (((rankL ((byL (L2.getD i []) (ltr gens j)))) : Nat) : Int)) Try.underlying100 (keyInt Try.underlying3) dE o215 q249 (D21.m 1 rfl) rfl)) (fun v3 s44 hs23 r23 => ?_)
         have q251 := kpL hs23 dE rfl (D21.k q225); have q252 := kpL hs23 dE rfl (D21.k q226); have q253 := kpL hs23 dE rfl (D21.k q227); have q254 := kpL hs23 dE rfl (D21.k q228); have q255 := kpL hs23 dE rfl (D21.k q229); have q256 := kpL hs23 dE rfl (D21.k q230); have q257 := kpL hs23 dE rfl (D21.k q231); have q258 := kpL hs23 dE rfl (D21.k q232); have q259 := kpL hs23 dE rfl (D21.k q233); have q260 := kpL hs23 dE rfl (D21.k (D20.k (D19.k (kq hs22 sm20 15 (kq hs21 sm19 15 q187))))); have q261 := kpL hs23 dE rfl (D21.k (D20.k (D19.k q212)))
         have o220 : OwnM Ty.int kI s44 22 x2 (fun x_ => if x_ = (((rankL ((byL (L2.getD i []) (ltr gens j)))) : Nat) : Int) then some (1 : Int) else f2 x_) := r23
         clear r23; refine wpList_nil (tn ?_)
         refine gI a45 s44 ok43 (gM q252 (gM q261 (gM q260 (gM q253 (gT (Ty.agg [(Ty.lst Ty.int (byL (L2.getD i []) (ltr gens j))), (Ty.int (ltrN j)), (Ty.nat i)]) rfl (fun A B H I J d0 d1 d2 => rP (y_bld [(0, (.tmp 85), (Ty.lst Ty.int (byL (L2.getD i []) (ltr gens j)))), (1, (.tmp 86), (Ty.int (ltrN j))), (2, (.tmp 87), (Ty.nat i))] [(Ty.val (Value.slice none 0 0)), (Ty.int (0 : Int)), (Ty.int (0 : Int))] (l := [(0, 1), (1, 1), (2, 1)]) rfl Try.inf129 rfl (alloc_vals (vs := [.slice none 0 0, .int .i64 0, .int .i64 0]) rfl) rfl (by intro p hp; simp only [List.mem_cons, List.not_mem_nil, or_false] at hp; rcases hp with rfl | rfl | rfl; exact ⟨one_sl, (eI d0)⟩; exact ⟨one_val rfl, (eI d1)⟩; exact ⟨one_val rfl, (eI d2)⟩))) (gT (Ty.lstc 3 spotC [((byL (L2.getD i []) (ltr gens j)), (ltrN j), ((i : Nat) : Int))]) rfl (fun A B H I J d0 => rP (y_build1c (c := 3) Try.underlying130 Try.inf129 rfl dE dE rfl (eI d0))) (gE2 ok43 fun a46 s45 ok44 D22 => ?_))))))); have o226 := Own.k0 (Own.kl o214 hs23) D22.stp; have o227 := ChnU.k0 (ChnU.kl o216 hs23) D22.stp; have o228 := OwnP.k0 (OwnP.kl o217 hs23) D22.stp; have o229 := OwnP.k0 (OwnP.kl o218 hs23) D22.stp; have o230 := Own.k0 (Own.kl o219 hs23) D22.stp; have o231 := OwnM.k0 o220 D22.stp
         have q272 : At (Ty.val x10_1) s45 a46 (.tmp 84) := D22.done 0 dE
         have q273 := D22.m 5 rfl
         have b3 := sl_le q273
         refine tL ok44 (YldM.toL (m_append Try.underlying130 Try.inf129 dE rfl dE (al (R := (Pr.own 20 129 3 (List.length SP2) (List.flatMap spotC SP2))) q272 o226) q273 (one_flat spotOne) (by first | omega | (simp only [List.length_singleton]; omega)) (by first | omega | (simp only [List.length_singleton]; omega)))) fun a47 s46 hs24 ok45 r24 sm21 => ?_
         have q275 := kq hs24 sm21 10 (D22.k q252)
         obtain ⟨x4, hx4⟩ : ∃ x, a47.eval (.tmp 90) = x := ⟨_, rfl⟩
         have q283 : At (Ty.val x4) s46 a47 (.tmp 90) := hx4
         have o232 := al2 (R := (Pr.own 20 129 3 (List.length (SP2 ++ [((byL (L2.getD i []) (ltr gens j)), (ltrN j), ((i : Nat) : Int))])) (List.flatMap spotC (SP2 ++ [((byL (L2.getD i []) (ltr gens j)), (ltrN j), ((i : Nat) : Int))])))) hx4 (cvo (by simp) (by first | (rw [List.map_append]; rfl) | simp) r24)
         clear r24
         refine tL ok45 (Yld.toL (y_as q283)) fun a48 s47 hs25 ok46 r25 sm22 => ?_
         have q292 : At (Ty.val x4) s47 a48 (.tmp 10) := r25
         clear r25; refine wpList_nil (bn (tn ?_))
         refine gI a48 s47 ok46 (gT (Ty.nat (j + 1)) rfl (fun A B H I J => rP ((y_add (kp (J 66 rfl) H (kq hs25 sm22 66 (kq hs24 sm21 66 (D22.k q251)))) rfl wX).mono (fun τ _ h => cN (σ := τ) h))) (gS rfl (fun A B H I J d0 => rP (y_move (eI d0))) (gE ok46 fun a49 s48 ok47 D23 => ?_))); have o244 := ChnU.k0 (ChnU.kl (ChnU.kl o227 hs24) hs25) D23.stp; have o245 := OwnP.k0 (OwnP.kl (OwnP.kl o228 hs24) hs25) D23.stp; have o246 := OwnP.k0 (OwnP.kl (OwnP.kl o229 hs24) hs25) D23.stp; have o247 := Own.k0 (Own.kl (Own.kl o230 hs24) hs25) D23.stp; have o248 := OwnM.k0 (OwnM.kl (OwnM.kl o231 hs24) hs25) D23.stp; have o249 := Own.k0 (Own.kl o232 hs25) D23.stp
         exact tn ⟨2 * gens.length - ((j+1)), by omega, s48, (j+1), (L2 ++ [byL (L2.getD i []) (ltr gens j)]), (W2 ++ [W2.getD i [] ++ [ltrN j]]), (SP2 ++ [(byL (L2.getD i []) (ltr gens j), ltrN j, (i : Int))]), (fun p => if p = ((rankL (byL (L2.getD i []) (ltr gens j)) : Nat) : Int) then some (1 : Int) else f2 p), x4, rfl, ((((((F44.step0 D21.stp).sl hs23).step0 D22.stp).sl hs24).sl hs25).step0 D23.stp), ok47, (cJ (D23.m 1 rfl)), (D23.k q292), (D23.k (kq hs25 sm22 12 (kq hs24 sm21 12 (D22.k q253)))), (D23.k (kq hs25 sm22 0 (kq hs24 sm21 0 (D22.k q254)))), (D23.k (kq hs25 sm22 1 (kq hs24 sm21 1 (D22.k q255)))), (D23.k (kq hs25 sm22 11 (kq hs24 sm21 11 (D22.k q256)))), (D23.k (kq hs25 sm22 13 (kq hs24 sm21 13 (D22.k q257)))), (D23.k (kq hs25 sm22 64 (kq hs24 sm21 64 (D22.k q258)))), (D23.k (kq hs25 sm22 65 (kq hs24 sm21 65 (D22.k q259)))), (cvo (by (simp)) (by (simp)) o249), (cvm (by (rfl)) o248), o244, o245, o246, o247, by omega, hS2, hS.keep hil3 he, rfl⟩
        ·
         have hS2 := hS.old hn hG oM oM
         refine wp_skip (bn (tn ?_))
         refine gI a44 s42 ok42 (gT (Ty.nat (j + 1)) rfl (fun A B H I J => rP ((y_add (kp (J 66 rfl) H q225) rfl wX).mono (fun τ _ h => cN (σ := τ) h))) (gS rfl (fun A B H I J d0 => rP (y_move (eI d0))) (gE ok42 fun a50 s49 ok48 D24 => ?_))); have o250 := Own.k0 o208 D24.stp; have o251 := OwnM.k0 o209 D24.stp; have o252 := ChnU.k0 o210 D24.stp; have o253 := OwnP.k0 o211 D24.stp; have o254 := OwnP.k0 o212 D24.stp; have o255 := Own.k0 o213 D24.stp
         exact tn ⟨2 * gens.length - ((j+1)), by omega, s49, (j+1), L2, W2, SP2, f2, x10_1, rfl, (F44.step0 D24.stp), ok48, (cJ (D24.m 1 rfl)), (D24.k q226), (D24.k q227), (D24.k q228), (D24.k q229), (D24.k q230), (D24.k q231), (D24.k q232), (D24.k q233), o250, o251, o252, o253, o254, o255, by omega, hS2, he, rfl⟩
       ·
        have ej : j = 2 * gens.length := oM; have hO2 := (ej ▸ hS : ClS n gens L2 W2 i (2 * gens.length) r SP2 f2).next hn hG
        refine wp_exit (tx (tx (bx (bn (tn ?_)))))
        refine gI a38 s36 ok36 (gM q159 (gT (Ty.nat (i + 1)) rfl (fun A B H I J d0 => rP ((y_add (eI d0) rfl wX).mono (fun τ _ h => cN (σ := τ) h))) (gB 0 (gE ok36 fun a51 s50 ok49 D25 => ?_)))); have o256 := Own.k0 o170 D25.stp; have o257 := OwnM.k0 o171 D25.stp; have o258 := ChnU.k0 o172 D25.stp; have o259 := OwnP.k0 o173 D25.stp; have o260 := OwnP.k0 o174 D25.stp; have o261 := Own.k0 o175 D25.stp
        exact tn ⟨6000 - ((i + 1)), by omega, s50, (i + 1), L2, W2, SP2, f2, x10_1, rfl, (F38.step0 D25.stp), ok49, (cJ (D25.m 2 rfl)), (D25.k q158), (D25.k q160), (D25.k q161), (D25.k q162), (cvo (by (simp)) (by (simp)) o256), (cvm (by (rfl)) o257), o260, o258, o261, hO2, rfl⟩


set_option maxHeartbeats 4000000 in
set_option maxRecDepth 100000 in
theorem isNaN_fn (x : Int) (σ : GW)  (v0 : Value) (hv0 : Ty.has (Ty.int x) σ v0)   :
    FnC Try.prog 111 #[v0] σ (Ty.bool false) := by
 refine fn_intro0 Try.func111 rfl Try.ntmps111 (Nat.le_of_ble_eq_true rfl) (fun s0 a0 hle F0 ok0 hargs => ?_)
 have p0 := pA hle (hargs 0 _ rfl) hv0
 clear hargs; refine wp_seq ?_
 refine gI a0 s0 ok0 (gC (Ty.bool false) (gE ok0 fun a1 s1 ok1 D1 => ?_)); have q1 := D1.k p0; refine tn (wp_seq ?_)
 refine gI a1 s1 ok1 (gM q1 (gM q1 (gS rfl (fun A B H I J d0 d1 => rP (y_neq (eI d0) (eI d1))) (gB 0 (gE ok1 fun a2 s2 ok2 D2 => ?_))))); refine tn (wp_ret ?_)
 exact retL1 rfl ok2 ((F0.step0 D1.stp).step0 D2.stp) (cvb (by (simp)) (D2.m 3 rfl))


set_option maxHeartbeats 4000000 in
set_option maxRecDepth 100000 in
theorem cmpInt_fn (x : Int) (y : Int) (σ : GW)  (v0 v1 : Value) (hv0 : Ty.has (Ty.int x) σ v0) (hv1 : Ty.has (Ty.int y) σ v1)   :
    FnC Try.prog 103 #[v0, v1] σ (Ty.int (cmpI x y)) := by
 refine fn_intro0 Try.func103 rfl Try.ntmps103 (Nat.le_of_ble_eq_true rfl) (fun s0 a0 hle F0 ok0 hargs => ?_)
 have p0 := pA hle (hargs 0 _ rfl) hv0
 have p1 := pA hle (hargs 1 _ rfl) hv1
 clear hargs; refine wp_seq ?_
 refine gI a0 s0 ok0 (gC (Ty.int (0 : Int)) (gE ok0 fun a1 s1 ok1 D1 => ?_)); have q1 := D1.k p0; refine tn (wp_seq ?_)
 refine gI a1 s1 ok1 (gM q1 (gS rfl (fun A B H I J d0 => rP (y_call _ Try.func111 rfl rfl my1 (isNaN_fn (x) _ _ (eI d0) ))) (gB 0 (gE ok1 fun a2 s2 ok2 D2 => ?_)))); have q4 := D2.k (D1.k p1); refine tn (wp_seq ?_)
 refine gI a2 s2 ok2 (gM q4 (gS rfl (fun A B H I J d0 => rP (y_call _ Try.func111 rfl rfl my1 (isNaN_fn (y) _ _ (cvi (σ := B) oM (ef d0 rfl)) ))) (gB 0 (gE ok2 fun a3 s3 ok3 D3 => ?_)))); refine tn (wp_seq (wp_seq ?_))
 refine gI a3 s3 ok3 (gM (D3.k (D2.m 2 rfl)) (gE ok3 fun a4 s4 ok4 D4 => ?_)); refine tn ?_
 refine cond_t (D4.m 0 rfl) (fun c1 => (by cases c1)) (fun _ => ?_)
 refine wp_skip (tn (wp_seq (wp_seq ?_)))
 refine gI a4 s4 ok4 (gM (D4.k (D3.m 2 rfl)) (gE ok4 fun a5 s5 ok5 D5 => ?_)); have q14 := D5.k (D4.k (D3.k (D2.k q1))); have q15 := D5.k (D4.k (D3.k q4)); refine tn ?_
 refine cond_t (D5.m 0 rfl) (fun c2 => (by cases c2)) (fun _ => ?_)
 refine wp_skip (tn (wp_seq (wp_seq ?_)))
 refine gI a5 s5 ok5 (gM q14 (gM q15 (gS rfl (fun A B H I J d0 d1 => rP (y_lss (eI d0) (eI d1))) (gE ok5 fun a6 s6 ok6 D6 => ?_)))); have F6 := (((((F0.step0 D1.stp).step0 D2.stp).step0 D3.stp).step0 D4.stp).step0 D5.stp).step0 D6.stp; refine tn ?_
 refine cond_p (p := (x < y)) (D6.m 2 rfl) (fun c3 => ?_) (fun c3 => ?_)
 ·
  refine wp_seq ?_
  refine gI a6 s6 ok6 (gC (Ty.int (-1 : Int)) (gE ok6 fun a7 s7 ok7 D7 => ?_)); refine tn (wp_ret (tr ?_))
  exact retL1 rfl ok7 (F6.step0 D7.stp) (cvi (by (unfold cmpI; split <;> (try split) <;> omega)) (D7.m 0 rfl))
 ·
  refine wp_skip (tn (wp_seq (wp_seq ?_)))
  refine gI a6 s6 ok6 (gM (D6.k q14) (gM (D6.k q15) (gS rfl (fun A B H I J d0 d1 => rP (y_gtr (eI d0) (eI d1))) (gE ok6 fun a8 s8 ok8 D8 => ?_)))); have F8 := F6.step0 D8.stp; refine tn ?_
  refine cond_p (p := (y < x)) (D8.m 2 rfl) (fun c4 => ?_) (fun c4 => ?_)
  ·
   refine wp_seq ?_
   refine gI a8 s8 ok8 (gC (Ty.int (1 : Int)) (gE ok8 fun a9 s9 ok9 D9 => ?_)); refine tn (wp_ret (tr ?_))
   exact retL1 rfl ok9 (F8.step0 D9.stp) (cvi (by (unfold cmpI; split <;> (try split) <;> omega)) (D9.m 0 rfl))
  ·
   refine wp_skip (tn (wp_seq ?_))
   refine gI a8 s8 ok8 (gC (Ty.int (0 : Int)) (gE ok8 fun a10 s10 ok10 D10 => ?_)); refine tn (wp_ret ?_)
   exact retL1 rfl ok10 (F8.step0 D10.stp) (cvi (by (unfold cmpI; split <;> (try split) <;> omega)) (D10.m 0 rfl))


set_option maxHeartbeats 4000000 in
set_option maxRecDepth 100000 in
theorem slCompare_fn (xs : List Int) (ys : List Int) (σ : GW)  (v0 v1 : Value) (hv0 : Ty.has (Ty.lst Ty.int xs) σ v0) (hv1 : Ty.has (Ty.lst Ty.int ys) σ v1)   :
    FnC Try.prog 82 #[v0, v1] σ (Ty.int (cmpL xs ys)) := by
 refine fn_intro0 Try.func82 rfl Try.ntmps82 (Nat.le_of_ble_eq_true rfl) (fun s0 a0 hle F0 ok0 hargs => ?_)
 have p0 := pA hle (hargs 0 _ rfl) hv0
 have b1 := sl_le p0
 have p1 := pA hle (hargs 1 _ rfl) hv1
 have b2 := sl_le p1
 clear hargs; refine wp_seq ?_
 refine gI a0 s0 ok0 (gC (Ty.int (0 : Int)) (gE ok0 fun a1 s1 ok1 D1 => ?_)); have q1 := D1.k p0; refine tn (wp_seq (wp_seq ?_))
 refine gI a1 s1 ok1 (gM q1 (gS rfl (fun A B H I J d0 => rP (y_len Try.underlying22 (eI d0))) (gT (Ty.int (0 : Int)) rfl (fun A B H I J => rP (y_move rfl)) (gE ok1 fun a2 s2 ok2 D2 => ?_)))); refine tn (wp_block ?_)
 refine loop (fun n1 a3 w1 => ∃ (t1 : GW) (i : Nat), t1.w = w1 ∧ FromL [] s0 t1 ∧ Ok 36 [] a3 ∧ At (Ty.nat i) t1 a3 (.tmp 11) ∧ At (Ty.lst Ty.int xs) t1 a3 (.tmp 0) ∧ At (Ty.lst Ty.int ys) t1 a3 (.tmp 1) ∧ At (Ty.lst Ty.int xs) t1 a3 (.tmp 9) ∧ At (Ty.nat (List.length xs)) t1 a3 (.tmp 10) ∧ (i ≤ xs.length) ∧ (cmpL (xs.drop i) (ys.drop i) = cmpL xs ys) ∧ n1 = xs.length - i) (xs.length - (0)) ?_ ?_
 ·
  exact ⟨s2, 0, rfl, ((F0.step0 D1.stp).step0 D2.stp), ok2, (cJ (D2.m 2 rfl)), (D2.k q1), (D2.k (D1.k p1)), (D2.m 0 rfl), (D2.m 1 rfl), by omega, rfl, rfl⟩
 ·
  rintro n2 a4 w2 ⟨t2, i, rfl, F3, ok3, q8, q9, q10, q11, q12, hi, hc, rfl⟩
  refine wp_seq ?_
  refine gI a4 t2 ok3 (gS rfl (fun A B H I J => rP (y_lss (kp (J 11 rfl) H q8) (kp (J 10 rfl) H q12))) (gE ok3 fun a5 s3 ok4 D3 => ?_)); have F4 := F3.step0 D3.stp; have q13 := D3.k q8; have q14 := D3.k q9; have q15 := D3.k q10; have q16 := D3.k q11; refine tn (wp_seq ?_)
  refine cond_p (p := (((i : Nat) : Int) < (((List.length xs) : Nat) : Int))) (D3.m 0 rfl) (fun c1 => ?_) (fun c1 => ?_)
  ·
   refine wp_skip (tn (wp_seq (wp_block (wp_seq ?_))))
   refine gI a5 s3 ok4 (gM q13 (gT (Ty.ref [(Ty.int (xs.getD i 0))]) rfl (fun A B H I J => rP (y_index1 Try.underlying22 Try.inf3 (kp (J 9 rfl) H q16) (kp (J 11 rfl) H q13) oM (lst_get Ty.int xs 0 i oM))) (gS rfl (fun A B H I J d0 => rP (y_load Try.underlying3 rfl (eI d0) rfl)) (gB 0 (gB 0 (gE ok4 fun a6 s4 ok5 D4 => ?_)))))); have q21 := D4.k q15; have q24 := D4.m 3 rfl; refine tn (wp_seq (wp_seq ?_))
   refine gI a6 s4 ok5 (gM q24 (gM q21 (gS rfl (fun A B H I J d0 => rP (y_len Try.underlying22 (eI d0))) (gS rfl (fun A B H I J d0 d1 => rP (y_geq (eI d0) (eI d1))) (gE ok5 fun a7 s5 ok6 D5 => ?_))))); have F6 := (F4.step0 D4.stp).step0 D5.stp; have q28 := D5.k q21; refine tn ?_
   refine cond_p (p := ((((List.length ys) : Nat) : Int) ≤ ((i : Nat) : Int))) (D5.m 3 rfl) (fun c2 => ?_) (fun c2 => ?_)
   ·
    refine wp_seq ?_
    refine gI a7 s5 ok6 (gC (Ty.int (1 : Int)) (gE ok6 fun a8 s6 ok7 D6 => ?_)); refine tn (wp_ret (tr (br (tr (tr (br (tr ?_)))))))
    exact retL1 rfl ok7 (F6.step0 D6.stp) (cvi (by (exact (cmp_long hc oM oM).symm)) (D6.m 0 rfl))
   ·
    refine wp_skip (tn (wp_seq ?_))
    refine gI a7 s5 ok6 (gM q28 (gM (D5.k q24) (gT (Ty.ref [(Ty.int (ys.getD i 0))]) rfl (fun A B H I J d0 d1 => rP (y_index1 Try.underlying22 Try.inf3 (eI d0) (eI d1) oM (lst_get Ty.int ys 0 i oM))) (gS rfl (fun A B H I J d0 => rP (y_load Try.underlying3 rfl (eI d0) rfl)) (gB 0 (gE ok6 fun a9 s7 ok8 D7 => ?_)))))); refine tn (wp_seq ?_)
    refine gI a9 s7 ok8 (gM (D7.k (D5.k (D4.m 4 rfl))) (gM (D7.m 4 rfl) (gS rfl (fun A B H I J d0 d1 => rP (y_call _ Try.func103 rfl rfl my2 (cmpInt_fn ((xs.getD i 0)) ((ys.getD i 0)) _ _ _ (cvi (σ := B) oM (ef d0 rfl)) (cvi (σ := B) oM (ef d1 rfl)) ))) (gB 0 (gE ok8 fun a10 s8 ok9 D8 => ?_))))); have q47 := D8.m 3 rfl; refine tn (wp_seq ?_)
    refine gI a10 s8 ok9 (gM q47 (gS rfl (fun A B H I J d0 => rP (y_neq (eI d0) rfl)) (gE ok9 fun a11 s9 ok10 D9 => ?_))); have F10 := ((F6.step0 D7.stp).step0 D8.stp).step0 D9.stp; refine tn ?_
    refine cond_p (p := ((cmpI ((xs.getD i 0)) ((ys.getD i 0))) ≠ (0 : Int))) (D9.m 1 rfl) (fun c3 => ?_) (fun c3 => ?_)
    ·
     refine wp_seq ?_
     refine gI a11 s9 ok10 (gM (D9.k q47) (gB 0 (gE ok10 fun a12 s10 ok11 D10 => ?_))); refine tn (wp_ret (br (tr (tr (br (tr ?_))))))
     exact retL1 rfl ok11 (F10.step0 D10.stp) (cvi (by (exact cmp_ne hc oM oM c3)) (D10.m 1 rfl))
    ·
     refine wp_skip (bn (tn ?_))
     refine gI a11 s9 ok10 (gT (Ty.int (((i : Nat) : Int) + (1 : Int))) rfl (fun A B H I J => rP (y_add (kp (J 11 rfl) H (D9.k (D8.k (D7.k (D5.k (D4.k q13)))))) rfl wX)) (gS rfl (fun A B H I J d0 => rP (y_move (eI d0))) (gE ok10 fun a13 s11 ok12 D11 => ?_)))
     exact tn ⟨xs.length - ((i+1)), by omega, s11, (i+1), rfl, (F10.step0 D11.stp), ok12, (cJ (D11.m 1 rfl)), (D11.k (D9.k (D8.k (D7.k (D5.k (D4.k q14)))))), (D11.k (D9.k (D8.k (D7.k q28)))), (D11.k (D9.k (D8.k (D7.k (D5.k (D4.k q16)))))), (D11.k (D9.k (D8.k (D7.k (D5.k (D4.k (D3.k q12))))))), by omega, cmp_step hc oM oM c3, rfl⟩
  ·
   refine wp_exit (tx (tx (bx (tn (wp_seq (wp_seq ?_))))))
   refine gI a5 s3 ok4 (gM q14 (gS rfl (fun A B H I J d0 => rP (y_len Try.underlying22 (eI d0))) (gM q15 (gS rfl (fun A B H I J d0 => rP (y_len Try.underlying22 (eI d0))) (gS rfl (fun A B H I J d0 d1 => rP (y_lss (eI d0) (eI d1))) (gE ok4 fun a14 s12 ok13 D12 => ?_)))))); have F13 := F4.step0 D12.stp; refine tn ?_
   refine cond_p (p := ((((List.length xs) : Nat) : Int) < (((List.length ys) : Nat) : Int))) (D12.m 4 rfl) (fun c4 => ?_) (fun c4 => ?_)
   ·
    refine wp_seq ?_
    refine gI a14 s12 ok13 (gC (Ty.int (-1 : Int)) (gE ok13 fun a15 s13 ok14 D13 => ?_)); refine tn (wp_ret (tr ?_))
    exact retL1 rfl ok14 (F13.step0 D13.stp) (cvi (by (exact (cmp_short hc oM oM).symm)) (D13.m 0 rfl))
   ·
    refine wp_skip (tn (wp_seq ?_))
    refine gI a14 s12 ok13 (gC (Ty.int (0 : Int)) (gE ok13 fun a16 s14 ok15 D14 => ?_)); refine tn (wp_ret ?_)
    exact retL1 rfl ok15 (F13.step0 D14.stp) (cvi (by (exact (cmp_same hc oM oM).symm)) (D14.m 0 rfl))


set_option maxHeartbeats 4000000 in
set_option maxRecDepth 100000 in
theorem gElts_fn (gv : Value) (gs : Value) (cs : Value) (us : List Value) (n : Nat) (c : Nat → Lev) (gens : List (List Int)) (σ : GW) (hlow : Low [41, 42, 43] σ) (v0 : Value) (hv0 : Ty.has (Ty.val gv) σ v0) (ho_gv : OwnP σ 41 gv [(Ty.nat n), (Ty.val gs), (Ty.val cs)]) (ho_cs : ChnU σ 42 22 108 cs n c us) (ho_gs : Own σ 43 22 1 gs (List.length gens) (List.map Ty.ints gens)) (hC : ChnOf n gens c) (hG : ∀ x ∈ gens, RowN n x) :
    FnL Try.prog 60 #[v0] σ [41, 42, 43] (fun v τ => ∃ (E : (List (List Int))), (Ty.has (Ty.tup2 (Ty.lst Ty.ints E) (Ty.int (eltE n gens))) τ v) ∧ (OwnP τ 41 gv [(Ty.nat n), (Ty.val gs), (Ty.val cs)]) ∧ (ChnU τ 42 22 108 cs n c us) ∧ (Own τ 43 22 1 gs (List.length gens) (List.map Ty.ints gens)) ∧ (EltsP n gens E)) := by
 have hnn := hC.wc.nn
 have hw := hC.wc
 have hsb := fun k => szTo_bd (n := n) (S := fun y => y ∈ gens) (k := k) hnn.2
 refine fn_introL hlow Try.func60 rfl Try.ntmps60 (Nat.le_of_ble_eq_true rfl) (fun a0 F0 ok0 hargs => ?_)
 have p0 := pB (hargs 0 _ rfl) hv0
 clear hargs; refine wp_seq ?_
 refine gI a0 σ ok0 (gC (Ty.val (Value.slice none 0 0)) (gC (Ty.int (0 : Int)) (gE ok0 fun a1 s1 ok1 D1 => ?_))); have q1 := D1.k p0; have o1 := OwnP.k0 ho_gv D1.stp; have o2 := ChnU.k0 ho_cs D1.stp; have o3 := Own.k0 ho_gs D1.stp; refine tn (wp_seq (wp_seq ?_))
 refine gI a1 s1 ok1 (gM q1 (gE2 ok1 fun a2 s2 ok2 D2 => ?_)); have o4 := OwnP.k0 o1 D2.stp; have o5 := ChnU.k0 o2 D2.stp; have o6 := Own.k0 o3 D2.stp
 refine tL ok2 (y_callL (L := [41, 42, 43]) [(41, 41), (42, 42), (43, 43)] [(41, 41), (42, 42), (43, 43)] #[a2.eval (.tmp 13)] rfl dE Try.func42 rfl rfl my1 (gSize_fn (gv) (gs) (cs) (us) (n) (c) (gens) _ lW _ (uL (D2.m 0 rfl)) (OwnP.ren o4 (GW.ren_lend _ _ dE rfl)) (ChnU.ren o5 (GW.ren_lend _ _ dE rfl)) (Own.ren o6 (GW.ren_lend _ _ dE rfl)) oX oX)) fun a3 s3 hs1 ok3 r1 sm1 => ?_
 obtain ⟨t1, ⟨hT1, o7, o8, o9⟩, B1⟩ := r1
 have q5 : At (Ty.nat (szTo n (fun y => y ∈ gens) n)) s3 a3 (.tmp 14) := Ty.up _ B1.le hT1
 have o10 : OwnP s3 41 gv [(Ty.nat n), (Ty.val gs), (Ty.val cs)] := OwnP.ren o7 (B1.ren dE rfl)
 have o11 : ChnU s3 42 22 108 cs n c us := ChnU.ren o8 (B1.ren dE rfl)
 have o12 : Own s3 43 22 1 gs (List.length gens) (List.map Ty.ints gens) := Own.ren o9 (B1.ren dE rfl)
 refine tL (R := (fun v τ => Pr.has (Ty.pr (Ty.bool (decide ((5040 : Int) < (((szTo n (fun y => y ∈ gens) n) : Nat) : Int))))) τ v)) ok3 (Yld.toL (y_gtr q5 rfl)) fun a4 s4 hs2 ok4 r2 sm2 => ?_
 have F4 := (((F0.step0 D1.stp).step0 D2.stp).sl hs1).sl hs2; have q6 := kq hs2 sm2 0 (kq hs1 sm1 0 (D2.k q1)); have o13 := OwnP.kl o10 hs2; have o14 := ChnU.kl o11 hs2; have o15 := Own.kl o12 hs2
 have q7 : At (Ty.bool (decide ((5040 : Int) < (((szTo n (fun y => y ∈ gens) n) : Nat) : Int)))) s4 a4 (.tmp 15) := r2
 clear r2; refine wpList_nil (tn ?_)
 refine cond_p (p := ((5040 : Int) < (((szTo n (fun y => y ∈ gens) n) : Nat) : Int))) q7 (fun c1 => ?_) (fun c1 => ?_)
 ·
  have hsz : ¬ szTo n (fun y => y ∈ gens) n ≤ 5040 := oM
  refine wp_seq ?_
  refine gI a4 s4 ok4 (gC (Ty.val (Value.slice none 0 0)) (gC (Ty.int (3 : Int)) (gE ok4 fun a5 s5 ok5 D3 => ?_))); have o16 := OwnP.k0 o13 D3.stp; have o17 := ChnU.k0 o14 D3.stp; have o18 := Own.k0 o15 D3.stp; refine tn (wp_ret (tr ?_))
  exact retL2 rfl ok5 (F4.step0 D3.stp) ⟨([] : List (List Int)), (hasT2 (nil_lst (by (rfl)) (D3.m 0 rfl)) (cvi (by (unfold eltE; rw [if_neg hsz])) (D3.m 1 rfl))), o16, o17, o18, (by exact ⟨fun h_ => absurd h_ hsz, fun _ => rfl⟩)⟩
 ·
  have hsz : szTo n (fun y => y ∈ gens) n ≤ 5040 := oM
  refine wp_skip (tn (wp_seq ?_))
  refine gI a4 s4 ok4 (gM q6 (gT (Ty.val gv) rfl (fun A B H I J d0 => rP (y_nilp (OwnP.k0 o13 H) (eI d0))) (gT (Ty.val (ptrAt gv 0)) rfl (fun A B H I J d0 => rP (ownp_field Try.fld95_0 Try.inf3 dE (OwnP.k0 o13 H) (eI d0))) (gS rfl (fun A B H I J d0 => rP (ownp_load Try.underlying3 rfl (OwnP.k0 o13 H) (eI d0) rfl)) (gS rfl (fun A B H I J d0 => rP (y_call _ Try.func74 rfl rfl my1 (rounds_fn (n) _ _ (eI d0) oM))) (gS rfl (fun A B H I J d0 => rP (y_move (eI d0))) (gT (Ty.lst Ty.int (roundsL n)) rfl (fun A B H I J d0 => rP (y_ext2_0 (eI d0))) (gT (Ty.int (0 : Int)) rfl (fun A B H I J d0 d1 => rP (y_ext2_1 (eI d0))) (gB 0 (gB 0 (gE ok4 fun a6 s6 ok6 D4 => ?_))))))))))); have o19 := OwnP.k0 o13 D4.stp; have o20 := ChnU.k0 o14 D4.stp; have o21 := Own.k0 o15 D4.stp; refine tn (wp_seq ?_)
  refine gI a6 s6 ok6 (gM (D4.m 8 rfl) (gR (Pr.own 20 22 1 1 (List.map Ty.ints [(roundsL n)])) rfl (by intro A B H I J d0; exact rP ((y_lit1 (k := 20) Try.underlying24 Try.inf22 rfl (one_sl) (eI d0)).mono (fun _ _ h => cvo (by simp) (by first | (simp; done) | rfl) h))) (gE2 ok6 fun a7 s7 ok7 D5 => ?_))); have o22 := OwnP.k0 o19 D5.stp; have o23 := ChnU.k0 o20 D5.stp; have o24 := Own.k0 o21 D5.stp
  obtain ⟨x1, hx1⟩ : ∃ x, a7.eval (.tmp 25) = x := ⟨_, rfl⟩
  have q13 : At (Ty.val x1) s7 a7 (.tmp 25) := hx1
  have o25 := al2 (R := (Pr.own 20 22 1 1 (List.map Ty.ints [(roundsL n)]))) hx1 (D5.done 1 dE)
  refine tL ok7 (Yld.toL (y_as q13)) fun a8 s8 hs3 ok8 r3 sm3 => ?_
  have q14 := kq hs3 sm3 0 (D5.k (D4.k q6)); have o26 := OwnP.kl o22 hs3
  have q15 : At (Ty.val x1) s8 a8 (.tmp 6) := r3
  clear r3; refine wpList_nil (tn (wp_seq (wp_seq ?_)))
  refine gI a8 s8 ok8 (gM q14 (gT (Ty.val gv) rfl (fun A B H I J d0 => rP (y_nilp (OwnP.k0 o26 H) (eI d0))) (gT (Ty.val (ptrAt gv 0)) rfl (fun A B H I J d0 => rP (ownp_field Try.fld95_0 Try.inf3 dE (OwnP.k0 o26 H) (eI d0))) (gS rfl (fun A B H I J d0 => rP (ownp_load Try.underlying3 rfl (OwnP.k0 o26 H) (eI d0) rfl)) (gT (Ty.int (((n : Nat) : Int) - (1 : Int))) rfl (fun A B H I J d0 => rP (y_sub (eI d0) rfl wX)) (gB 0 (gE ok8 fun a9 s9 ok9 D6 => ?_))))))); have o30 := OwnP.k0 o26 D6.stp; have o31 := ChnU.k0 (ChnU.kl o23 hs3) D6.stp; have o32 := Own.k0 (Own.kl o24 hs3) D6.stp; have o33 := Own.k0 (Own.kl o25 hs3) D6.stp; refine tn (wp_block ?_)
  refine loop (fun n1 a10 w1 => ∃ (t2 : GW) (k : Nat) (L : (List (List Int))) (x6_0 : Value), t2.w = w1 ∧ FromL [41, 42, 43] σ t2 ∧ Ok 67 [] a10 ∧ At (Ty.int (((k : Nat) : Int) - 1)) t2 a10 (.tmp 7) ∧ At (Ty.val x6_0) t2 a10 (.tmp 6) ∧ At (Ty.val gv) t2 a10 (.tmp 0) ∧ Own t2 20 22 1 x6_0 (List.length L) (List.map Ty.ints L) ∧ OwnP t2 41 gv [(Ty.nat n), (Ty.val gs), (Ty.val cs)] ∧ ChnU t2 42 22 108 cs n c us ∧ Own t2 43 22 1 gs (List.length gens) (List.map Ty.ints gens) ∧ (k ≤ n) ∧ (EltK n gens c k L) ∧ n1 = k + 1) ((n) + 1) ?_ ?_
  ·
   exact ⟨s9, n, [roundsL n], x1, rfl, ((((F4.step0 D4.stp).step0 D5.stp).sl hs3).step0 D6.stp), ok9, (cJ (D6.m 5 rfl)), (D6.k q15), (D6.k q14), (cvo (by (first | rfl | simp)) (by (first | rfl | simp)) o33), o30, o31, o32, by omega, EltK.start hw, rfl⟩
  ·
   rintro n2 a11 w2 ⟨t3, k, L, x6_0, rfl, F10, ok10, q19, q20, q21, o34, o35, o36, o37, hk, hE, rfl⟩
   have hLl := hE.few hC hk hsz
   refine wp_seq (wp_seq ?_)
   refine gI a11 t3 ok10 (gM q19 (gS rfl (fun A B H I J d0 => rP (y_geq (eI d0) rfl)) (gE ok10 fun a12 s10 ok11 D7 => ?_))); have F11 := F10.step0 D7.stp; have q23 := D7.k q20; have o38 := Own.k0 o34 D7.stp; have o39 := OwnP.k0 o35 D7.stp; have o40 := ChnU.k0 o36 D7.stp; have o41 := Own.k0 o37 D7.stp; refine tn ?_
   refine cond_p (p := ((0 : Int) ≤ (((k : Nat) : Int) - 1))) (D7.m 1 rfl) (fun c2 => ?_) (fun c2 => ?_)
   ·
    have q26 : At (Ty.nat (k - 1)) s10 a12 (.tmp 7) := cvt (T := (Ty.int (((k : Nat) : Int) - 1))) (U := (Ty.nat (k - 1))) (by exact congrArg Ty.int oM) (D7.k q19)
    refine wp_skip (tn (wp_seq (wp_block (wp_seq ?_))))
    refine gI a12 s10 ok11 (gC (Ty.val (Value.slice none 0 0)) (gE ok11 fun a13 s11 ok12 D8 => ?_)); have o42 := Own.k0 o38 D8.stp; have o43 := OwnP.k0 o39 D8.stp; have o44 := ChnU.k0 o40 D8.stp; have o45 := Own.k0 o41 D8.stp; refine tn (wp_seq (wp_seq ?_))
    obtain ⟨ms1, rs1, hN1⟩ := o44
    obtain ⟨t4, e1, h1, o46, o47, o48, o49⟩ := ChnN.focus hN1 (i := (k - 1)) oM dE 53 54 55
    rw [← e1]
    have F13 := (F11.step0 D8.stp).step h1 dE
    have q31 : At (Ty.nat (k - 1)) t4 a13 (.tmp 7) := Ty.up _ (h1.le dE) (D8.k q26)
    have q32 : At (Ty.val x6_0) t4 a13 (.tmp 6) := Ty.up _ (h1.le dE) (D8.k q23)
    have q33 : At (Ty.val gv) t4 a13 (.tmp 0) := Ty.up _ (h1.le dE) (D8.k (D7.k q21))
    have q34 : At (Ty.val (Value.slice none 0 0)) t4 a13 (.tmp 8) := Ty.up _ (h1.le dE) (D8.m 0 rfl)
    have o50 := Own.keepL o42 (h1.toL (L := [42]) (by simp)) dE dE; have o51 := OwnP.keepL o43 (h1.toL (L := [42]) (by simp)) dE dE; have o52 := Own.keepL o45 (h1.toL (L := [42]) (by simp)) dE dE
    obtain ⟨mq1, hmq1⟩ : ∃ x_, ms1 (k - 1) = x_ := ⟨_, rfl⟩
    obtain ⟨rq1, hrq1⟩ : ∃ x_, rs1 (k - 1) = x_ := ⟨_, rfl⟩
    rw [hmq1, hrq1] at o46
    rw [hmq1] at o47
    rw [hrq1] at o48
    have hmk1 : ∃ b, mq1 = Value.map (some b) := by obtain ⟨b_, _, _, e_, _⟩ := o47; exact ⟨b_, e_⟩
    have o53 : Own t4 42 108 1 cs n (List.map Ty.val us) := ChnR.row o49
    have hul1 := ChnR.ul o49
    refine gI a13 t4 ok12 (gM q33 (gT (Ty.val gv) rfl (fun A B H I J d0 => rP (y_nilp (OwnP.k0 o51 H) (eI d0))) (gT (Ty.val (ptrAt gv 2)) rfl (fun A B H I J d0 => rP (ownp_field Try.fld95_2 Try.inf93 dE (OwnP.k0 o51 H) (eI d0))) (gS rfl (fun A B H I J d0 => rP (ownp_load Try.underlying93 rfl (OwnP.k0 o51 H) (eI d0) rfl)) (gM q31 (gT (Ty.val (cellPtr cs (k - 1))) rfl (fun A B H I J d0 d1 => rP (own_index1 (i := (((k - 1) : Nat) : Int)) Try.underlying93 Try.inf108 (Own.k0 o53 H) (eI d0) (eI d1) oM oM)) (gS rfl (fun A B H I J d0 => rP (own_load Try.underlying108 rfl (Own.k0 o53 H) (eI d0) (lst_get Ty.val us undef (k - 1) oM))) (gT (Ty.val (us.getD (k - 1) undef)) rfl (fun A B H I J d0 => rP (y_nilp (OwnP.k0 o46 H) (eI d0))) (gT (Ty.val (ptrAt (us.getD (k - 1) undef) 1)) rfl (fun A B H I J d0 => rP (ownp_field Try.fld111_1 Try.inf109 dE (OwnP.k0 o46 H) (eI d0))) (gS rfl (fun A B H I J d0 => rP (ownp_load Try.underlying109 rfl (OwnP.k0 o46 H) (eI d0) rfl)) (gR (Pr.rngm Ty.ints 54 mq1 (c (k - 1)).orb ([] : List Int)) rfl (by intro A B H I J d0; exact rP (y_rangem Try.underlying109 (OwnM.k0 o47 H) (eI d0))) (gE ok12 fun a14 s12 ok13 D9 => ?_)))))))))))); have o54 := Own.k0 o50 D9.stp; have o55 := OwnP.k0 o51 D9.stp; have o56 := Own.k0 o52 D9.stp; have o57 := Own.k0 o53 D9.stp; have o58 := OwnP.k0 o46 D9.stp; have o59 := OwnM.k0 o47 D9.stp; have o60 := Own.k0 o48 D9.stp; have o61 := ChnR.k0 o49 D9.stp
    obtain ⟨x2, hx2⟩ : ∃ x, a14.eval (.tmp 45) = x := ⟨_, rfl⟩
    have q39 : At (Ty.val x2) s12 a14 (.tmp 45) := hx2
    have o62 : RngM Ty.ints s12 54 x2 mq1 (c (k - 1)).orb ([] : List Int) := al2 (R := (Pr.rngm Ty.ints 54 mq1 (c (k - 1)).orb ([] : List Int))) hx2 (D9.done 10)
    refine tn (wp_block ?_)
    have o63 : Own s12 21 22 1 (Value.slice none 0 0) 0 (List.map Ty.ints ([] : List (List Int))) := Own.nil _ _ _ _
    refine loop (fun n3 a15 w3 => ∃ (t5 : GW) (ks : (List Int)) (N : (List (List Int))) (x8_1 : Value), t5.w = w3 ∧ FromL [41, 42, 43] σ t5 ∧ Ok 67 [] a15 ∧ At (Ty.val x8_1) t5 a15 (.tmp 8) ∧ At (Ty.nat (k - 1)) t5 a15 (.tmp 7) ∧ At (Ty.val x6_0) t5 a15 (.tmp 6) ∧ At (Ty.val gv) t5 a15 (.tmp 0) ∧ At (Ty.val x2) t5 a15 (.tmp 45) ∧ Own t5 21 22 1 x8_1 (List.length N) (List.map Ty.ints N) ∧ RngM Ty.ints t5 54 x2 mq1 (c (k - 1)).orb ks ∧ Own t5 20 22 1 x6_0 (List.length L) (List.map Ty.ints L) ∧ OwnP t5 41 gv [(Ty.nat n), (Ty.val gs), (Ty.val cs)] ∧ Own t5 43 22 1 gs (List.length gens) (List.map Ty.ints gens) ∧ ChnR t5 42 22 108 cs n c us ms1 rs1 (k - 1) ∧ OwnP t5 53 (us.getD (k - 1) undef) [(Ty.nat (k - 1)), (Ty.val mq1), (Ty.val rq1)] ∧ Own t5 55 22 1 rq1 (List.length (c (k - 1)).gens) (List.map Ty.ints (c (k - 1)).gens) ∧ (EltI n c (k - 1) L.length ks N) ∧ n3 = n - ks.length) (n - (([] : List Int)).length) ?_ ?_
    ·
     exact ⟨s12, ([] : List Int), ([] : List (List Int)), (Value.slice none 0 0), rfl, (F13.step0 D9.stp), ok13, (D9.k q34), (D9.k q31), (D9.k q32), (D9.k q33), q39, (cvo (by (first | rfl | simp)) (by (first | rfl | simp)) o63), (show RngM Ty.ints _ 54 _ mq1 (c (k - 1)).orb (([] : List Int)) from o62), o54, o55, o56, o61, o58, o60, EltI.start, rfl⟩
    ·
     rintro n4 a16 w4 ⟨t6, ks, N, x8_1, rfl, F15, ok14, q40, q41, q42, q43, q44, o64, o65, o66, o67, o68, o69, o70, o71, hI, rfl⟩
     have hfw := hI.few hw oM
     have hNl := hI.len
     have hNb : ks.length * L.length ≤ 12 * 5040 := Nat.mul_le_mul oM hLl
     refine wp_seq ?_
     refine gI a16 t6 ok14 (gE2 ok14 fun a17 s13 ok15 D10 => ?_); have q49 := D10.k q44; have o72 := Own.k0 o64 D10.stp; have o73 := RngM.k0 o65 D10.stp; have o74 := Own.k0 o66 D10.stp; have o75 := OwnP.k0 o67 D10.stp; have o76 := Own.k0 o68 D10.stp; have o77 := ChnR.k0 o69 D10.stp; have o78 := OwnP.k0 o70 D10.stp; have o79 := Own.k0 o71 D10.stp
     refine tL (R := (fun v τ => ∃ (b_ : Bool) (k_ : List Int), NxP (c (k - 1)).orb ks b_ k_ ∧ (Ty.nxm b_).has τ v ∧ RngM Ty.ints τ 54 x2 mq1 (c (k - 1)).orb k_)) ok15 (YldM.toL (m_nextm dE o73 q49)) fun a18 s14 hs4 ok16 r4 sm4 => ?_
     have o85 := ChnR.keepL o77 hs4 dE dE
     obtain ⟨nb46, nk46, hNx46, hq46_, ho46_⟩ := r4
     have q55 : At (Ty.nxm nb46) s14 a18 (.tmp 46) := hq46_
     have o80 : RngM Ty.ints s14 54 x2 mq1 (c (k - 1)).orb nk46 := ho46_
     refine tL (R := (fun v τ => Pr.has (Ty.pr (Ty.bool nb46)) τ v)) ok16 (Yld.toL (y_ext_m0 q55)) fun a19 s15 hs5 ok17 r5 sm5 => ?_
     have F18 := ((F15.step0 D10.stp).sl hs4).sl hs5; have q56 := kq hs5 sm5 8 (kq hs4 sm4 8 (D10.k q40)); have q57 := kq hs5 sm5 7 (kq hs4 sm4 7 (D10.k q41)); have q58 := kq hs5 sm5 6 (kq hs4 sm4 6 (D10.k q42)); have q59 := kq hs5 sm5 0 (kq hs4 sm4 0 (D10.k q43)); have q60 := kq hs5 sm5 45 (kq hs4 sm4 45 q49); have o88 := Own.kl (Own.kl o72 hs4) hs5; have o89 := Own.kl (Own.kl o74 hs4) hs5; have o90 := OwnP.kl (OwnP.kl o75 hs4) hs5; have o91 := Own.kl (Own.kl o76 hs4) hs5; have o92 := ChnR.keepL o85 hs5 dE dE; have o93 := OwnP.kl (OwnP.kl o78 hs4) hs5; have o94 := Own.kl (Own.kl o79 hs4) hs5; have o95 := RngM.keepL o80 hs5 dE dE
     have q61 : At (Ty.bool nb46) s15 a19 (.tmp 47) := r5
     clear r5; refine wpList_nil (tn (wp_seq ?_))
     refine cond_t q61 (fun c3 => ?_) (fun c3 => ?_)
     ·
      refine wp_skip (tn (wp_block (wp_seq ?_)))
      obtain ⟨p1, t1, hk_46, hn_p1, hs_p1⟩ := hNx46.yes c3
      subst hk_46
      refine gI a19 s15 ok17 (gT (Ty.tup2 (Ty.int p1) (Ty.lst Ty.int (((c (k - 1)).orb p1).getD []))) rfl (fun A B H I J => rP (y_entry (z := []) (RngM.k0 o95 H) (kp (J 45 rfl) H q60))) (gT (Ty.lst Ty.int (((c (k - 1)).orb p1).getD [])) rfl (fun A B H I J d0 => rP (y_ext2_1 (eI d0))) (gB 0 (gE ok17 fun a20 s16 ok18 D11 => ?_)))); have q64 := D11.k q58; have o96 := Own.k0 o88 D11.stp; have o97 := Own.k0 o89 D11.stp; have o98 := OwnP.k0 o90 D11.stp; have o99 := Own.k0 o91 D11.stp; have o100 := ChnR.k0 o92 D11.stp; have o101 := OwnP.k0 o93 D11.stp; have o102 := Own.k0 o94 D11.stp; have o103 := RngM.k0 o95 D11.stp
      have q68 : At (Ty.lst Ty.int t1) s16 a20 (.tmp 10) := (cvt (by (rw [hs_p1]; rfl)) (D11.m 2 rfl))
      refine tn (wp_seq ?_)
      refine gI a20 s16 ok18 (gM q64 (gT (Ty.nat (List.length L)) rfl (fun A B H I J d0 => rP (own_len Try.underlying24 (al (R := (Pr.own 20 22 1 (List.length L) (List.map Ty.ints L))) (eI d0) (Own.k0 o97 H)))) (gT (Ty.int (0 : Int)) rfl (fun A B H I J => rP (y_move rfl)) (gE ok18 fun a21 s17 ok19 D12 => ?_)))); have o104 := Own.k0 o96 D12.stp; have o105 := Own.k0 o97 D12.stp; have o106 := OwnP.k0 o98 D12.stp; have o107 := Own.k0 o99 D12.stp; have o108 := ChnR.k0 o100 D12.stp; have o109 := OwnP.k0 o101 D12.stp; have o110 := Own.k0 o102 D12.stp; have o111 := RngM.k0 o103 D12.stp
      have q75 : At (Ty.val x6_0) s17 a21 (.tmp 50) := D12.done 0
      refine tn (wp_block ?_)
      refine loop (fun n5 a22 w5 => ∃ (t7 : GW) (j : Nat) (x8_2 : Value), t7.w = w5 ∧ FromL [41, 42, 43] σ t7 ∧ Ok 67 [] a22 ∧ At (Ty.nat j) t7 a22 (.tmp 52) ∧ At (Ty.val x8_2) t7 a22 (.tmp 8) ∧ At (Ty.nat (k - 1)) t7 a22 (.tmp 7) ∧ At (Ty.val x6_0) t7 a22 (.tmp 6) ∧ At (Ty.val gv) t7 a22 (.tmp 0) ∧ At (Ty.val x2) t7 a22 (.tmp 45) ∧ At (Ty.lst Ty.int t1) t7 a22 (.tmp 10) ∧ At (Ty.val x6_0) t7 a22 (.tmp 50) ∧ At (Ty.nat (List.length L)) t7 a22 (.tmp 51) ∧ Own t7 21 22 1 x8_2 (List.length (N ++ (L.take j).map (byL t1))) (List.map Ty.ints (N ++ (L.take j).map (byL t1))) ∧ Own t7 20 22 1 x6_0 (List.length L) (List.map Ty.ints L) ∧ OwnP t7 41 gv [(Ty.nat n), (Ty.val gs), (Ty.val cs)] ∧ Own t7 43 22 1 gs (List.length gens) (List.map Ty.ints gens) ∧ ChnR t7 42 22 108 cs n c us ms1 rs1 (k - 1) ∧ OwnP t7 53 (us.getD (k - 1) undef) [(Ty.nat (k - 1)), (Ty.val mq1), (Ty.val rq1)] ∧ Own t7 55 22 1 rq1 (List.length (c (k - 1)).gens) (List.map Ty.ints (c (k - 1)).gens) ∧ RngM Ty.ints t7 54 x2 mq1 (c (k - 1)).orb (ks ++ [p1]) ∧ (j ≤ L.length) ∧ n5 = L.length - j) (L.length - (0)) ?_ ?_
      ·
       exact ⟨s17, 0, x8_1, rfl, ((F18.step0 D11.stp).step0 D12.stp), ok19, (cJ (D12.m 2 rfl)), (D12.k (D11.k q56)), (D12.k (D11.k q57)), (D12.k q64), (D12.k (D11.k q59)), (D12.k (D11.k q60)), (D12.k q68), q75, (D12.m 1 rfl), (cvo (by (first | rfl | simp)) (by (first | rfl | simp)) o104), o105, o106, o107, o108, o109, o110, o111, by omega, rfl⟩
      ·
       rintro n6 a23 w6 ⟨t8, j, x8_2, rfl, F21, ok20, q78, q79, q80, q81, q82, q83, q84, q85, q86, o112, o113, o114, o115, o116, o117, o118, o119, hj, rfl⟩
       have htl := List.length_take_le j L
       have htm : ((L.take j).map (byL t1)).length = j := by (rw [List.length_map, List.length_take]; omega)
       have hnj : (N ++ (L.take j).map (byL t1)).length = N.length + j := (by rw [List.length_append, htm])
       refine wp_seq ?_
       refine gI a23 t8 ok20 (gS rfl (fun A B H I J => rP (y_lss (kp (J 52 rfl) H q78) (kp (J 51 rfl) H q86))) (gE ok20 fun a24 s18 ok21 D13 => ?_)); have F22 := F21.step0 D13.stp; have q87 := D13.k q78; have q88 := D13.k q79; have q89 := D13.k q80; have q90 := D13.k q81; have q91 := D13.k q82; have q92 := D13.k q83; have q94 := D13.k q85; have o120 := Own.k0 o112 D13.stp; have o121 := Own.k0 o113 D13.stp; have o122 := OwnP.k0 o114 D13.stp; have o123 := Own.k0 o115 D13.stp; have o124 := ChnR.k0 o116 D13.stp; have o125 := OwnP.k0 o117 D13.stp; have o126 := Own.k0 o118 D13.stp; have o127 := RngM.k0 o119 D13.stp; refine tn (wp_seq ?_)
       refine cond_p (p := (((j : Nat) : Int) < (((List.length L) : Nat) : Int))) (D13.m 0 rfl) (fun c4 => ?_) (fun c4 => ?_)
       ·
        obtain ⟨hx1, hx2, hx3⟩ := (hE.mem _).1 (mem_atD [] (show j < L.length by omega)); have htr := ((hw.lev (k - 1) oM).pt p1 t1 hs_p1).1; have hxl := hx1.len; have htl2 := htr.len; have hbb := hx1.bds htl2
        refine wp_skip (tn (wp_seq (wp_block (wp_seq ?_))))
        refine gI a24 s18 ok21 (gT (Ty.val (cellPtr x6_0 j)) rfl (fun A B H I J => rP (own_index1 (i := ((j : Nat) : Int)) Try.underlying24 Try.inf22 (Own.k0 o121 H) (kp (J 50 rfl) H q94) (kp (J 52 rfl) H q87) oM oM)) (gS rfl (fun A B H I J d0 => rP (own_load Try.underlying22 rfl (Own.k0 o121 H) (eI d0) (lst_get Ty.ints L [] j oM))) (gB 0 (gE ok21 fun a25 s19 ok22 D14 => ?_)))); have q98 := D14.k q88; have q103 := D14.k (D13.k q84); have o128 := Own.k0 o120 D14.stp; have o129 := Own.k0 o121 D14.stp; have o130 := OwnP.k0 o122 D14.stp; have o131 := Own.k0 o123 D14.stp; have o132 := ChnR.k0 o124 D14.stp; have o133 := OwnP.k0 o125 D14.stp; have o134 := Own.k0 o126 D14.stp; have o135 := RngM.k0 o127 D14.stp; refine tn ?_
        refine gI a25 s19 ok22 (gM q98 (gM q103 (gM (D14.m 2 rfl) (gS rfl (fun A B H I J d0 d1 => rP (y_call _ Try.func64 rfl rfl my2 (product_fn (t1) ((L.getD j [])) _ _ _ (eI d0) (eI d1) (by first | assumption | omega) (by first | assumption | omega) (by first | assumption | omega)))) (gT (Ty.sl 1 1 [(Ty.lst Ty.int (byL (t1) ((L.getD j []))))]) rfl (fun A B H I J d0 => rP (y_build1o Try.underlying24 Try.inf22 rfl (one_sl) (eI d0))) (gE2 ok22 fun a26 s20 ok23 D15 => ?_)))))); have o136 := Own.k0 o128 D15.stp; have o137 := Own.k0 o129 D15.stp; have o138 := OwnP.k0 o130 D15.stp; have o139 := Own.k0 o131 D15.stp; have o140 := ChnR.k0 o132 D15.stp; have o141 := OwnP.k0 o133 D15.stp; have o142 := Own.k0 o134 D15.stp; have o143 := RngM.k0 o135 D15.stp
        have q116 : At (Ty.val x8_2) s20 a26 (.tmp 56) := D15.done 0 dE
        have q117 := D15.m 4 rfl
        have b1 := sl_le q117
        refine tL ok23 (YldM.toL (m_append Try.underlying24 Try.inf22 dE rfl dE (al (R := (Pr.own 21 22 1 (List.length (N ++ (L.take j).map (byL t1))) (List.map Ty.ints (N ++ (L.take j).map (byL t1))))) q116 o136) q117 (by intro U hU; simp at hU; subst hU; exact one_sl) oM oM)) fun a27 s21 hs6 ok24 r6 sm6 => ?_
        have q119 := kq hs6 sm6 8 (D15.k q98); have o148 := ChnR.keepL o140 hs6 dE dE
        have o151 := RngM.keepL o143 hs6 dE dE
        obtain ⟨x3, hx3⟩ : ∃ x, a27.eval (.tmp 61) = x := ⟨_, rfl⟩
        have q127 : At (Ty.val x3) s21 a27 (.tmp 61) := hx3
        have o144 := al2 (R := (Pr.own 21 22 1 (List.length ((N ++ (L.take j).map (byL t1)) ++ [(byL (t1) ((L.getD j [])))])) (List.map Ty.ints ((N ++ (L.take j).map (byL t1)) ++ [(byL (t1) ((L.getD j [])))])))) hx3 (cvo (by first | (simp; done) | (simp; omega)) (by first | (rw [List.map_append]; rfl) | simp) r6)
        clear r6
        refine tL ok24 (Yld.toL (y_as q127)) fun a28 s22 hs7 ok25 r7 sm7 => ?_
        have o155 := ChnR.keepL o148 hs7 dE dE
        have o158 := RngM.keepL o151 hs7 dE dE
        have q136 : At (Ty.val x3) s22 a28 (.tmp 8) := r7
        clear r7; refine wpList_nil (bn (tn ?_))
        refine gI a28 s22 ok25 (gT (Ty.nat (j + 1)) rfl (fun A B H I J => rP ((y_add (kp (J 52 rfl) H (kq hs7 sm7 52 (kq hs6 sm6 52 (D15.k (D14.k q87))))) rfl wX).mono (fun τ _ h => cN (σ := τ) h))) (gS rfl (fun A B H I J d0 => rP (y_move (eI d0))) (gE ok25 fun a29 s23 ok26 D16 => ?_))); have o160 := Own.k0 (Own.kl (Own.kl o137 hs6) hs7) D16.stp; have o161 := OwnP.k0 (OwnP.kl (OwnP.kl o138 hs6) hs7) D16.stp; have o162 := Own.k0 (Own.kl (Own.kl o139 hs6) hs7) D16.stp; have o163 := ChnR.k0 o155 D16.stp; have o164 := OwnP.k0 (OwnP.kl (OwnP.kl o141 hs6) hs7) D16.stp; have o165 := Own.k0 (Own.kl (Own.kl o142 hs6) hs7) D16.stp; have o166 := RngM.k0 o158 D16.stp; have o167 := Own.k0 (Own.kl o144 hs7) D16.stp
        exact tn ⟨L.length - ((j+1)), by omega, s23, (j+1), x3, rfl, (((((F22.step0 D14.stp).step0 D15.stp).sl hs6).sl hs7).step0 D16.stp), ok26, (cJ (D16.m 1 rfl)), (D16.k q136), (D16.k (kq hs7 sm7 7 (kq hs6 sm6 7 (D15.k (D14.k q89))))), (D16.k (kq hs7 sm7 6 (kq hs6 sm6 6 (D15.k (D14.k q90))))), (D16.k (kq hs7 sm7 0 (kq hs6 sm6 0 (D15.k (D14.k q91))))), (D16.k (kq hs7 sm7 45 (kq hs6 sm6 45 (D15.k (D14.k q92))))), (D16.k (kq hs7 sm7 10 (kq hs6 sm6 10 (D15.k q103)))), (D16.k (kq hs7 sm7 50 (kq hs6 sm6 50 (D15.k (D14.k q94))))), (D16.k (kq hs7 sm7 51 (kq hs6 sm6 51 (D15.k (D14.k (D13.k q86)))))), (cvo (by (first | (simp; done) | (rw [take_snoc L [] j oM]; simp; done) | (simp only [List.length_append, List.length_map, List.length_take, List.length_singleton]; omega))) (by (first | (simp; done) | (rw [take_snoc L [] j oM]; simp; done) | (simp only [List.length_append, List.length_map, List.length_take, List.length_singleton]; omega))) o167), o160, o161, o162, o163, o164, o165, o166, by omega, rfl⟩
       ·
        have ej : j = L.length := oM; have hI2 := hI.step hw oM (by rw [Nat.sub_add_cancel oM]; exact hE) rfl hn_p1 hs_p1; have hfw2 := hI2.few hw oM; have hkl : (ks ++ [p1]).length = ks.length + 1 := by simp
        refine wp_exit (tx (tx (bx (bn ?_))))
        exact tn ⟨n - ((ks ++ [p1])).length, by omega, s18, (ks ++ [p1]), (N ++ L.map (byL t1)), x8_2, rfl, F22, ok21, q88, q89, q90, q91, q92, (cvo (by (rw [ej, List.take_length])) (by (rw [ej, List.take_length])) o120), (show RngM Ty.ints _ 54 _ mq1 (c (k - 1)).orb ((ks ++ [p1])) from o127), o121, o122, o123, o124, o125, o126, hI2, rfl⟩
     ·
      obtain ⟨hk46, hall46⟩ := hNx46.no c3; have hE2 := hI.done hC hG oM (by rw [Nat.sub_add_cancel oM]; exact hE) rfl hall46
      refine wp_exit (tx (tx (bx (tn ?_))))
      have o168 : OwnM Ty.ints kI s15 54 mq1 (c (k - 1)).orb := RngM.map o95
      obtain ⟨t9, e2, h2, o169⟩ := ChnR.unfocus o92 o93 o168 o94 (by first | rfl | simp) (by first | rfl | simp) dE dE dE dE dE
      rw [← e2]
      have F28 := F18.stepL h2 dE
      have q146 : At (Ty.val x8_1) t9 a19 (.tmp 8) := Ty.up _ (h2.le dE) q56
      have q147 : At (Ty.nat (k - 1)) t9 a19 (.tmp 7) := Ty.up _ (h2.le dE) q57
      have q148 : At (Ty.val x6_0) t9 a19 (.tmp 6) := Ty.up _ (h2.le dE) q58
      have q149 : At (Ty.val gv) t9 a19 (.tmp 0) := Ty.up _ (h2.le dE) q59
      have q150 : At (Ty.val x2) t9 a19 (.tmp 45) := Ty.up _ (h2.le dE) q60
      have q151 : At (Ty.bool nb46) t9 a19 (.tmp 47) := Ty.up _ (h2.le dE) q61
      have o170 := Own.keepL o88 h2 dE dE; have o171 := Own.keepL o89 h2 dE dE; have o172 := OwnP.keepL o90 h2 dE dE; have o173 := Own.keepL o91 h2 dE dE
      have o174 : ChnU t9 42 22 108 cs n c us := cvch (by exact upd_back rfl) o169
      refine gI a19 t9 ok17 (gM q146 (gB 0 (gE ok17 fun a30 s24 ok27 D17 => ?_))); have o175 := Own.k0 o170 D17.stp; have o176 := Own.k0 o171 D17.stp; have o177 := OwnP.k0 o172 D17.stp; have o178 := Own.k0 o173 D17.stp; have o179 := ChnU.k0 o174 D17.stp
      have q154 : At (Ty.val x8_1) s24 a30 (.tmp 6) := D17.done 1
      obtain ⟨t10, e3, h3, o180⟩ := Own.retag (k' := 20) o175 dE dE
      rw [← e3]
      have F30 := (F28.step0 D17.stp).step h3 dE; have o181 := OwnP.keepL o177 (h3.toL (L := [21]) (by simp)) dE dE; have o182 := Own.keepL o178 (h3.toL (L := [21]) (by simp)) dE dE; have o183 := ChnU.keepL o179 (h3.toL (L := [21]) (by simp)) dE dE; have q155 := Ty.up (Ty.nat (k - 1)) (h3.le dE) (D17.k q147); have q156 := Ty.up (Ty.val gv) (h3.le dE) (D17.k q149); have q157 := Ty.up (Ty.val x8_1) (h3.le dE) q154; refine bn (tn ?_)
      refine gI a30 t10 ok27 (gM q155 (gT (Ty.int ((((k - 1) : Nat) : Int) - (1 : Int))) rfl (fun A B H I J d0 => rP (y_sub (eI d0) rfl wX)) (gB 0 (gE ok27 fun a31 s25 ok28 D18 => ?_)))); have o184 := OwnP.k0 o181 D18.stp; have o185 := Own.k0 o182 D18.stp; have o186 := ChnU.k0 o183 D18.stp; have o187 := Own.k0 o180 D18.stp
      exact tn ⟨((k - 1)) + 1, by omega, s25, (k - 1), N, x8_1, rfl, (F30.step0 D18.stp), ok28, (cJ (D18.m 2 rfl)), (D18.k q157), (D18.k q156), (cvo (by (simp)) (by (simp)) o187), o184, o186, o185, by omega, hE2, rfl⟩
   ·
    have ek : k = 0 := oM
    refine wp_exit (tx (tx (bx (tn (wp_seq ?_)))))
    refine gI a12 s10 ok11 (gM q23 (gE2 ok11 fun a32 s26 ok29 D19 => ?_)); have o188 := Own.k0 o38 D19.stp; have o189 := OwnP.k0 o39 D19.stp; have o190 := ChnU.k0 o40 D19.stp; have o191 := Own.k0 o41 D19.stp
    have q162 : At (Ty.val x6_0) s26 a32 (.tmp 64) := D19.done 0 dE
    refine tL (R := (fun _ τ => ∃ S_ : List (List Int), S_.Perm L ∧ S_.Pairwise (fun x_ y_ => leL x_ y_ = true) ∧ Own τ 20 22 1 x6_0 (List.length L) (List.map Ty.ints S_))) ok29 (m_sortP (D := L) dE o188 q162 oM Try.func98 rfl rfl sort_all sort_nil cmpG) fun a33 s27 hs8 ok30 r8 sm8 => ?_
    obtain ⟨SL, hSP, hSS, o192⟩ := r8
    have o193 : Own s27 20 22 1 x6_0 (List.length SL) (List.map Ty.ints SL) := cvo (by rw [hSP.length_eq]) rfl o192
    refine wpList_nil (tn (wp_seq ?_))
    refine gI a33 s27 ok30 (gM (kq hs8 sm8 6 (D19.k q23)) (gB 0 (gC (Ty.int (0 : Int)) (gE ok30 fun a34 s28 ok31 D20 => ?_)))); have o197 := OwnP.k0 (OwnP.kl o189 hs8) D20.stp; have o198 := ChnU.k0 (ChnU.kl o190 hs8) D20.stp; have o199 := Own.k0 (Own.kl o191 hs8) D20.stp; have o200 := Own.k0 o193 D20.stp
    have q165 : At (Ty.val x6_0) s28 a34 (.tmp 2) := D20.done 1
    refine tn (wp_ret ?_)
    obtain ⟨t11, e4, h4, q167⟩ := Own.seal o200 dE
    rw [← e4]
    have F35 := (((F11.step0 D19.stp).sl hs8).step0 D20.stp).step h4 dE; have o201 := OwnP.keepL o197 (h4.toL (L := [20]) (by simp)) dE dE; have o202 := ChnU.keepL o198 (h4.toL (L := [20]) (by simp)) dE dE; have o203 := Own.keepL o199 (h4.toL (L := [20]) (by simp)) dE dE
    have q168 : At (Ty.lst Ty.ints SL) t11 a34 (.tmp 2) := by have e : a34.eval (.tmp 2) = x6_0 := q165; show Ty.has _ _ _; rw [e]; exact q167
    have q169 := Ty.up (Ty.int (0 : Int)) (h4.le dE) (D20.m 2 rfl)
    exact retL2 rfl ok31 F35 ⟨SL, (hasT2 (cvt (by (rfl)) q168) (cvi (by (unfold eltE; rw [if_pos hsz])) q169)), o201, o202, o203, (by exact ⟨fun _ => EltK.sorted hC hG (ek ▸ hE) hSP hSS, fun h_ => absurd hsz h_⟩)⟩


set_option maxHeartbeats 4000000 in
set_option maxRecDepth 100000 in
theorem rRank_fn (r : List Int) (σ : GW)  (v0 : Value) (hv0 : Ty.has (Ty.lst Ty.int r) σ v0)  (hr : IsRow r) :
    FnC Try.prog 21 #[v0] σ (Ty.nat (rankL r)) := by
 have hln := hr.le
 refine fn_intro0 Try.func21 rfl Try.ntmps21 (Nat.le_of_ble_eq_true rfl) (fun s0 a0 hle F0 ok0 hargs => ?_)
 have p0 := pA hle (hargs 0 _ rfl) hv0
 have b1 := sl_le p0
 clear hargs; refine wp_seq ?_
 refine gI a0 s0 ok0 (gC (Ty.int (0 : Int)) (gE ok0 fun a1 s1 ok1 D1 => ?_)); refine tn (wp_seq ?_)
 refine gI a1 s1 ok1 (gC (Ty.int (0 : Int)) (gE ok1 fun a2 s2 ok2 D2 => ?_)); refine tn (wp_seq (wp_seq ?_))
 refine gI a2 s2 ok2 (gC (Ty.int (0 : Int)) (gE ok2 fun a3 s3 ok3 D3 => ?_)); refine tn (wp_block ?_)
 refine loop (fun n1 a4 w1 => ∃ (t1 : GW) (i : Nat) (q : Nat), t1.w = w1 ∧ FromL [] s0 t1 ∧ Ok 44 [] a4 ∧ At (Ty.nat i) t1 a4 (.tmp 4) ∧ At (Ty.nat q) t1 a4 (.tmp 3) ∧ At (Ty.lst Ty.int r) t1 a4 (.tmp 0) ∧ (i ≤ r.length) ∧ (q + rankL (r.drop i) = rankL r) ∧ n1 = r.length - i) (r.length - (0)) ?_ ?_
 ·
  exact ⟨s3, 0, 0, rfl, (((F0.step0 D1.stp).step0 D2.stp).step0 D3.stp), ok3, (cJ (D3.m 0 rfl)), (cJ (D3.k (D2.m 0 rfl))), (D3.k (D2.k (D1.k p0))), by omega, by simp, rfl⟩
 ·
  rintro n2 a5 w2 ⟨t2, i, q, rfl, F4, ok4, q7, q8, q9, hi, hq, rfl⟩
  have hrl := rank_le12 hln
  refine wp_seq (wp_seq ?_)
  refine gI a5 t2 ok4 (gM q7 (gM q9 (gS rfl (fun A B H I J d0 => rP (y_len Try.underlying22 (eI d0))) (gS rfl (fun A B H I J d0 d1 => rP (y_lss (eI d0) (eI d1))) (gE ok4 fun a6 s4 ok5 D4 => ?_))))); have F5 := F4.step0 D4.stp; have q10 := D4.k q7; have q11 := D4.k q8; have q12 := D4.k q9; refine tn ?_
  refine cond_p (p := (((i : Nat) : Int) < (((List.length r) : Nat) : Int))) (D4.m 3 rfl) (fun c1 => ?_) (fun c1 => ?_)
  ·
   have hmb := rank_mul hln oM hq; have hbd := hr.at (i := i) oM
   refine wp_skip (tn (wp_seq (wp_block (wp_seq ?_))))
   refine gI a6 s4 ok5 (gM q12 (gM q10 (gT (Ty.ref [(Ty.int (r.getD i 0))]) rfl (fun A B H I J d0 d1 => rP (y_index1 Try.underlying22 Try.inf3 (eI d0) (eI d1) oM (lst_get Ty.int r 0 i oM))) (gS rfl (fun A B H I J d0 => rP (y_load Try.underlying3 rfl (eI d0) rfl)) (gB 0 (gE ok5 fun a7 s5 ok6 D5 => ?_)))))); refine tn (wp_seq (wp_seq ?_))
   refine gI a7 s5 ok6 (gC (Ty.int (0 : Int)) (gE ok6 fun a8 s6 ok7 D6 => ?_)); refine tn (wp_block ?_)
   refine loop (fun n3 a9 w3 => ∃ (t3 : GW) (j : Nat), t3.w = w3 ∧ FromL [] s0 t3 ∧ Ok 44 [] a9 ∧ At (Ty.nat j) t3 a9 (.tmp 6) ∧ At (Ty.int (r.getD i 0 - ((lessN (r.getD i 0) (r.take j) : Nat) : Int))) t3 a9 (.tmp 5) ∧ At (Ty.nat i) t3 a9 (.tmp 4) ∧ At (Ty.nat q) t3 a9 (.tmp 3) ∧ At (Ty.lst Ty.int r) t3 a9 (.tmp 0) ∧ (j ≤ i) ∧ n3 = i - j) (i - (0)) ?_ ?_
   ·
    exact ⟨s6, 0, rfl, ((F5.step0 D5.stp).step0 D6.stp), ok7, (cJ (D6.m 0 rfl)), (cvi (by (simp [lessN])) (D6.k (D5.m 4 rfl))), (D6.k (D5.k q10)), (D6.k (D5.k q11)), (D6.k (D5.k q12)), by omega, rfl⟩
   ·
    rintro n4 a10 w4 ⟨t4, j, rfl, F8, ok8, q23, q24, q25, q26, q27, hj, rfl⟩
    have hll := lessN_le (r.getD i 0) (r.take j)
    have htl := List.length_take_le j r
    refine wp_seq (wp_seq ?_)
    refine gI a10 t4 ok8 (gM q23 (gM q25 (gS rfl (fun A B H I J d0 d1 => rP (y_lss (eI d0) (eI d1))) (gE ok8 fun a11 s7 ok9 D7 => ?_)))); have F9 := F8.step0 D7.stp; have q28 := D7.k q23; have q29 := D7.k q24; have q30 := D7.k q25; have q31 := D7.k q26; have q32 := D7.k q27; refine tn ?_
    refine cond_p (p := (((j : Nat) : Int) < ((i : Nat) : Int))) (D7.m 2 rfl) (fun c2 => ?_) (fun c2 => ?_)
    ·
     refine wp_skip (tn (wp_seq (wp_block (wp_seq ?_))))
     refine gI a11 s7 ok9 (gM q32 (gM q28 (gT (Ty.ref [(Ty.int (r.getD j 0))]) rfl (fun A B H I J d0 d1 => rP (y_index1 Try.underlying22 Try.inf3 (eI d0) (eI d1) oM (lst_get Ty.int r 0 j oM))) (gS rfl (fun A B H I J d0 => rP (y_load Try.underlying3 rfl (eI d0) rfl)) (gM q32 (gM q30 (gT (Ty.ref [(Ty.int (r.getD i 0))]) rfl (fun A B H I J d0 d1 => rP (y_index1 Try.underlying22 Try.inf3 (eI d0) (eI d1) oM (lst_get Ty.int r 0 i oM))) (gS rfl (fun A B H I J d0 => rP (y_load Try.underlying3 rfl (eI d0) rfl)) (gS rfl (fun A B H I J d0 d1 => rP (y_lss (eI d0) (eI d1))) (gE ok9 fun a12 s8 ok10 D8 => ?_)))))))))); have F10 := F9.step0 D8.stp; have q34 := D8.k q28; have q35 := D8.k q29; have q36 := D8.k q30; have q37 := D8.k q31; have q38 := D8.k q32; refine tn ?_
     refine cond_p (p := ((r.getD j 0) < (r.getD i 0))) (D8.m 8 rfl) (fun c3 => ?_) (fun c3 => ?_)
     ·
      refine gI a12 s8 ok10 (gM q35 (gT (Ty.int ((r.getD i 0 - ((lessN (r.getD i 0) (r.take j) : Nat) : Int)) - (1 : Int))) rfl (fun A B H I J d0 => rP (y_sub (eI d0) rfl wX)) (gB 0 (gE ok10 fun a13 s9 ok11 D9 => ?_)))); refine bn (tn ?_)
      refine gI a13 s9 ok11 (gM (D9.k q34) (gT (Ty.nat (j + 1)) rfl (fun A B H I J d0 => rP ((y_add (eI d0) rfl wX).mono (fun τ _ h => cN (σ := τ) h))) (gB 0 (gE ok11 fun a14 s10 ok12 D10 => ?_))))
      exact tn ⟨i - ((j+1)), by omega, s10, (j+1), rfl, ((F10.step0 D9.stp).step0 D10.stp), ok12, (cJ (D10.m 2 rfl)), (cvi (by (rw [lessN_snoc _ _ _ oM, if_pos (by assumption)]; omega)) (D10.k (D9.m 2 rfl))), (D10.k (D9.k q36)), (D10.k (D9.k q37)), (D10.k (D9.k q38)), by omega, rfl⟩
     ·
      refine wp_skip (bn (tn ?_))
      refine gI a12 s8 ok10 (gM q34 (gT (Ty.nat (j + 1)) rfl (fun A B H I J d0 => rP ((y_add (eI d0) rfl wX).mono (fun τ _ h => cN (σ := τ) h))) (gB 0 (gE ok10 fun a15 s11 ok13 D11 => ?_))))
      exact tn ⟨i - ((j+1)), by omega, s11, (j+1), rfl, (F10.step0 D11.stp), ok13, (cJ (D11.m 2 rfl)), (cvi (by (rw [lessN_snoc _ _ _ oM, if_neg (by assumption)]; rfl)) (D11.k q35)), (D11.k q36), (D11.k q37), (D11.k q38), by omega, rfl⟩
    ·
     have q55 : At (Ty.nat (lessN (r.getD i 0) (r.drop (i + 1)))) s7 a11 (.tmp 5) := cvt (T := (Ty.int (r.getD i 0 - ((lessN (r.getD i 0) (r.take j) : Nat) : Int)))) (U := (Ty.nat (lessN (r.getD i 0) (r.drop (i + 1))))) (by have e : j = i := oM; rw [e]; exact congrArg Ty.int (less_after hr oM)) q29
     refine wp_exit (tx (tx (bx (tn ?_))))
     refine gI a11 s7 ok9 (gM q31 (gM q55 (gM q32 (gS rfl (fun A B H I J d0 => rP (y_len Try.underlying22 (eI d0))) (gT (Ty.nat ((List.length r) - 1)) rfl (fun A B H I J d0 => rP ((y_sub (eI d0) rfl wX).mono (fun τ _ h => cvi (σ := τ) oM h))) (gM q30 (gT (Ty.nat (((List.length r) - 1) - i)) rfl (fun A B H I J d0 d1 => rP ((y_sub (eI d0) (eI d1) wX).mono (fun τ _ h => cvi (σ := τ) oM h))) (gS rfl (fun A B H I J d0 => rP (y_call _ Try.func58 rfl rfl my1 (rFact_fn (((((List.length r) - 1) - i))) ((((List.length r) - 1) - i)) _ _ (cvi (σ := B) oM (ef d0 rfl)) oM oM))) (gT (Ty.nat ((lessN (r.getD i 0) (r.drop (i + 1))) * (fct ((((List.length r) - 1) - i))))) rfl (fun A B H I J d0 d1 => rP ((y_mul (eI d0) (eI d1) wX).mono (fun τ _ h => cN (σ := τ) h))) (gT (Ty.nat (q + ((lessN (r.getD i 0) (r.drop (i + 1))) * (fct ((((List.length r) - 1) - i)))))) rfl (fun A B H I J d0 d1 => rP ((y_add (eI d0) (eI d1) wX).mono (fun τ _ h => cN (σ := τ) h))) (gB 0 (gE ok9 fun a16 s12 ok14 D12 => ?_)))))))))))); refine bn (tn ?_)
     refine gI a16 s12 ok14 (gM (D12.k q30) (gT (Ty.nat (i + 1)) rfl (fun A B H I J d0 => rP ((y_add (eI d0) rfl wX).mono (fun τ _ h => cN (σ := τ) h))) (gB 0 (gE ok14 fun a17 s13 ok15 D13 => ?_))))
     exact tn ⟨r.length - ((i+1)), by omega, s13, (i+1), (q + lessN (r.getD i 0) (r.drop (i + 1)) * fct (r.length - 1 - i)), rfl, ((F9.step0 D12.stp).step0 D13.stp), ok15, (cJ (D13.m 2 rfl)), (cJ (D13.k (D12.m 10 rfl))), (D13.k (D12.k q32)), by omega, rank_step' oM hq, rfl⟩
  ·
   refine wp_exit (tx (tx (bx (tn (wp_seq ?_)))))
   refine gI a6 s4 ok5 (gM q11 (gB 0 (gE ok5 fun a18 s14 ok16 D14 => ?_))); refine tn (wp_ret ?_)
   exact retL1 rfl ok16 (F5.step0 D14.stp) (cvi (by (obtain rfl : i = r.length := oM; exact congrArg _ (by rw [List.drop_length] at hq; exact hq))) (D14.m 1 rfl))


end Go.Proofs.Ytkjifbgofckfeaa
