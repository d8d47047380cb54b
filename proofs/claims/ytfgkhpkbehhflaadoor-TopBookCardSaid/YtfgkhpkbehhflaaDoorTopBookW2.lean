/- The functions that the law TopBook reaches, each by its contract. Part 2. -/
import Derived.Test.YtfgkhpkbehhflaaDoorTopBookW1
namespace Go.Proofs.YtfgkhpkbehhflaaDoor
open Go.KL
theorem Tryd.inf57 : Info Tryd.prog 57 (.pointer none) 1 8 := by unfold Info; kernel_rfl
theorem Tryd.inf59 : Info Tryd.prog 59 (.agg #[.pointer none, .slice none 0 0]) 2 32 := by unfold Info; kernel_rfl
theorem Tryd.fld59_0 : fieldOf Tryd.prog 59 0 = some (57, 0) := by kernel_rfl
set_option maxHeartbeats 4000000 in
set_option maxRecDepth 100000 in
theorem copyCheck_fn (b buf : Value) (nb : Bool) (σ : GW) (hlow : Low [40] σ) (v0 : Value) (hv0 : Ty.has (Ty.val b) σ v0) (ho_b : OwnPT 59 σ 40 b [(Ty.val (bAddr nb b)), (Ty.val buf)])  :
    FnL Tryd.prog 35 #[v0] σ [40] (fun v τ => True ∧ (OwnPT 59 τ 40 b [(Ty.val (bAddr false b)), (Ty.val buf)])) := by
 refine fn_introL hlow Tryd.func35 rfl Tryd.ntmps35 (Nat.le_of_ble_eq_true rfl) (fun a0 F0 ok0 hargs => ?_)
 have p0 := pB (hargs 0 _ rfl) hv0
 clear hargs; refine wp_seq ?_
 refine gI a0 σ ok0 (gM p0 (gT (Ty.val b) rfl (fun A B E G H d0 => rP (y_nilp (OwnPT.toP (OwnPT.k0 ho_b E)) (eI d0))) (gT (Ty.val (ptrAt b 0)) rfl (fun A B E G H d0 => rP (ownp_field Tryd.fld59_0 Tryd.inf57 dE (OwnPT.toP (OwnPT.k0 ho_b E)) (eI d0))) (gS rfl (fun A B E G H d0 => rP (ownp_load Tryd.underlying57 rfl (OwnPT.toP (OwnPT.k0 ho_b E)) (eI d0) rfl)) (gT (Ty.bool nb) rfl (fun A B E G H d0 => rP (y_bnil Tryd.underlying57 Tryd.inf59 (OwnPT.k0 ho_b E) (eI d0) rfl)) (gE ok0 fun a1 s1 ok1 D1 => ?_)))))); have F1 := F0.step0 D1.stp; have q1 := D1.k p0; have o1 := OwnPT.k0 ho_b D1.stp; refine tn ?_
 refine cond_t (D1.m 4 rfl) (fun c1 => ?_) (fun c1 => ?_)
 ·
  refine gI a1 s1 ok1 (gM q1 (gM q1 (gT (Ty.val b) rfl (fun A B E G H d0 => rP (y_tounsafe Tryd.underlying57 Tryd.underlying89 Tryd.inf59 dE (OwnPT.k0 o1 E) (Nat.le_of_ble_eq_true rfl) (eI d0))) (gT (Ty.val b) rfl (fun A B E G H d0 => rP (y_extern (R := (Ty.val b)) #[b] (by simp only [List.map_toArray, List.map_cons, List.map_nil, (show A.eval (.tmp 9) = _ from (eI d0))]) (by rw [run_callFunc_extern Tryd.func47 (by kernel_rfl) (by kernel_rfl) (by kernel_rfl) (e := Extern.AbiNoEscape.same) (by kernel_rfl), Lib.run_noEscape]; rfl) rfl)) (gT (Ty.val b) rfl (fun A B E G H d0 => rP (y_fromunsafe Tryd.underlying89 Tryd.underlying57 Tryd.inf59 (OwnPT.k0 o1 E) (eI d0) (by kernel_rfl))) (gT (Ty.val b) rfl (fun A B E G H d0 d1 d2 d3 d4 d5 => rP (y_nilp (OwnPT.toP (OwnPT.k0 o1 E)) (eI d0))) (gT (Ty.val (ptrAt b 0)) rfl (fun A B E G H d0 d1 d2 d3 d4 d5 => rP (ownp_field Tryd.fld59_0 Tryd.inf57 dE (OwnPT.toP (OwnPT.k0 o1 E)) (eI d0))) (gE2 ok1 fun a2 s2 ok2 D2 => ?_)))))))); have o2 := OwnPT.k0 o1 D2.stp
  refine tailL0 (L := [40]) (R := (fun _ τ => OwnPT 59 τ 40 b ([(Ty.val (bAddr nb b)), (Ty.val buf)].set 0 (Ty.val b)))) rfl rfl (YldM.toL (m_storept Tryd.inf57 dE o2 (D2.m 6 rfl) (Nat.le_of_ble_eq_true rfl) (D2.m 4 rfl) (one_val (OwnPT.one o2)))) (fun v1 s3 hs1 r1 => ?_)
  have o3 : OwnPT 59 s3 40 b [(Ty.val b), (Ty.val buf)] := r1
  clear r1; refine wpList_nil ?_
  exact nL0 rfl ok2 ((F1.step0 D2.stp).sl hs1) ⟨trivial, (ownpt_cell 0 (Ty.val (bAddr false b)) o3 rfl (fun _ _ h => (cvt (by (first | rfl | omega | (simp_all; done) | (simp_all; omega))) h)))⟩
 ·
  refine wp_seq ?_
  refine gI a1 s1 ok1 (gM q1 (gT (Ty.val b) rfl (fun A B E G H d0 => rP (y_nilp (OwnPT.toP (OwnPT.k0 o1 E)) (eI d0))) (gT (Ty.val (ptrAt b 0)) rfl (fun A B E G H d0 => rP (ownp_field Tryd.fld59_0 Tryd.inf57 dE (OwnPT.toP (OwnPT.k0 o1 E)) (eI d0))) (gS rfl (fun A B E G H d0 => rP (ownp_load Tryd.underlying57 rfl (OwnPT.toP (OwnPT.k0 o1 E)) (eI d0) rfl)) (gM q1 (gT (Ty.bool false) rfl (fun A B E G H d0 d1 => rP (y_bself Tryd.underlying57 Tryd.inf59 (OwnPT.k0 o1 E) (bAddr_f (by assumption) (eI d0)) (eI d1))) (gE ok1 fun a3 s4 ok3 D3 => ?_))))))); have o4 := OwnPT.k0 o1 D3.stp; refine tn ?_
  refine cond_t (D3.m 5 rfl) (fun c2 => (by cases c2)) (fun _ => ?_)
  refine wp_skip ?_
  exact nL0 rfl ok3 (F1.step0 D3.stp) ⟨trivial, (ownpt_cell 0 (Ty.val (bAddr false b)) o4 rfl (fun _ _ h => (cvt (by (rw [c1])) h)))⟩

theorem Tryd.inf5 : Info Tryd.prog 5 (.int .u8 0) 1 1 := by unfold Info; kernel_rfl
theorem Tryd.inf22 : Info Tryd.prog 22 (.slice none 0 0) 1 24 := by unfold Info; kernel_rfl
theorem Tryd.fld59_1 : fieldOf Tryd.prog 59 1 = some (22, 1) := by kernel_rfl
set_option maxHeartbeats 4000000 in
set_option maxRecDepth 100000 in
theorem writeString_fn (b buf : Value) (nb : Bool) (l : List UInt8) (s : ByteArray) (σ : GW) (hlow : Low [40, 41] σ) (v0 v1 : Value) (hv0 : Ty.has (Ty.val b) σ v0) (hv1 : Ty.has (Ty.val (Value.string s)) σ v1) (ho_b : OwnPT 59 σ 40 b [(Ty.val (bAddr nb b)), (Ty.val buf)]) (ho_buf : Own σ 41 5 1 buf (List.length l) (List.map Ty.byte l)) (hl : l.length ≤ 1000000000) (E : s.size ≤ 1000000000) :
    FnL Tryd.prog 21 #[v0, v1] σ [40, 41] (fun v τ => ∃ (bz : Value), (Ty.has (Ty.tup2 (Ty.nat (ByteArray.size s)) (Ty.val Value.nilIface)) τ v) ∧ (OwnPT 59 τ 40 b [(Ty.val (bAddr false b)), (Ty.val bz)]) ∧ (Own τ 41 5 1 bz (List.length (l ++ (ByteArray.data s).toList)) (List.map Ty.byte (l ++ (ByteArray.data s).toList)))) := by
 refine fn_introL hlow Tryd.func21 rfl Tryd.ntmps21 (Nat.le_of_ble_eq_true rfl) (fun a0 F0 ok0 hargs => ?_)
 have p0 := pB (hargs 0 _ rfl) hv0
 have p1 := pB (hargs 1 _ rfl) hv1
 clear hargs; refine wp_seq ?_
 refine gI a0 σ ok0 (gC (Ty.int (0 : Int)) (gC (Ty.val Value.nilIface) (gE ok0 fun a1 s1 ok1 D1 => ?_))); have q1 := D1.k p0; have o1 := OwnPT.k0 ho_b D1.stp; have o2 := Own.k0 ho_buf D1.stp; refine tn (wp_seq ?_)
 refine gI a1 s1 ok1 (gM q1 (gE2 ok1 fun a2 s2 ok2 D2 => ?_)); have o3 := OwnPT.k0 o1 D2.stp; have o4 := Own.k0 o2 D2.stp
 refine tL ok2 (y_callL (L := [40]) [(40, 40)] [(40, 40)] #[a2.eval (.tmp 6)] rfl dE Tryd.func35 rfl rfl my1 (copyCheck_fn (b) (buf) (nb) _ lW _ (uL (D2.m 0 rfl)) (OwnPT.ren o3 (GW.ren_lend _ _ dE rfl)) )) fun a3 s3 hs1 ok3 r1 sm1 => ?_
 have q6 := kq hs1 sm1 0 (D2.k q1); have q7 := kq hs1 sm1 1 (D2.k (D1.k p1))
 obtain ⟨t1, ⟨hT1, o5⟩, B1⟩ := r1
 have o6 : OwnPT 59 s3 40 b [(Ty.val (bAddr false b)), (Ty.val buf)] := OwnPT.ren o5 (B1.ren dE rfl)
 refine wpList_nil (tn (wp_seq ?_))
 refine gI a3 s3 ok3 (gM q6 (gM q6 (gT (Ty.val b) rfl (fun A B E G H d0 => rP (y_nilp (OwnPT.toP (OwnPT.k0 o6 E)) (eI d0))) (gT (Ty.val (ptrAt b 1)) rfl (fun A B E G H d0 => rP (ownp_field Tryd.fld59_1 Tryd.inf22 dE (OwnPT.toP (OwnPT.k0 o6 E)) (eI d0))) (gS rfl (fun A B E G H d0 => rP (ownp_load Tryd.underlying22 rfl (OwnPT.toP (OwnPT.k0 o6 E)) (eI d0) rfl)) (gM q7 (gE2 ok3 fun a4 s4 ok4 D3 => ?_))))))); have o8 := Own.k0 (Own.kl o4 hs1) D3.stp; have o9 := OwnPT.k0 o6 D3.stp
 refine tL (R := (fun v τ => Own τ 41 5 1 v ((List.length l) + ByteArray.size s) ((List.map Ty.byte l) ++ (ByteArray.data s).toList.map Ty.byte))) ok4 (YldM.toL (m_appendS Tryd.underlying22 Tryd.underlying9 Tryd.inf5 dE (al (R := (Pr.own 41 5 1 (List.length l) (List.map Ty.byte l))) (D3.m 4 rfl) o8) (D3.m 5 rfl) oM)) fun a5 s5 hs2 ok5 r2 sm2 => ?_
 have o11 := OwnPT.keepL o9 hs2 dE dE
 obtain ⟨x1, hx1⟩ : ∃ x, a5.eval (.tmp 14) = x := ⟨_, rfl⟩
 have q15 : At (Ty.val x1) s5 a5 (.tmp 14) := hx1
 have o10 := al2 (R := (Pr.own 41 5 1 (List.length (l ++ (ByteArray.data s).toList)) (List.map Ty.byte (l ++ (ByteArray.data s).toList)))) hx1 (cvo (by first | (simp; done) | (simp; omega)) (by rw [List.map_append]) r2)
 clear r2
 refine tL (R := (fun v τ => Pr.has (Ty.pr (Ty.val b)) τ v)) ok5 (Yld.toL (y_nilp (OwnPT.toP o11) (kq hs2 sm2 8 (D3.m 0 rfl)))) fun a6 s6 hs3 ok6 r3 sm3 => ?_
 have o12 := OwnPT.keepL o11 hs3 dE dE
 have q18 : At (Ty.val b) s6 a6 (.tmp 15) := r3
 clear r3
 refine tL (R := (fun v τ => Pr.has (Ty.pr (Ty.val (ptrAt b 1))) τ v)) ok6 (Yld.toL (ownp_field Tryd.fld59_1 Tryd.inf22 dE (OwnPT.toP o12) q18)) fun a7 s7 hs4 ok7 r4 sm4 => ?_
 have o14 := OwnPT.keepL o12 hs4 dE dE; have o15 := Own.kl (Own.kl o10 hs3) hs4
 have q21 : At (Ty.val (ptrAt b 1)) s7 a7 (.tmp 16) := r4
 clear r4
 refine tailL0 (L := [40]) (R := (fun _ τ => OwnPT 59 τ 40 b ([(Ty.val (bAddr false b)), (Ty.val buf)].set 1 (Ty.val x1)))) rfl rfl (YldM.toL (m_storept Tryd.inf22 dE o14 q21 (Nat.le_of_ble_eq_true rfl) (kq hs4 sm4 14 (kq hs3 sm3 14 q15)) (one_val (Own.one o15)))) (fun v1 s8 hs5 r5 => ?_)
 have q22 := kpL hs5 dE rfl (kq hs4 sm4 1 (kq hs3 sm3 1 (kq hs2 sm2 1 (D3.k q7))))
 have o16 : OwnPT 59 s8 40 b [(Ty.val (bAddr false b)), (Ty.val x1)] := r5
 clear r5; refine wpList_nil (tn (wp_seq ?_))
 refine gI a7 s8 ok7 (gM q22 (gT (Ty.nat (ByteArray.size s)) rfl (fun A B E G H d0 => rP (y_len_str Tryd.underlying9 (eI d0))) (gB 0 (gC (Ty.val Value.nilIface) (gE ok7 fun a8 s9 ok8 D4 => ?_))))); have o18 := Own.k0 (Own.kl o15 hs5) D4.stp; have o19 := OwnPT.k0 o16 D4.stp; refine tn (wp_ret ?_)
 exact retL2 rfl ok8 (((((((((F0.step0 D1.stp).step0 D2.stp).sl hs1).step0 D3.stp).sl hs2).sl hs3).sl hs4).sl hs5).step0 D4.stp) ⟨x1, (hasT2 (D4.m 2 rfl) (D4.m 3 rfl)), o19, o18⟩


set_option maxHeartbeats 4000000 in
set_option maxRecDepth 100000 in
theorem bString_fn (b buf : Value) (nb : Bool) (l : List UInt8) (σ : GW) (hlow : Low [40, 41] σ) (v0 : Value) (hv0 : Ty.has (Ty.val b) σ v0) (ho_b : OwnPT 59 σ 40 b [(Ty.val (bAddr nb b)), (Ty.val buf)]) (ho_buf : Own σ 41 5 1 buf (List.length l) (List.map Ty.byte l))  :
    FnL Tryd.prog 22 #[v0] σ [40, 41] (fun v τ => (Ty.has (Ty.val (Value.string (bsL l))) τ v)) := by
 refine fn_introL hlow Tryd.func22 rfl Tryd.ntmps22 (Nat.le_of_ble_eq_true rfl) (fun a0 F0 ok0 hargs => ?_)
 have p0 := pB (hargs 0 _ rfl) hv0
 clear hargs; refine wp_seq ?_
 refine gI a0 σ ok0 (gC (Ty.val (Value.string (ByteArray.mk #[]))) (gE ok0 fun a1 s1 ok1 D1 => ?_)); have q1 := D1.k p0; have o1 := OwnPT.k0 ho_b D1.stp; have o2 := Own.k0 ho_buf D1.stp; refine tn (wp_seq ?_)
 refine gI a1 s1 ok1 (gM q1 (gT (Ty.val b) rfl (fun A B E G H d0 => rP (y_nilp (OwnPT.toP (OwnPT.k0 o1 E)) (eI d0))) (gT (Ty.val (ptrAt b 1)) rfl (fun A B E G H d0 => rP (ownp_field Tryd.fld59_1 Tryd.inf22 dE (OwnPT.toP (OwnPT.k0 o1 E)) (eI d0))) (gS rfl (fun A B E G H d0 => rP (ownp_load Tryd.underlying22 rfl (OwnPT.toP (OwnPT.k0 o1 E)) (eI d0) rfl)) (gT (Ty.dptr buf (List.length l)) rfl (fun A B E G H d0 => rP (y_sdata Tryd.underlying81 (Own.k0 o2 E) (eI d0))) (gM q1 (gT (Ty.val b) rfl (fun A B E G H d0 => rP (y_nilp (OwnPT.toP (OwnPT.k0 o1 E)) (eI d0))) (gT (Ty.val (ptrAt b 1)) rfl (fun A B E G H d0 => rP (ownp_field Tryd.fld59_1 Tryd.inf22 dE (OwnPT.toP (OwnPT.k0 o1 E)) (eI d0))) (gS rfl (fun A B E G H d0 => rP (ownp_load Tryd.underlying22 rfl (OwnPT.toP (OwnPT.k0 o1 E)) (eI d0) rfl)) (gT (Ty.nat (List.length l)) rfl (fun A B E G H d0 => rP (own_len Tryd.underlying22 (al (R := (Pr.own 41 5 1 (List.length l) (List.map Ty.byte l))) (eI d0) (Own.k0 o2 E)))) (gE2 ok1 fun a2 s2 ok2 D2 => ?_))))))))))); have o3 := OwnPT.k0 o1 D2.stp; have o4 := Own.k0 o2 D2.stp
 refine tL (R := (fun v τ => (Ty.val (Value.string (bsL l))).has τ v)) ok2 (YldM.toL (m_sstr dE Tryd.underlying81 (by kernel_rfl) o4 (D2.m 4 rfl) (D2.m 9 rfl))) fun a3 s3 hs1 ok3 r1 sm1 => ?_
 have o5 := OwnPT.keepL o3 hs1 dE dE
 have q4 : At (Ty.val (Value.string (bsL l))) s3 a3 (.tmp 13) := r1
 clear r1
 refine tL ok3 (Yld.toL (y_as q4)) fun a4 s4 hs2 ok4 r2 sm2 => ?_
 have o6 := OwnPT.keepL o5 hs2 dE dE
 have q5 : At (Ty.val (Value.string (bsL l))) s4 a4 (.tmp 2) := r2
 clear r2; refine wpList_nil (tn (wp_ret ?_))
 exact retL1 rfl ok4 ((((F0.step0 D1.stp).step0 D2.stp).sl hs1).sl hs2) q5


theorem itoaN_fn (n : Nat) (σ : GW) (v0 : Value) (hv0 : Ty.has (Ty.nat n) σ v0) (hn : n < 9223372036854775808) (hglb0 : Gbk Tryd.prog GA GB σ) : FnC Tryd.prog 42 #[v0] σ (Ty.str (dcB n)) := by
  obtain rfl : v0 = _ := hv0
  exact fnc_grow (itoaU n oM σ.w hglb0.tab.is) (fun τ => rfl)


theorem joinS_fn (xs : List ByteArray) (σ : GW) (v0 v1 : Value) (hv0 : Ty.has (Ty.lst Ty.str xs) σ v0) (hv1 : Ty.has (Ty.val (Value.string (ByteArray.mk #[44]))) σ v1) (hN : xs.length ≤ 1000000) (hl : (joinR xs).length ≤ 1000000000) : FnC Tryd.prog 109 #[v0, v1] σ (Ty.str (jnB xs)) := by
  obtain rfl : v1 = _ := hv1
  exact join_of hv0 (fun a c => Go.Proofs.Any.strings_Join_none joinL joinX a c _ σ.w) (fun b o c h1 h2 h3 => Go.Proofs.Any.strings_Join joinL joinX b o c xs _ σ.w h1 h2 oM h3 (Nat.le_trans hl dE))


set_option maxHeartbeats 4000000 in
set_option maxRecDepth 100000 in
theorem bCheck_fn (s : ByteArray) (σ : GW)  (v0 : Value) (hv0 : Ty.has (Ty.val (Value.string s)) σ v0)  (E : s.size ≤ 17592186044416) :
    FnC Tryd.prog 28 #[v0] σ (Ty.val (Value.int .u32 (((chk (ByteArray.data s).toList) : Nat) : Int))) := by
 refine fn_intro0 Tryd.func28 rfl Tryd.ntmps28 (Nat.le_of_ble_eq_true rfl) (fun s0 a0 hle F0 ok0 hargs => ?_)
 have p0 := pA hle (hargs 0 _ rfl) hv0
 clear hargs; refine wp_seq ?_
 refine gI a0 s0 ok0 (gC (Ty.val (Value.int .u32 (0 : Int))) (gE ok0 fun a1 s1 ok1 D1 => ?_)); refine tn (wp_seq ?_)
 refine gI a1 s1 ok1 (gC (Ty.val (Value.int .u32 (5381 : Int))) (gE ok1 fun a2 s2 ok2 D2 => ?_)); have q2 := D2.k (D1.k p0); refine tn (wp_seq (wp_seq ?_))
 refine gI a2 s2 ok2 (gM q2 (gT (Ty.nat (ByteArray.size s)) rfl (fun A B E G H d0 => rP (y_len_str Tryd.underlying9 (eI d0))) (gT (Ty.int (0 : Int)) rfl (fun A B E G H => rP (y_move rfl)) (gE ok2 fun a3 s3 ok3 D3 => ?_)))); refine tn (wp_block ?_)
 refine loop (fun n1 a4 w1 => ∃ (t1 : GW) (k : Nat), t1.w = w1 ∧ FromL [] s0 t1 ∧ Ok 19 [] a4 ∧ At (Ty.nat k) t1 a4 (.tmp 7) ∧ At (Ty.val (Value.int .u32 (((ckT (ByteArray.data s).toList k) : Nat) : Int))) t1 a4 (.tmp 3) ∧ At (Ty.val (Value.string s)) t1 a4 (.tmp 0) ∧ At (Ty.nat (ByteArray.size s)) t1 a4 (.tmp 6) ∧ (k ≤ s.size) ∧ n1 = s.size - k) (s.size - (0)) ?_ ?_
 ·
  exact ⟨s3, 0, rfl, (((F0.step0 D1.stp).step0 D2.stp).step0 D3.stp), ok3, (cJ (D3.m 2 rfl)), (cvi (by (rfl)) (D3.k (D2.m 0 rfl))), (D3.k q2), (D3.m 1 rfl), by omega, rfl⟩
 ·
  rintro n2 a5 w2 ⟨t2, k, rfl, F4, ok4, q8, q9, q10, q11, hk, rfl⟩
  have hck := ckT_lt (l := s.data.toList) (i := k)
  have hb256 := UInt8.toNat_lt (s.get! k)
  have hc33 : ckT (ByteArray.data s).toList k * 33 % 4294967296 < 4294967296 := Nat.mod_lt _ dE
  refine wp_seq ?_
  refine gI a5 t2 ok4 (gS rfl (fun A B E G H => rP (y_lss (kp (H 7 rfl) E q8) (kp (H 6 rfl) E q11))) (gE ok4 fun a6 s4 ok5 D4 => ?_)); have F5 := F4.step0 D4.stp; have q12 := D4.k q8; have q13 := D4.k q9; refine tn (wp_seq ?_)
  refine cond_p (p := (((k : Nat) : Int) < (((ByteArray.size s) : Nat) : Int))) (D4.m 0 rfl) (fun c1 => ?_) (fun c1 => ?_)
  ·
   refine wp_skip (tn (wp_seq (wp_block (wp_seq ?_))))
   refine gI a6 s4 ok5 (gM q12 (gB 0 (gE ok5 fun a7 s5 ok6 D5 => ?_))); have q19 := D5.k (D4.k q10); refine tn ?_
   refine gI a7 s5 ok6 (gM (D5.k q13) (gT (Ty.val (Value.int .u32 ((((ckT (ByteArray.data s).toList k) * 33 % 4294967296 : Nat)) : Int))) rfl (fun A B E G H d0 => rP (y_mul33 (h := (ckT (ByteArray.data s).toList k)) (eI d0) rfl)) (gM q19 (gM (D5.m 1 rfl) (gT (Ty.val (Value.int .u8 (((s.get! k).toNat : Nat) : Int))) rfl (fun A B E G H d0 d1 => rP (y_sindex Tryd.underlying9 (eI d0) (eI d1) oM oM)) (gT (Ty.val (Value.int .u32 (((s.get! k).toNat : Nat) : Int))) rfl (fun A B E G H d0 => rP (y_conv Tryd.underlying72 (eI d0) (by exact wrap_u32 oM oM) (by rw [Tryd.underlying5]; rfl))) (gT (Ty.val (Value.int .u32 (((((ckT (ByteArray.data s).toList k) * 33 % 4294967296) ^^^ (s.get! k).toNat : Nat)) : Int))) rfl (fun A B E G H d0 d1 => rP (y_xor32 (m := ((ckT (ByteArray.data s).toList k) * 33 % 4294967296)) (n := (s.get! k).toNat) (eI d0) (eI d1) oM oM)) (gB 0 (gE ok6 fun a8 s6 ok7 D6 => ?_))))))))); refine bn (tn ?_)
   refine gI a8 s6 ok7 (gT (Ty.int (((k : Nat) : Int) + (1 : Int))) rfl (fun A B E G H => rP (y_add (kp (H 7 rfl) E (D6.k (D5.k q12))) rfl wX)) (gS rfl (fun A B E G H d0 => rP (y_move (eI d0))) (gE ok7 fun a9 s7 ok8 D7 => ?_)))
   exact tn ⟨s.size - ((k+1)), by omega, s7, (k+1), rfl, (((F5.step0 D5.stp).step0 D6.stp).step0 D7.stp), ok8, (cJ (D7.m 1 rfl)), (cvi (by (rw [ckT_step oM])) (D7.k (D6.m 7 rfl))), (D7.k (D6.k q19)), (D7.k (D6.k (D5.k (D4.k q11)))), by omega, rfl⟩
  ·
   refine wp_exit (tx (tx (bx (tn (wp_seq ?_)))))
   refine gI a6 s4 ok5 (gM q13 (gB 0 (gE ok5 fun a10 s8 ok9 D8 => ?_))); refine tn (wp_ret ?_)
   exact retL1 rfl ok9 (F5.step0 D8.stp) (cvi (by (rw [ckT_end oM])) (D8.m 1 rfl))


theorem fmtN_fn (n : Nat) (b : Int) (σ : GW) (v0 v1 : Value) (hv0 : Ty.has (Ty.val (.int .u64 ((n : Nat) : Int))) σ v0) (hv1 : Ty.has (Ty.int b) σ v1) (hb : b = 10) (hn : n < 18446744073709551616) (hglb0 : Gbk Tryd.prog GA GB σ) : FnC Tryd.prog 27 #[v0, v1] σ (Ty.str (dcB n)) := by
  subst hb
  obtain rfl : v0 = _ := hv0
  obtain rfl : v1 = _ := hv1
  exact fnc_grow (fmtU n hn σ.w hglb0.tab.is) (fun τ => rfl)


set_option maxHeartbeats 4000000 in
set_option maxRecDepth 100000 in
theorem pLine_fn (dy : Int) (ch : Int) (mt : ByteArray) (rg : List ByteArray) (σ : GW)  (v0 : Value) (hv0 : Ty.has (Ty.agg [(Ty.int dy), (Ty.int ch), (Ty.val (Value.string mt)), (Ty.lst Ty.str rg)]) σ v0)  (hok : mayR (dy, ch, mt, rg) = 0) (hzm : mt.size ≤ 1000000) (hjz : (joinR rg).length ≤ 1000000) (hglb0 : Gbk Tryd.prog GA GB σ) :
    FnC Tryd.prog 108 #[v0] σ (Ty.val (Value.string (bsL (lineR (dy, ch, mt, rg))))) := by
 have hz124 : (ByteArray.mk #[124]).size = 1 := rfl
 have hz35 : (ByteArray.mk #[35]).size = 1 := rfl
 have hz10 : (ByteArray.mk #[10]).size = 1 := rfl
 have hro := mayR_ok hok
 have hd0_ : 0 ≤ dy := hro.d0
 have hd1_ : dy ≤ 1000000 := hro.d1
 have hc0_ : 1 ≤ ch := hro.c0
 have hc1_ : ch ≤ 1000000 := hro.c1
 have hn2_ : rg.length ≤ 12 := hro.n2
 have hz1_ := dcB_le (n := dy.toNat) oM
 have hz2_ := dcB_le (n := ch.toNat) oM
 have hz3_ : (jnB rg).size = (joinR rg).length := bsL_size _
 refine fn_intro0 Tryd.func108 rfl Tryd.ntmps108 (Nat.le_of_ble_eq_true rfl) (fun s0 a0 hle F0 ok0 hargs => ?_)
 have p0 := pA hle (hargs 0 _ rfl) hv0
 clear hargs
 have hglb : Gbk Tryd.prog GA GB s0 := Gbk.up hle hglb0
 refine wp_seq ?_
 refine gI a0 s0 ok0 (gS rfl (fun A B E G H => rP (y_boxagg (kp (H 0 rfl) E p0))) (gC (Ty.val (Value.string (ByteArray.mk #[]))) (gE ok0 fun a1 s1 ok1 D1 => ?_))); have F1 := F0.step0 D1.stp; have q1 := D1.m 0 rfl; refine tn (wp_seq ?_)
 refine gI a1 s1 ok1 (gS rfl (fun A B E G H => rP (y_field Tryd.fld66_0 Tryd.inf42 dE (kp (H 1 rfl) E q1) rfl)) (gS rfl (fun A B E G H d0 => rP (y_field Tryd.fld42_0 Tryd.inf3 dE (eI d0) rfl)) (gS rfl (fun A B E G H d0 => rP (y_load Tryd.underlying3 rfl (eI d0) rfl)) (gS rfl (fun A B E G H d0 => rP (y_call _ Tryd.func42 rfl rfl my1 (itoaN_fn ((dy).toNat) _ _ (cvi (σ := B) (by first | omega | assumption | exact Gbk.up (GW.le_lend _ _) (Gbk.fl @F rfl hglb0) | exact Gbk.up E.le0 (Gbk.fl @F rfl hglb0) | exact Gbk.up (GW.le_lend _ _) (Gbk.fl @F rfl hglb) | exact Gbk.up E.le0 (Gbk.fl @F rfl hglb)) (ef d0 rfl)) (by first | omega | assumption | exact Gbk.up (GW.le_lend _ _) (Gbk.fl F1 rfl hglb0) | exact Gbk.up E.le0 (Gbk.fl F1 rfl hglb0) | exact Gbk.up (GW.le_lend _ _) (Gbk.fl F1 rfl hglb) | exact Gbk.up E.le0 (Gbk.fl F1 rfl hglb)) (by first | omega | assumption | exact Gbk.up (GW.le_lend _ _) (Gbk.fl F1 rfl hglb0) | exact Gbk.up E.le0 (Gbk.fl F1 rfl hglb0) | exact Gbk.up (GW.le_lend _ _) (Gbk.fl F1 rfl hglb) | exact Gbk.up E.le0 (Gbk.fl F1 rfl hglb))))) (gT (Ty.val (Value.string ((dcB ((dy).toNat)) ++ (ByteArray.mk #[124])))) rfl (fun A B E G H d0 => rP (y_scat (eI d0) rfl (by (try simp only [ByteArray.size_append]); omega))) (gS rfl (fun A B E G H => rP (y_field Tryd.fld66_0 Tryd.inf42 dE (kp (H 1 rfl) E q1) rfl)) (gS rfl (fun A B E G H d0 => rP (y_field Tryd.fld42_1 Tryd.inf3 dE (eI d0) rfl)) (gS rfl (fun A B E G H d0 => rP (y_load Tryd.underlying3 rfl (eI d0) rfl)) ?_))))))))
 refine gS rfl (fun A B E G H d0 d1 => rP (y_call _ Tryd.func42 rfl rfl my1 (itoaN_fn ((ch).toNat) _ _ (cvi (σ := B) (by first | omega | assumption | exact Gbk.up (GW.le_lend _ _) (Gbk.fl @F rfl hglb0) | exact Gbk.up E.le0 (Gbk.fl @F rfl hglb0) | exact Gbk.up (GW.le_lend _ _) (Gbk.fl @F rfl hglb) | exact Gbk.up E.le0 (Gbk.fl @F rfl hglb)) (ef d0 rfl)) (by first | omega | assumption | exact Gbk.up (GW.le_lend _ _) (Gbk.fl F1 rfl hglb0) | exact Gbk.up E.le0 (Gbk.fl F1 rfl hglb0) | exact Gbk.up (GW.le_lend _ _) (Gbk.fl F1 rfl hglb) | exact Gbk.up E.le0 (Gbk.fl F1 rfl hglb)) (by first | omega | assumption | exact Gbk.up (GW.le_lend _ _) (Gbk.fl F1 rfl hglb0) | exact Gbk.up E.le0 (Gbk.fl F1 rfl hglb0) | exact Gbk.up (GW.le_lend _ _) (Gbk.fl F1 rfl hglb) | exact Gbk.up E.le0 (Gbk.fl F1 rfl hglb))))) (gT (Ty.val (Value.string (((dcB ((dy).toNat)) ++ (ByteArray.mk #[124])) ++ (dcB ((ch).toNat))))) rfl (fun A B E G H d0 d1 => rP (y_scat (eI d0) (eI d1) (by (try simp only [ByteArray.size_append]); omega))) (gT (Ty.val (Value.string ((((dcB ((dy).toNat)) ++ (ByteArray.mk #[124])) ++ (dcB ((ch).toNat))) ++ (ByteArray.mk #[124])))) rfl (fun A B E G H d0 => rP (y_scat (eI d0) rfl (by (try simp only [ByteArray.size_append]); omega))) (gS rfl (fun A B E G H => rP (y_field Tryd.fld66_0 Tryd.inf42 dE (kp (H 1 rfl) E q1) rfl)) (gS rfl (fun A B E G H d0 => rP (y_field Tryd.fld42_2 Tryd.inf9 dE (eI d0) rfl)) (gS rfl (fun A B E G H d0 => rP (y_load Tryd.underlying9 rfl (eI d0) rfl)) (gT (Ty.val (Value.string (((((dcB ((dy).toNat)) ++ (ByteArray.mk #[124])) ++ (dcB ((ch).toNat))) ++ (ByteArray.mk #[124])) ++ mt))) rfl (fun A B E G H d0 d1 => rP (y_scat (eI d0) (eI d1) (by (try simp only [ByteArray.size_append]); omega))) ?_))))))
 refine gT (Ty.val (Value.string ((((((dcB ((dy).toNat)) ++ (ByteArray.mk #[124])) ++ (dcB ((ch).toNat))) ++ (ByteArray.mk #[124])) ++ mt) ++ (ByteArray.mk #[124])))) rfl (fun A B E G H d0 => rP (y_scat (eI d0) rfl (by (try simp only [ByteArray.size_append]); omega))) (gS rfl (fun A B E G H => rP (y_field Tryd.fld66_0 Tryd.inf42 dE (kp (H 1 rfl) E q1) rfl)) (gS rfl (fun A B E G H d0 => rP (y_field Tryd.fld42_3 Tryd.inf40 dE (eI d0) rfl)) (gS rfl (fun A B E G H d0 => rP (y_load Tryd.underlying40 rfl (eI d0) rfl)) (gS rfl (fun A B E G H d0 d1 => rP (y_call _ Tryd.func109 rfl rfl my2 (joinS_fn (rg) _ _ _ (eI d0) rfl oX oX))) (gT (Ty.val (Value.string (((((((dcB ((dy).toNat)) ++ (ByteArray.mk #[124])) ++ (dcB ((ch).toNat))) ++ (ByteArray.mk #[124])) ++ mt) ++ (ByteArray.mk #[124])) ++ (jnB (rg))))) rfl (fun A B E G H d0 d1 => rP (y_scat (eI d0) (eI d1) (by (try simp only [ByteArray.size_append]); omega))) (gB 0 (gE ok1 fun a2 s2 ok2 D2 => ?_))))))); have F2 := F1.step0 D2.stp
 have hbl_ := body_len hok hzm hjz
 have hbz_ : (bsL (bodyR (dy, ch, mt, rg))).size = (bodyR (dy, ch, mt, rg)).length := bsL_size _
 have hcz_ := dcB_le (n := chk (ByteArray.data (bsL (bodyR (dy, ch, mt, rg)))).toList) (Nat.lt_trans chk_lt dE)
 have hck_ := chk_lt (l := (ByteArray.data (bsL (bodyR (dy, ch, mt, rg)))).toList)
 have q3 : At (Ty.val (Value.string (bsL (bodyR (dy, ch, mt, rg))))) s2 a2 (.tmp 3) := (cvt (by (exact congrArg _ (congrArg _ body_eq))) (D2.m 21 rfl))
 refine tn (wp_seq ?_)
 refine gI a2 s2 ok2 (gM q3 (gT (Ty.val (Value.string ((bsL (bodyR (dy, ch, mt, rg))) ++ (ByteArray.mk #[35])))) rfl (fun A B E G H d0 => rP (y_scat (eI d0) rfl (by (try simp only [ByteArray.size_append]); omega))) (gM q3 (gS rfl (fun A B E G H d0 => rP (y_call _ Tryd.func28 rfl rfl my1 (bCheck_fn ((bsL (bodyR (dy, ch, mt, rg)))) _ _ (eI d0) oM))) (gT (Ty.val (Value.int .u64 (((chk (ByteArray.data ((bsL (bodyR (dy, ch, mt, rg))))).toList) : Nat) : Int))) rfl (fun A B E G H d0 => rP (y_conv Tryd.underlying71 (eI d0) (by exact wrap_u64 oM oM) (by rw [Tryd.underlying72]; rfl))) ?_)))))
 refine gS rfl (fun A B E G H d0 d1 => rP (y_call #[A.eval (.tmp 29), A.eval ((Operand.const (Value.int IntKind.i64 10)))] Tryd.func27 rfl rfl my2 (fmtN_fn ((chk (ByteArray.data ((bsL (bodyR (dy, ch, mt, rg))))).toList)) ((10 : Int)) _ _ _ (cvi (σ := B) (by first | rfl | omega | assumption | exact Gbk.up (GW.le_lend _ _) (Gbk.fl @F rfl hglb0) | exact Gbk.up E.le0 (Gbk.fl @F rfl hglb0) | exact Gbk.up (GW.le_lend _ _) (Gbk.fl @F rfl hglb) | exact Gbk.up E.le0 (Gbk.fl @F rfl hglb)) (ef d0 rfl)) (cvi (σ := B) (by first | rfl | omega | assumption | exact Gbk.up (GW.le_lend _ _) (Gbk.fl @F rfl hglb0) | exact Gbk.up E.le0 (Gbk.fl @F rfl hglb0) | exact Gbk.up (GW.le_lend _ _) (Gbk.fl @F rfl hglb) | exact Gbk.up E.le0 (Gbk.fl @F rfl hglb)) rfl) (by first | rfl | omega | assumption | exact Gbk.up (GW.le_lend _ _) (Gbk.fl F2 rfl hglb0) | exact Gbk.up E.le0 (Gbk.fl F2 rfl hglb0) | exact Gbk.up (GW.le_lend _ _) (Gbk.fl F2 rfl hglb) | exact Gbk.up E.le0 (Gbk.fl F2 rfl hglb)) (by first | rfl | omega | assumption | exact Gbk.up (GW.le_lend _ _) (Gbk.fl F2 rfl hglb0) | exact Gbk.up E.le0 (Gbk.fl F2 rfl hglb0) | exact Gbk.up (GW.le_lend _ _) (Gbk.fl F2 rfl hglb) | exact Gbk.up E.le0 (Gbk.fl F2 rfl hglb)) (by first | rfl | omega | assumption | exact Gbk.up (GW.le_lend _ _) (Gbk.fl F2 rfl hglb0) | exact Gbk.up E.le0 (Gbk.fl F2 rfl hglb0) | exact Gbk.up (GW.le_lend _ _) (Gbk.fl F2 rfl hglb) | exact Gbk.up E.le0 (Gbk.fl F2 rfl hglb))))) (gT (Ty.val (Value.string (((bsL (bodyR (dy, ch, mt, rg))) ++ (ByteArray.mk #[35])) ++ (dcB ((chk (ByteArray.data ((bsL (bodyR (dy, ch, mt, rg))))).toList)))))) rfl (fun A B E G H d0 d1 => rP (y_scat (eI d0) (eI d1) (by (try simp only [ByteArray.size_append]); omega))) ?_)
 refine gT (Ty.val (Value.string ((((bsL (bodyR (dy, ch, mt, rg))) ++ (ByteArray.mk #[35])) ++ (dcB ((chk (ByteArray.data ((bsL (bodyR (dy, ch, mt, rg))))).toList)))) ++ (ByteArray.mk #[10])))) rfl (fun A B E G H d0 => rP (y_scat (eI d0) rfl (by (try simp only [ByteArray.size_append]); omega))) (gB 0 (gE ok2 fun a3 s3 ok3 D3 => ?_)); refine tn (wp_ret ?_)
 exact retL1 rfl ok3 (F2.step0 D3.stp) (cvt (by (exact congrArg _ (congrArg _ line_eq))) (D3.m 8 rfl))


set_option maxHeartbeats 4000000 in
set_option maxRecDepth 100000 in
theorem bBytesF_fn (b bl : Value) (xs : List Rec) (N : Nat) (σ : GW) (hlow : Low [40, 41] σ) (v0 : Value) (hv0 : Ty.has (Ty.val b) σ v0) (ho_b : OwnP σ 40 b [(Ty.val bl)]) (ho_bl : Own σ 41 49 1 bl (List.length xs) (List.map (Ty.ent 66) xs)) (hok : ∀ r ∈ xs, mayR r = 0) (hlz : (linesR xs).length ≤ 1000000) (hxl : xs.length ≤ 1000000) (hglb0 : Gbk Tryd.prog GA GB σ) (hN : N ≤ σ.w.heap.size) :
    FnL Tryd.prog 10 #[v0] σ [40, 41] (fun v τ => (Ty.has (Ty.frshB N (linesR xs)) τ v) ∧ (OwnP τ 40 b [(Ty.val bl)]) ∧ (Own τ 41 49 1 bl (List.length xs) (List.map (Ty.ent 66) xs))) := by
 refine fn_introL hlow Tryd.func10 rfl Tryd.ntmps10 (Nat.le_of_ble_eq_true rfl) (fun a0 F0 ok0 hargs => ?_)
 have p0 := pB (hargs 0 _ rfl) hv0
 clear hargs; refine wp_seq ?_
 refine gI a0 σ ok0 (gC (Ty.val (Value.slice none 0 0)) (gE ok0 fun a1 s1 ok1 D1 => ?_)); have o1 := OwnP.k0 ho_b D1.stp; have o2 := Own.k0 ho_bl D1.stp; refine tn (wp_seq ?_)
 refine gI a1 s1 ok1 (gR (Pr.ownpt 59 5 [(Ty.val (Value.pointer none)), (Ty.val (Value.slice none 0 0))]) rfl (by intro A B E G H; exact rP (y_alloct Tryd.inf59 rfl (alloc_vals (vs := [.pointer none, .slice none 0 0]) rfl))) (gE ok1 fun a2 s2 ok2 D2 => ?_)); have o3 := OwnP.k0 o1 D2.stp; have o4 := Own.k0 o2 D2.stp
 obtain ⟨x1, hx1⟩ : ∃ x, a2.eval (.tmp 3) = x := ⟨_, rfl⟩
 have q3 : At (Ty.val x1) s2 a2 (.tmp 3) := hx1
 have o5 := al2 (R := (Pr.ownpt 59 5 [(Ty.val (Value.pointer none)), (Ty.val (Value.slice none 0 0))])) hx1 (D2.done 0)
 refine tn (wp_seq (wp_seq ?_))
 refine gI a2 s2 ok2 (gM (D2.k (D1.k p0)) (gT (Ty.val b) rfl (fun A B E G H d0 => rP (y_nilp (OwnP.k0 o3 E) (eI d0))) (gT (Ty.val (ptrAt b 0)) rfl (fun A B E G H d0 => rP (ownp_field Tryd.fld37_0 Tryd.inf35 dE (OwnP.k0 o3 E) (eI d0))) (gS rfl (fun A B E G H d0 => rP (ownp_load Tryd.underlying35 rfl (OwnP.k0 o3 E) (eI d0) rfl)) (gT (Ty.nat (List.length xs)) rfl (fun A B E G H d0 => rP (own_len Tryd.underlying35 (al (R := (Pr.own 41 49 1 (List.length xs) (List.map (Ty.ent 66) xs))) (eI d0) (Own.k0 o4 E)))) (gT (Ty.int (0 : Int)) rfl (fun A B E G H => rP (y_move rfl)) (gE ok2 fun a3 s3 ok3 D3 => ?_))))))); have o6 := OwnP.k0 o3 D3.stp; have o7 := Own.k0 o4 D3.stp; have o8 := OwnPT.k0 o5 D3.stp; refine tn (wp_block ?_)
 have o9 : Own s3 6 5 1 (Value.slice none 0 0) 0 (List.map Ty.byte ([] : List UInt8)) := Own.nil _ _ _ _
 refine loop (fun n1 a4 w1 => ∃ (t1 : GW) (k : Nat) (nz : Bool) (bf : Value), t1.w = w1 ∧ FromL [40, 41] σ t1 ∧ Ok 21 [] a4 ∧ At (Ty.nat k) t1 a4 (.tmp 11) ∧ At (Ty.val x1) t1 a4 (.tmp 3) ∧ At (Ty.val bl) t1 a4 (.tmp 9) ∧ At (Ty.nat (List.length xs)) t1 a4 (.tmp 10) ∧ OwnPT 59 t1 5 x1 [(Ty.val (bAddr nz x1)), (Ty.val bf)] ∧ Own t1 6 5 1 bf (List.length (linesR (xs.take k))) (List.map Ty.byte (linesR (xs.take k))) ∧ OwnP t1 40 b [(Ty.val bl)] ∧ Own t1 41 49 1 bl (List.length xs) (List.map (Ty.ent 66) xs) ∧ (k ≤ xs.length) ∧ n1 = xs.length - k) (xs.length - (0)) ?_ ?_
 ·
  exact ⟨s3, 0, true, (Value.slice none 0 0), rfl, (((F0.step0 D1.stp).step0 D2.stp).step0 D3.stp), ok3, (cJ (D3.m 5 rfl)), (D3.k q3), (D3.m 3 rfl), (D3.m 4 rfl), (ownpt_cell 0 (Ty.val (bAddr (true) x1)) o8 rfl (fun _ _ h => (cvt (by (first | rfl | omega | (simp_all; done) | (simp_all; omega))) h))), (cvo (by (simp [linesR])) (by (simp [linesR])) o9), o6, o7, by omega, rfl⟩
 ·
  rintro n2 a5 w2 ⟨t2, k, nz, bf, rfl, F4, ok4, q8, q9, q10, q11, o10, o11, o12, o13, hk, rfl⟩
  have hll_ := lines_len (xs := xs) (k := k)
  refine wp_seq ?_
  refine gI a5 t2 ok4 (gS rfl (fun A B E G H => rP (y_lss (kp (H 11 rfl) E q8) (kp (H 10 rfl) E q11))) (gE ok4 fun a6 s4 ok5 D4 => ?_)); have F5 := F4.step0 D4.stp; have q12 := D4.k q8; have q13 := D4.k q9; have q14 := D4.k q10; have o14 := OwnPT.k0 o10 D4.stp; have o15 := Own.k0 o11 D4.stp; have o16 := OwnP.k0 o12 D4.stp; have o17 := Own.k0 o13 D4.stp; refine tn (wp_seq ?_)
  refine cond_p (p := (((k : Nat) : Int) < (((List.length xs) : Nat) : Int))) (D4.m 0 rfl) (fun c1 => ?_) (fun c1 => ?_)
  ·
   have hm_ := getD_memR (xs := xs) (k := k) oM; have hok2_ := hok _ hm_; have hln_ := line_len hm_; have hlp_ := line_parts (r := (xs.getD k Rec0)); have hbz_ : (bsL (lineR (xs.getD k Rec0))).size = (lineR (xs.getD k Rec0)).length := bsL_size _
   refine wp_skip (tn (wp_seq (wp_block (wp_seq ?_))))
   refine gI a6 s4 ok5 (gT (Ty.val (cellPtr bl k)) rfl (fun A B E G H => rP (own_index1 (i := ((k : Nat) : Int)) Tryd.underlying35 Tryd.inf49 (Own.k0 o17 E) (kp (H 9 rfl) E q14) (kp (H 11 rfl) E q12) oM oM)) (gS rfl (fun A B E G H d0 => rP (own_load Tryd.underlying49 rfl (Own.k0 o17 E) (eI d0) (lst_get (Ty.ent 66) xs Rec0 k oM))) (gB 0 (gE ok5 fun a7 s5 ok6 D5 => ?_)))); have F6 := F5.step0 D5.stp; have o18 := OwnPT.k0 o14 D5.stp; have o19 := Own.k0 o15 D5.stp; have o20 := OwnP.k0 o16 D5.stp; have o21 := Own.k0 o17 D5.stp; refine tn ?_
   refine gI a7 s5 ok6 (gM (D5.m 2 rfl) (gT (Ty.val (Value.string (bsL (lineR (xs.getD k Rec0))))) rfl (fun A B E G H d0 => rP (y_invoke (r := (xs.getD k Rec0)) (eI d0) (by kernel_rfl) Tryd.underlying66 Tryd.func108 rfl rfl (fun u_ hu_ => pLine_fn ((xs.getD k Rec0)).1 ((xs.getD k Rec0)).2.1 ((xs.getD k Rec0)).2.2.1 ((xs.getD k Rec0)).2.2.2 _ u_ hu_ (by first | omega | assumption | exact Gbk.up (GW.le_lend _ _) (Gbk.fl F6 rfl hglb0) | exact Gbk.up E.le0 (Gbk.fl F6 rfl hglb0) | exact Gbk.up (GW.le_lend _ _) (Gbk.fl F6 rfl hglb) | exact Gbk.up E.le0 (Gbk.fl F6 rfl hglb)) (by first | omega | assumption | exact Gbk.up (GW.le_lend _ _) (Gbk.fl F6 rfl hglb0) | exact Gbk.up E.le0 (Gbk.fl F6 rfl hglb0) | exact Gbk.up (GW.le_lend _ _) (Gbk.fl F6 rfl hglb) | exact Gbk.up E.le0 (Gbk.fl F6 rfl hglb)) (by first | omega | assumption | exact Gbk.up (GW.le_lend _ _) (Gbk.fl F6 rfl hglb0) | exact Gbk.up E.le0 (Gbk.fl F6 rfl hglb0) | exact Gbk.up (GW.le_lend _ _) (Gbk.fl F6 rfl hglb) | exact Gbk.up E.le0 (Gbk.fl F6 rfl hglb)) (by first | omega | assumption | exact Gbk.up (GW.le_lend _ _) (Gbk.fl F6 rfl hglb0) | exact Gbk.up E.le0 (Gbk.fl F6 rfl hglb0) | exact Gbk.up (GW.le_lend _ _) (Gbk.fl F6 rfl hglb) | exact Gbk.up E.le0 (Gbk.fl F6 rfl hglb))))) (gE2 ok6 fun a8 s6 ok7 D6 => ?_))); have q23 := D6.k (D5.k q13); have o22 := OwnPT.k0 o18 D6.stp; have o23 := Own.k0 o19 D6.stp; have o24 := OwnP.k0 o20 D6.stp; have o25 := Own.k0 o21 D6.stp
   refine tL ok7 (y_callL (L := [40, 41]) [(5, 40), (6, 41)] [(40, 5), (41, 6)] #[a8.eval (.tmp 3), a8.eval (.tmp 16)] rfl dE Tryd.func21 rfl rfl my2 (writeString_fn (x1) (bf) (nz) ((linesR (xs.take k))) ((bsL (lineR (xs.getD k Rec0)))) _ lW _ _ (uL q23) (uL (D6.m 1 rfl)) (OwnPT.ren (ownpt_cell 0 (Ty.val (bAddr (nz) (x1))) o22 rfl (fun _ _ h => (cvt (by (first | rfl | omega | (simp_all; done) | (simp_all; omega))) h))) (GW.ren_lend _ _ dE rfl)) (Own.ren (cvo (by (simp)) (by (simp)) o23) (GW.ren_lend _ _ dE rfl)) oM oM)) fun a9 s7 hs1 ok8 r1 sm1 => ?_
   obtain ⟨t3, ⟨x2, hT1, o26, o27⟩, B1⟩ := r1
   have q31 : At (Ty.tup2 (Ty.nat (ByteArray.size ((bsL (lineR (xs.getD k Rec0)))))) (Ty.val Value.nilIface)) s7 a9 (.tmp 17) := Ty.up _ B1.le hT1
   have o28 : OwnPT 59 s7 5 x1 [(Ty.val (bAddr false (x1))), (Ty.val x2)] := OwnPT.ren o26 (B1.ren dE rfl)
   have o29 : Own s7 6 5 1 x2 (List.length (((linesR (xs.take k))) ++ (ByteArray.data ((bsL (lineR (xs.getD k Rec0))))).toList)) (List.map Ty.byte (((linesR (xs.take k))) ++ (ByteArray.data ((bsL (lineR (xs.getD k Rec0))))).toList)) := Own.ren o27 (B1.ren dE rfl)
   refine wpList_nil (bn (tn ?_))
   refine gI a9 s7 ok8 (gT (Ty.nat (k + 1)) rfl (fun A B E G H => rP ((y_add (kp (H 11 rfl) E (kq hs1 sm1 11 (D6.k (D5.k q12)))) rfl wX).mono (fun τ _ h => cN (σ := τ) h))) (gS rfl (fun A B E G H d0 => rP (y_move (eI d0))) (gE ok8 fun a10 s8 ok9 D7 => ?_))); have o32 := OwnP.k0 (OwnP.kl o24 hs1) D7.stp; have o33 := Own.k0 (Own.kl o25 hs1) D7.stp; have o34 := OwnPT.k0 o28 D7.stp; have o35 := Own.k0 o29 D7.stp
   exact tn ⟨xs.length - ((k+1)), by omega, s8, (k+1), false, x2, rfl, (((F6.step0 D6.stp).sl hs1).step0 D7.stp), ok9, (cJ (D7.m 1 rfl)), (D7.k (kq hs1 sm1 3 q23)), (D7.k (kq hs1 sm1 9 (D6.k (D5.k q14)))), (D7.k (kq hs1 sm1 10 (D6.k (D5.k (D4.k q11))))), (ownpt_cell 0 (Ty.val (bAddr (false) x1)) o34 rfl (fun _ _ h => (cvt (by (first | rfl | omega | (simp_all; done) | (simp_all; omega))) h))), (cvo (by (rw [data_bsL, lines_step oM])) (by (rw [data_bsL, lines_step oM])) o35), o32, o33, by omega, rfl⟩
  ·
   have hkx : k = xs.length := oM
   refine wp_exit (tx (tx (bx (tn (wp_seq ?_)))))
   refine gI a6 s4 ok5 (gE2 ok5 fun a11 s9 ok10 D8 => ?_); have o36 := OwnPT.k0 o14 D8.stp; have o37 := Own.k0 o15 D8.stp; have o38 := OwnP.k0 o16 D8.stp; have o39 := Own.k0 o17 D8.stp
   refine tL ok10 (y_callL (L := [40, 41]) [(5, 40), (6, 41)] [(40, 5), (41, 6)] #[a11.eval (.tmp 3)] rfl dE Tryd.func22 rfl rfl my1 (bString_fn (x1) (bf) (nz) ((linesR (xs.take k))) _ lW _ (uL (D8.k q13)) (OwnPT.ren (ownpt_cell 0 (Ty.val (bAddr (nz) (x1))) o36 rfl (fun _ _ h => (cvt (by (first | rfl | omega | (simp_all; done) | (simp_all; omega))) h))) (GW.ren_lend _ _ dE rfl)) (Own.ren (cvo (by (simp)) (by (simp)) o37) (GW.ren_lend _ _ dE rfl)) )) fun a12 s10 hs2 ok11 r2 sm2 => ?_
   have F11 := (F5.step0 D8.stp).sl hs2
   obtain ⟨t4, hT2, B2⟩ := r2
   have q37 : At (Ty.val (Value.string (bsL ((linesR (xs.take k)))))) s10 a12 (.tmp 19) := Ty.up _ B2.le hT2
   refine tL (R := (fun v τ => Pr.has (Ty.pr (Ty.frshB N ((ByteArray.data (bsL ((linesR (xs.take k))))).toList))) τ v)) ok11 (Yld.toL (y_convSBf Tryd.underlying9 Tryd.underlying22 Tryd.underlying5 q37 (by (try simp only [bsL_size]); omega) (by first | exact Nat.le_trans hN F11.stp.size | exact Nat.le_trans hN (Nat.le_trans F11.stp.size E.size)))) fun a13 s11 hs3 ok12 r3 sm3 => ?_
   have q38 : At (Ty.frshB N ((ByteArray.data (bsL ((linesR (xs.take k))))).toList)) s11 a13 (.tmp 20) := r3
   clear r3
   refine tL ok12 (Yld.toL (y_as q38)) fun a14 s12 hs4 ok13 r4 sm4 => ?_
   have q39 : At (Ty.frshB N ((ByteArray.data (bsL ((linesR (xs.take k))))).toList)) s12 a14 (.tmp 2) := r4
   clear r4; refine wpList_nil (tn (wp_ret ?_))
   exact retL1 rfl ok13 ((F11.sl hs3).sl hs4) ⟨(cvt (by (rw [data_bsL, hkx, List.take_length])) q39), (OwnP.kl (OwnP.kl (OwnP.kl o38 hs2) hs3) hs4), (Own.kl (Own.kl (Own.kl o39 hs2) hs3) hs4)⟩


set_option maxHeartbeats 4000000 in
set_option maxRecDepth 100000 in
theorem slIndexByte_fn (s : ByteArray) (c : Int) (σ : GW)  (v0 v1 : Value) (hv0 : Ty.has (Ty.val (Value.string s)) σ v0) (hv1 : Ty.has (Ty.val (Value.int .u8 c)) σ v1)   :
    FnC Tryd.prog 50 #[v0, v1] σ (Ty.int (Lib.indexByte (ByteArray.data s).toList (c).toNat.toUInt8)) := by
 refine fn_intro0 Tryd.func50 rfl Tryd.ntmps50 (Nat.le_of_ble_eq_true rfl) (fun s0 a0 hle F0 ok0 hargs => ?_)
 have p0 := pA hle (hargs 0 _ rfl) hv0
 have p1 := pA hle (hargs 1 _ rfl) hv1
 clear hargs; refine wp_seq ?_
 refine gI a0 s0 ok0 (gC (Ty.int (0 : Int)) (gE ok0 fun a1 s1 ok1 D1 => ?_)); refine tn (wp_seq ?_)
 refine gI a1 s1 ok1 (gM (D1.k p0) (gM (D1.k p1) (gT (Ty.int (Lib.indexByte (ByteArray.data s).toList (c).toNat.toUInt8)) rfl (fun A B E G H d0 d1 => rP (y_extern (R := (Ty.int (Lib.indexByte (ByteArray.data s).toList (c).toNat.toUInt8))) #[(Value.string s), (Value.int .u8 c)] (by simp only [List.map_toArray, List.map_cons, List.map_nil, (show A.eval (.tmp 5) = _ from (eI d0)), (show A.eval (.tmp 6) = _ from (eI d1))]) (by rw [run_callFunc_extern Tryd.func66 (by kernel_rfl) (by kernel_rfl) (by kernel_rfl) (e := Extern.BytealgIndexByte.indexByte) (by kernel_rfl), Lib.run_indexByteString]; rfl) rfl)) (gB 0 (gE ok1 fun a2 s2 ok2 D2 => ?_))))); refine tn (wp_ret ?_)
 exact retL1 rfl ok2 ((F0.step0 D1.stp).step0 D2.stp) (D2.m 3 rfl)


set_option maxHeartbeats 4000000 in
set_option maxRecDepth 100000 in
theorem slIndexC_fn (s : ByteArray) (sep : ByteArray) (σ : GW)  (v0 v1 : Value) (hv0 : Ty.has (Ty.val (Value.string s)) σ v0) (hv1 : Ty.has (Ty.val (Value.string sep)) σ v1)  (h1 : sep.size = 1) (hss : s.size ≤ 1099511627776) :
    FnC Tryd.prog 38 #[v0, v1] σ (Ty.int (Lib.indexByte ((ByteArray.data s).toList) (sep.get! 0))) := by
 refine fn_intro0 Tryd.func38 rfl Tryd.ntmps38 (Nat.le_of_ble_eq_true rfl) (fun s0 a0 hle F0 ok0 hargs => ?_)
 have p0 := pA hle (hargs 0 _ rfl) hv0
 have p1 := pA hle (hargs 1 _ rfl) hv1
 clear hargs; refine wp_seq ?_
 refine gI a0 s0 ok0 (gC (Ty.int (0 : Int)) (gE ok0 fun a1 s1 ok1 D1 => ?_)); have q2 := D1.k p1; refine tn (wp_seq ?_)
 refine gI a1 s1 ok1 (gM q2 (gT (Ty.nat (ByteArray.size sep)) rfl (fun A B E G H d0 => rP (y_len_str Tryd.underlying9 (eI d0))) (gB 0 (gE ok1 fun a2 s2 ok2 D2 => ?_)))); have q3 := D2.k (D1.k p0); have q4 := D2.k q2; have q5 := D2.m 2 rfl; refine tn (wp_seq (wp_block (wp_seq ?_)))
 refine gI a2 s2 ok2 (gM q5 (gS rfl (fun A B E G H d0 => rP (y_eql (eI d0) rfl)) (gS rfl (fun A B E G H d0 => rP (y_move (eI d0))) (gS rfl (fun A B E G H d0 => gu G (eI d0) fun hg => y_move (kp (H 1 rfl) E q4)) (gS rfl (fun A B E G H d0 => gu G (eI d0) fun hg => y_move (kp (H 0 rfl) E q3)) (gT (Ty.grd ((decide ((((ByteArray.size sep) : Nat) : Int) = (0 : Int))) = false) (Ty.bool (decide (sep = s)))) rfl (fun A B E G H d0 d1 d2 => gu G (eI d2) fun hg => y_seql Tryd.underlying9 ((ef d0 rfl).1 hg) ((ef d1 rfl).1 hg)) (gS rfl (fun A B E G H d0 d1 => rP (y_pick_or (eI d0) rfl (eI d1))) (gB 0 (gE ok2 fun a3 s3 ok3 D3 => ?_))))))))); have F3 := ((F0.step0 D1.stp).step0 D2.stp).step0 D3.stp; refine tn ?_
 refine cond_t (D3.m 7 rfl) (fun c1 => ?_) (fun c1 => ?_)
 ·
  have hse : sep = s := (by simp only [Bool.or_eq_true, decide_eq_true_eq] at c1; rcases c1 with h_ | h_; omega; exact h_)
  refine wp_seq ?_
  refine gI a3 s3 ok3 (gC (Ty.int (0 : Int)) (gE ok3 fun a4 s4 ok4 D4 => ?_)); refine tn (wp_ret (br (tr ?_)))
  exact retL1 rfl ok4 (F3.step0 D4.stp) (cvi (by (rw [← hse]; exact (ix_self h1).symm)) (D4.m 0 rfl))
 ·
  obtain ⟨d1, d2⟩ := Bool.or_eq_false_iff.mp c1
  replace d1 := of_decide_eq_false d1
  replace d2 := of_decide_eq_false d2
  refine wp_seq ?_
  refine gI a3 s3 ok3 (gM (D3.k q5) (gS rfl (fun A B E G H d0 => rP (y_eql (eI d0) rfl)) (gB 0 (gE ok3 fun a5 s5 ok5 D5 => ?_)))); refine tn ?_
  refine cond_p (p := ((((ByteArray.size sep) : Nat) : Int) = (1 : Int))) (D5.m 2 rfl) (fun c2 => ?_) (fun c2 => ?_)
  ·
   refine wp_seq ?_
   refine gI a5 s5 ok5 (gM (D5.k (D3.k q3)) (gM (D5.k (D3.k q4)) (gT (Ty.val (Value.int .u8 (((sep.get! ((0 : Int)).toNat).toNat : Nat) : Int))) rfl (fun A B E G H d0 => rP (y_sindex Tryd.underlying9 (eI d0) rfl oM oM)) (gS rfl (fun A B E G H d0 d1 => rP (y_call _ Tryd.func50 rfl rfl my2 (slIndexByte_fn (s) ((((sep.get! ((0 : Int)).toNat).toNat : Nat) : Int)) _ _ _ (eI d0) (cvi (σ := B) oM (ef d1 rfl)) ))) (gB 0 (gE ok5 fun a6 s6 ok6 D6 => ?_)))))); refine tn (wp_ret (br (tr ?_)))
   exact retL1 rfl ok6 ((F3.step0 D5.stp).step0 D6.stp) (cvi (by (simp)) (D6.m 4 rfl))
  ·
   exfalso
   omega


set_option maxHeartbeats 4000000 in
set_option maxRecDepth 100000 in
theorem slCut_fn (s : ByteArray) (sep : ByteArray) (σ : GW)  (v0 v1 : Value) (hv0 : Ty.has (Ty.val (Value.string s)) σ v0) (hv1 : Ty.has (Ty.val (Value.string sep)) σ v1)  (h1 : sep.size = 1) (hss : s.size ≤ 1099511627776) :
    FnC Tryd.prog 25 #[v0, v1] σ (Ty.tup3 (Ty.val (Value.string (cutA (sep.get! 0) s))) (Ty.val (Value.string (cutZ (sep.get! 0) s))) (Ty.bool (!(decide (Lib.indexByte ((ByteArray.data s).toList) (sep.get! 0) = -1))))) := by
 refine fn_intro0 Tryd.func25 rfl Tryd.ntmps25 (Nat.le_of_ble_eq_true rfl) (fun s0 a0 hle F0 ok0 hargs => ?_)
 have p0 := pA hle (hargs 0 _ rfl) hv0
 have p1 := pA hle (hargs 1 _ rfl) hv1
 clear hargs; refine wp_seq ?_
 refine gI a0 s0 ok0 (gC (Ty.val (Value.string (ByteArray.mk #[]))) (gC (Ty.val (Value.string (ByteArray.mk #[]))) (gC (Ty.bool false) (gE ok0 fun a1 s1 ok1 D1 => ?_)))); have q1 := D1.k p0; have q2 := D1.k p1; refine tn (wp_seq (wp_seq ?_))
 refine gI a1 s1 ok1 (gM q1 (gM q2 (gS rfl (fun A B E G H d0 d1 => rP (y_call _ Tryd.func38 rfl rfl my2 (slIndexC_fn (s) (sep) _ _ _ (eI d0) (eI d1) (by first | omega | rfl | assumption) (by first | omega | rfl | assumption)))) (gB 0 (gE ok1 fun a2 s2 ok2 D2 => ?_))))); have q5 := D2.m 3 rfl; refine tn (wp_seq ?_)
 refine gI a2 s2 ok2 (gM q5 (gS rfl (fun A B E G H d0 => rP (y_geq (eI d0) rfl)) (gE ok2 fun a3 s3 ok3 D3 => ?_))); have F3 := ((F0.step0 D1.stp).step0 D2.stp).step0 D3.stp; have q6 := D3.k (D2.k q1); refine tn ?_
 refine cond_p (p := ((0 : Int) ≤ (Lib.indexByte ((ByteArray.data s).toList) (sep.get! 0)))) (D3.m 1 rfl) (fun c1 => ?_) (fun c1 => ?_)
 ·
  obtain ⟨o, ho⟩ : ∃ o : Nat, Lib.indexByte ((ByteArray.data s).toList) (sep.get! 0) = o := ⟨(Lib.indexByte ((ByteArray.data s).toList) (sep.get! 0)).toNat, by omega⟩; have hos := (count_at ho).2; have hLs : s.data.toList.length = s.size := (by simp)
  have q10 : At (Ty.nat o) s3 a3 (.tmp 7) := cvt (T := (Ty.int (Lib.indexByte ((ByteArray.data s).toList) (sep.get! 0)))) (U := (Ty.nat o)) (by rw [ho]) (D3.k q5)
  refine wp_seq ?_
  refine gI a3 s3 ok3 (gM q6 (gM q10 (gT (Ty.val (Value.string (ByteArray.extract s 0 o))) rfl (fun A B E G H d0 d1 => rP (y_sto (h := o) Tryd.underlying9 (eI d0) (eI d1) oM)) (gM q6 (gM q10 (gM (D3.k (D2.k q2)) (gT (Ty.nat (ByteArray.size sep)) rfl (fun A B E G H d0 => rP (y_len_str Tryd.underlying9 (eI d0))) (gT (Ty.nat (o + (ByteArray.size sep))) rfl (fun A B E G H d0 d1 => rP ((y_add (eI d0) (eI d1) wX).mono (fun τ _ h => cN (σ := τ) h))) (gT (Ty.val (Value.string (ByteArray.extract s (o + (ByteArray.size sep)) (ByteArray.size s)))) rfl (fun A B E G H d0 d1 => rP (y_sfrom (l := (o + (ByteArray.size sep))) Tryd.underlying9 (eI d0) (eI d1) oM)) (gB 0 (gB 0 (gC (Ty.bool true) (gE ok3 fun a4 s4 ok4 D4 => ?_))))))))))))); refine tn (wp_ret (tr ?_))
  exact retL3 rfl ok4 (F3.step0 D4.stp) (hasT3 (cvt (by (exact congrArg _ (congrArg _ (cutA_yes ho)))) (D4.m 9 rfl)) (cvt (by (rw [h1]; exact congrArg _ (congrArg _ (cutZ_yes ho)))) (D4.m 10 rfl)) (cvb (by (simp [ho])) (D4.m 11 rfl)))
 ·
  have ho : Lib.indexByte ((ByteArray.data s).toList) (sep.get! 0) = -1 := (by have := Lib.indexByte_ge ((ByteArray.data s).toList) (sep.get! 0); omega)
  refine wp_skip (tn (wp_seq ?_))
  refine gI a3 s3 ok3 (gM q6 (gB 0 (gC (Ty.val (Value.string (ByteArray.mk #[]))) (gC (Ty.bool false) (gE ok3 fun a5 s5 ok5 D5 => ?_))))); refine tn (wp_ret ?_)
  exact retL3 rfl ok5 (F3.step0 D5.stp) (hasT3 (cvt (by (exact congrArg _ (congrArg _ (cutA_no ho)))) (D5.m 1 rfl)) (cvt (by (exact congrArg _ (congrArg _ (cutZ_no ho)))) (D5.m 2 rfl)) (cvb (by (simp [ho])) (D5.m 3 rfl)))


set_option maxHeartbeats 4000000 in
set_option maxRecDepth 100000 in
theorem sCut_fn (s : ByteArray) (sep : ByteArray) (σ : GW)  (v0 v1 : Value) (hv0 : Ty.has (Ty.val (Value.string s)) σ v0) (hv1 : Ty.has (Ty.val (Value.string sep)) σ v1)  (h1 : sep.size = 1) (hss : s.size ≤ 1099511627776) :
    FnC Tryd.prog 14 #[v0, v1] σ (Ty.tup3 (Ty.val (Value.string (cutA (sep.get! 0) s))) (Ty.val (Value.string (cutZ (sep.get! 0) s))) (Ty.bool (!(decide (Lib.indexByte ((ByteArray.data s).toList) (sep.get! 0) = -1))))) := by
 refine fn_intro0 Tryd.func14 rfl Tryd.ntmps14 (Nat.le_of_ble_eq_true rfl) (fun s0 a0 hle F0 ok0 hargs => ?_)
 have p0 := pA hle (hargs 0 _ rfl) hv0
 have p1 := pA hle (hargs 1 _ rfl) hv1
 clear hargs; refine wp_seq ?_
 refine gI a0 s0 ok0 (gC (Ty.val (Value.string (ByteArray.mk #[]))) (gC (Ty.val (Value.string (ByteArray.mk #[]))) (gC (Ty.bool false) (gE ok0 fun a1 s1 ok1 D1 => ?_)))); refine tn (wp_seq ?_)
 refine gI a1 s1 ok1 (gM (D1.k p0) (gM (D1.k p1) (gS rfl (fun A B E G H d0 d1 => rP (y_call _ Tryd.func25 rfl rfl my2 (slCut_fn (s) (sep) _ _ _ (eI d0) (eI d1) (by first | omega | rfl | assumption) (by first | omega | rfl | assumption)))) (gT (Ty.val (Value.string (cutA (sep.get! 0) s))) rfl (fun A B E G H d0 => rP (y_ext3_0 (eI d0))) (gT (Ty.val (Value.string (cutZ (sep.get! 0) s))) rfl (fun A B E G H d0 => rP (y_ext3_1 (eI d0))) (gT (Ty.bool (!(decide (Lib.indexByte ((ByteArray.data s).toList) (sep.get! 0) = -1)))) rfl (fun A B E G H d0 => rP (y_ext3_2 (eI d0))) (gB 0 (gB 0 (gB 0 (gE ok1 fun a2 s2 ok2 D2 => ?_)))))))))); refine tn (wp_ret ?_)
 exact retL3 rfl ok2 ((F0.step0 D1.stp).step0 D2.stp) (hasT3 (D2.m 6 rfl) (D2.m 7 rfl) (D2.m 8 rfl))


set_option maxHeartbeats 4000000 in
set_option maxRecDepth 100000 in
theorem slIndex_fn (s : ByteArray) (σ : GW)  (v0 v1 : Value) (hv0 : Ty.has (Ty.val (Value.string s)) σ v0) (hv1 : Ty.has (Ty.val (Value.string (ByteArray.mk #[124]))) σ v1)   :
    FnC Tryd.prog 38 #[v0, v1] σ (Ty.int (Lib.indexByte ((ByteArray.data s).toList) 124)) := by
 have hsp : (ByteArray.mk #[124]).size = 1 := rfl
 refine fn_intro0 Tryd.func38 rfl Tryd.ntmps38 (Nat.le_of_ble_eq_true rfl) (fun s0 a0 hle F0 ok0 hargs => ?_)
 have p0 := pA hle (hargs 0 _ rfl) hv0
 have p1 := pA hle (hargs 1 _ rfl) hv1
 clear hargs; refine wp_seq ?_
 refine gI a0 s0 ok0 (gC (Ty.int (0 : Int)) (gE ok0 fun a1 s1 ok1 D1 => ?_)); have q2 := D1.k p1; refine tn (wp_seq ?_)
 refine gI a1 s1 ok1 (gM q2 (gT (Ty.nat (ByteArray.size (ByteArray.mk #[124]))) rfl (fun A B E G H d0 => rP (y_len_str Tryd.underlying9 (eI d0))) (gB 0 (gE ok1 fun a2 s2 ok2 D2 => ?_)))); have q3 := D2.k (D1.k p0); have q4 := D2.k q2; have q5 := D2.m 2 rfl; refine tn (wp_seq (wp_block (wp_seq ?_)))
 refine gI a2 s2 ok2 (gM q5 (gS rfl (fun A B E G H d0 => rP (y_eql (eI d0) rfl)) (gS rfl (fun A B E G H d0 => rP (y_move (eI d0))) (gS rfl (fun A B E G H d0 => gu G (eI d0) fun hg => y_move (kp (H 1 rfl) E q4)) (gS rfl (fun A B E G H d0 => gu G (eI d0) fun hg => y_move (kp (H 0 rfl) E q3)) (gT (Ty.grd ((decide ((((ByteArray.size (ByteArray.mk #[124])) : Nat) : Int) = (0 : Int))) = false) (Ty.bool (decide ((ByteArray.mk #[124]) = s)))) rfl (fun A B E G H d0 d1 d2 => gu G (eI d2) fun hg => y_seql Tryd.underlying9 ((ef d0 rfl).1 hg) ((ef d1 rfl).1 hg)) (gS rfl (fun A B E G H d0 d1 => rP (y_pick_or (eI d0) rfl (eI d1))) (gB 0 (gE ok2 fun a3 s3 ok3 D3 => ?_))))))))); have F3 := ((F0.step0 D1.stp).step0 D2.stp).step0 D3.stp; refine tn ?_
 refine cond_t (D3.m 7 rfl) (fun c1 => ?_) (fun c1 => ?_)
 ·
  have hse : (ByteArray.mk #[124]) = s := (by simpa [hsp] using c1)
  refine wp_seq ?_
  refine gI a3 s3 ok3 (gC (Ty.int (0 : Int)) (gE ok3 fun a4 s4 ok4 D4 => ?_)); refine tn (wp_ret (br (tr ?_)))
  exact retL1 rfl ok4 (F3.step0 D4.stp) (cvi (by (rw [← hse]; rfl)) (D4.m 0 rfl))
 ·
  obtain ⟨d1, d2⟩ := Bool.or_eq_false_iff.mp c1
  replace d1 := of_decide_eq_false d1
  replace d2 := of_decide_eq_false d2
  refine wp_seq ?_
  refine gI a3 s3 ok3 (gM (D3.k q5) (gS rfl (fun A B E G H d0 => rP (y_eql (eI d0) rfl)) (gB 0 (gE ok3 fun a5 s5 ok5 D5 => ?_)))); refine tn ?_
  refine cond_p (p := ((((ByteArray.size (ByteArray.mk #[124])) : Nat) : Int) = (1 : Int))) (D5.m 2 rfl) (fun c2 => ?_) (fun c2 => ?_)
  ·
   refine wp_seq ?_
   refine gI a5 s5 ok5 (gM (D5.k (D3.k q3)) (gM (D5.k (D3.k q4)) (gT (Ty.val (Value.int .u8 ((((ByteArray.mk #[124]).get! ((0 : Int)).toNat).toNat : Nat) : Int))) rfl (fun A B E G H d0 => rP (y_sindex Tryd.underlying9 (eI d0) rfl oM oM)) (gS rfl (fun A B E G H d0 d1 => rP (y_call _ Tryd.func50 rfl rfl my2 (slIndexByte_fn (s) (((((ByteArray.mk #[124]).get! ((0 : Int)).toNat).toNat : Nat) : Int)) _ _ _ (eI d0) (cvi (σ := B) oM (ef d1 rfl)) ))) (gB 0 (gE ok5 fun a6 s6 ok6 D6 => ?_)))))); refine tn (wp_ret (br (tr ?_)))
   exact retL1 rfl ok6 ((F3.step0 D5.stp).step0 D6.stp) (cvi (by (rfl)) (D6.m 4 rfl))
  ·
   exfalso
   exact c2 (by rw [hsp]; rfl)


set_option maxHeartbeats 4000000 in
set_option maxRecDepth 100000 in
theorem sIndex_fn (s : ByteArray) (σ : GW)  (v0 v1 : Value) (hv0 : Ty.has (Ty.val (Value.string s)) σ v0) (hv1 : Ty.has (Ty.val (Value.string (ByteArray.mk #[124]))) σ v1)   :
    FnC Tryd.prog 56 #[v0, v1] σ (Ty.int (Lib.indexByte ((ByteArray.data s).toList) 124)) := by
 refine fn_intro0 Tryd.func56 rfl Tryd.ntmps56 (Nat.le_of_ble_eq_true rfl) (fun s0 a0 hle F0 ok0 hargs => ?_)
 have p0 := pA hle (hargs 0 _ rfl) hv0
 have p1 := pA hle (hargs 1 _ rfl) hv1
 clear hargs; refine wp_seq ?_
 refine gI a0 s0 ok0 (gC (Ty.int (0 : Int)) (gE ok0 fun a1 s1 ok1 D1 => ?_)); refine tn (wp_seq ?_)
 refine gI a1 s1 ok1 (gM (D1.k p0) (gM (D1.k p1) (gS rfl (fun A B E G H d0 d1 => rP (y_call _ Tryd.func38 rfl rfl my2 (slIndex_fn (s) _ _ _ (eI d0) (eI d1) ))) (gB 0 (gE ok1 fun a2 s2 ok2 D2 => ?_))))); refine tn (wp_ret ?_)
 exact retL1 rfl ok2 ((F0.step0 D1.stp).step0 D2.stp) (D2.m 3 rfl)


set_option maxHeartbeats 4000000 in
set_option maxRecDepth 100000 in
theorem sCountC_fn (s : ByteArray) (sep : ByteArray) (σ : GW)  (v0 v1 : Value) (hv0 : Ty.has (Ty.val (Value.string s)) σ v0) (hv1 : Ty.has (Ty.val (Value.string sep)) σ v1)  (h1 : sep.size = 1) (hss : s.size ≤ 1099511627776) :
    FnC Tryd.prog 55 #[v0, v1] σ (Ty.int ((List.count (sep.get! 0) ((ByteArray.data s).toList) : Nat) : Int)) := by
 refine fn_intro0 Tryd.func55 rfl Tryd.ntmps55 (Nat.le_of_ble_eq_true rfl) (fun s0 a0 hle F0 ok0 hargs => ?_)
 have p0 := pA hle (hargs 0 _ rfl) hv0
 have p1 := pA hle (hargs 1 _ rfl) hv1
 clear hargs; refine wp_seq ?_
 refine gI a0 s0 ok0 (gC (Ty.int (0 : Int)) (gE ok0 fun a1 s1 ok1 D1 => ?_)); have q2 := D1.k p1; refine tn (wp_seq (wp_seq ?_))
 refine gI a1 s1 ok1 (gM q2 (gT (Ty.nat (ByteArray.size sep)) rfl (fun A B E G H d0 => rP (y_len_str Tryd.underlying9 (eI d0))) (gS rfl (fun A B E G H d0 => rP (y_eql (eI d0) rfl)) (gE ok1 fun a2 s2 ok2 D2 => ?_)))); have q4 := D2.k q2; refine tn ?_
 refine cond_p (p := ((((ByteArray.size sep) : Nat) : Int) = (0 : Int))) (D2.m 2 rfl) (fun c1 => ?_) (fun c1 => ?_)
 ·
  exfalso
  omega
 ·
  refine wp_skip (tn (wp_seq (wp_seq ?_)))
  refine gI a2 s2 ok2 (gM q4 (gT (Ty.nat (ByteArray.size sep)) rfl (fun A B E G H d0 => rP (y_len_str Tryd.underlying9 (eI d0))) (gS rfl (fun A B E G H d0 => rP (y_eql (eI d0) rfl)) (gE ok2 fun a3 s3 ok3 D3 => ?_)))); refine tn ?_
  refine cond_p (p := ((((ByteArray.size sep) : Nat) : Int) = (1 : Int))) (D3.m 2 rfl) (fun c2 => ?_) (fun c2 => ?_)
  ·
   refine wp_seq ?_
   refine gI a3 s3 ok3 (gM (D3.k (D2.k (D1.k p0))) (gM (D3.k q4) (gT (Ty.val (Value.int .u8 (((sep.get! ((0 : Int)).toNat).toNat : Nat) : Int))) rfl (fun A B E G H d0 => rP (y_sindex Tryd.underlying9 (eI d0) rfl oM oM)) (gT (Ty.int ((Lib.countByte (ByteArray.data s).toList (((((sep.get! ((0 : Int)).toNat).toNat : Nat) : Int))).toNat.toUInt8 : Nat) : Int)) rfl (fun A B E G H d0 d1 => rP (y_extern (R := (Ty.int ((Lib.countByte (ByteArray.data s).toList (((((sep.get! ((0 : Int)).toNat).toNat : Nat) : Int))).toNat.toUInt8 : Nat) : Int))) #[(Value.string s), (Value.int .u8 (((sep.get! ((0 : Int)).toNat).toNat : Nat) : Int))] (by simp only [List.map_toArray, List.map_cons, List.map_nil, (show A.eval (.tmp 16) = _ from (eI d0)), (show A.eval (.tmp 18) = _ from (eI d1))]) (by rw [run_callFunc_extern Tryd.func70 (by kernel_rfl) (by kernel_rfl) (by kernel_rfl) (e := Extern.BytealgCount.count) (by kernel_rfl), Lib.run_countString]; rfl) rfl)) (gB 0 (gE ok3 fun a4 s4 ok4 D4 => ?_)))))); refine tn (wp_ret (tr ?_))
   exact retL1 rfl ok4 ((((F0.step0 D1.stp).step0 D2.stp).step0 D3.stp).step0 D4.stp) (cvi (by (simp [Lib.countByte])) (D4.m 4 rfl))
  ·
   exfalso
   omega


set_option maxHeartbeats 4000000 in
set_option maxRecDepth 100000 in
theorem sIndexC_fn (s : ByteArray) (sep : ByteArray) (σ : GW)  (v0 v1 : Value) (hv0 : Ty.has (Ty.val (Value.string s)) σ v0) (hv1 : Ty.has (Ty.val (Value.string sep)) σ v1)  (h1 : sep.size = 1) (hss : s.size ≤ 1099511627776) :
    FnC Tryd.prog 56 #[v0, v1] σ (Ty.int (Lib.indexByte ((ByteArray.data s).toList) (sep.get! 0))) := by
 refine fn_intro0 Tryd.func56 rfl Tryd.ntmps56 (Nat.le_of_ble_eq_true rfl) (fun s0 a0 hle F0 ok0 hargs => ?_)
 have p0 := pA hle (hargs 0 _ rfl) hv0
 have p1 := pA hle (hargs 1 _ rfl) hv1
 clear hargs; refine wp_seq ?_
 refine gI a0 s0 ok0 (gC (Ty.int (0 : Int)) (gE ok0 fun a1 s1 ok1 D1 => ?_)); refine tn (wp_seq ?_)
 refine gI a1 s1 ok1 (gM (D1.k p0) (gM (D1.k p1) (gS rfl (fun A B E G H d0 d1 => rP (y_call _ Tryd.func38 rfl rfl my2 (slIndexC_fn (s) (sep) _ _ _ (eI d0) (eI d1) (by first | omega | rfl | assumption) (by first | omega | rfl | assumption)))) (gB 0 (gE ok1 fun a2 s2 ok2 D2 => ?_))))); refine tn (wp_ret ?_)
 exact retL1 rfl ok2 ((F0.step0 D1.stp).step0 D2.stp) (D2.m 3 rfl)


set_option maxHeartbeats 4000000 in
set_option maxRecDepth 100000 in
theorem genSplitC_fn (s : ByteArray) (sep : ByteArray) (σ : GW)  (v0 v1 v2 v3 : Value) (hv0 : Ty.has (Ty.val (Value.string s)) σ v0) (hv1 : Ty.has (Ty.val (Value.string sep)) σ v1) (hv2 : Ty.has (Ty.nat 0) σ v2) (hv3 : Ty.has (Ty.int (-1 : Int)) σ v3)  (h1 : sep.size = 1) (hss : s.size ≤ 1099511627776) :
    FnC Tryd.prog 39 #[v0, v1, v2, v3] σ (Ty.lst Ty.str (cutT (sep.get! 0) s)) := by
 obtain ⟨L, hL⟩ : ∃ L, L = s.data.toList := ⟨_, rfl⟩
 obtain ⟨c, hcc⟩ : ∃ c, c = sep.get! 0 := ⟨_, rfl⟩
 have hLs : L.length = s.size := by rw [hL]; simp
 have hcl : List.count c L ≤ L.length := List.count_le_length
 obtain ⟨N, hN⟩ : ∃ N : Nat, N = List.count c L := ⟨_, rfl⟩
 refine fn_intro0 Tryd.func39 rfl Tryd.ntmps39 (Nat.le_of_ble_eq_true rfl) (fun s0 a0 hle F0 ok0 hargs => ?_)
 have p0 := pA hle (hargs 0 _ rfl) hv0
 have p1 := pA hle (hargs 1 _ rfl) hv1
 have p2 := pA hle (hargs 2 _ rfl) hv2
 have p3 := pA hle (hargs 3 _ rfl) hv3
 clear hargs; refine wp_seq ?_
 refine gI a0 s0 ok0 (gC (Ty.val (Value.slice none 0 0)) (gE ok0 fun a1 s1 ok1 D1 => ?_)); have q4 := D1.k p3; refine tn (wp_seq (wp_seq ?_))
 refine gI a1 s1 ok1 (gM q4 (gT (Ty.bool false) rfl (fun A B E G H d0 => rP ((y_eql (eI d0) rfl).mono (fun τ _ h => cvb (σ := τ) dE h))) (gE ok1 fun a2 s2 ok2 D2 => ?_))); have q6 := D2.k (D1.k p1); refine tn ?_
 refine cond_t (D2.m 1 rfl) (fun c1 => (by cases c1)) (fun _ => ?_)
 refine wp_skip (tn (wp_seq (wp_seq ?_)))
 refine gI a2 s2 ok2 (gM q6 (gT (Ty.bool (decide (sep = (ByteArray.mk #[])))) rfl (fun A B E G H d0 => rP (y_seql Tryd.underlying9 (eI d0) rfl)) (gE ok2 fun a3 s3 ok3 D3 => ?_))); refine tn ?_
 refine cond_p (p := (sep = (ByteArray.mk #[]))) (D3.m 1 rfl) (fun c2 => ?_) (fun c2 => ?_)
 ·
  exfalso
  rw [c2] at h1; cases h1
 ·
  refine wp_skip (tn (wp_seq (wp_seq ?_)))
  refine gI a3 s3 ok3 (gM (D3.k (D2.k q4)) (gT (Ty.bool true) rfl (fun A B E G H d0 => rP ((y_lss (eI d0) rfl).mono (fun τ _ h => cvb (σ := τ) dE h))) (gE ok3 fun a4 s4 ok4 D4 => ?_))); have q15 := D4.k (D3.k (D2.k (D1.k p0))); have q16 := D4.k (D3.k q6); refine tn ?_
  refine cond_t (D4.m 1 rfl) (fun _ => ?_) (fun c3 => (by cases c3))
  refine gI a4 s4 ok4 (gM q15 (gM q16 (gT (Ty.nat N) rfl (fun A B E G H d0 d1 => rP ((y_call _ Tryd.func55 rfl rfl my2 (sCountC_fn (s) (sep) _ _ _ (eI d0) (eI d1) (by first | omega | rfl | assumption) (by first | omega | rfl | assumption))).mono (fun τ _ h => cvt (σ := τ) (T := (Ty.int ((List.count (sep.get! 0) ((ByteArray.data s).toList) : Nat) : Int))) (U := (Ty.nat N)) (by rw [hN, hL, hcc]) h))) (gT (Ty.nat (N + 1)) rfl (fun A B E G H d0 => rP ((y_add (eI d0) rfl wX).mono (fun τ _ h => cN (σ := τ) h))) (gB 0 (gE ok4 fun a5 s5 ok5 D5 => ?_)))))); have q20 := D5.k q15; refine tn (wp_seq ?_)
  refine gI a5 s5 ok5 (gM (D5.m 4 rfl) (gM q20 (gT (Ty.nat (ByteArray.size s)) rfl (fun A B E G H d0 => rP (y_len_str Tryd.underlying9 (eI d0))) (gT (Ty.nat ((ByteArray.size s) + 1)) rfl (fun A B E G H d0 => rP ((y_add (eI d0) rfl wX).mono (fun τ _ h => cN (σ := τ) h))) (gT (Ty.int (min (((N + 1) : Nat) : Int) ((((ByteArray.size s) + 1) : Nat) : Int))) rfl (fun A B E G H d0 d1 => rP (y_min (eI d0) (eI d1))) (gB 0 (gE ok5 fun a6 s6 ok6 D6 => ?_)))))))
  have q28 : At (Ty.nat (N + 1)) s6 a6 (.tmp 3) := (cvi (by (omega)) (D6.m 5 rfl))
  refine tn (wp_seq ?_)
  refine gI a6 s6 ok6 (gM q28 (gR (Pr.own 61 9 1 (N + 1) (List.map Ty.str (List.replicate (N + 1) ByteArray.empty))) rfl (by intro A B E G H d0 d1; have e0 := ed d0 rfl rfl rfl; exact rP ((y_make (k := 61) (T := Ty.str ByteArray.empty) (n := (N + 1)) Tryd.underlying40 Tryd.inf9 rfl (fun _ => rfl) e0 e0 oM oM).mono (fun _ _ h => cvo (by simp) (by simp) h))) (gE2 ok6 fun a7 s7 ok7 D7 => ?_)))
  obtain ⟨x1, hx1⟩ : ∃ x, a7.eval (.tmp 31) = x := ⟨_, rfl⟩
  have q33 : At (Ty.val x1) s7 a7 (.tmp 31) := hx1
  have o1 := al2 (R := (Pr.own 61 9 1 (N + 1) (List.map Ty.str (List.replicate (N + 1) ByteArray.empty)))) hx1 (D7.done 1 dE)
  refine tL ok7 (Yld.toL (y_as q33)) fun a8 s8 hs1 ok8 r1 sm1 => ?_
  have q38 : At (Ty.val x1) s8 a8 (.tmp 9) := r1
  clear r1; refine wpList_nil (tn (wp_seq ?_))
  refine gI a8 s8 ok8 (gM (kq hs1 sm1 3 (D7.k q28)) (gT (Ty.int ((((N + 1) : Nat) : Int) - (1 : Int))) rfl (fun A B E G H d0 => rP (y_sub (eI d0) rfl wX)) (gB 0 (gE ok8 fun a9 s9 ok9 D8 => ?_)))); have o3 := Own.k0 (Own.kl o1 hs1) D8.stp
  have q44 : At (Ty.nat N) s9 a9 (.tmp 3) := (cvi (by (omega)) (D8.m 2 rfl))
  refine tn (wp_seq ?_)
  refine gI a9 s9 ok9 (gC (Ty.int (0 : Int)) (gE ok9 fun a10 s10 ok10 D9 => ?_)); have o4 := Own.k0 o3 D9.stp; refine tn (wp_seq (wp_block ?_))
  refine loop (fun n1 a11 w1 => ∃ (t1 : GW) (i : Nat) (l : List UInt8) (ys : List ByteArray) (x9_0 : Value), t1.w = w1 ∧ FromL [] s0 t1 ∧ Ok 66 [] a11 ∧ At (Ty.val (Value.string (bsL l))) t1 a11 (.tmp 0) ∧ At (Ty.nat i) t1 a11 (.tmp 10) ∧ At (Ty.val x9_0) t1 a11 (.tmp 9) ∧ At (Ty.val (Value.string sep)) t1 a11 (.tmp 1) ∧ At (Ty.nat 0) t1 a11 (.tmp 2) ∧ At (Ty.nat N) t1 a11 (.tmp 3) ∧ Own t1 61 9 1 x9_0 (List.length ys) (List.map Ty.str ys) ∧ ((ys.take i) ++ (cutL c l).map bsL = cutT c s) ∧ (i + List.count c l = N) ∧ (ys.length = N + 1) ∧ (l.length ≤ s.size) ∧ n1 = N + 1 - i) (N + 1 - (0)) ?_ ?_
  ·
   exact ⟨s10, 0, L, (List.replicate (N + 1) ByteArray.empty), x1, rfl, ((((((((((F0.step0 D1.stp).step0 D2.stp).step0 D3.stp).step0 D4.stp).step0 D5.stp).step0 D6.stp).step0 D7.stp).sl hs1).step0 D8.stp).step0 D9.stp), ok10, (cvt (by (rw [hL, bsL_data])) (D9.k (D8.k (kq hs1 sm1 0 (D7.k (D6.k q20)))))), (cvi (by (rfl)) (D9.m 0 rfl)), (D9.k (D8.k q38)), (D9.k (D8.k (kq hs1 sm1 1 (D7.k (D6.k (D5.k q16)))))), (D9.k (D8.k (kq hs1 sm1 2 (D7.k (D6.k (D5.k (D4.k (D3.k (D2.k (D1.k p2)))))))))), (D9.k q44), (cvo (by (first | rfl | simp)) (by (first | rfl | simp)) o4), by rw [hL]; rfl, by omega, by simp, by omega, rfl⟩
  ·
   rintro n2 a12 w2 ⟨t2, i, l, ys, x9_0, rfl, F11, ok11, q51, q52, q53, q54, q55, q56, o5, hq, hi, hy, hll, rfl⟩
   have hbs := bsL_size l
   refine wp_seq (wp_seq ?_)
   refine gI a12 t2 ok11 (gM q52 (gM q56 (gS rfl (fun A B E G H d0 d1 => rP (y_lss (eI d0) (eI d1))) (gE ok11 fun a13 s11 ok12 D10 => ?_)))); have F12 := F11.step0 D10.stp; have q57 := D10.k q51; have q58 := D10.k q52; have q59 := D10.k q53; have q60 := D10.k q54; have o6 := Own.k0 o5 D10.stp; refine tn ?_
   refine cond_p (p := (((i : Nat) : Int) < ((N : Nat) : Int))) (D10.m 2 rfl) (fun c4 => ?_) (fun c4 => ?_)
   ·
    have hix := Lib.indexByte_ge l c
    refine wp_skip (tn (wp_block (wp_seq ?_)))
    refine gI a13 s11 ok12 (gM q57 (gM q60 (gT (Ty.int (Lib.indexByte l c)) rfl (fun A B E G H d0 d1 => rP ((y_call _ Tryd.func56 rfl rfl my2 (sIndexC_fn ((bsL l)) (sep) _ _ _ (eI d0) (eI d1) (by first | omega | rfl | assumption) (by first | omega | rfl | assumption))).mono (fun τ _ h => cvt (σ := τ) (T := (Ty.int (Lib.indexByte ((ByteArray.data ((bsL l))).toList) (sep.get! 0)))) (U := (Ty.int (Lib.indexByte l c))) (by rw [data_bsL, hcc]) h))) (gB 0 (gE ok12 fun a14 s12 ok13 D11 => ?_))))); have o7 := Own.k0 o6 D11.stp; have q70 := D11.m 3 rfl; refine tn (wp_seq (wp_seq ?_))
    refine gI a14 s12 ok13 (gM q70 (gS rfl (fun A B E G H d0 => rP (y_lss (eI d0) rfl)) (gE ok13 fun a15 s13 ok14 D12 => ?_))); have F14 := (F12.step0 D11.stp).step0 D12.stp; have q71 := D12.k (D11.k q57); have q72 := D12.k (D11.k q58); have q73 := D12.k (D11.k q59); have q75 := D12.k (D11.k (D10.k q55)); have o8 := Own.k0 o7 D12.stp; refine tn ?_
    refine cond_p (p := ((Lib.indexByte l c) < (0 : Int))) (D12.m 1 rfl) (fun c5 => ?_) (fun c5 => ?_)
    ·
     have hc0 : List.count c l = 0 := ix_count.1 oM; have hsl : (ys.set i (bsL l)).length = ys.length := List.length_set
     refine wp_exit (tx ?_)
     refine bo dE ?_
     refine tx (bx (tn (wp_seq ?_)))
     refine gI a15 s13 ok14 (gM q73 (gM q72 (gM q71 (gT (Ty.val (cellPtr x9_0 i)) rfl (fun A B E G H d0 d1 d2 d3 d4 => rP (own_index1 (i := ((i : Nat) : Int)) Tryd.underlying40 Tryd.inf9 (Own.k0 o8 E) (eI d0) (eI d1) oM oM)) (gE2 ok14 fun a16 s14 ok15 D13 => ?_))))); have o9 := Own.k0 o8 D13.stp
     refine tailL0 (L := [61]) (R := (fun _ τ => Own τ 61 9 1 x9_0 (List.length ys) ((List.map Ty.str ys).set i (Ty.val (Value.string (bsL l)))))) rfl rfl (YldM.toL (m_store Tryd.inf9 dE o9 (D13.m 3 rfl) (by simp only [List.length_map, List.length_set]; omega) (D13.m 2 rfl) (one_val rfl))) (fun v1 s15 hs2 r2 => ?_)
     have q83 := kpL hs2 dE rfl (D13.k q72); have q84 := kpL hs2 dE rfl (D13.k q73)
     have o10 : Own s15 61 9 1 x9_0 (List.length (ys.set i (bsL l))) (List.map Ty.str (ys.set i (bsL l))) := (cvo (by simp) (by first | (simp; done) | (rw [List.map_set]; done) | (rw [List.map_set]; rfl)) r2)
     clear r2; refine wpList_nil (tn (wp_seq ?_))
     refine gI a16 s15 ok15 (gM q84 (gM q83 (gT (Ty.nat (i + 1)) rfl (fun A B E G H d0 => rP ((y_add (eI d0) rfl wX).mono (fun τ _ h => cN (σ := τ) h))) (gR (Pr.own 61 9 1 (List.length ((ys.set i (bsL l)).take (i + 1))) (List.map Ty.str ((ys.set i (bsL l)).take (i + 1)))) rfl (by intro A B E G H d0 d1; exact rP ((y_otake (h := (i + 1)) Tryd.underlying40 Tryd.inf9 (Own.k0 o10 E) (eI d0) (eI d1) oM).mono (fun _ _ h => own_lst_take oM h))) (gE2 ok15 fun a17 s16 ok16 D14 => ?_))))); have o11 := Own.k0 o10 D14.stp
     obtain ⟨x2, hx2⟩ : ∃ x, a17.eval (.tmp 65) = x := ⟨_, rfl⟩
     have q86 : At (Ty.val x2) s16 a17 (.tmp 65) := hx2
     have o12 := al2 (R := (Pr.own 61 9 1 (List.length ((ys.set i (bsL l)).take (i + 1))) (List.map Ty.str ((ys.set i (bsL l)).take (i + 1))))) hx2 (D14.done 3 dE)
     refine tL ok16 (Yld.toL (y_as q86)) fun a18 s17 hs3 ok17 r3 sm2 => ?_
     have o13 := Own.kl o11 hs3
     have q87 : At (Ty.val x2) s17 a18 (.tmp 8) := r3
     clear r3; refine wpList_nil (tn (wp_ret ?_))
     obtain ⟨t3, e1, h1, q88⟩ := Own.seal (Own.kl o12 hs3) dE
     rw [← e1]
     have F19 := ((((F14.step0 D13.stp).sl hs2).step0 D14.stp).sl hs3).step h1 dE
     have q89 : At (Ty.lst Ty.str ((ys.set i (bsL l)).take (i + 1))) t3 a18 (.tmp 8) := by have e : a18.eval (.tmp 8) = x2 := q87; show Ty.has _ _ _; rw [e]; exact q88
     exact retL1 rfl ok17 F19 (cvt (by (rw [sp_end hq hc0 oM, hcc])) q89)
    ·
     obtain ⟨m, hm⟩ : ∃ m : Nat, Lib.indexByte l c = m := ⟨(Lib.indexByte l c).toNat, by omega⟩; obtain ⟨hca, hml⟩ := count_at hm
     have q90 : At (Ty.nat m) s13 a15 (.tmp 11) := cvt (T := (Ty.int (Lib.indexByte l c))) (U := (Ty.nat m)) (by rw [hm]) (D12.k q70)
     refine wp_skip (tn (wp_seq ?_))
     refine gI a15 s13 ok14 (gM q73 (gM q72 (gM q71 (gM q90 (gM q75 (gT (Ty.nat (m + 0)) rfl (fun A B E G H d0 d1 => rP ((y_add (eI d0) (eI d1) wX).mono (fun τ _ h => cN (σ := τ) h))) (gT (Ty.val (Value.string (ByteArray.extract (bsL l) 0 (m + 0)))) rfl (fun A B E G H d0 d1 => rP (y_sto (h := (m + 0)) Tryd.underlying9 (eI d0) (eI d1) oM)) (gT (Ty.val (cellPtr x9_0 i)) rfl (fun A B E G H d0 d1 d2 d3 d4 d5 d6 d7 d8 => rP (own_index1 (i := ((i : Nat) : Int)) Tryd.underlying40 Tryd.inf9 (Own.k0 o8 E) (eI d0) (eI d1) oM oM)) (gE2 ok14 fun a19 s18 ok18 D15 => ?_))))))))); have o15 := Own.k0 o8 D15.stp
     refine tailL0 (L := [61]) (R := (fun _ τ => Own τ 61 9 1 x9_0 (List.length ys) ((List.map Ty.str ys).set i (Ty.val (Value.string (ByteArray.extract (bsL l) 0 (m + 0))))))) rfl rfl (YldM.toL (m_store Tryd.inf9 dE o15 (D15.m 7 rfl) (by simp only [List.length_map, List.length_set]; omega) (D15.m 6 rfl) (one_val rfl))) (fun v2 s19 hs4 r4 => ?_)
     have q100 := kpL hs4 dE rfl (D15.k q71); have q101 := kpL hs4 dE rfl (D15.k q72); have q102 := kpL hs4 dE rfl (D15.k q73); have q103 := kpL hs4 dE rfl (D15.k (D12.k (D11.k q60))); have q104 := kpL hs4 dE rfl (D15.k q75); have q105 := kpL hs4 dE rfl (D15.k (D12.k (D11.k (D10.k q56)))); have q106 := kpL hs4 dE rfl (D15.k q90)
     have o16 : Own s19 61 9 1 x9_0 (List.length (ys.set i (ByteArray.extract (bsL l) 0 (m + 0)))) (List.map Ty.str (ys.set i (ByteArray.extract (bsL l) 0 (m + 0)))) := (cvo (by simp) (by first | (simp; done) | (rw [List.map_set]; done) | (rw [List.map_set]; rfl)) r4)
     clear r4; refine wpList_nil (tn (wp_seq ?_))
     refine gI a19 s19 ok18 (gM q100 (gM q106 (gM q103 (gT (Ty.nat (ByteArray.size sep)) rfl (fun A B E G H d0 => rP (y_len_str Tryd.underlying9 (eI d0))) (gT (Ty.nat (m + (ByteArray.size sep))) rfl (fun A B E G H d0 d1 => rP ((y_add (eI d0) (eI d1) wX).mono (fun τ _ h => cN (σ := τ) h))) (gT (Ty.val (Value.string (ByteArray.extract (bsL l) (m + (ByteArray.size sep)) (ByteArray.size (bsL l))))) rfl (fun A B E G H d0 d1 => rP (y_sfrom (l := (m + (ByteArray.size sep))) Tryd.underlying9 (eI d0) (eI d1) oM)) (gB 0 (gE ok18 fun a20 s20 ok19 D16 => ?_)))))))); have o17 := Own.k0 o16 D16.stp; refine tn ?_
     refine gI a20 s20 ok19 (gM (D16.k q101) (gT (Ty.nat (i + 1)) rfl (fun A B E G H d0 => rP ((y_add (eI d0) rfl wX).mono (fun τ _ h => cN (σ := τ) h))) (gB 0 (gE ok19 fun a21 s21 ok20 D17 => ?_)))); have o18 := Own.k0 o17 D17.stp; refine bn ?_
     exact tn ⟨N + 1 - ((i + 1)), by omega, s21, (i + 1), (l.drop (m + 1)), (ys.set i (ByteArray.extract (bsL l) 0 (m + 0))), x9_0, rfl, ((((F14.step0 D15.stp).sl hs4).step0 D16.stp).step0 D17.stp), ok20, (cvt (by (rw [ext_tail (by rw [h1])])) (D17.k (D16.m 6 rfl))), (cJ (D17.m 2 rfl)), (D17.k (D16.k q102)), (D17.k (D16.k q103)), (D17.k (D16.k q104)), (D17.k (D16.k q105)), (cvo (by (simp)) (by (simp)) o18), sp_go hq hm oM (ext_head rfl), by omega, by rw [List.length_set]; exact hy, by rw [List.length_drop]; omega, rfl⟩
   ·
    have hc0 : List.count c l = 0 := oM; have hsl : (ys.set i (bsL l)).length = ys.length := List.length_set
    refine wp_exit (tx (tx (bx (tn (wp_seq ?_)))))
    refine gI a13 s11 ok12 (gM q59 (gM q58 (gM q57 (gT (Ty.val (cellPtr x9_0 i)) rfl (fun A B E G H d0 d1 d2 d3 d4 => rP (own_index1 (i := ((i : Nat) : Int)) Tryd.underlying40 Tryd.inf9 (Own.k0 o6 E) (eI d0) (eI d1) oM oM)) (gE2 ok12 fun a22 s22 ok21 D18 => ?_))))); have o19 := Own.k0 o6 D18.stp
    refine tailL0 (L := [61]) (R := (fun _ τ => Own τ 61 9 1 x9_0 (List.length ys) ((List.map Ty.str ys).set i (Ty.val (Value.string (bsL l)))))) rfl rfl (YldM.toL (m_store Tryd.inf9 dE o19 (D18.m 3 rfl) (by simp only [List.length_map, List.length_set]; omega) (D18.m 2 rfl) (one_val rfl))) (fun v3 s23 hs5 r5 => ?_)
    have q124 := kpL hs5 dE rfl (D18.k q58); have q125 := kpL hs5 dE rfl (D18.k q59)
    have o20 : Own s23 61 9 1 x9_0 (List.length (ys.set i (bsL l))) (List.map Ty.str (ys.set i (bsL l))) := (cvo (by simp) (by first | (simp; done) | (rw [List.map_set]; done) | (rw [List.map_set]; rfl)) r5)
    clear r5; refine wpList_nil (tn (wp_seq ?_))
    refine gI a22 s23 ok21 (gM q125 (gM q124 (gT (Ty.nat (i + 1)) rfl (fun A B E G H d0 => rP ((y_add (eI d0) rfl wX).mono (fun τ _ h => cN (σ := τ) h))) (gR (Pr.own 61 9 1 (List.length ((ys.set i (bsL l)).take (i + 1))) (List.map Ty.str ((ys.set i (bsL l)).take (i + 1)))) rfl (by intro A B E G H d0 d1; exact rP ((y_otake (h := (i + 1)) Tryd.underlying40 Tryd.inf9 (Own.k0 o20 E) (eI d0) (eI d1) oM).mono (fun _ _ h => own_lst_take oM h))) (gE2 ok21 fun a23 s24 ok22 D19 => ?_))))); have o21 := Own.k0 o20 D19.stp
    obtain ⟨x3, hx3⟩ : ∃ x, a23.eval (.tmp 65) = x := ⟨_, rfl⟩
    have q127 : At (Ty.val x3) s24 a23 (.tmp 65) := hx3
    have o22 := al2 (R := (Pr.own 61 9 1 (List.length ((ys.set i (bsL l)).take (i + 1))) (List.map Ty.str ((ys.set i (bsL l)).take (i + 1))))) hx3 (D19.done 3 dE)
    refine tL ok22 (Yld.toL (y_as q127)) fun a24 s25 hs6 ok23 r6 sm3 => ?_
    have o23 := Own.kl o21 hs6
    have q128 : At (Ty.val x3) s25 a24 (.tmp 8) := r6
    clear r6; refine wpList_nil (tn (wp_ret ?_))
    obtain ⟨t4, e2, h2, q129⟩ := Own.seal (Own.kl o22 hs6) dE
    rw [← e2]
    have F28 := ((((F12.step0 D18.stp).sl hs5).step0 D19.stp).sl hs6).step h2 dE
    have q130 : At (Ty.lst Ty.str ((ys.set i (bsL l)).take (i + 1))) t4 a24 (.tmp 8) := by have e : a24.eval (.tmp 8) = x3 := q128; show Ty.has _ _ _; rw [e]; exact q129
    exact retL1 rfl ok23 F28 (cvt (by (rw [sp_end hq hc0 oM, hcc])) q130)


set_option maxHeartbeats 4000000 in
set_option maxRecDepth 100000 in
theorem splitC_fn (s : ByteArray) (sep : ByteArray) (σ : GW)  (v0 v1 : Value) (hv0 : Ty.has (Ty.val (Value.string s)) σ v0) (hv1 : Ty.has (Ty.val (Value.string sep)) σ v1)  (h1 : sep.size = 1) (hss : s.size ≤ 1099511627776) :
    FnC Tryd.prog 26 #[v0, v1] σ (Ty.lst Ty.str (cutT (sep.get! 0) s)) := by
 refine fn_intro0 Tryd.func26 rfl Tryd.ntmps26 (Nat.le_of_ble_eq_true rfl) (fun s0 a0 hle F0 ok0 hargs => ?_)
 have p0 := pA hle (hargs 0 _ rfl) hv0
 have p1 := pA hle (hargs 1 _ rfl) hv1
 clear hargs; refine wp_seq ?_
 refine gI a0 s0 ok0 (gC (Ty.val (Value.slice none 0 0)) (gE ok0 fun a1 s1 ok1 D1 => ?_)); refine tn (wp_seq ?_)
 refine gI a1 s1 ok1 (gM (D1.k p0) (gM (D1.k p1) (gS rfl (fun A B E G H d0 d1 => rP (y_call #[A.eval (.tmp 5), A.eval (.tmp 6), A.eval ((Operand.const (Value.int IntKind.i64 0))), A.eval ((Operand.const (Value.int IntKind.i64 (-1))))] Tryd.func39 rfl rfl my4 (genSplitC_fn (s) (sep) _ _ _ _ _ (eI d0) (eI d1) (cvi (σ := B) (by first | omega | rfl | assumption) rfl) rfl (by first | omega | rfl | assumption) (by first | omega | rfl | assumption)))) (gB 0 (gE ok1 fun a2 s2 ok2 D2 => ?_))))); refine tn (wp_ret ?_)
 exact retL1 rfl ok2 ((F0.step0 D1.stp).step0 D2.stp) (D2.m 3 rfl)


theorem atoiA_fn (s : ByteArray) (σ : GW) (hlow : Low [] σ) (v0 : Value) (hv0 : Ty.has (Ty.val (Value.string s)) σ v0) (E : s.size ≤ 1099511627776) (hglb0 : Gbk Tryd.prog GA GB σ) : FnL Tryd.prog 41 #[v0] σ [] (fun v τ => ∃ (n : Int), ∃ (ev : Value), (Ty.has (Ty.tup2 (Ty.int n) (Ty.val ev)) τ v) ∧ (AtA s n ev)) := by
  obtain rfl : v0 = _ := hv0
  exact ata_of hglb0.syn hglb0.ran (fun v h => Go.Proofs.Any.strconv_Atoi_ok atoiL s oM v h σ.w) (fun h1_ h2_ ev hv hev => (Go.Proofs.Any.strconv_Atoi_syntax atoiL s oM (by cases e_ : Lib.atoiAll s.data.toList; exact absurd e_ (h1_ _); rfl; exact absurd e_ h2_) ev σ.w hv hev).mono (fun e w' ⟨N, h1, _, _, h4⟩ => ⟨N, h1, h4⟩))
    (fun h ev hv hev => (Go.Proofs.Any.strconv_Atoi_range atoiL s oM h ev σ.w hv hev).mono (fun e w' ⟨N, h1, _, _, h4⟩ => ⟨N, h1, h4⟩))


set_option maxHeartbeats 4000000 in
set_option maxRecDepth 100000 in
theorem bNum_fn (s : ByteArray) (σ : GW) (hlow : Low [] σ) (v0 : Value) (hv0 : Ty.has (Ty.val (Value.string s)) σ v0)  (hsz : s.size ≤ 1099511627776) (hglb0 : Gbk Tryd.prog GA GB σ) :
    FnL Tryd.prog 29 #[v0] σ [] (fun v τ => ∃ (n : Int), ∃ (b : Bool), (Ty.has (Ty.tup2 (Ty.int n) (Ty.bool b)) τ v) ∧ (NumBk s n b)) := by
 refine fn_introL hlow Tryd.func29 rfl Tryd.ntmps29 (Nat.le_of_ble_eq_true rfl) (fun a0 F0 ok0 hargs => ?_)
 have p0 := pB (hargs 0 _ rfl) hv0
 clear hargs; refine wp_seq ?_
 refine gI a0 σ ok0 (gC (Ty.int (0 : Int)) (gC (Ty.bool false) (gE ok0 fun a1 s1 ok1 D1 => ?_))); have q1 := D1.k p0; refine tn (wp_seq ?_)
 refine gI a1 s1 ok1 (gM q1 (gE2 ok1 fun a2 s2 ok2 D2 => ?_)); have F2 := (F0.step0 D1.stp).step0 D2.stp
 refine tL ok2 (y_callL (L := []) [] [] _ rfl dE Tryd.func41 rfl rfl my1 (atoiA_fn (s) _ lW _ (uL (D2.m 0 rfl))  (by first | omega | assumption | exact Gbk.up (GW.le_lend _ _) (Gbk.fl F2 rfl hglb0) | exact Gbk.up E.le0 (Gbk.fl F2 rfl hglb0) | exact Gbk.up (GW.le_lend _ _) (Gbk.fl F2 rfl hglb) | exact Gbk.up E.le0 (Gbk.fl F2 rfl hglb)) (by first | omega | assumption | exact Gbk.up (GW.le_lend _ _) (Gbk.fl F2 rfl hglb0) | exact Gbk.up E.le0 (Gbk.fl F2 rfl hglb0) | exact Gbk.up (GW.le_lend _ _) (Gbk.fl F2 rfl hglb) | exact Gbk.up E.le0 (Gbk.fl F2 rfl hglb)))) fun a3 s3 hs1 ok3 r1 sm1 => ?_
 obtain ⟨t1, ⟨g1, g2, hT1, hp1⟩, B1⟩ := r1
 have q5 : At (Ty.tup2 (Ty.int (g1)) (Ty.val g2)) s3 a3 (.tmp 8) := Ty.up _ B1.le hT1
 refine tL ok3 (Yld.toL (y_mv q5)) fun a4 s4 hs2 ok4 r2 sm2 => ?_
 have q7 : At (Ty.tup2 (Ty.int (g1)) (Ty.val g2)) s4 a4 (.tmp 6) := r2
 clear r2
 refine tL (R := (fun v τ => Pr.has (Ty.pr (Ty.int (g1))) τ v)) ok4 (Yld.toL (y_ext2_0 q7)) fun a5 s5 hs3 ok5 r3 sm3 => ?_
 have q10 : At (Ty.int (g1)) s5 a5 (.tmp 9) := r3
 clear r3
 refine tL (R := (fun v τ => Pr.has (Ty.pr (Ty.val g2)) τ v)) ok5 (Yld.toL (y_ext2_1 (kq hs3 sm3 6 q7))) fun a6 s6 hs4 ok6 r4 sm4 => ?_
 have q13 : At (Ty.val g2) s6 a6 (.tmp 10) := r4
 clear r4
 refine tL ok6 (Yld.toL (y_as (kq hs4 sm4 9 q10))) fun a7 s7 hs5 ok7 r5 sm5 => ?_
 have q16 : At (Ty.int (g1)) s7 a7 (.tmp 4) := r5
 clear r5
 refine tL ok7 (Yld.toL (y_as (kq hs5 sm5 10 q13))) fun a8 s8 hs6 ok8 r6 sm6 => ?_
 have F8 := (((((F2.sl hs1).sl hs2).sl hs3).sl hs4).sl hs5).sl hs6; have q18 := kq hs6 sm6 4 q16
 have q19 : At (Ty.val g2) s8 a8 (.tmp 5) := r6
 clear r6; refine wpList_nil ?_
 have hbd_ := (by assumption : AtA _ _ _).2.1
 refine tn (wp_seq ?_)
 refine gI a8 s8 ok8 (gM q18 (gM q19 (gT (Ty.bool (isNilV g2)) rfl (fun A B E G H d0 => rP (y_eqnil (ev := g2) (by kernel_rfl) (eI d0) (by exact (by assumption : AtA _ _ _).1))) (gS rfl (fun A B E G H d0 => rP (y_move (eI d0))) (gS rfl (fun A B E G H d0 => gu G (eI d0) fun hg => y_move (kp (H 4 rfl) E q18)) (gS rfl (fun A B E G H d0 d1 => gu G (eI d1) fun hg => y_geq ((ef d0 rfl).1 hg) rfl) (gS rfl (fun A B E G H d0 d1 => rP (y_pick_and (eI d0) (eI d1) rfl)) (gS rfl (fun A B E G H d0 d1 => rP (y_move (eI d0))) (gT (Ty.grd (((isNilV g2) && (decide ((0 : Int) ≤ (g1)))) = true) (Ty.int (g1))) rfl (by intro A B E G H d0; refine run_guard G rfl rfl dE (eI d0) (fun hg => ?_); obtain ⟨d1, d2⟩ := Bool.and_eq_true_iff.mp hg; have d2 := of_decide_eq_true d2; exact y_move (kp (H 4 rfl) E q18)) ?_)))))))))
 refine gT (Ty.grd (((isNilV g2) && (decide ((0 : Int) ≤ (g1)))) = true) (Ty.val (Value.string (dcB (((g1)).toNat))))) rfl (by intro A B E G H d0 d1 d2; refine run_guard G rfl rfl dE (eI d1) (fun hg => ?_); obtain ⟨d3, d4⟩ := Bool.and_eq_true_iff.mp hg; have d4 := of_decide_eq_true d4; exact y_call _ Tryd.func42 rfl rfl my1 (itoaN_fn (((g1)).toNat) _ _ (cvi (σ := B) (by first | omega | assumption | exact Gbk.up (GW.le_lend _ _) (Gbk.fl @F rfl hglb0) | exact Gbk.up E.le0 (Gbk.fl @F rfl hglb0) | exact Gbk.up (GW.le_lend _ _) (Gbk.fl @F rfl hglb) | exact Gbk.up E.le0 (Gbk.fl @F rfl hglb)) ((ef d0 rfl).1 hg)) (by first | omega | assumption | exact Gbk.up (GW.le_lend _ _) (Gbk.fl F8 rfl hglb0) | exact Gbk.up E.le0 (Gbk.fl F8 rfl hglb0) | exact Gbk.up (GW.le_lend _ _) (Gbk.fl F8 rfl hglb) | exact Gbk.up E.le0 (Gbk.fl F8 rfl hglb)) (by first | omega | assumption | exact Gbk.up (GW.le_lend _ _) (Gbk.fl F8 rfl hglb0) | exact Gbk.up E.le0 (Gbk.fl F8 rfl hglb0) | exact Gbk.up (GW.le_lend _ _) (Gbk.fl F8 rfl hglb) | exact Gbk.up E.le0 (Gbk.fl F8 rfl hglb)))) (gT (Ty.grd (((isNilV g2) && (decide ((0 : Int) ≤ (g1)))) = true) (Ty.val (Value.string s))) rfl (by intro A B E G H d0 d1; refine run_guard G rfl rfl dE (eI d0) (fun hg => ?_); obtain ⟨d5, d6⟩ := Bool.and_eq_true_iff.mp hg; have d6 := of_decide_eq_true d6; exact y_move (kp (H 0 rfl) E (kq hs6 sm6 0 (kq hs5 sm5 0 (kq hs4 sm4 0 (kq hs3 sm3 0 (kq hs2 sm2 0 (kq hs1 sm1 0 (D2.k q1))))))))) (gT (Ty.grd (((isNilV g2) && (decide ((0 : Int) ≤ (g1)))) = true) (Ty.bool (decide ((dcB (((g1)).toNat)) = s)))) rfl (by intro A B E G H d0 d1 d2 d3; refine run_guard G rfl rfl dE (eI d2) (fun hg => ?_); obtain ⟨d7, d8⟩ := Bool.and_eq_true_iff.mp hg; have d8 := of_decide_eq_true d8; exact y_seql Tryd.underlying9 ((ef d0 rfl).1 hg) ((ef d1 rfl).1 hg)) (gS rfl (fun A B E G H d0 d1 d2 => rP (y_pick_and (eI d0) (eI d1) rfl)) ?_)))
 refine gB 0 (gB 0 (gE ok8 fun a9 s9 ok9 D3 => ?_)); refine tn (wp_ret ?_)
 exact retL2 rfl ok9 (F8.step0 D3.stp) ⟨g1, (((isNilV g2) && (decide ((0 : Int) ≤ (g1)))) && (decide ((dcB (((g1)).toNat)) = s))), (hasT2 (D3.m 13 rfl) (cvb (by (first | rfl | omega | (simp_all; done) | (simp_all; omega))) (D3.m 14 rfl))), (by exact numP_of (by assumption) (by simp only [Bool.and_eq_true, decide_eq_true_eq, and_assoc]; exact Iff.rfl))⟩


end Go.Proofs.YtfgkhpkbehhflaaDoor
