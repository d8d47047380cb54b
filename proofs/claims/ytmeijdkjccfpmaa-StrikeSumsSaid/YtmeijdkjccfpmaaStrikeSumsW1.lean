/- The functions that the law StrikeSums reaches, each by its contract. Part 1. -/
import Derived.Test.YtmeijdkjccfpmaaStrikeSumsK1
import Derived.Test.YtmeijdkjccfpmaaStrikeSumsK2
import Derived.Test.YtmeijdkjccfpmaaOnceD
import Derived.Test.YtmeijdkjccfpmaaProg
namespace Go.Proofs.Ytmeijdkjccfpmaa
open Go.KL

set_option maxHeartbeats 4000000 in
set_option maxRecDepth 100000 in
theorem fine_fn (x : FV) (σ : GW)  (v0 : Value) (hv0 : Ty.has (Ty.flt x) σ v0)   :
    FnC Try.prog 24 #[v0] σ (Ty.bool (fGe x (some 13965043853221167104) && fLe x (some 4741671816366391296))) := by
 refine fn_intro0 Try.func24 rfl Try.ntmps24 (Nat.le_of_ble_eq_true rfl) (fun s0 a0 hle F0 ok0 hargs => ?_)
 have p0 := pA hle (hargs 0 _ rfl) hv0
 clear hargs; refine wp_seq ?_
 refine gI a0 s0 ok0 (gC (Ty.bool false) (gE ok0 fun a1 s1 ok1 D1 => ?_)); have q1 := D1.kt p0 rfl; refine tn (wp_seq ?_)
 refine gI a1 s1 ok1 (gM q1 (gT (Ty.bool (fGe x (some 13965043853221167104))) rfl (fun A B E G H d0 => rP (y_fgeq (ed d0 rfl rfl rfl) (flt_of (b := 13965043853221167104) (Nat.le_of_ble_eq_true rfl) (Nat.le_of_ble_eq_true rfl) rfl))) (gS rfl (fun A B E G H d0 => rP (y_move (ed d0 rfl rfl rfl))) (gS rfl (fun A B E G H d0 => gu G (ed d0 rfl rfl rfl) fun hg => y_move (kp (H 0 rfl) E q1)) (gT (Ty.grd ((fGe x (some 13965043853221167104)) = true) (Ty.bool (fLe x (some 4741671816366391296)))) rfl (fun A B E G H d0 d1 => gu G (ed d1 rfl rfl rfl) fun hg => y_fleq ((ed d0 rfl rfl rfl).1 hg) (flt_of (b := 4741671816366391296) (Nat.le_of_ble_eq_true rfl) (Nat.le_of_ble_eq_true rfl) rfl)) (gS rfl (fun A B E G H d0 d1 => rP (y_pick_and (ed d0 rfl rfl rfl) (ed d1 rfl rfl rfl) rfl)) (gB 0 (gE ok1 fun a2 s2 ok2 D2 => ?_)))))))); refine tn (wp_ret ?_)
 exact retL1 rfl ok2 ((F0.step0 D1.stp).step0 D2.stp) (cvb (by (first | rfl | omega | (simp_all; done) | (simp_all; omega))) (D2.dn 6 rfl rfl))


set_option maxHeartbeats 4000000 in
set_option maxRecDepth 100000 in
theorem mAbs_fn (x : FV) (σ : GW)  (v0 : Value) (hv0 : Ty.has (Ty.flt x) σ v0)   :
    FnC Try.prog 20 #[v0] σ (Ty.flt (fabs x)) := by
 refine fn_intro0 Try.func20 rfl Try.ntmps20 (Nat.le_of_ble_eq_true rfl) (fun s0 a0 hle F0 ok0 hargs => ?_)
 have p0 := pA hle (hargs 0 _ rfl) hv0
 clear hargs; refine wp_seq ?_
 refine gI a0 s0 ok0 (gC (Ty.val (Value.float FloatKind.f64 0)) (gE ok0 fun a1 s1 ok1 D1 => ?_)); refine tn (wp_seq ?_)
 refine gI a1 s1 ok1 (gM (D1.kt p0 rfl) (gT (Ty.fbits x) rfl (fun A B E G H d0 => rP (y_fbits (fun args_ w_ => run_callFunc_extern Try.func28 (by kernel_rfl) (by kernel_rfl) (by kernel_rfl) (e := Extern.MathFloatBits.float64bits) (by kernel_rfl) args_ w_) (ed d0 rfl rfl rfl))) (gT (Ty.fbits (fabs x)) rfl (fun A B E G H d0 => rP (y_fnosign (ed d0 rfl rfl rfl) rfl)) (gT (Ty.flt (fabs x)) rfl (fun A B E G H d0 d1 => rP (y_fofbits (fun args_ w_ => run_callFunc_extern Try.func27 (by kernel_rfl) (by kernel_rfl) (by kernel_rfl) (e := Extern.MathFloatBits.float64frombits) (by kernel_rfl) args_ w_) (ed d0 rfl rfl rfl))) (gB 0 (gE ok1 fun a2 s2 ok2 D2 => ?_)))))); refine tn (wp_ret ?_)
 exact retL1 rfl ok2 ((F0.step0 D1.stp).step0 D2.stp) (D2.dn 4 rfl rfl)

theorem Try.inf23 : Info Try.prog 23 (.float .f64 0) 1 8 := by unfold Info; kernel_rfl
theorem Try.fld50_0 : fieldOf Try.prog 50 0 = some (23, 0) := by kernel_rfl
theorem Try.fld50_1 : fieldOf Try.prog 50 1 = some (23, 1) := by kernel_rfl
set_option maxHeartbeats 4000000 in
set_option maxRecDepth 100000 in
theorem sumAdd_fn (p : Value) (z : SFV) (x : FV) (σ : GW) (hlow : Low [41] σ) (v0 v1 : Value) (hv0 : Ty.has (Ty.val p) σ v0) (hv1 : Ty.has (Ty.flt x) σ v1) (ho_p : OwnP σ 41 p [(Ty.flt z.1), (Ty.flt z.2)])  :
    FnL Try.prog 18 #[v0, v1] σ [41] (fun v τ => True ∧ (OwnP τ 41 p [(Ty.flt (addS z x).1), (Ty.flt (addS z x).2)])) := by
 refine fn_introL hlow Try.func18 rfl Try.ntmps18 (Nat.le_of_ble_eq_true rfl) (fun a0 F0 ok0 hargs => ?_)
 have p0 := pB (hargs 0 _ rfl) hv0
 have p1 := pB (hargs 1 _ rfl) hv1
 clear hargs; refine wp_seq ?_
 refine gI a0 σ ok0 (gM p0 (gT (Ty.val p) rfl (fun A B E G H d0 => rP (y_nilp (OwnP.k0 ho_p E) (ed d0 rfl rfl rfl))) (gT (Ty.val (ptrAt p 0)) rfl (fun A B E G H d0 => rP (ownp_field Try.fld50_0 Try.inf23 (by decide) (OwnP.k0 ho_p E) (ed d0 rfl rfl rfl))) (gS rfl (fun A B E G H d0 => rP (ownp_load Try.underlying23 rfl (OwnP.k0 ho_p E) (ed d0 rfl rfl rfl) rfl)) (gM p1 (gT (Ty.flt (fadd z.1 x)) rfl (fun A B E G H d0 d1 => rP (y_fadd (ed d0 rfl rfl rfl) (ed d1 rfl rfl rfl))) (gB 0 (gE ok0 fun a1 s1 ok1 D1 => ?_)))))))); have q1 := D1.kt p0 rfl; have q2 := D1.kt p1 rfl; have o1 := OwnP.k0 ho_p D1.stp; refine tn (wp_seq (wp_seq ?_))
 refine gI a1 s1 ok1 (gM q1 (gT (Ty.val p) rfl (fun A B E G H d0 => rP (y_nilp (OwnP.k0 o1 E) (ed d0 rfl rfl rfl))) (gT (Ty.val (ptrAt p 0)) rfl (fun A B E G H d0 => rP (ownp_field Try.fld50_0 Try.inf23 (by decide) (OwnP.k0 o1 E) (ed d0 rfl rfl rfl))) (gS rfl (fun A B E G H d0 => rP (ownp_load Try.underlying23 rfl (OwnP.k0 o1 E) (ed d0 rfl rfl rfl) rfl)) (gS rfl (fun A B E G H d0 => rP (y_call _ Try.func20 rfl rfl my1 (mAbs_fn (z.1) _ _ (ed d0 rfl rfl rfl) ))) (gM q2 (gS rfl (fun A B E G H d0 d1 => rP (y_call _ Try.func20 rfl rfl my1 (mAbs_fn (x) _ _ (ed d0 rfl rfl rfl) ))) (gT (Ty.bool (fGe (fabs (z.1)) (fabs x))) rfl (fun A B E G H d0 d1 => rP (y_fgeq (ed d0 rfl rfl rfl) (ed d1 rfl rfl rfl))) (gE ok1 fun a2 s2 ok2 D2 => ?_))))))))); have F2 := (F0.step0 D1.stp).step0 D2.stp; have q4 := D2.kt q1 rfl; have q5 := D2.kt q2 rfl; have q6 := D2.kt (D1.dn 6 rfl rfl) rfl; have o2 := OwnP.k0 o1 D2.stp; refine tn ?_
 refine cond_t (D2.dn 7 rfl rfl) (fun c1 => ?_) (fun c1 => ?_)
 ·
  refine gI a2 s2 ok2 (gM q4 (gT (Ty.val p) rfl (fun A B E G H d0 => rP (y_nilp (OwnP.k0 o2 E) (ed d0 rfl rfl rfl))) (gT (Ty.val (ptrAt p 1)) rfl (fun A B E G H d0 => rP (ownp_field Try.fld50_1 Try.inf23 (by decide) (OwnP.k0 o2 E) (ed d0 rfl rfl rfl))) (gS rfl (fun A B E G H d0 => rP (ownp_load Try.underlying23 rfl (OwnP.k0 o2 E) (ed d0 rfl rfl rfl) rfl)) (gM q4 (gT (Ty.val p) rfl (fun A B E G H d0 => rP (y_nilp (OwnP.k0 o2 E) (ed d0 rfl rfl rfl))) (gT (Ty.val (ptrAt p 0)) rfl (fun A B E G H d0 => rP (ownp_field Try.fld50_0 Try.inf23 (by decide) (OwnP.k0 o2 E) (ed d0 rfl rfl rfl))) (gS rfl (fun A B E G H d0 => rP (ownp_load Try.underlying23 rfl (OwnP.k0 o2 E) (ed d0 rfl rfl rfl) rfl)) (gM q6 (gT (Ty.flt (fsub z.1 (fadd z.1 x))) rfl (fun A B E G H d0 d1 => rP (y_fsub (ed d0 rfl rfl rfl) (ed d1 rfl rfl rfl))) (gM q5 (gT (Ty.flt (fadd (fsub z.1 (fadd z.1 x)) x)) rfl (fun A B E G H d0 d1 => rP (y_fadd (ed d0 rfl rfl rfl) (ed d1 rfl rfl rfl))) (gT (Ty.flt (fadd z.2 (fadd (fsub z.1 (fadd z.1 x)) x))) rfl (fun A B E G H d0 d1 => rP (y_fadd (ed d0 rfl rfl rfl) (ed d1 rfl rfl rfl))) (gT (Ty.val p) rfl (fun A B E G H d0 d1 d2 d3 d4 d5 d6 d7 d8 d9 d10 d11 d12 d13 => rP (y_nilp (OwnP.k0 o2 E) (ed d0 rfl rfl rfl))) (gT (Ty.val (ptrAt p 1)) rfl (fun A B E G H d0 d1 d2 d3 d4 d5 d6 d7 d8 d9 d10 d11 d12 d13 => rP (ownp_field Try.fld50_1 Try.inf23 (by decide) (OwnP.k0 o2 E) (ed d0 rfl rfl rfl))) (gE2 ok2 fun a3 s3 ok3 D3 => ?_)))))))))))))))); have o3 := OwnP.k0 o2 D3.stp
  refine tailL0 (L := [41]) (R := (fun _ τ => OwnP τ 41 p ([(Ty.flt z.1), (Ty.flt z.2)].set 1 (Ty.flt (fadd z.2 (fadd (fsub z.1 (fadd z.1 x)) x)))))) rfl rfl (YldM.toL (m_storep Try.inf23 (by decide) o3 (D3.dn 14 (by decide) rfl rfl) (Nat.le_of_ble_eq_true rfl) (D3.dn 12 (by decide) rfl rfl) (one_flt))) (fun v1 s4 hs1 r1 => ?_)
  have F4 := (F2.step0 D3.stp).stepL hs1 (by decide); have q12 := kpL hs1 (by decide) rfl (D3.kt q4 rfl); have q13 := kpL hs1 (by decide) rfl (D3.kt q6 rfl)
  have o4 : OwnP s4 41 p [(Ty.flt z.1), (Ty.flt (fadd z.2 (fadd (fsub z.1 (fadd z.1 x)) x)))] := r1
  clear r1; refine wpList_nil (tn ?_)
  refine gI a3 s4 ok3 (gM q12 (gM q13 (gT (Ty.val p) rfl (fun A B E G H d0 d1 d2 => rP (y_nilp (OwnP.k0 o4 E) (ed d0 rfl rfl rfl))) (gT (Ty.val (ptrAt p 0)) rfl (fun A B E G H d0 d1 d2 => rP (ownp_field Try.fld50_0 Try.inf23 (by decide) (OwnP.k0 o4 E) (ed d0 rfl rfl rfl))) (gE2 ok3 fun a4 s5 ok4 D4 => ?_))))); have o5 := OwnP.k0 o4 D4.stp
  refine tailL0 (L := [41]) (R := (fun _ τ => OwnP τ 41 p ([(Ty.flt z.1), (Ty.flt (fadd z.2 (fadd (fsub z.1 (fadd z.1 x)) x)))].set 0 (Ty.flt (fadd z.1 x))))) rfl rfl (YldM.toL (m_storep Try.inf23 (by decide) o5 (D4.dn 3 (by decide) rfl rfl) (Nat.le_of_ble_eq_true rfl) (D4.dn 1 (by decide) rfl rfl) (one_flt))) (fun v2 s6 hs2 r2 => ?_)
  have F6 := (F4.step0 D4.stp).stepL hs2 (by decide)
  have o6 : OwnP s6 41 p [(Ty.flt (fadd z.1 x)), (Ty.flt (fadd z.2 (fadd (fsub z.1 (fadd z.1 x)) x)))] := r2
  clear r2; refine wpList_nil ?_
  exact nL0 rfl ok4 F6 ⟨trivial, (ownp_cell 1 (Ty.flt (addS z x).2) (ownp_cell 0 (Ty.flt (addS z x).1) o6 rfl (fun _ _ h => (cvf (by (rfl)) h))) rfl (fun _ _ h => (cvf (by (simp only [addS, c1, if_true])) h)))⟩
 ·
  refine gI a2 s2 ok2 (gM q4 (gT (Ty.val p) rfl (fun A B E G H d0 => rP (y_nilp (OwnP.k0 o2 E) (ed d0 rfl rfl rfl))) (gT (Ty.val (ptrAt p 1)) rfl (fun A B E G H d0 => rP (ownp_field Try.fld50_1 Try.inf23 (by decide) (OwnP.k0 o2 E) (ed d0 rfl rfl rfl))) (gS rfl (fun A B E G H d0 => rP (ownp_load Try.underlying23 rfl (OwnP.k0 o2 E) (ed d0 rfl rfl rfl) rfl)) (gM q5 (gM q6 (gT (Ty.flt (fsub x (fadd z.1 x))) rfl (fun A B E G H d0 d1 => rP (y_fsub (ed d0 rfl rfl rfl) (ed d1 rfl rfl rfl))) (gM q4 (gT (Ty.val p) rfl (fun A B E G H d0 => rP (y_nilp (OwnP.k0 o2 E) (ed d0 rfl rfl rfl))) (gT (Ty.val (ptrAt p 0)) rfl (fun A B E G H d0 => rP (ownp_field Try.fld50_0 Try.inf23 (by decide) (OwnP.k0 o2 E) (ed d0 rfl rfl rfl))) (gS rfl (fun A B E G H d0 => rP (ownp_load Try.underlying23 rfl (OwnP.k0 o2 E) (ed d0 rfl rfl rfl) rfl)) (gT (Ty.flt (fadd (fsub x (fadd z.1 x)) z.1)) rfl (fun A B E G H d0 d1 => rP (y_fadd (ed d0 rfl rfl rfl) (ed d1 rfl rfl rfl))) (gT (Ty.flt (fadd z.2 (fadd (fsub x (fadd z.1 x)) z.1))) rfl (fun A B E G H d0 d1 => rP (y_fadd (ed d0 rfl rfl rfl) (ed d1 rfl rfl rfl))) (gT (Ty.val p) rfl (fun A B E G H d0 d1 d2 d3 d4 d5 d6 d7 d8 d9 d10 d11 d12 d13 => rP (y_nilp (OwnP.k0 o2 E) (ed d0 rfl rfl rfl))) (gT (Ty.val (ptrAt p 1)) rfl (fun A B E G H d0 d1 d2 d3 d4 d5 d6 d7 d8 d9 d10 d11 d12 d13 => rP (ownp_field Try.fld50_1 Try.inf23 (by decide) (OwnP.k0 o2 E) (ed d0 rfl rfl rfl))) (gE2 ok2 fun a5 s7 ok5 D5 => ?_)))))))))))))))); have o7 := OwnP.k0 o2 D5.stp
  refine tailL0 (L := [41]) (R := (fun _ τ => OwnP τ 41 p ([(Ty.flt z.1), (Ty.flt z.2)].set 1 (Ty.flt (fadd z.2 (fadd (fsub x (fadd z.1 x)) z.1)))))) rfl rfl (YldM.toL (m_storep Try.inf23 (by decide) o7 (D5.dn 14 (by decide) rfl rfl) (Nat.le_of_ble_eq_true rfl) (D5.dn 12 (by decide) rfl rfl) (one_flt))) (fun v3 s8 hs3 r3 => ?_)
  have F8 := (F2.step0 D5.stp).stepL hs3 (by decide); have q22 := kpL hs3 (by decide) rfl (D5.kt q4 rfl); have q23 := kpL hs3 (by decide) rfl (D5.kt q6 rfl)
  have o8 : OwnP s8 41 p [(Ty.flt z.1), (Ty.flt (fadd z.2 (fadd (fsub x (fadd z.1 x)) z.1)))] := r3
  clear r3; refine wpList_nil (tn ?_)
  refine gI a5 s8 ok5 (gM q22 (gM q23 (gT (Ty.val p) rfl (fun A B E G H d0 d1 d2 => rP (y_nilp (OwnP.k0 o8 E) (ed d0 rfl rfl rfl))) (gT (Ty.val (ptrAt p 0)) rfl (fun A B E G H d0 d1 d2 => rP (ownp_field Try.fld50_0 Try.inf23 (by decide) (OwnP.k0 o8 E) (ed d0 rfl rfl rfl))) (gE2 ok5 fun a6 s9 ok6 D6 => ?_))))); have o9 := OwnP.k0 o8 D6.stp
  refine tailL0 (L := [41]) (R := (fun _ τ => OwnP τ 41 p ([(Ty.flt z.1), (Ty.flt (fadd z.2 (fadd (fsub x (fadd z.1 x)) z.1)))].set 0 (Ty.flt (fadd z.1 x))))) rfl rfl (YldM.toL (m_storep Try.inf23 (by decide) o9 (D6.dn 3 (by decide) rfl rfl) (Nat.le_of_ble_eq_true rfl) (D6.dn 1 (by decide) rfl rfl) (one_flt))) (fun v4 s10 hs4 r4 => ?_)
  have F10 := (F8.step0 D6.stp).stepL hs4 (by decide)
  have o10 : OwnP s10 41 p [(Ty.flt (fadd z.1 x)), (Ty.flt (fadd z.2 (fadd (fsub x (fadd z.1 x)) z.1)))] := r4
  clear r4; refine wpList_nil ?_
  exact nL0 rfl ok6 F10 ⟨trivial, (ownp_cell 1 (Ty.flt (addS z x).2) (ownp_cell 0 (Ty.flt (addS z x).1) o10 rfl (fun _ _ h => (cvf (by (rfl)) h))) rfl (fun _ _ h => (cvf (by (simp only [addS, c1, Bool.false_eq_true, if_false])) h)))⟩


set_option maxHeartbeats 4000000 in
set_option maxRecDepth 100000 in
theorem sumVal_fn (p : Value) (z : SFV) (σ : GW) (hlow : Low [41] σ) (v0 : Value) (hv0 : Ty.has (Ty.val p) σ v0) (ho_p : OwnP σ 41 p [(Ty.flt z.1), (Ty.flt z.2)])  :
    FnL Try.prog 19 #[v0] σ [41] (fun v τ => (Ty.has (Ty.flt (valS z)) τ v) ∧ (OwnP τ 41 p [(Ty.flt z.1), (Ty.flt z.2)])) := by
 refine fn_introL hlow Try.func19 rfl Try.ntmps19 (Nat.le_of_ble_eq_true rfl) (fun a0 F0 ok0 hargs => ?_)
 have p0 := pB (hargs 0 _ rfl) hv0
 clear hargs; refine wp_seq ?_
 refine gI a0 σ ok0 (gC (Ty.val (Value.float FloatKind.f64 0)) (gE ok0 fun a1 s1 ok1 D1 => ?_)); have q1 := D1.kt p0 rfl; have o1 := OwnP.k0 ho_p D1.stp; refine tn (wp_seq ?_)
 refine gI a1 s1 ok1 (gM q1 (gT (Ty.val p) rfl (fun A B E G H d0 => rP (y_nilp (OwnP.k0 o1 E) (ed d0 rfl rfl rfl))) (gT (Ty.val (ptrAt p 0)) rfl (fun A B E G H d0 => rP (ownp_field Try.fld50_0 Try.inf23 (by decide) (OwnP.k0 o1 E) (ed d0 rfl rfl rfl))) (gS rfl (fun A B E G H d0 => rP (ownp_load Try.underlying23 rfl (OwnP.k0 o1 E) (ed d0 rfl rfl rfl) rfl)) (gM q1 (gT (Ty.val p) rfl (fun A B E G H d0 => rP (y_nilp (OwnP.k0 o1 E) (ed d0 rfl rfl rfl))) (gT (Ty.val (ptrAt p 1)) rfl (fun A B E G H d0 => rP (ownp_field Try.fld50_1 Try.inf23 (by decide) (OwnP.k0 o1 E) (ed d0 rfl rfl rfl))) (gS rfl (fun A B E G H d0 => rP (ownp_load Try.underlying23 rfl (OwnP.k0 o1 E) (ed d0 rfl rfl rfl) rfl)) (gT (Ty.flt (fadd z.1 z.2)) rfl (fun A B E G H d0 d1 => rP (y_fadd (ed d0 rfl rfl rfl) (ed d1 rfl rfl rfl))) (gB 0 (gE ok1 fun a2 s2 ok2 D2 => ?_))))))))))); have o2 := OwnP.k0 o1 D2.stp; refine tn (wp_ret ?_)
 exact retL1 rfl ok2 ((F0.step0 D1.stp).step0 D2.stp) ⟨(cvf (by (first | rfl | omega | (simp_all; done) | (simp_all; omega))) (D2.dn 9 rfl rfl)), o2⟩

theorem Try.inf50 : Info Try.prog 50 (.agg #[.float .f64 0, .float .f64 0]) 2 16 := by unfold Info; kernel_rfl
set_option maxHeartbeats 4000000 in
set_option maxRecDepth 100000 in
theorem skSum_fn (l : List FV) (σ : GW)  (v0 : Value) (hv0 : Ty.has (Ty.lst Ty.flt l) σ v0)   :
    FnC Try.prog 12 #[v0] σ (Ty.tup2 (Ty.flt (if sumE l = 0 then added l else some 0)) (Ty.int (sumE l))) := by
 refine fn_intro0 Try.func12 rfl Try.ntmps12 (Nat.le_of_ble_eq_true rfl) (fun s0 a0 hle F0 ok0 hargs => ?_)
 have p0 := pA hle (hargs 0 _ rfl) hv0
 have b1 := sl_le p0
 clear hargs; refine wp_seq ?_
 refine gI a0 s0 ok0 (gC (Ty.val (Value.float FloatKind.f64 0)) (gC (Ty.int (0 : Int)) (gE ok0 fun a1 s1 ok1 D1 => ?_))); have q1 := D1.kt p0 rfl; refine tn (wp_seq (wp_seq ?_))
 refine gI a1 s1 ok1 (gM q1 (gS rfl (fun A B E G H d0 => rP (y_len Try.underlying24 (ed d0 rfl rfl rfl))) (gS rfl (fun A B E G H d0 => rP (y_gtr (ed d0 rfl rfl rfl) rfl)) (gE ok1 fun a2 s2 ok2 D2 => ?_)))); have F2 := (F0.step0 D1.stp).step0 D2.stp; refine tn ?_
 refine cond_p (p := ((5000 : Int) < (((List.length l) : Nat) : Int))) (D2.dn 2 rfl rfl) (fun c1 => ?_) (fun c1 => ?_)
 ·
  have h1 : 5000 < l.length := (by omega)
  refine wp_seq ?_
  refine gI a2 s2 ok2 (gC (Ty.val (Value.float FloatKind.f64 0)) (gC (Ty.int (3 : Int)) (gE ok2 fun a3 s3 ok3 D3 => ?_))); refine tn (wp_ret (tr ?_))
  exact retL2 rfl ok3 (F2.step0 D3.stp) (hasT2 (cvf (by (have h0 := sum_3 h1; rw [if_neg (by rw [h0]; decide)])) (flt_of (b := 0) (Nat.le_of_ble_eq_true rfl) (Nat.le_of_ble_eq_true rfl) (D3.dn 0 rfl rfl))) (cvi (by (have h0 := sum_3 h1; rw [h0])) (D3.dn 1 rfl rfl)))
 ·
  have h1 : ¬ 5000 < l.length := (by omega)
  refine wp_skip (tn (wp_seq ?_))
  refine gI a2 s2 ok2 (gR (Pr.ownp 50 [(Ty.val (Value.float .f64 0)), (Ty.val (Value.float .f64 0))]) rfl (by intro A B E G H; exact rP (y_alloc Try.inf50 rfl (alloc_vals (vs := [.float .f64 0, .float .f64 0]) rfl))) (gE ok2 fun a4 s4 ok4 D4 => ?_))
  obtain ⟨x1, hx1⟩ : ∃ x, a4.eval (.tmp 4) = x := ⟨_, rfl⟩
  have q7 : At (Ty.val x1) s4 a4 (.tmp 4) := hx1
  have o1 := al2 (R := (Pr.ownp 50 [(Ty.val (Value.float .f64 0)), (Ty.val (Value.float .f64 0))])) hx1 (D4.done 0)
  refine tn (wp_seq (wp_seq ?_))
  refine gI a4 s4 ok4 (gM (D4.kt (D2.kt q1 rfl) rfl) (gS rfl (fun A B E G H d0 => rP (y_len Try.underlying24 (ed d0 rfl rfl rfl))) (gT (Ty.int (0 : Int)) rfl (fun A B E G H => rP (y_move rfl)) (gE ok4 fun a5 s5 ok5 D5 => ?_)))); have o2 := OwnP.k0 o1 D5.stp; refine tn (wp_block ?_)
  refine loop (fun n1 a6 w1 => ∃ (t1 : GW) (k : Nat), t1.w = w1 ∧ FromL [] s0 t1 ∧ Ok 23 [] a6 ∧ At (Ty.nat k) t1 a6 (.tmp 12) ∧ At (Ty.val x1) t1 a6 (.tmp 4) ∧ At (Ty.lst Ty.flt l) t1 a6 (.tmp 10) ∧ At (Ty.nat (List.length l)) t1 a6 (.tmp 11) ∧ OwnP t1 50 x1 [(Ty.flt (foldTo (getF l) k).1), (Ty.flt (foldTo (getF l) k).2)] ∧ (k ≤ l.length) ∧ (∀ j, j < k → nearF (l.getD j (some 0)) = true) ∧ n1 = l.length - k) (l.length - (0)) ?_ ?_
  ·
   exact ⟨s5, 0, rfl, ((F2.step0 D4.stp).step0 D5.stp), ok5, (cvi (by (first | rfl | omega | (simp_all; done) | (simp_all; omega))) (D5.dn 2 rfl rfl)), (D5.kt q7 rfl), (D5.dn 0 rfl rfl), (D5.dn 1 rfl rfl), (ownp_cell 1 (Ty.flt (foldTo (getF l) (0)).2) (ownp_cell 0 (Ty.flt (foldTo (getF l) (0)).1) o2 rfl (fun _ _ h => (cvf (by (first | rfl | omega | (simp_all; done) | (simp_all; omega))) (flt_of (b := 0) (Nat.le_of_ble_eq_true rfl) (Nat.le_of_ble_eq_true rfl) h)))) rfl (fun _ _ h => (cvf (by (first | rfl | omega | (simp_all; done) | (simp_all; omega))) (flt_of (b := 0) (Nat.le_of_ble_eq_true rfl) (Nat.le_of_ble_eq_true rfl) h)))), by omega, fun j hj => absurd hj (Nat.not_lt_zero j), rfl⟩
  ·
   rintro n2 a7 w2 ⟨t2, k, rfl, F6, ok6, q12, q13, q14, q15, o3, hk, hno, rfl⟩
   refine wp_seq ?_
   refine gI a7 t2 ok6 (gS rfl (fun A B E G H => rP (y_lss (kp (H 12 rfl) E q12) (kp (H 11 rfl) E q15))) (gE ok6 fun a8 s6 ok7 D6 => ?_)); have F7 := F6.step0 D6.stp; have q16 := D6.kt q12 rfl; have q17 := D6.kt q13 rfl; have q18 := D6.kt q14 rfl; have o4 := OwnP.k0 o3 D6.stp; refine tn (wp_seq ?_)
   refine cond_p (p := (((k : Nat) : Int) < (((List.length l) : Nat) : Int))) (D6.dn 0 rfl rfl) (fun c2 => ?_) (fun c2 => ?_)
   ·
    refine wp_skip (tn (wp_seq (wp_block (wp_seq ?_))))
    refine gI a8 s6 ok7 (gT (Ty.ref [(Ty.flt (l.getD k (some 0)))]) rfl (fun A B E G H => rP (y_index1 Try.underlying24 Try.inf23 (kp (H 10 rfl) E q18) (kp (H 12 rfl) E q16) (by omega) (lst_get Ty.flt l (some 0) k (by omega)))) (gS rfl (fun A B E G H d0 => rP (y_load Try.underlying23 rfl (ed d0 rfl rfl rfl) rfl)) (gB 0 (gE ok7 fun a9 s7 ok8 D7 => ?_)))); have o5 := OwnP.k0 o4 D7.stp; have q25 := D7.dn 2 rfl rfl; refine tn (wp_seq (wp_seq ?_))
    refine gI a9 s7 ok8 (gM q25 (gS rfl (fun A B E G H d0 => rP (y_call _ Try.func24 rfl rfl my1 (fine_fn ((l.getD k (some 0))) _ _ (ed d0 rfl rfl rfl) ))) (gS rfl (fun A B E G H d0 => rP (y_not (ed d0 rfl rfl rfl))) (gE ok8 fun a10 s8 ok9 D8 => ?_)))); have F9 := (F7.step0 D7.stp).step0 D8.stp; have o6 := OwnP.k0 o5 D8.stp; refine tn ?_
    refine cond_t (D8.dn 2 rfl rfl) (fun c3 => ?_) (fun c3 => ?_)
    ·
     have hb : nearF (l.getD k (some 0)) = false := (by have c := c3; exact eq_false_of_ne_true (fun h_ => by rw [show (_ && _) = true from h_] at c; cases c))
     refine wp_seq ?_
     refine gI a10 s8 ok9 (gC (Ty.val (Value.float FloatKind.f64 0)) (gC (Ty.int (12 : Int)) (gE ok9 fun a11 s9 ok10 D9 => ?_))); have o7 := OwnP.k0 o6 D9.stp; refine tn (wp_ret (tr (br (tr (tr (br (tr ?_)))))))
     exact retL2 rfl ok10 (F9.step0 D9.stp) (hasT2 (cvf (by (have h0 := sum_12 h1 (by omega) hb; rw [if_neg (by rw [h0]; decide)])) (flt_of (b := 0) (Nat.le_of_ble_eq_true rfl) (Nat.le_of_ble_eq_true rfl) (D9.dn 0 rfl rfl))) (cvi (by (have h0 := sum_12 h1 (by omega) hb; rw [h0])) (D9.dn 1 rfl rfl)))
    ·
     have hb : nearF (l.getD k (some 0)) = true := (by have c := c3; exact eq_true_of_ne_false (fun h_ => by rw [show (_ && _) = false from h_] at c; cases c))
     refine wp_skip (tn ?_)
     refine gI a10 s8 ok9 (gM (D8.kt q25 rfl) (gE2 ok9 fun a12 s10 ok11 D10 => ?_)); have q35 := D10.kt (D8.kt (D7.kt q17 rfl) rfl) rfl; have o8 := OwnP.k0 o6 D10.stp
     refine tL ok11 (y_callL (L := [41]) [(50, 41)] [(41, 50)] #[a12.eval (.tmp 4), a12.eval (.tmp 19)] rfl (by decide) Try.func18 rfl rfl my2 (sumAdd_fn (x1) ((foldTo (getF l) k)) ((l.getD k (some 0))) _ (GW.low_lend _ (by decide)) _ _ (Ty.up _ (GW.le_lend _ _) q35) (Ty.up _ (GW.le_lend _ _) (D10.dn 0 (by decide) rfl rfl)) (OwnP.ren (ownp_cell 1 (Ty.flt ((foldTo (getF l) k)).2) (ownp_cell 0 (Ty.flt ((foldTo (getF l) k)).1) o8 rfl (fun _ _ h => (cvf (by (first | rfl | omega | (simp_all; done) | (simp_all; omega))) h))) rfl (fun _ _ h => (cvf (by (first | rfl | omega | (simp_all; done) | (simp_all; omega))) h))) (GW.ren_lend _ _ (by decide) rfl)) )) fun a13 s11 hs1 ok12 r1 sm1 => ?_
     have F12 := (F9.step0 D10.stp).stepL hs1 (by decide); have q39 := kpL hs1 (by decide) (sm1 12 (by decide)) (D10.kt (D8.kt (D7.kt q16 rfl) rfl) rfl); have q40 := kpL hs1 (by decide) (sm1 4 (by decide)) q35; have q41 := kpL hs1 (by decide) (sm1 10 (by decide)) (D10.kt (D8.kt (D7.kt q18 rfl) rfl) rfl); have q42 := kpL hs1 (by decide) (sm1 11 (by decide)) (D10.kt (D8.kt (D7.kt (D6.kt q15 rfl) rfl) rfl) rfl)
     obtain ⟨t3, ⟨hT1, o9⟩, B1⟩ := r1
     have o10 : OwnP s11 50 x1 [(Ty.flt (addS ((foldTo (getF l) k)) ((l.getD k (some 0)))).1), (Ty.flt (addS ((foldTo (getF l) k)) ((l.getD k (some 0)))).2)] := OwnP.ren o9 (B1.ren (by decide) rfl)
     refine wpList_nil (bn (tn ?_))
     refine gI a13 s11 ok12 (gT (Ty.int (((k : Nat) : Int) + (1 : Int))) rfl (fun A B E G H => rP (y_add (kp (H 12 rfl) E q39) rfl (w64 (by omega) (by omega)))) (gS rfl (fun A B E G H d0 => rP (y_move (ed d0 rfl rfl rfl))) (gE ok12 fun a14 s12 ok13 D11 => ?_))); have o11 := OwnP.k0 o10 D11.stp
     exact tn ⟨l.length - ((k+1)), by omega, s12, (k+1), rfl, (F12.step0 D11.stp), ok13, (cvi (by (first | rfl | omega | (simp_all; done) | (simp_all; omega))) (D11.dn 1 rfl rfl)), (D11.kt q40 rfl), (D11.kt q41 rfl), (D11.kt q42 rfl), (ownp_cell 1 (Ty.flt (foldTo (getF l) ((k+1))).2) (ownp_cell 0 (Ty.flt (foldTo (getF l) ((k+1))).1) o11 rfl (fun _ _ h => (cvf (by (first | rfl | omega | (simp_all; done) | (simp_all; omega))) h))) rfl (fun _ _ h => (cvf (by (first | rfl | omega | (simp_all; done) | (simp_all; omega))) h))), by omega, fun j hj => by (by_cases e : j = k; subst e; exact hb; exact hno j (by omega)), rfl⟩
   ·
    refine wp_exit (tx (tx (bx (tn (wp_seq ?_)))))
    refine gI a8 s6 ok7 (gE2 ok7 fun a15 s13 ok14 D12 => ?_); have o12 := OwnP.k0 o4 D12.stp
    refine tL ok14 (y_callL (L := [41]) [(50, 41)] [(41, 50)] #[a15.eval (.tmp 4)] rfl (by decide) Try.func19 rfl rfl my1 (sumVal_fn (x1) ((foldTo (getF l) k)) _ (GW.low_lend _ (by decide)) _ (Ty.up _ (GW.le_lend _ _) (D12.kt q17 rfl)) (OwnP.ren (ownp_cell 1 (Ty.flt ((foldTo (getF l) k)).2) (ownp_cell 0 (Ty.flt ((foldTo (getF l) k)).1) o12 rfl (fun _ _ h => (cvf (by (first | rfl | omega | (simp_all; done) | (simp_all; omega))) h))) rfl (fun _ _ h => (cvf (by (first | rfl | omega | (simp_all; done) | (simp_all; omega))) h))) (GW.ren_lend _ _ (by decide) rfl)) )) fun a16 s14 hs2 ok15 r2 sm2 => ?_
    have F15 := (F7.step0 D12.stp).stepL hs2 (by decide)
    obtain ⟨t4, ⟨hT2, o13⟩, B2⟩ := r2
    have q49 : At (Ty.flt (valS ((foldTo (getF l) k)))) s14 a16 (.tmp 22) := Ty.up _ B2.le hT2
    have o14 : OwnP s14 50 x1 [(Ty.flt ((foldTo (getF l) k)).1), (Ty.flt ((foldTo (getF l) k)).2)] := OwnP.ren o13 (B2.ren (by decide) rfl)
    refine tL ok15 (Yld.toL (y_as q49)) fun a17 s15 hs3 ok16 r3 sm3 => ?_
    have F16 := F15.stepL hs3 (by decide); have o15 := OwnP.keepL o14 hs3 (by decide) (by decide)
    have q50 : At (Ty.flt (valS ((foldTo (getF l) k)))) s15 a17 (.tmp 2) := r3
    clear r3
    refine tL (R := (fun v τ => Pr.has (Ty.pr (Ty.int (0 : Int))) τ v)) ok16 (Yld.toL (y_assign rfl)) fun a18 s16 hs4 ok17 r4 sm4 => ?_
    have F17 := F16.stepL hs4 (by decide); have q51 := kpL hs4 (by decide) (sm4 2 (by decide)) q50; have o16 := OwnP.keepL o15 hs4 (by decide) (by decide)
    have q52 : At (Ty.int (0 : Int)) s16 a18 (.tmp 3) := r4
    clear r4; refine wpList_nil (tn (wp_ret ?_))
    exact retL2 rfl ok17 F17 (hasT2 (cvf (by (have h0 := sum_0 h1 (fun j hj => hno j (by omega)); rw [if_pos h0, added_get, show k = l.length by omega])) q51) (cvi (by (have h0 := sum_0 h1 (fun j hj => hno j (by omega)); rw [h0])) q52))


set_option maxHeartbeats 4000000 in
set_option maxRecDepth 100000 in
theorem near_fn (x : FV) (σ : GW)  (v0 : Value) (hv0 : Ty.has (Ty.flt x) σ v0)   :
    FnC Try.prog 25 #[v0] σ (Ty.bool (fGe x (some 13965043853221167104) && fLe x (some 4741671816366391296))) := by
 refine fn_intro0 Try.func25 rfl Try.ntmps25 (Nat.le_of_ble_eq_true rfl) (fun s0 a0 hle F0 ok0 hargs => ?_)
 have p0 := pA hle (hargs 0 _ rfl) hv0
 clear hargs; refine wp_seq ?_
 refine gI a0 s0 ok0 (gC (Ty.bool false) (gE ok0 fun a1 s1 ok1 D1 => ?_)); have q1 := D1.kt p0 rfl; refine tn (wp_seq ?_)
 refine gI a1 s1 ok1 (gM q1 (gT (Ty.bool (fGe x (some 13965043853221167104))) rfl (fun A B E G H d0 => rP (y_fgeq (ed d0 rfl rfl rfl) (flt_of (b := 13965043853221167104) (Nat.le_of_ble_eq_true rfl) (Nat.le_of_ble_eq_true rfl) rfl))) (gS rfl (fun A B E G H d0 => rP (y_move (ed d0 rfl rfl rfl))) (gS rfl (fun A B E G H d0 => gu G (ed d0 rfl rfl rfl) fun hg => y_move (kp (H 0 rfl) E q1)) (gT (Ty.grd ((fGe x (some 13965043853221167104)) = true) (Ty.bool (fLe x (some 4741671816366391296)))) rfl (fun A B E G H d0 d1 => gu G (ed d1 rfl rfl rfl) fun hg => y_fleq ((ed d0 rfl rfl rfl).1 hg) (flt_of (b := 4741671816366391296) (Nat.le_of_ble_eq_true rfl) (Nat.le_of_ble_eq_true rfl) rfl)) (gS rfl (fun A B E G H d0 d1 => rP (y_pick_and (ed d0 rfl rfl rfl) (ed d1 rfl rfl rfl) rfl)) (gB 0 (gE ok1 fun a2 s2 ok2 D2 => ?_)))))))); refine tn (wp_ret ?_)
 exact retL1 rfl ok2 ((F0.step0 D1.stp).step0 D2.stp) (cvb (by (first | rfl | omega | (simp_all; done) | (simp_all; omega))) (D2.dn 6 rfl rfl))


set_option maxHeartbeats 4000000 in
set_option maxRecDepth 100000 in
theorem rAdded_fn (xs : List FV) (σ : GW)  (v0 : Value) (hv0 : Ty.has (Ty.lst Ty.flt xs) σ v0)   :
    FnC Try.prog 22 #[v0] σ (Ty.flt (added xs)) := by
 refine fn_intro0 Try.func22 rfl Try.ntmps22 (Nat.le_of_ble_eq_true rfl) (fun s0 a0 hle F0 ok0 hargs => ?_)
 have p0 := pA hle (hargs 0 _ rfl) hv0
 have b1 := sl_le p0
 clear hargs; refine wp_seq ?_
 refine gI a0 s0 ok0 (gC (Ty.val (Value.float FloatKind.f64 0)) (gE ok0 fun a1 s1 ok1 D1 => ?_)); refine tn (wp_seq ?_)
 refine gI a1 s1 ok1 (gC (Ty.val (Value.float FloatKind.f64 0)) (gE ok1 fun a2 s2 ok2 D2 => ?_)); refine tn (wp_seq ?_)
 refine gI a2 s2 ok2 (gC (Ty.val (Value.float FloatKind.f64 0)) (gE ok2 fun a3 s3 ok3 D3 => ?_)); refine tn (wp_seq (wp_seq ?_))
 refine gI a3 s3 ok3 (gC (Ty.int (0 : Int)) (gE ok3 fun a4 s4 ok4 D4 => ?_)); refine tn (wp_block ?_)
 refine loop (fun n1 a5 w1 => ∃ (t1 : GW) (k : Nat), t1.w = w1 ∧ FromL [] s0 t1 ∧ Ok 50 [] a5 ∧ At (Ty.nat k) t1 a5 (.tmp 5) ∧ At (Ty.flt ((xs.take k).foldl addS S0).1) t1 a5 (.tmp 3) ∧ At (Ty.flt ((xs.take k).foldl addS S0).2) t1 a5 (.tmp 4) ∧ At (Ty.lst Ty.flt xs) t1 a5 (.tmp 0) ∧ (k ≤ xs.length) ∧ n1 = xs.length - k) (xs.length - (0)) ?_ ?_
 ·
  exact ⟨s4, 0, rfl, ((((F0.step0 D1.stp).step0 D2.stp).step0 D3.stp).step0 D4.stp), ok4, (cvi (by (first | rfl | omega | (simp_all; done) | (simp_all; omega))) (D4.dn 0 rfl rfl)), (cvf (by (rfl)) (flt_of (b := 0) (Nat.le_of_ble_eq_true rfl) (Nat.le_of_ble_eq_true rfl) (D4.kt (D3.kt (D2.dn 0 rfl rfl) rfl) rfl))), (cvf (by (rfl)) (flt_of (b := 0) (Nat.le_of_ble_eq_true rfl) (Nat.le_of_ble_eq_true rfl) (D4.kt (D3.dn 0 rfl rfl) rfl))), (D4.kt (D3.kt (D2.kt (D1.kt p0 rfl) rfl) rfl) rfl), by omega, rfl⟩
 ·
  rintro n2 a6 w2 ⟨t2, k, rfl, F5, ok5, q11, q12, q13, q14, hk, rfl⟩
  refine wp_seq (wp_seq ?_)
  refine gI a6 t2 ok5 (gM q11 (gM q14 (gS rfl (fun A B E G H d0 => rP (y_len Try.underlying24 (ed d0 rfl rfl rfl))) (gS rfl (fun A B E G H d0 d1 => rP (y_lss (ed d0 rfl rfl rfl) (ed d1 rfl rfl rfl))) (gE ok5 fun a7 s5 ok6 D5 => ?_))))); have F6 := F5.step0 D5.stp; have q15 := D5.kt q11 rfl; have q16 := D5.kt q12 rfl; have q17 := D5.kt q13 rfl; have q18 := D5.kt q14 rfl; refine tn ?_
  refine cond_p (p := (((k : Nat) : Int) < (((List.length xs) : Nat) : Int))) (D5.dn 3 rfl rfl) (fun c1 => ?_) (fun c1 => ?_)
  ·
   have hk2 : k < xs.length := (by omega)
   refine wp_skip (tn (wp_seq (wp_block (wp_seq ?_))))
   refine gI a7 s5 ok6 (gM q18 (gM q15 (gT (Ty.ref [(Ty.flt (xs.getD k (some 0)))]) rfl (fun A B E G H d0 d1 => rP (y_index1 Try.underlying24 Try.inf23 (ed d0 rfl rfl rfl) (ed d1 rfl rfl rfl) (by omega) (lst_get Ty.flt xs (some 0) k (by omega)))) (gS rfl (fun A B E G H d0 => rP (y_load Try.underlying23 rfl (ed d0 rfl rfl rfl) rfl)) (gB 0 (gE ok6 fun a8 s6 ok7 D6 => ?_)))))); have q21 := D6.kt q16 rfl; have q24 := D6.dn 4 rfl rfl; refine tn (wp_seq ?_)
   refine gI a8 s6 ok7 (gM q21 (gM q24 (gT (Ty.flt (fadd ((xs.take k).foldl addS S0).1 (xs.getD k (some 0)))) rfl (fun A B E G H d0 d1 => rP (y_fadd (ed d0 rfl rfl rfl) (ed d1 rfl rfl rfl))) (gB 0 (gE ok7 fun a9 s7 ok8 D7 => ?_))))); have q26 := D7.kt q21 rfl; have q29 := D7.kt q24 rfl; refine tn (wp_seq (wp_seq ?_))
   refine gI a9 s7 ok8 (gM q26 (gS rfl (fun A B E G H d0 => rP (y_call _ Try.func20 rfl rfl my1 (mAbs_fn (((xs.take k).foldl addS S0).1) _ _ (ed d0 rfl rfl rfl) ))) (gM q29 (gS rfl (fun A B E G H d0 d1 => rP (y_call _ Try.func20 rfl rfl my1 (mAbs_fn ((xs.getD k (some 0))) _ _ (ed d0 rfl rfl rfl) ))) (gT (Ty.bool (fGe (fabs (((xs.take k).foldl addS S0).1)) (fabs ((xs.getD k (some 0)))))) rfl (fun A B E G H d0 d1 => rP (y_fgeq (ed d0 rfl rfl rfl) (ed d1 rfl rfl rfl))) (gE ok8 fun a10 s8 ok9 D8 => ?_)))))); have F9 := ((F6.step0 D6.stp).step0 D7.stp).step0 D8.stp; have q31 := D8.kt (D7.kt (D6.kt q15 rfl) rfl) rfl; have q32 := D8.kt q26 rfl; have q33 := D8.kt (D7.kt (D6.kt q17 rfl) rfl) rfl; have q34 := D8.kt (D7.kt (D6.kt q18 rfl) rfl) rfl; have q35 := D8.kt q29 rfl; have q36 := D8.kt (D7.dn 3 rfl rfl) rfl; refine tn ?_
   refine cond_t (D8.dn 4 rfl rfl) (fun c2 => ?_) (fun c2 => ?_)
   ·
    have hc : fGe (fabs ((xs.take k).foldl addS S0).1) (fabs (xs.getD k (some 0))) = true := c2
    refine wp_seq ?_
    refine gI a10 s8 ok9 (gM q32 (gM q36 (gT (Ty.flt (fsub ((xs.take k).foldl addS S0).1 (fadd ((xs.take k).foldl addS S0).1 (xs.getD k (some 0))))) rfl (fun A B E G H d0 d1 => rP (y_fsub (ed d0 rfl rfl rfl) (ed d1 rfl rfl rfl))) (gB 0 (gE ok9 fun a11 s9 ok10 D9 => ?_))))); refine tn (wp_seq ?_)
    refine gI a11 s9 ok10 (gM (D9.dn 3 rfl rfl) (gM (D9.kt q35 rfl) (gT (Ty.flt (fadd (fsub ((xs.take k).foldl addS S0).1 (fadd ((xs.take k).foldl addS S0).1 (xs.getD k (some 0)))) (xs.getD k (some 0)))) rfl (fun A B E G H d0 d1 => rP (y_fadd (ed d0 rfl rfl rfl) (ed d1 rfl rfl rfl))) (gB 0 (gE ok10 fun a12 s10 ok11 D10 => ?_))))); refine tn ?_
    refine gI a12 s10 ok11 (gM (D10.kt (D9.kt q33 rfl) rfl) (gM (D10.dn 3 rfl rfl) (gT (Ty.flt (fadd ((xs.take k).foldl addS S0).2 (fadd (fsub ((xs.take k).foldl addS S0).1 (fadd ((xs.take k).foldl addS S0).1 (xs.getD k (some 0)))) (xs.getD k (some 0))))) rfl (fun A B E G H d0 d1 => rP (y_fadd (ed d0 rfl rfl rfl) (ed d1 rfl rfl rfl))) (gB 0 (gE ok11 fun a13 s11 ok12 D11 => ?_))))); refine tn ?_
    refine gI a13 s11 ok12 (gM (D11.kt (D10.kt (D9.kt q36 rfl) rfl) rfl) (gB 0 (gE ok12 fun a14 s12 ok13 D12 => ?_))); refine bn (tn ?_)
    refine gI a14 s12 ok13 (gM (D12.kt (D11.kt (D10.kt (D9.kt q31 rfl) rfl) rfl) rfl) (gT (Ty.int (((k : Nat) : Int) + (1 : Int))) rfl (fun A B E G H d0 => rP (y_add (ed d0 rfl rfl rfl) rfl (w64 (by omega) (by omega)))) (gB 0 (gE ok13 fun a15 s13 ok14 D13 => ?_))))
    exact tn ⟨xs.length - ((k+1)), by omega, s13, (k+1), rfl, (((((F9.step0 D9.stp).step0 D10.stp).step0 D11.stp).step0 D12.stp).step0 D13.stp), ok14, (cvi (by (first | rfl | omega | (simp_all; done) | (simp_all; omega))) (D13.dn 2 rfl rfl)), (cvf (by (rw [add_yes hk2 hc])) (D13.kt (D12.dn 1 rfl rfl) rfl)), (cvf (by (rw [add_yes hk2 hc])) (D13.kt (D12.kt (D11.dn 3 rfl rfl) rfl) rfl)), (D13.kt (D12.kt (D11.kt (D10.kt (D9.kt q34 rfl) rfl) rfl) rfl) rfl), by omega, rfl⟩
   ·
    have hc : fGe (fabs ((xs.take k).foldl addS S0).1) (fabs (xs.getD k (some 0))) = false := c2
    refine wp_seq ?_
    refine gI a10 s8 ok9 (gM q35 (gM q36 (gT (Ty.flt (fsub (xs.getD k (some 0)) (fadd ((xs.take k).foldl addS S0).1 (xs.getD k (some 0))))) rfl (fun A B E G H d0 d1 => rP (y_fsub (ed d0 rfl rfl rfl) (ed d1 rfl rfl rfl))) (gB 0 (gE ok9 fun a16 s14 ok15 D14 => ?_))))); refine tn (wp_seq ?_)
    refine gI a16 s14 ok15 (gM (D14.dn 3 rfl rfl) (gM (D14.kt q32 rfl) (gT (Ty.flt (fadd (fsub (xs.getD k (some 0)) (fadd ((xs.take k).foldl addS S0).1 (xs.getD k (some 0)))) ((xs.take k).foldl addS S0).1)) rfl (fun A B E G H d0 d1 => rP (y_fadd (ed d0 rfl rfl rfl) (ed d1 rfl rfl rfl))) (gB 0 (gE ok15 fun a17 s15 ok16 D15 => ?_))))); refine tn ?_
    refine gI a17 s15 ok16 (gM (D15.kt (D14.kt q33 rfl) rfl) (gM (D15.dn 3 rfl rfl) (gT (Ty.flt (fadd ((xs.take k).foldl addS S0).2 (fadd (fsub (xs.getD k (some 0)) (fadd ((xs.take k).foldl addS S0).1 (xs.getD k (some 0)))) ((xs.take k).foldl addS S0).1))) rfl (fun A B E G H d0 d1 => rP (y_fadd (ed d0 rfl rfl rfl) (ed d1 rfl rfl rfl))) (gB 0 (gE ok16 fun a18 s16 ok17 D16 => ?_))))); refine tn ?_
    refine gI a18 s16 ok17 (gM (D16.kt (D15.kt (D14.kt q36 rfl) rfl) rfl) (gB 0 (gE ok17 fun a19 s17 ok18 D17 => ?_))); refine bn (tn ?_)
    refine gI a19 s17 ok18 (gM (D17.kt (D16.kt (D15.kt (D14.kt q31 rfl) rfl) rfl) rfl) (gT (Ty.int (((k : Nat) : Int) + (1 : Int))) rfl (fun A B E G H d0 => rP (y_add (ed d0 rfl rfl rfl) rfl (w64 (by omega) (by omega)))) (gB 0 (gE ok18 fun a20 s18 ok19 D18 => ?_))))
    exact tn ⟨xs.length - ((k+1)), by omega, s18, (k+1), rfl, (((((F9.step0 D14.stp).step0 D15.stp).step0 D16.stp).step0 D17.stp).step0 D18.stp), ok19, (cvi (by (first | rfl | omega | (simp_all; done) | (simp_all; omega))) (D18.dn 2 rfl rfl)), (cvf (by (rw [add_no hk2 hc])) (D18.kt (D17.dn 1 rfl rfl) rfl)), (cvf (by (rw [add_no hk2 hc])) (D18.kt (D17.kt (D16.dn 3 rfl rfl) rfl) rfl)), (D18.kt (D17.kt (D16.kt (D15.kt (D14.kt q34 rfl) rfl) rfl) rfl) rfl), by omega, rfl⟩
  ·
   refine wp_exit (tx (tx (bx (tn (wp_seq ?_)))))
   refine gI a7 s5 ok6 (gM q16 (gM q17 (gT (Ty.flt (fadd ((xs.take k).foldl addS S0).1 ((xs.take k).foldl addS S0).2)) rfl (fun A B E G H d0 d1 => rP (y_fadd (ed d0 rfl rfl rfl) (ed d1 rfl rfl rfl))) (gB 0 (gE ok6 fun a21 s19 ok20 D19 => ?_))))); refine tn (wp_ret ?_)
   exact retL1 rfl ok20 (F6.step0 D19.stp) (cvf (by (rw [show k = xs.length by omega, List.take_length]; rfl)) (D19.dn 3 rfl rfl))


set_option maxHeartbeats 4000000 in
set_option maxRecDepth 100000 in
theorem pz_fn (x : FV) (σ : GW)  (v0 : Value) (hv0 : Ty.has (Ty.flt x) σ v0)   :
    FnC Try.prog 23 #[v0] σ (Ty.flt (pzF x)) := by
 refine fn_intro0 Try.func23 rfl Try.ntmps23 (Nat.le_of_ble_eq_true rfl) (fun s0 a0 hle F0 ok0 hargs => ?_)
 have p0 := pA hle (hargs 0 _ rfl) hv0
 clear hargs; refine wp_seq ?_
 refine gI a0 s0 ok0 (gC (Ty.val (Value.float FloatKind.f64 0)) (gE ok0 fun a1 s1 ok1 D1 => ?_)); have q1 := D1.kt p0 rfl; refine tn (wp_seq (wp_seq ?_))
 refine gI a1 s1 ok1 (gM q1 (gT (Ty.bool (fEq x (some 0))) rfl (fun A B E G H d0 => rP (y_feql (ed d0 rfl rfl rfl) (flt_of (b := 0) (Nat.le_of_ble_eq_true rfl) (Nat.le_of_ble_eq_true rfl) rfl))) (gE ok1 fun a2 s2 ok2 D2 => ?_))); have F2 := (F0.step0 D1.stp).step0 D2.stp; refine tn ?_
 refine cond_t (D2.dn 1 rfl rfl) (fun c1 => ?_) (fun c1 => ?_)
 ·
  have hc : fEq x (some 0) = true := c1
  refine wp_seq ?_
  refine gI a2 s2 ok2 (gC (Ty.val (Value.float FloatKind.f64 0)) (gE ok2 fun a3 s3 ok3 D3 => ?_)); refine tn (wp_ret (tr ?_))
  exact retL1 rfl ok3 (F2.step0 D3.stp) (cvf (by (unfold pzF; rw [if_pos hc])) (flt_of (b := 0) (Nat.le_of_ble_eq_true rfl) (Nat.le_of_ble_eq_true rfl) (D3.dn 0 rfl rfl)))
 ·
  have hc : fEq x (some 0) = false := c1
  refine wp_skip (tn (wp_seq ?_))
  refine gI a2 s2 ok2 (gM (D2.kt q1 rfl) (gB 0 (gE ok2 fun a4 s4 ok4 D4 => ?_))); refine tn (wp_ret ?_)
  exact retL1 rfl ok4 (F2.step0 D4.stp) (cvf (by (unfold pzF; rw [if_neg (by rw [hc]; decide)])) (D4.dn 1 rfl rfl))


set_option maxHeartbeats 4000000 in
set_option maxRecDepth 100000 in
theorem rSumOf_fn (l : List FV) (σ : GW)  (v0 : Value) (hv0 : Ty.has (Ty.lst Ty.flt l) σ v0)   :
    FnC Try.prog 13 #[v0] σ (Ty.tup2 (Ty.flt (if sumE l = 0 then pzF (added l) else some 0)) (Ty.int (sumE l))) := by
 refine fn_intro0 Try.func13 rfl Try.ntmps13 (Nat.le_of_ble_eq_true rfl) (fun s0 a0 hle F0 ok0 hargs => ?_)
 have p0 := pA hle (hargs 0 _ rfl) hv0
 have b1 := sl_le p0
 clear hargs; refine wp_seq ?_
 refine gI a0 s0 ok0 (gC (Ty.val (Value.float FloatKind.f64 0)) (gC (Ty.int (0 : Int)) (gE ok0 fun a1 s1 ok1 D1 => ?_))); have q1 := D1.kt p0 rfl; refine tn (wp_seq (wp_seq ?_))
 refine gI a1 s1 ok1 (gM q1 (gS rfl (fun A B E G H d0 => rP (y_len Try.underlying24 (ed d0 rfl rfl rfl))) (gS rfl (fun A B E G H d0 => rP (y_gtr (ed d0 rfl rfl rfl) rfl)) (gE ok1 fun a2 s2 ok2 D2 => ?_)))); have F2 := (F0.step0 D1.stp).step0 D2.stp; refine tn ?_
 refine cond_p (p := ((5000 : Int) < (((List.length l) : Nat) : Int))) (D2.dn 2 rfl rfl) (fun c1 => ?_) (fun c1 => ?_)
 ·
  have h1 : 5000 < l.length := (by omega)
  refine wp_seq ?_
  refine gI a2 s2 ok2 (gC (Ty.val (Value.float FloatKind.f64 0)) (gC (Ty.int (3 : Int)) (gE ok2 fun a3 s3 ok3 D3 => ?_))); refine tn (wp_ret (tr ?_))
  exact retL2 rfl ok3 (F2.step0 D3.stp) (hasT2 (cvf (by (have h0 := sum_3 h1; rw [if_neg (by rw [h0]; decide)])) (flt_of (b := 0) (Nat.le_of_ble_eq_true rfl) (Nat.le_of_ble_eq_true rfl) (D3.dn 0 rfl rfl))) (cvi (by (have h0 := sum_3 h1; rw [h0])) (D3.dn 1 rfl rfl)))
 ·
  have h1 : ¬ 5000 < l.length := (by omega)
  refine wp_skip (tn (wp_seq (wp_seq ?_)))
  refine gI a2 s2 ok2 (gC (Ty.int (0 : Int)) (gE ok2 fun a4 s4 ok4 D4 => ?_)); refine tn (wp_block ?_)
  refine loop (fun n1 a5 w1 => ∃ (t1 : GW) (k : Nat), t1.w = w1 ∧ FromL [] s0 t1 ∧ Ok 25 [] a5 ∧ At (Ty.nat k) t1 a5 (.tmp 4) ∧ At (Ty.lst Ty.flt l) t1 a5 (.tmp 0) ∧ (k ≤ l.length) ∧ (∀ j, j < k → nearF (l.getD j (some 0)) = true) ∧ n1 = l.length - k) (l.length - (0)) ?_ ?_
  ·
   exact ⟨s4, 0, rfl, (F2.step0 D4.stp), ok4, (cvi (by (first | rfl | omega | (simp_all; done) | (simp_all; omega))) (D4.dn 0 rfl rfl)), (D4.kt (D2.kt q1 rfl) rfl), by omega, fun j hj => absurd hj (Nat.not_lt_zero j), rfl⟩
  ·
   rintro n2 a6 w2 ⟨t2, k, rfl, F5, ok5, q8, q9, hk, hno, rfl⟩
   refine wp_seq (wp_seq ?_)
   refine gI a6 t2 ok5 (gM q8 (gM q9 (gS rfl (fun A B E G H d0 => rP (y_len Try.underlying24 (ed d0 rfl rfl rfl))) (gS rfl (fun A B E G H d0 d1 => rP (y_lss (ed d0 rfl rfl rfl) (ed d1 rfl rfl rfl))) (gE ok5 fun a7 s5 ok6 D5 => ?_))))); have F6 := F5.step0 D5.stp; have q10 := D5.kt q8 rfl; have q11 := D5.kt q9 rfl; refine tn ?_
   refine cond_p (p := (((k : Nat) : Int) < (((List.length l) : Nat) : Int))) (D5.dn 3 rfl rfl) (fun c2 => ?_) (fun c2 => ?_)
   ·
    refine wp_skip (tn (wp_seq (wp_block (wp_seq ?_))))
    refine gI a7 s5 ok6 (gM q11 (gM q10 (gT (Ty.ref [(Ty.flt (l.getD k (some 0)))]) rfl (fun A B E G H d0 d1 => rP (y_index1 Try.underlying24 Try.inf23 (ed d0 rfl rfl rfl) (ed d1 rfl rfl rfl) (by omega) (lst_get Ty.flt l (some 0) k (by omega)))) (gS rfl (fun A B E G H d0 => rP (y_load Try.underlying23 rfl (ed d0 rfl rfl rfl) rfl)) (gS rfl (fun A B E G H d0 => rP (y_call _ Try.func25 rfl rfl my1 (near_fn ((l.getD k (some 0))) _ _ (ed d0 rfl rfl rfl) ))) (gB 0 (gE ok6 fun a8 s6 ok7 D6 => ?_))))))); refine tn (wp_seq ?_)
    refine gI a8 s6 ok7 (gM (D6.dn 5 rfl rfl) (gS rfl (fun A B E G H d0 => rP (y_not (ed d0 rfl rfl rfl))) (gE ok7 fun a9 s7 ok8 D7 => ?_))); have F8 := (F6.step0 D6.stp).step0 D7.stp; refine tn ?_
    refine cond_t (D7.dn 1 rfl rfl) (fun c3 => ?_) (fun c3 => ?_)
    ·
     have hb : nearF (l.getD k (some 0)) = false := (by have c := c3; exact eq_false_of_ne_true (fun h_ => by rw [show (_ && _) = true from h_] at c; cases c))
     refine wp_seq ?_
     refine gI a9 s7 ok8 (gC (Ty.val (Value.float FloatKind.f64 0)) (gC (Ty.int (12 : Int)) (gE ok8 fun a10 s8 ok9 D8 => ?_))); refine tn (wp_ret (br (tr (tr (br (tr ?_))))))
     exact retL2 rfl ok9 (F8.step0 D8.stp) (hasT2 (cvf (by (have h0 := sum_12 h1 (by omega) hb; rw [if_neg (by rw [h0]; decide)])) (flt_of (b := 0) (Nat.le_of_ble_eq_true rfl) (Nat.le_of_ble_eq_true rfl) (D8.dn 0 rfl rfl))) (cvi (by (have h0 := sum_12 h1 (by omega) hb; rw [h0])) (D8.dn 1 rfl rfl)))
    ·
     have hb : nearF (l.getD k (some 0)) = true := (by have c := c3; exact eq_true_of_ne_false (fun h_ => by rw [show (_ && _) = false from h_] at c; cases c))
     refine wp_skip (bn (tn ?_))
     refine gI a9 s7 ok8 (gM (D7.kt (D6.kt q10 rfl) rfl) (gT (Ty.int (((k : Nat) : Int) + (1 : Int))) rfl (fun A B E G H d0 => rP (y_add (ed d0 rfl rfl rfl) rfl (w64 (by omega) (by omega)))) (gB 0 (gE ok8 fun a11 s9 ok10 D9 => ?_))))
     exact tn ⟨l.length - ((k+1)), by omega, s9, (k+1), rfl, (F8.step0 D9.stp), ok10, (cvi (by (first | rfl | omega | (simp_all; done) | (simp_all; omega))) (D9.dn 2 rfl rfl)), (D9.kt (D7.kt (D6.kt q11 rfl) rfl) rfl), by omega, fun j hj => by (by_cases e : j = k; subst e; exact hb; exact hno j (by omega)), rfl⟩
   ·
    refine wp_exit (tx (tx (bx (tn (wp_seq ?_)))))
    refine gI a7 s5 ok6 (gM q11 (gS rfl (fun A B E G H d0 => rP (y_call _ Try.func22 rfl rfl my1 (rAdded_fn (l) _ _ (ed d0 rfl rfl rfl) ))) (gS rfl (fun A B E G H d0 d1 => rP (y_call _ Try.func23 rfl rfl my1 (pz_fn ((added (l))) _ _ (ed d0 rfl rfl rfl) ))) (gB 0 (gC (Ty.int (0 : Int)) (gE ok6 fun a12 s10 ok11 D10 => ?_)))))); refine tn (wp_ret ?_)
    exact retL2 rfl ok11 (F6.step0 D10.stp) (hasT2 (cvf (by (have h0 := sum_0 h1 (fun j hj => hno j (by omega)); rw [if_pos h0])) (D10.dn 3 rfl rfl)) (cvi (by (have h0 := sum_0 h1 (fun j hj => hno j (by omega)); rw [h0])) (D10.dn 4 rfl rfl)))

theorem Try.inf36 : Info Try.prog 36 (.agg (Array.replicate 8 (.complex .f64 0 0))) 8 128 := by unfold Info; kernel_rfl
theorem Try.inf69 : Info Try.prog 69 (.agg #[.int .u32 0, .int .i32 0, .int .u32 0]) 3 12 := by unfold Info; kernel_rfl
theorem Try.fld71_0 : fieldOf Try.prog 71 0 = some (69, 0) := by kernel_rfl
theorem Try.fld71_1 : fieldOf Try.prog 71 1 = some (36, 3) := by kernel_rfl
set_option maxHeartbeats 4000000 in
set_option maxRecDepth 100000 in
theorem turns_fn (p : Value) (mk : Bool) (σ : GW) (hlow : Low [60] σ) (v0 : Value) (hv0 : Ty.has (Ty.val p) σ v0) (ho_p : OwnP σ 60 p [(Ty.val (Value.int .u32 (dn mk))), (Ty.val (Value.int .i32 0)), (Ty.val (Value.int .u32 0)), (Ty.cx (cw mk 0)), (Ty.cx (cw mk 1)), (Ty.cx (cw mk 2)), (Ty.cx (cw mk 3)), (Ty.cx (cw mk 4)), (Ty.cx (cw mk 5)), (Ty.cx (cw mk 6)), (Ty.cx (cw mk 7))])  :
    FnL Try.prog 26 #[v0] σ [60] (fun v τ => (Ty.has (Ty.agg [(Ty.cx (cw true 0)), (Ty.cx (cw true 1)), (Ty.cx (cw true 2)), (Ty.cx (cw true 3)), (Ty.cx (cw true 4)), (Ty.cx (cw true 5)), (Ty.cx (cw true 6)), (Ty.cx (cw true 7))]) τ v) ∧ (OwnP τ 60 p [(Ty.val (Value.int .u32 (dn true))), (Ty.val (Value.int .i32 0)), (Ty.val (Value.int .u32 0)), (Ty.cx (cw true 0)), (Ty.cx (cw true 1)), (Ty.cx (cw true 2)), (Ty.cx (cw true 3)), (Ty.cx (cw true 4)), (Ty.cx (cw true 5)), (Ty.cx (cw true 6)), (Ty.cx (cw true 7))])) := by
 refine fn_introL hlow Try.func26 rfl Try.ntmps26 (Nat.le_of_ble_eq_true rfl) (fun a0 F0 ok0 hargs => ?_)
 have p0 := pB (hargs 0 _ rfl) hv0
 clear hargs; refine wp_seq ?_
 refine gI a0 σ ok0 (gT (Ty.ref [(Ty.val p)]) rfl (fun A B E G H => rP (y_box1 (one_val (OwnP.one (OwnP.k0 ho_p E))) (kp (H 0 rfl) E p0))) (gR (Pr.ownp 61 [(Ty.cx C0), (Ty.cx C0), (Ty.cx C0), (Ty.cx C0), (Ty.cx C0), (Ty.cx C0), (Ty.cx C0), (Ty.cx C0)]) rfl (by intro A B E G H; exact rP (y_alloc Try.inf36 (by simp [Value.cells]) (alloc_zero 8 (by intro σ; exact cx_zero)))) (gE ok0 fun a1 s1 ok1 D1 => ?_))); have o1 := OwnP.k0 ho_p D1.stp; have q1 := D1.dn 0 rfl rfl
 obtain ⟨x1, hx1⟩ : ∃ x, a1.eval (.tmp 2) = x := ⟨_, rfl⟩
 have q2 : At (Ty.val x1) s1 a1 (.tmp 2) := hx1
 have o2 := al2 (R := (Pr.ownp 61 [(Ty.cx C0), (Ty.cx C0), (Ty.cx C0), (Ty.cx C0), (Ty.cx C0), (Ty.cx C0), (Ty.cx C0), (Ty.cx C0)])) hx1 (D1.done 1)
 refine tn (wp_seq ?_)
 refine gI a1 s1 ok1 (gS rfl (fun A B E G H => rP (y_load Try.underlying77 rfl (kp (H 1 rfl) E q1) rfl)) (gT (Ty.val p) rfl (fun A B E G H d0 => rP (y_nilp (OwnP.k0 o1 E) (ed d0 rfl rfl rfl))) (gT (Ty.val (ptrAt p 0)) rfl (fun A B E G H d0 => rP (ownp_field Try.fld71_0 Try.inf69 (by decide) (OwnP.k0 o1 E) (ed d0 rfl rfl rfl))) (gT (Ty.clo 31 [(Ty.val p)]) rfl (fun A B E G H => rP (y_clo (kp (H 1 rfl) E q1))) (gE2 ok1 fun a2 s2 ok2 D2 => ?_))))); have o3 := OwnP.k0 o1 D2.stp; have o4 := OwnP.k0 o2 D2.stp
 refine tL ok2 (y_callL (L := [60]) [(60, 60)] [(60, 60)] #[a2.eval (.tmp 5), a2.eval (.tmp 6)] rfl (by decide) Try.func30 rfl rfl my2 (onceDo_fn (p) (_) _ (GW.low_lend _ (by decide)) _ _ (Ty.up _ (GW.le_lend _ _) (D2.dn 2 (by decide) rfl rfl)) (Ty.up _ (GW.le_lend _ _) (D2.dn 3 (by decide) rfl rfl)) (OwnP.ren o3 (GW.ren_lend _ _ (by decide) rfl)) )) fun a3 s3 hs1 ok3 r1 sm1 => ?_
 have F3 := ((F0.step0 D1.stp).step0 D2.stp).stepL hs1 (by decide); have q7 := kpL hs1 (by decide) (sm1 1 (by decide)) (D2.kt q1 rfl); have q8 := kpL hs1 (by decide) (sm1 2 (by decide)) (D2.kt q2 rfl); have o7 := OwnP.keepL o4 hs1 (by decide) (by decide)
 obtain ⟨t1, ⟨hT1, o5⟩, B1⟩ := r1
 have o6 : OwnP s3 60 p [(Ty.val (Value.int .u32 (dn true))), (Ty.val (Value.int .i32 0)), (Ty.val (Value.int .u32 0)), (Ty.cx (cw true 0)), (Ty.cx (cw true 1)), (Ty.cx (cw true 2)), (Ty.cx (cw true 3)), (Ty.cx (cw true 4)), (Ty.cx (cw true 5)), (Ty.cx (cw true 6)), (Ty.cx (cw true 7))] := OwnP.ren o5 (B1.ren (by decide) rfl)
 refine wpList_nil (tn (wp_seq ?_))
 refine gI a3 s3 ok3 (gS rfl (fun A B E G H => rP (y_load Try.underlying77 rfl (kp (H 1 rfl) E q7) rfl)) (gT (Ty.val p) rfl (fun A B E G H d0 => rP (y_nilp (OwnP.k0 o6 E) (ed d0 rfl rfl rfl))) (gT (Ty.val (ptrAt p 3)) rfl (fun A B E G H d0 => rP (ownp_field Try.fld71_1 Try.inf36 (by decide) (OwnP.k0 o6 E) (ed d0 rfl rfl rfl))) (gT (Ty.agg [(Ty.cx (cw true 0)), (Ty.cx (cw true 1)), (Ty.cx (cw true 2)), (Ty.cx (cw true 3)), (Ty.cx (cw true 4)), (Ty.cx (cw true 5)), (Ty.cx (cw true 6)), (Ty.cx (cw true 7))]) rfl (fun A B E G H d0 => rP (ownp_loadsubA (o := 3) (n := 8) Try.underlying36 Try.inf36 (Nat.le_of_ble_eq_true rfl) (OwnP.k0 o6 E) (ed d0 rfl rfl rfl))) (gE2 ok3 fun a4 s4 ok4 D3 => ?_))))); have q10 := D3.kt q8 rfl; have o8 := OwnP.k0 o7 D3.stp; have o9 := OwnP.k0 o6 D3.stp
 refine tailL0 (L := [61]) (R := (fun _ τ => OwnP τ 61 x1 [(Ty.cx (cw true 0)), (Ty.cx (cw true 1)), (Ty.cx (cw true 2)), (Ty.cx (cw true 3)), (Ty.cx (cw true 4)), (Ty.cx (cw true 5)), (Ty.cx (cw true 6)), (Ty.cx (cw true 7))])) rfl rfl (YldM.toL (m_storeagg Try.inf36 (by decide) o8 q10 rfl (D3.dn 3 (by decide) rfl rfl) (by intro U hU; simp only [List.mem_cons, List.not_mem_nil, or_false] at hU; rcases hU with rfl | rfl | rfl | rfl | rfl | rfl | rfl | rfl <;> first | exact one_val rfl | exact one_sl | exact one_flt | exact one_cx | exact one_ref))) (fun v1 s5 hs2 r2 => ?_)
 have F5 := (F3.step0 D3.stp).stepL hs2 (by decide); have q12 := kpL hs2 (by decide) rfl q10; have o11 := OwnP.keepL o9 hs2 (by decide) (by decide)
 have o10 : OwnP s5 61 x1 [(Ty.cx (cw true 0)), (Ty.cx (cw true 1)), (Ty.cx (cw true 2)), (Ty.cx (cw true 3)), (Ty.cx (cw true 4)), (Ty.cx (cw true 5)), (Ty.cx (cw true 6)), (Ty.cx (cw true 7))] := r2
 clear r2; refine wpList_nil (tn (wp_ret ?_))
 have o12 : OwnP s5 61 x1 [(Ty.cx (cw true 0)), (Ty.cx (cw true 1)), (Ty.cx (cw true 2)), (Ty.cx (cw true 3)), (Ty.cx (cw true 4)), (Ty.cx (cw true 5)), (Ty.cx (cw true 6)), (Ty.cx (cw true 7))] := o10
 exact retL1cA (k := 61) (ts := [(Ty.cx (cw true 0)), (Ty.cx (cw true 1)), (Ty.cx (cw true 2)), (Ty.cx (cw true 3)), (Ty.cx (cw true 4)), (Ty.cx (cw true 5)), (Ty.cx (cw true 6)), (Ty.cx (cw true 7))]) rfl ok4 F5 Try.underlying36 Try.inf36 (al (R := (Pr.ownp 61 [(Ty.cx (cw true 0)), (Ty.cx (cw true 1)), (Ty.cx (cw true 2)), (Ty.cx (cw true 3)), (Ty.cx (cw true 4)), (Ty.cx (cw true 5)), (Ty.cx (cw true 6)), (Ty.cx (cw true 7))])) q12 o12) (fun v_ hv_ => ⟨hv_, o11⟩)


end Go.Proofs.Ytmeijdkjccfpmaa
