/- The functions that the law CallSays reaches, each by its contract. Part 4. -/
import Derived.Test.YtbilebfnanlgfaaDoorCallSaysW3
namespace Go.Proofs.YtbilebfnanlgfaaDoor
open Go.KL
theorem Tryd.inf54 : Info Tryd.prog 54 (.pointer none) 1 8 := by unfold Info; kernel_rfl
theorem Tryd.inf57 : Info Tryd.prog 57 (.agg #[.pointer none, .slice none 0 0]) 2 32 := by unfold Info; kernel_rfl
theorem Tryd.fld57_0 : fieldOf Tryd.prog 57 0 = some (54, 0) := by kernel_rfl
set_option maxHeartbeats 4000000 in
set_option maxRecDepth 100000 in
theorem copyCheck_fn (b buf : Value) (nb : Bool) (σ : GW) (hlow : Low [40] σ) (v0 : Value) (hv0 : Ty.has (Ty.val b) σ v0) (ho_b : OwnPT 57 σ 40 b [(Ty.val (bAddr nb b)), (Ty.val buf)])  :
    FnL Tryd.prog 47 #[v0] σ [40] (fun v τ => True ∧ (OwnPT 57 τ 40 b [(Ty.val (bAddr false b)), (Ty.val buf)])) := by
 refine fn_introL hlow Tryd.func47 rfl Tryd.ntmps47 (Nat.le_of_ble_eq_true rfl) (fun a0 F0 ok0 hargs => ?_)
 have p0 : At (Ty.val b) σ a0 (.tmp 0) := by have e := hargs 0 _ rfl; show Ty.has _ _ _; rw [e]; exact hv0
 clear hargs; refine wp_seq ?_
 refine reg (a := a0) (σ := σ) rfl (fun i_ => List.getD [(Ty.pr (Ty.val b)), (Ty.pr (Ty.val b)), (Ty.pr (Ty.val (ptrAt b 0))), (Ty.pr (Ty.val (bAddr nb b))), (Ty.pr (Ty.bool nb))] i_ Pr.any) ok0 rfl ⟨?_, ?_, ?_, ?_, ?_, trivial⟩ ?_
 · intro A B E G H; exact rP (y_move (kp (H 0 rfl) E p0))
 · intro A B E G H d0; exact rP (y_nilp (OwnPT.toP (OwnPT.k0 ho_b E)) (ed d0 rfl rfl rfl))
 · intro A B E G H d0; exact rP (ownp_field Tryd.fld57_0 Tryd.inf54 (by decide) (OwnPT.toP (OwnPT.k0 ho_b E)) (ed d0 rfl rfl rfl))
 · intro A B E G H d0; exact rP (ownp_load Tryd.underlying54 rfl (OwnPT.toP (OwnPT.k0 ho_b E)) (ed d0 rfl rfl rfl) rfl)
 · intro A B E G H d0; exact rP (y_bnil Tryd.underlying54 Tryd.inf57 (OwnPT.k0 ho_b E) (ed d0 rfl rfl rfl) rfl)
 intro a1 s1 D1; have ok1 := D1.ok; have F1 := F0.step0 D1.stp; have q1 := D1.kt p0 rfl; have o1 := OwnPT.k0 ho_b D1.stp; have q2 := D1.dn 4 rfl rfl; clear D1; refine tn ?_
 refine cond_t q2 (fun c1 => ?_) (fun c1 => ?_)
 ·
  refine reg2 (a := a1) (σ := s1) rfl 7 (fun i_ => List.getD [(Ty.pr (Ty.val b)), (Ty.pr (Ty.val b)), (Ty.pr (Ty.val b)), (Ty.pr (Ty.val b)), (Ty.pr (Ty.val b)), (Ty.pr (Ty.val b)), (Ty.pr (Ty.val (ptrAt b 0)))] i_ Pr.any) ok1 rfl (by decide) rfl ⟨?_, ?_, ?_, ?_, ?_, ?_, ?_, trivial⟩ ?_
  · intro A B E G H; exact rP (y_move (kp (H 0 rfl) E q1))
  · intro A B E G H; exact rP (y_move (kp (H 0 rfl) E q1))
  · intro A B E G H d0; exact rP (y_tounsafe Tryd.underlying54 Tryd.underlying85 Tryd.inf57 (by decide) (OwnPT.k0 o1 E) (Nat.le_of_ble_eq_true rfl) (ed d0 rfl rfl rfl))
  · intro A B E G H d0; exact rP (y_extern (R := (Ty.val b)) #[b] (by simp only [List.map_toArray, List.map_cons, List.map_nil, (show A.eval (.tmp 9) = _ from (ed d0 rfl rfl rfl))]) (by rw [run_callFunc_extern Tryd.func61 (by kernel_rfl) (by kernel_rfl) (by kernel_rfl) (e := Extern.AbiNoEscape.same) (by kernel_rfl), Lib.run_noEscape]; rfl) rfl)
  · intro A B E G H d0; exact rP (y_fromunsafe Tryd.underlying85 Tryd.underlying54 Tryd.inf57 (OwnPT.k0 o1 E) (ed d0 rfl rfl rfl) (by kernel_rfl))
  · intro A B E G H d0 d1 d2 d3 d4 d5; exact rP (y_nilp (OwnPT.toP (OwnPT.k0 o1 E)) (ed d0 rfl rfl rfl))
  · intro A B E G H d0 d1 d2 d3 d4 d5; exact rP (ownp_field Tryd.fld57_0 Tryd.inf54 (by decide) (OwnPT.toP (OwnPT.k0 o1 E)) (ed d0 rfl rfl rfl))
  intro a2 s2 D2; have ok2 := D2.ok; have F2 := F1.step0 D2.stp; have o2 := OwnPT.k0 o1 D2.stp; have q3 := D2.dn 4 (by decide) rfl rfl; have q4 := D2.dn 6 (by decide) rfl rfl; clear D2
  refine tailL0 (L := [40]) (R := (fun _ τ => OwnPT 57 τ 40 b ([(Ty.val (bAddr nb b)), (Ty.val buf)].set 0 (Ty.val b)))) rfl rfl (YldM.toL (m_storept Tryd.inf54 (by decide) o2 q4 (Nat.le_of_ble_eq_true rfl) q3 (one_val (OwnPT.one o2)))) (fun v1 s3 hs1 r1 => ?_)
  have F3 := F2.stepL hs1 (by decide)
  have o3 : OwnPT 57 s3 40 b [(Ty.val b), (Ty.val buf)] := r1
  clear r1; refine wpList_nil ?_
  exact nL0 rfl ok2 F3 ⟨trivial, (ownpt_cell 0 (Ty.val (bAddr false b)) o3 rfl (fun _ _ h => (cvt (by (first | rfl | omega | (simp_all; done) | (simp_all; omega))) h)))⟩
 ·
  refine wp_seq ?_
  refine rg a1 s1 [(Ty.val b), (Ty.val b), (Ty.val (ptrAt b 0)), (Ty.val (bAddr nb b)), (Ty.val b), (Ty.bool false)] ok1 ⟨?_, ?_, ?_, ?_, ?_, ?_, trivial⟩ ?_
  · intro A B E G H; exact rP (y_move (kp (H 0 rfl) E q1))
  · intro A B E G H d0; exact rP (y_nilp (OwnPT.toP (OwnPT.k0 o1 E)) (ed d0 rfl rfl rfl))
  · intro A B E G H d0; exact rP (ownp_field Tryd.fld57_0 Tryd.inf54 (by decide) (OwnPT.toP (OwnPT.k0 o1 E)) (ed d0 rfl rfl rfl))
  · intro A B E G H d0; exact rP (ownp_load Tryd.underlying54 rfl (OwnPT.toP (OwnPT.k0 o1 E)) (ed d0 rfl rfl rfl) rfl)
  · intro A B E G H; exact rP (y_move (kp (H 0 rfl) E q1))
  · intro A B E G H d0 d1; exact rP (y_bself Tryd.underlying54 Tryd.inf57 (OwnPT.k0 o1 E) (bAddr_f (by assumption) (ed d0 rfl rfl rfl)) (ed d1 rfl rfl rfl))
  intro a3 s4 D3; have ok3 := D3.ok; have F4 := F1.step0 D3.stp; have o4 := OwnPT.k0 o1 D3.stp; have q6 := D3.dn 5 rfl rfl; clear D3; refine tn ?_
  refine cond_t q6 (fun c2 => (by cases c2)) (fun _ => ?_)
  refine wp_skip ?_
  exact nL0 rfl ok3 F4 ⟨trivial, (ownpt_cell 0 (Ty.val (bAddr false b)) o4 rfl (fun _ _ h => (cvt (by (rw [c1])) h)))⟩

theorem Tryd.inf5 : Info Tryd.prog 5 (.int .u8 0) 1 1 := by unfold Info; kernel_rfl
theorem Tryd.inf55 : Info Tryd.prog 55 (.slice none 0 0) 1 24 := by unfold Info; kernel_rfl
theorem Tryd.fld57_1 : fieldOf Tryd.prog 57 1 = some (55, 1) := by kernel_rfl
set_option maxHeartbeats 4000000 in
set_option maxRecDepth 100000 in
theorem writeString_fn (b buf : Value) (nb : Bool) (l : List UInt8) (s : ByteArray) (σ : GW) (hlow : Low [40, 41] σ) (v0 v1 : Value) (hv0 : Ty.has (Ty.val b) σ v0) (hv1 : Ty.has (Ty.val (Value.string s)) σ v1) (ho_b : OwnPT 57 σ 40 b [(Ty.val (bAddr nb b)), (Ty.val buf)]) (ho_buf : Own σ 41 5 1 buf (List.length l) (List.map Ty.byte l)) (hl : l.length ≤ 1000000000) (E : s.size ≤ 1000000000) :
    FnL Tryd.prog 30 #[v0, v1] σ [40, 41] (fun v τ => ∃ (bz : Value), (Ty.has (Ty.tup2 (Ty.nat (ByteArray.size s)) (Ty.val Value.nilIface)) τ v) ∧ (OwnPT 57 τ 40 b [(Ty.val (bAddr false b)), (Ty.val bz)]) ∧ (Own τ 41 5 1 bz (List.length (l ++ (ByteArray.data s).toList)) (List.map Ty.byte (l ++ (ByteArray.data s).toList)))) := by
 refine fn_introL hlow Tryd.func30 rfl Tryd.ntmps30 (Nat.le_of_ble_eq_true rfl) (fun a0 F0 ok0 hargs => ?_)
 have p0 : At (Ty.val b) σ a0 (.tmp 0) := by have e := hargs 0 _ rfl; show Ty.has _ _ _; rw [e]; exact hv0
 have p1 : At (Ty.val (Value.string s)) σ a0 (.tmp 1) := by have e := hargs 1 _ rfl; show Ty.has _ _ _; rw [e]; exact hv1
 clear hargs; refine wp_seq ?_
 refine reg (a := a0) (σ := σ) rfl (fun i_ => List.getD [(Ty.pr (Ty.int (0 : Int))), (Ty.pr (Ty.val Value.nilIface))] i_ Pr.any) ok0 rfl ⟨?_, ?_, trivial⟩ ?_
 · intro A B E G H; exact rP (y_assign rfl)
 · intro A B E G H d0; exact rP (y_assign rfl)
 intro a1 s1 D1; have ok1 := D1.ok; have F1 := F0.step0 D1.stp; have q1 := D1.kt p0 rfl; have q2 := D1.kt p1 rfl; have o1 := OwnPT.k0 ho_b D1.stp; have o2 := Own.k0 ho_buf D1.stp; clear D1; refine tn ?_; refine wp_seq ?_
 refine reg2 (a := a1) (σ := s1) rfl 1 (fun i_ => List.getD [(Ty.pr (Ty.val b))] i_ Pr.any) ok1 rfl (by decide) rfl ⟨?_, trivial⟩ ?_
 · intro A B E G H; exact rP (y_move (kp (H 0 rfl) E q1))
 intro a2 s2 D2; have ok2 := D2.ok; have F2 := F1.step0 D2.stp; have q3 := D2.kt q1 rfl; have q4 := D2.kt q2 rfl; have o3 := OwnPT.k0 o1 D2.stp; have o4 := Own.k0 o2 D2.stp; have q5 := D2.dn 0 (by decide) rfl rfl; clear D2
 refine tailL (L := [40]) (R := (fun v τ' => ∃ τ, (fun v τ => True ∧ (OwnPT 57 τ 40 b [(Ty.val (bAddr false b)), (Ty.val buf)])) v τ ∧ Back [(40, 40)] τ τ')) rfl rfl (by decide) ok2 (y_callL (L := [40]) [(40, 40)] [(40, 40)] #[a2.eval (.tmp 6)] rfl (by decide) Tryd.func47 rfl rfl (by simp only [List.map_toArray, List.map_cons, List.map_nil]) (copyCheck_fn (b) (buf) (nb) _ (GW.low_lend _ (by decide)) _ (Ty.up _ (GW.le_lend _ _) q5) (OwnPT.ren o3 (GW.ren_lend _ _ (by decide) rfl)) )) (fun a3 s3 hs1 ok3 r1 sm1 => ?_)
 have F3 := F2.stepL hs1 (by decide); have q6 := kpL hs1 (by decide) (sm1 0 (by decide)) q3; have q7 := kpL hs1 (by decide) (sm1 1 (by decide)) q4; have o7 := Own.keepL o4 hs1 (by decide) (by decide)
 obtain ⟨t1, ⟨hT1, o5⟩, B1⟩ := r1
 have o6 : OwnPT 57 s3 40 b [(Ty.val (bAddr false b)), (Ty.val buf)] := OwnPT.ren o5 (B1.ren (by decide) rfl)
 refine wpList_nil ?_; refine tn ?_; refine wp_seq ?_
 refine reg2 (a := a3) (σ := s3) rfl 6 (fun i_ => List.getD [(Ty.pr (Ty.val b)), (Ty.pr (Ty.val b)), (Ty.pr (Ty.val b)), (Ty.pr (Ty.val (ptrAt b 1))), (Ty.pr (Ty.val buf)), (Ty.pr (Ty.val (Value.string s)))] i_ Pr.any) ok3 rfl (by decide) rfl ⟨?_, ?_, ?_, ?_, ?_, ?_, trivial⟩ ?_
 · intro A B E G H; exact rP (y_move (kp (H 0 rfl) E q6))
 · intro A B E G H; exact rP (y_move (kp (H 0 rfl) E q6))
 · intro A B E G H d0; exact rP (y_nilp (OwnPT.toP (OwnPT.k0 o6 E)) (ed d0 rfl rfl rfl))
 · intro A B E G H d0; exact rP (ownp_field Tryd.fld57_1 Tryd.inf55 (by decide) (OwnPT.toP (OwnPT.k0 o6 E)) (ed d0 rfl rfl rfl))
 · intro A B E G H d0; exact rP (ownp_load Tryd.underlying55 rfl (OwnPT.toP (OwnPT.k0 o6 E)) (ed d0 rfl rfl rfl) rfl)
 · intro A B E G H; exact rP (y_move (kp (H 1 rfl) E q7))
 intro a4 s4 D3; have ok4 := D3.ok; have F4 := F3.step0 D3.stp; have q9 := D3.kt q7 rfl; have o8 := Own.k0 o7 D3.stp; have o9 := OwnPT.k0 o6 D3.stp; have q10 := D3.dn 0 (by decide) rfl rfl; have q11 := D3.dn 4 (by decide) rfl rfl; have q12 := D3.dn 5 (by decide) rfl rfl; clear D3
 refine tailL (L := [41]) (R := (fun v τ => Own τ 41 5 1 v ((List.length l) + ByteArray.size s) ((List.map Ty.byte l) ++ (ByteArray.data s).toList.map Ty.byte))) rfl rfl (by decide) ok4 (YldM.toL (m_appendS Tryd.underlying55 Tryd.underlying9 Tryd.inf5 (by decide) (al (R := (Pr.own 41 5 1 (List.length l) (List.map Ty.byte l))) q11 o8) q12 (by omega))) (fun a5 s5 hs2 ok5 r2 sm2 => ?_)
 have F5 := F4.stepL hs2 (by decide); have q13 := kpL hs2 (by decide) (sm2 1 (by decide)) q9; have q14 := kpL hs2 (by decide) (sm2 8 (by decide)) q10; have o11 := OwnPT.keepL o9 hs2 (by decide) (by decide)
 obtain ⟨x1, hx1⟩ : ∃ x, a5.eval (.tmp 14) = x := ⟨_, rfl⟩
 have q15 : At (Ty.val x1) s5 a5 (.tmp 14) := hx1
 have o10 : Own s5 41 5 1 x1 (List.length (l ++ (ByteArray.data s).toList)) (List.map Ty.byte (l ++ (ByteArray.data s).toList)) := al2 (R := (Pr.own 41 5 1 (List.length (l ++ (ByteArray.data s).toList)) (List.map Ty.byte (l ++ (ByteArray.data s).toList)))) hx1 (cvo (by simp) (by rw [List.map_append]) r2)
 clear r2
 refine tailL (L := []) (R := (fun v τ => Pr.has (Ty.pr (Ty.val b)) τ v)) rfl rfl (by decide) ok5 (Yld.toL (y_nilp (OwnPT.toP o11) q14)) (fun a6 s6 hs3 ok6 r3 sm3 => ?_)
 have F6 := F5.stepL hs3 (by decide); have q16 := kpL hs3 (by decide) (sm3 1 (by decide)) q13; have q17 := kpL hs3 (by decide) (sm3 14 (by decide)) q15; have o12 := OwnPT.keepL o11 hs3 (by decide) (by decide); have o13 := Own.keepL o10 hs3 (by decide) (by decide)
 have q18 : At (Ty.val b) s6 a6 (.tmp 15) := r3
 clear r3
 refine tailL (L := []) (R := (fun v τ => Pr.has (Ty.pr (Ty.val (ptrAt b 1))) τ v)) rfl rfl (by decide) ok6 (Yld.toL (ownp_field Tryd.fld57_1 Tryd.inf55 (by decide) (OwnPT.toP o12) q18)) (fun a7 s7 hs4 ok7 r4 sm4 => ?_)
 have F7 := F6.stepL hs4 (by decide); have q19 := kpL hs4 (by decide) (sm4 1 (by decide)) q16; have q20 := kpL hs4 (by decide) (sm4 14 (by decide)) q17; have o14 := OwnPT.keepL o12 hs4 (by decide) (by decide); have o15 := Own.keepL o13 hs4 (by decide) (by decide)
 have q21 : At (Ty.val (ptrAt b 1)) s7 a7 (.tmp 16) := r4
 clear r4
 refine tailL0 (L := [40]) (R := (fun _ τ => OwnPT 57 τ 40 b ([(Ty.val (bAddr false b)), (Ty.val buf)].set 1 (Ty.val x1)))) rfl rfl (YldM.toL (m_storept Tryd.inf55 (by decide) o14 q21 (Nat.le_of_ble_eq_true rfl) q20 (one_val (Own.one o15)))) (fun v1 s8 hs5 r5 => ?_)
 have F8 := F7.stepL hs5 (by decide); have q22 := kpL hs5 (by decide) rfl q19; have o17 := Own.keepL o15 hs5 (by decide) (by decide)
 have o16 : OwnPT 57 s8 40 b [(Ty.val (bAddr false b)), (Ty.val x1)] := r5
 clear r5; refine wpList_nil ?_; refine tn ?_; refine wp_seq ?_
 refine rg a7 s8 [(Ty.val (Value.string s)), (Ty.nat (ByteArray.size s)), (Ty.nat (ByteArray.size s)), (Ty.val Value.nilIface)] ok7 ⟨?_, ?_, ?_, ?_, trivial⟩ ?_
 · intro A B E G H; exact rP (y_move (kp (H 1 rfl) E q22))
 · intro A B E G H d0; exact rP (y_len_str Tryd.underlying9 (ed d0 rfl rfl rfl))
 · intro A B E G H d0 d1 d2; exact rP (y_assign (ed d0 rfl rfl rfl))
 · intro A B E G H d0 d1 d2 d3; exact rP (y_assign rfl)
 intro a8 s9 D4; have ok8 := D4.ok; have F9 := F8.step0 D4.stp; have o18 := Own.k0 o17 D4.stp; have o19 := OwnPT.k0 o16 D4.stp; have q24 := D4.dn 2 rfl rfl; have q25 := D4.dn 3 rfl rfl; clear D4; refine tn ?_; refine wp_ret ?_
 exact retL2 rfl ok8 F9 ⟨x1, (hasT2 q24 q25), o19, o18⟩


set_option maxHeartbeats 4000000 in
set_option maxRecDepth 100000 in
theorem appendRuneNA_fn (buf : Value) (l : List UInt8) (c : Int) (σ : GW) (hlow : Low [41] σ) (v0 v1 : Value) (hv0 : Ty.has (Ty.val buf) σ v0) (hv1 : Ty.has (Ty.val (Value.int .i32 c)) σ v1) (ho_buf : Own σ 41 5 1 buf (List.length l) (List.map Ty.byte l)) (hl : l.length ≤ 1000000000) (hc : -2147483648 ≤ c ∧ c ≤ 2147483647) (h1 : 127 < c % 4294967296) :
    FnL Tryd.prog 63 #[v0, v1] σ [41] (fun v τ => ∃ (bz : Value), (Ty.has (Ty.val bz) τ v) ∧ (Own τ 41 5 1 bz (List.length (l ++ (ByteArray.data (Utf8.encode c)).toList)) (List.map Ty.byte (l ++ (ByteArray.data (Utf8.encode c)).toList)))) := by
 have e1_ : c % 256 % 64 = c % 64 := by omega
 have e2_ : c / 64 % 256 % 64 = c / 64 % 64 := by omega
 have e3_ : c / 4096 % 256 % 64 = c / 4096 % 64 := by omega
 refine fn_introL hlow Tryd.func63 rfl Tryd.ntmps63 (Nat.le_of_ble_eq_true rfl) (fun a0 F0 ok0 hargs => ?_)
 have p0 : At (Ty.val buf) σ a0 (.tmp 0) := by have e := hargs 0 _ rfl; show Ty.has _ _ _; rw [e]; exact hv0
 have p1 : At (Ty.val (Value.int .i32 c)) σ a0 (.tmp 1) := by have e := hargs 1 _ rfl; show Ty.has _ _ _; rw [e]; exact hv1
 clear hargs; refine wp_seq ?_
 refine reg (a := a0) (σ := σ) rfl (fun i_ => List.getD [(Ty.pr (Ty.val (Value.slice none 0 0)))] i_ Pr.any) ok0 rfl ⟨?_, trivial⟩ ?_
 · intro A B E G H; exact rP (y_assign rfl)
 intro a1 s1 D1; have ok1 := D1.ok; have F1 := F0.step0 D1.stp; have q1 := D1.kt p0 rfl; have q2 := D1.kt p1 rfl; have o1 := Own.k0 ho_buf D1.stp; clear D1; refine tn ?_; refine wp_seq ?_
 refine rg a1 s1 [(Ty.val (Value.int .i32 c)), (Ty.val (Value.int .u32 (c % 4294967296))), (Ty.val (Value.int .u32 (c % 4294967296)))] ok1 ⟨?_, ?_, ?_, trivial⟩ ?_
 · intro A B E G H; exact rP (y_move (kp (H 1 rfl) E q2))
 · intro A B E G H d0; exact rP (y_conv (m := (c % 4294967296)) Tryd.underlying88 (ed d0 rfl rfl rfl) (by exact wrap_u32m c) (by rw [Tryd.underlying21]; rfl))
 · intro A B E G H d0 d1 d2; exact rP (y_assign (ed d0 rfl rfl rfl))
 intro a2 s2 D2; have ok2 := D2.ok; have F2 := F1.step0 D2.stp; have q3 := D2.kt q1 rfl; have q4 := D2.kt q2 rfl; have o2 := Own.k0 o1 D2.stp; have q5 := D2.dn 2 rfl rfl; clear D2; refine tn ?_; refine wp_block ?_; refine wp_seq ?_
 refine rg a2 s2 [(Ty.val (Value.int .u32 (c % 4294967296))), (Ty.bool (decide ((c % 4294967296) ≤ (2047 : Int)))), (Ty.bool (decide ((c % 4294967296) ≤ (2047 : Int))))] ok2 ⟨?_, ?_, ?_, trivial⟩ ?_
 · intro A B E G H; exact rP (y_move (kp (H 5 rfl) E q5))
 · intro A B E G H d0; exact rP (y_leq (ed d0 rfl rfl rfl) rfl)
 · intro A B E G H d0; exact rP (y_assign (ed d0 rfl rfl rfl))
 intro a3 s3 D3; have ok3 := D3.ok; have F3 := F2.step0 D3.stp; have q6 := D3.kt q3 rfl; have q7 := D3.kt q4 rfl; have q8 := D3.kt q5 rfl; have o3 := Own.k0 o2 D3.stp; have q9 := D3.dn 2 rfl rfl; clear D3; refine tn ?_
 refine cond_p (p := ((c % 4294967296) ≤ (2047 : Int))) q9 (fun c1 => ?_) (fun c1 => ?_)
 ·
  refine wp_seq ?_
  refine reg2 (a := a3) (σ := s3) rfl 10 (fun i_ => List.getD [(Ty.pr (Ty.val buf)), (Ty.pr (Ty.val (Value.int .i32 c))), (Ty.pr (Ty.val (Value.int .i32 (c / 64)))), (Ty.pr (Ty.val (Value.int .u8 (c / 64)))), (Ty.pr (Ty.val (Value.int .u8 (192 + (c / 64))))), (Ty.pr (Ty.val (Value.int .i32 c))), (Ty.pr (Ty.val (Value.int .u8 (c % 256)))), (Ty.pr (Ty.val (Value.int .u8 ((c % 256) % 64)))), (Ty.pr (Ty.val (Value.int .u8 (128 + ((c % 256) % 64))))), (Ty.pr (Ty.sl 1 2 [(Ty.byte (bt (192 + (c / 64)))), (Ty.byte (bt (128 + ((c % 256) % 64))))]))] i_ Pr.any) ok3 rfl (by decide) rfl ⟨?_, ?_, ?_, ?_, ?_, ?_, ?_, ?_, ?_, ?_, trivial⟩ ?_
  · intro A B E G H; exact rP (y_move (kp (H 0 rfl) E q6))
  · intro A B E G H; exact rP (y_move (kp (H 1 rfl) E q7))
  · intro A B E G H d0; exact rP (y_shr6 (ed d0 rfl rfl rfl) rfl)
  · intro A B E G H d0; exact rP (y_conv Tryd.underlying5 (ed d0 rfl rfl rfl) (by exact wrap_u8 (by omega) (by omega)) (by rw [Tryd.underlying21]; rfl))
  · intro A B E G H d0; exact rP (y_or8 (i := 5) (m := 6) rfl (ed d0 rfl rfl rfl) (by omega) (by omega) (by decide) (by omega))
  · intro A B E G H; exact rP (y_move (kp (H 1 rfl) E q7))
  · intro A B E G H d0; exact rP (y_conv (m := (c % 256)) Tryd.underlying5 (ed d0 rfl rfl rfl) (by exact wrap_u8m c) (by rw [Tryd.underlying21]; rfl))
  · intro A B E G H d0; exact rP (y_and8 (ed d0 rfl rfl rfl) rfl (by omega) (by omega))
  · intro A B E G H d0; exact rP (y_or8 (i := 6) (m := 2) rfl (ed d0 rfl rfl rfl) (by omega) (by omega) (by decide) (by omega))
  · intro A B E G H d0 d1; exact rP (y_build2 Tryd.underlying55 Tryd.inf5 rfl (one_val rfl) (one_val rfl) (cvByte (by omega) (by omega) (ed d0 rfl rfl rfl)) (cvByte (by omega) (by omega) (ed d1 rfl rfl rfl)))
  intro a4 s4 D4; have ok4 := D4.ok; have F4 := F3.step0 D4.stp; have o4 := Own.k0 o3 D4.stp; have q10 := D4.dn 0 (by decide) rfl rfl; have q11 := D4.dn 9 (by decide) rfl rfl
  have b1 := sl_le q11
  clear D4
  refine tailL (L := [41]) (R := (fun v τ => Own τ 41 5 1 v ((List.length l) + 2) ((List.map Ty.byte l) ++ [(Ty.byte (bt (192 + (c / 64)))), (Ty.byte (bt (128 + ((c % 256) % 64))))]))) rfl rfl (by decide) ok4 (YldM.toL (m_append Tryd.underlying55 Tryd.inf5 (by decide) rfl (by decide) (al (R := (Pr.own 41 5 1 (List.length l) (List.map Ty.byte l))) q10 o4) q11 (by intro U hU; simp at hU; rcases hU with rfl | rfl <;> exact one_val rfl) (by omega) (by omega))) (fun a5 s5 hs1 ok5 r1 sm1 => ?_)
  have F5 := F4.stepL hs1 (by decide)
  obtain ⟨x1, hx1⟩ : ∃ x, a5.eval (.tmp 24) = x := ⟨_, rfl⟩
  have q12 : At (Ty.val x1) s5 a5 (.tmp 24) := hx1
  have o5 : Own s5 41 5 1 x1 (List.length (l ++ [(bt (192 + (c / 64))), (bt (128 + ((c % 256) % 64)))])) (List.map Ty.byte (l ++ [(bt (192 + (c / 64))), (bt (128 + ((c % 256) % 64)))])) := al2 (R := (Pr.own 41 5 1 (List.length (l ++ [(bt (192 + (c / 64))), (bt (128 + ((c % 256) % 64)))])) (List.map Ty.byte (l ++ [(bt (192 + (c / 64))), (bt (128 + ((c % 256) % 64)))])))) hx1 (cvo (by simp) (by first | (rw [List.map_append]; rfl) | simp) r1)
  clear r1
  refine tailL (L := []) (R := (fun v τ => Pr.has (Ty.pr (Ty.val x1)) τ v)) rfl rfl (by decide) ok5 (Yld.toL (y_assign q12)) (fun a6 s6 hs2 ok6 r2 sm2 => ?_)
  have F6 := F5.stepL hs2 (by decide); have o6 := Own.keepL o5 hs2 (by decide) (by decide)
  have q13 : At (Ty.val x1) s6 a6 (.tmp 4) := r2
  clear r2; refine wpList_nil ?_; refine tn ?_; refine wp_ret ?_; refine br ?_
  exact retL1 rfl ok6 F6 ⟨x1, q13, (cvo (by (rw [enc_2 (by omega) (by omega), e1_])) (by (rw [enc_2 (by omega) (by omega), e1_])) o6)⟩
 ·
  refine wp_seq ?_; refine wp_seq ?_
  refine rg a3 s3 [(Ty.val (Value.int .u32 (c % 4294967296))), (Ty.bool (decide ((c % 4294967296) < (55296 : Int)))), (Ty.bool (decide ((c % 4294967296) < (55296 : Int))))] ok3 ⟨?_, ?_, ?_, trivial⟩ ?_
  · intro A B E G H; exact rP (y_move (kp (H 5 rfl) E q8))
  · intro A B E G H d0; exact rP (y_lss (ed d0 rfl rfl rfl) rfl)
  · intro A B E G H d0; exact rP (y_assign (ed d0 rfl rfl rfl))
  intro a7 s7 D5; have ok7 := D5.ok; have F7 := F3.step0 D5.stp; have q14 := D5.kt q6 rfl; have q15 := D5.kt q7 rfl; have q16 := D5.kt q8 rfl; have o7 := Own.k0 o3 D5.stp; have q17 := D5.dn 2 rfl rfl; clear D5; refine tn ?_
  refine cond_p (p := ((c % 4294967296) < (55296 : Int))) q17 (fun c2 => ?_) (fun c2 => ?_)
  ·
   refine wp_skip ?_; refine tn ?_
   refine cond_p (p := ((c % 4294967296) < (55296 : Int))) q17 (fun c3 => ?_) (fun c3 => ?_)
   ·
    refine wp_seq ?_
    refine reg2 (a := a7) (σ := s7) rfl 15 (fun i_ => List.getD [(Ty.pr (Ty.val buf)), (Ty.pr (Ty.val (Value.int .i32 c))), (Ty.pr (Ty.val (Value.int .i32 (c / 4096)))), (Ty.pr (Ty.val (Value.int .u8 (c / 4096)))), (Ty.pr (Ty.val (Value.int .u8 (224 + (c / 4096))))), (Ty.pr (Ty.val (Value.int .i32 c))), (Ty.pr (Ty.val (Value.int .i32 (c / 64)))), (Ty.pr (Ty.val (Value.int .u8 (c / 64 % 256)))), (Ty.pr (Ty.val (Value.int .u8 ((c / 64 % 256) % 64)))), (Ty.pr (Ty.val (Value.int .u8 (128 + ((c / 64 % 256) % 64))))), (Ty.pr (Ty.val (Value.int .i32 c))), (Ty.pr (Ty.val (Value.int .u8 (c % 256)))), (Ty.pr (Ty.val (Value.int .u8 ((c % 256) % 64)))), (Ty.pr (Ty.val (Value.int .u8 (128 + ((c % 256) % 64))))), (Ty.pr (Ty.sl 1 3 [(Ty.byte (bt (224 + (c / 4096)))), (Ty.byte (bt (128 + ((c / 64 % 256) % 64)))), (Ty.byte (bt (128 + ((c % 256) % 64))))]))] i_ Pr.any) ok7 rfl (by decide) rfl ⟨?_, ?_, ?_, ?_, ?_, ?_, ?_, ?_, ?_, ?_, ?_, ?_, ?_, ?_, ?_, trivial⟩ ?_
    · intro A B E G H; exact rP (y_move (kp (H 0 rfl) E q14))
    · intro A B E G H; exact rP (y_move (kp (H 1 rfl) E q15))
    · intro A B E G H d0; exact rP (y_shr12 (ed d0 rfl rfl rfl) rfl)
    · intro A B E G H d0; exact rP (y_conv Tryd.underlying5 (ed d0 rfl rfl rfl) (by exact wrap_u8 (by omega) (by omega)) (by rw [Tryd.underlying21]; rfl))
    · intro A B E G H d0; exact rP (y_or8 (i := 4) (m := 14) rfl (ed d0 rfl rfl rfl) (by omega) (by omega) (by decide) (by omega))
    · intro A B E G H; exact rP (y_move (kp (H 1 rfl) E q15))
    · intro A B E G H d0; exact rP (y_shr6 (ed d0 rfl rfl rfl) rfl)
    · intro A B E G H d0; exact rP (y_conv (m := (c / 64 % 256)) Tryd.underlying5 (ed d0 rfl rfl rfl) (by exact wrap_u8m _) (by rw [Tryd.underlying21]; rfl))
    · intro A B E G H d0; exact rP (y_and8 (ed d0 rfl rfl rfl) rfl (by omega) (by omega))
    · intro A B E G H d0; exact rP (y_or8 (i := 6) (m := 2) rfl (ed d0 rfl rfl rfl) (by omega) (by omega) (by decide) (by omega))
    · intro A B E G H; exact rP (y_move (kp (H 1 rfl) E q15))
    · intro A B E G H d0; exact rP (y_conv (m := (c % 256)) Tryd.underlying5 (ed d0 rfl rfl rfl) (by exact wrap_u8m c) (by rw [Tryd.underlying21]; rfl))
    · intro A B E G H d0; exact rP (y_and8 (ed d0 rfl rfl rfl) rfl (by omega) (by omega))
    · intro A B E G H d0; exact rP (y_or8 (i := 6) (m := 2) rfl (ed d0 rfl rfl rfl) (by omega) (by omega) (by decide) (by omega))
    · intro A B E G H d0 d1 d2; exact rP (y_build3 Tryd.underlying55 Tryd.inf5 rfl (one_val rfl) (one_val rfl) (one_val rfl) (cvByte (by omega) (by omega) (ed d0 rfl rfl rfl)) (cvByte (by omega) (by omega) (ed d1 rfl rfl rfl)) (cvByte (by omega) (by omega) (ed d2 rfl rfl rfl)))
    intro a8 s8 D6; have ok8 := D6.ok; have F8 := F7.step0 D6.stp; have o8 := Own.k0 o7 D6.stp; have q18 := D6.dn 0 (by decide) rfl rfl; have q19 := D6.dn 14 (by decide) rfl rfl
    have b2 := sl_le q19
    clear D6
    refine tailL (L := [41]) (R := (fun v τ => Own τ 41 5 1 v ((List.length l) + 3) ((List.map Ty.byte l) ++ [(Ty.byte (bt (224 + (c / 4096)))), (Ty.byte (bt (128 + ((c / 64 % 256) % 64)))), (Ty.byte (bt (128 + ((c % 256) % 64))))]))) rfl rfl (by decide) ok8 (YldM.toL (m_append Tryd.underlying55 Tryd.inf5 (by decide) rfl (by decide) (al (R := (Pr.own 41 5 1 (List.length l) (List.map Ty.byte l))) q18 o8) q19 (by intro U hU; simp at hU; rcases hU with rfl | rfl | rfl <;> exact one_val rfl) (by omega) (by omega))) (fun a9 s9 hs3 ok9 r3 sm3 => ?_)
    have F9 := F8.stepL hs3 (by decide)
    obtain ⟨x2, hx2⟩ : ∃ x, a9.eval (.tmp 49) = x := ⟨_, rfl⟩
    have q20 : At (Ty.val x2) s9 a9 (.tmp 49) := hx2
    have o9 : Own s9 41 5 1 x2 (List.length (l ++ [(bt (224 + (c / 4096))), (bt (128 + ((c / 64 % 256) % 64))), (bt (128 + ((c % 256) % 64)))])) (List.map Ty.byte (l ++ [(bt (224 + (c / 4096))), (bt (128 + ((c / 64 % 256) % 64))), (bt (128 + ((c % 256) % 64)))])) := al2 (R := (Pr.own 41 5 1 (List.length (l ++ [(bt (224 + (c / 4096))), (bt (128 + ((c / 64 % 256) % 64))), (bt (128 + ((c % 256) % 64)))])) (List.map Ty.byte (l ++ [(bt (224 + (c / 4096))), (bt (128 + ((c / 64 % 256) % 64))), (bt (128 + ((c % 256) % 64)))])))) hx2 (cvo (by simp) (by first | (rw [List.map_append]; rfl) | simp) r3)
    clear r3
    refine tailL (L := []) (R := (fun v τ => Pr.has (Ty.pr (Ty.val x2)) τ v)) rfl rfl (by decide) ok9 (Yld.toL (y_assign q20)) (fun a10 s10 hs4 ok10 r4 sm4 => ?_)
    have F10 := F9.stepL hs4 (by decide); have o10 := Own.keepL o9 hs4 (by decide) (by decide)
    have q21 : At (Ty.val x2) s10 a10 (.tmp 4) := r4
    clear r4; refine wpList_nil ?_; refine tn ?_; refine wp_ret ?_; refine br ?_
    exact retL1 rfl ok10 F10 ⟨x2, q21, (cvo (by (rw [enc_3 (by omega) (by omega) (by omega), e1_, e2_])) (by (rw [enc_3 (by omega) (by omega) (by omega), e1_, e2_])) o10)⟩
   ·
    exfalso
    omega
  ·
   refine rg a7 s7 [(Ty.val (Value.int .u32 (c % 4294967296))), (Ty.bool (decide ((57343 : Int) < (c % 4294967296)))), (Ty.bool (decide ((57343 : Int) < (c % 4294967296)))), (Ty.grd ((decide ((57343 : Int) < (c % 4294967296))) = true) (Ty.val (Value.int .u32 (c % 4294967296)))), (Ty.grd ((decide ((57343 : Int) < (c % 4294967296))) = true) (Ty.bool (decide ((c % 4294967296) ≤ (65535 : Int))))), (Ty.bool ((decide ((57343 : Int) < (c % 4294967296))) && (decide ((c % 4294967296) ≤ (65535 : Int))))), (Ty.bool ((decide ((57343 : Int) < (c % 4294967296))) && (decide ((c % 4294967296) ≤ (65535 : Int)))))] ok7 ⟨?_, ?_, ?_, ?_, ?_, ?_, ?_, trivial⟩ ?_
   · intro A B E G H; exact rP (y_move (kp (H 5 rfl) E q16))
   · intro A B E G H d0; exact rP (y_lss rfl (ed d0 rfl rfl rfl))
   · intro A B E G H d0; exact rP (y_move (ed d0 rfl rfl rfl))
   · intro A B E G H d0
     refine run_guard G rfl rfl (by decide) (ed d0 rfl rfl rfl) (fun hg => ?_)
     have hp := of_decide_eq_true hg
     exact y_move (kp (H 5 rfl) E q16)
   · intro A B E G H d0 d1
     refine run_guard G rfl rfl (by decide) (ed d1 rfl rfl rfl) (fun hg => ?_)
     have hp := of_decide_eq_true hg
     exact y_leq ((ed d0 rfl rfl rfl).1 hg) rfl
   · intro A B E G H d0 d1; exact rP (y_pick_and (ed d0 rfl rfl rfl) (ed d1 rfl rfl rfl) rfl)
   · intro A B E G H d0 d1; exact rP (y_assign (ed d0 rfl rfl rfl))
   intro a11 s11 D7; have ok11 := D7.ok; have F11 := F7.step0 D7.stp; have q22 := D7.kt q14 rfl; have q23 := D7.kt q15 rfl; have q24 := D7.kt q16 rfl; have o11 := Own.k0 o7 D7.stp; have q25 := D7.dn 6 rfl rfl; clear D7; refine tn ?_
   refine cond_t q25 (fun c4 => ?_) (fun c4 => ?_)
   ·
    obtain ⟨d1, d2⟩ := Bool.and_eq_true_iff.mp c4
    replace d1 := of_decide_eq_true d1
    replace d2 := of_decide_eq_true d2
    simp only [Bool.and_eq_true, decide_eq_true_eq] at c4
    refine wp_seq ?_
    refine reg2 (a := a11) (σ := s11) rfl 15 (fun i_ => List.getD [(Ty.pr (Ty.val buf)), (Ty.pr (Ty.val (Value.int .i32 c))), (Ty.pr (Ty.val (Value.int .i32 (c / 4096)))), (Ty.pr (Ty.val (Value.int .u8 (c / 4096)))), (Ty.pr (Ty.val (Value.int .u8 (224 + (c / 4096))))), (Ty.pr (Ty.val (Value.int .i32 c))), (Ty.pr (Ty.val (Value.int .i32 (c / 64)))), (Ty.pr (Ty.val (Value.int .u8 (c / 64 % 256)))), (Ty.pr (Ty.val (Value.int .u8 ((c / 64 % 256) % 64)))), (Ty.pr (Ty.val (Value.int .u8 (128 + ((c / 64 % 256) % 64))))), (Ty.pr (Ty.val (Value.int .i32 c))), (Ty.pr (Ty.val (Value.int .u8 (c % 256)))), (Ty.pr (Ty.val (Value.int .u8 ((c % 256) % 64)))), (Ty.pr (Ty.val (Value.int .u8 (128 + ((c % 256) % 64))))), (Ty.pr (Ty.sl 1 3 [(Ty.byte (bt (224 + (c / 4096)))), (Ty.byte (bt (128 + ((c / 64 % 256) % 64)))), (Ty.byte (bt (128 + ((c % 256) % 64))))]))] i_ Pr.any) ok11 rfl (by decide) rfl ⟨?_, ?_, ?_, ?_, ?_, ?_, ?_, ?_, ?_, ?_, ?_, ?_, ?_, ?_, ?_, trivial⟩ ?_
    · intro A B E G H; exact rP (y_move (kp (H 0 rfl) E q22))
    · intro A B E G H; exact rP (y_move (kp (H 1 rfl) E q23))
    · intro A B E G H d0; exact rP (y_shr12 (ed d0 rfl rfl rfl) rfl)
    · intro A B E G H d0; exact rP (y_conv Tryd.underlying5 (ed d0 rfl rfl rfl) (by exact wrap_u8 (by omega) (by omega)) (by rw [Tryd.underlying21]; rfl))
    · intro A B E G H d0; exact rP (y_or8 (i := 4) (m := 14) rfl (ed d0 rfl rfl rfl) (by omega) (by omega) (by decide) (by omega))
    · intro A B E G H; exact rP (y_move (kp (H 1 rfl) E q23))
    · intro A B E G H d0; exact rP (y_shr6 (ed d0 rfl rfl rfl) rfl)
    · intro A B E G H d0; exact rP (y_conv (m := (c / 64 % 256)) Tryd.underlying5 (ed d0 rfl rfl rfl) (by exact wrap_u8m _) (by rw [Tryd.underlying21]; rfl))
    · intro A B E G H d0; exact rP (y_and8 (ed d0 rfl rfl rfl) rfl (by omega) (by omega))
    · intro A B E G H d0; exact rP (y_or8 (i := 6) (m := 2) rfl (ed d0 rfl rfl rfl) (by omega) (by omega) (by decide) (by omega))
    · intro A B E G H; exact rP (y_move (kp (H 1 rfl) E q23))
    · intro A B E G H d0; exact rP (y_conv (m := (c % 256)) Tryd.underlying5 (ed d0 rfl rfl rfl) (by exact wrap_u8m c) (by rw [Tryd.underlying21]; rfl))
    · intro A B E G H d0; exact rP (y_and8 (ed d0 rfl rfl rfl) rfl (by omega) (by omega))
    · intro A B E G H d0; exact rP (y_or8 (i := 6) (m := 2) rfl (ed d0 rfl rfl rfl) (by omega) (by omega) (by decide) (by omega))
    · intro A B E G H d0 d1 d2; exact rP (y_build3 Tryd.underlying55 Tryd.inf5 rfl (one_val rfl) (one_val rfl) (one_val rfl) (cvByte (by omega) (by omega) (ed d0 rfl rfl rfl)) (cvByte (by omega) (by omega) (ed d1 rfl rfl rfl)) (cvByte (by omega) (by omega) (ed d2 rfl rfl rfl)))
    intro a12 s12 D8; have ok12 := D8.ok; have F12 := F11.step0 D8.stp; have o12 := Own.k0 o11 D8.stp; have q26 := D8.dn 0 (by decide) rfl rfl; have q27 := D8.dn 14 (by decide) rfl rfl
    have b3 := sl_le q27
    clear D8
    refine tailL (L := [41]) (R := (fun v τ => Own τ 41 5 1 v ((List.length l) + 3) ((List.map Ty.byte l) ++ [(Ty.byte (bt (224 + (c / 4096)))), (Ty.byte (bt (128 + ((c / 64 % 256) % 64)))), (Ty.byte (bt (128 + ((c % 256) % 64))))]))) rfl rfl (by decide) ok12 (YldM.toL (m_append Tryd.underlying55 Tryd.inf5 (by decide) rfl (by decide) (al (R := (Pr.own 41 5 1 (List.length l) (List.map Ty.byte l))) q26 o12) q27 (by intro U hU; simp at hU; rcases hU with rfl | rfl | rfl <;> exact one_val rfl) (by omega) (by omega))) (fun a13 s13 hs5 ok13 r5 sm5 => ?_)
    have F13 := F12.stepL hs5 (by decide)
    obtain ⟨x3, hx3⟩ : ∃ x, a13.eval (.tmp 49) = x := ⟨_, rfl⟩
    have q28 : At (Ty.val x3) s13 a13 (.tmp 49) := hx3
    have o13 : Own s13 41 5 1 x3 (List.length (l ++ [(bt (224 + (c / 4096))), (bt (128 + ((c / 64 % 256) % 64))), (bt (128 + ((c % 256) % 64)))])) (List.map Ty.byte (l ++ [(bt (224 + (c / 4096))), (bt (128 + ((c / 64 % 256) % 64))), (bt (128 + ((c % 256) % 64)))])) := al2 (R := (Pr.own 41 5 1 (List.length (l ++ [(bt (224 + (c / 4096))), (bt (128 + ((c / 64 % 256) % 64))), (bt (128 + ((c % 256) % 64)))])) (List.map Ty.byte (l ++ [(bt (224 + (c / 4096))), (bt (128 + ((c / 64 % 256) % 64))), (bt (128 + ((c % 256) % 64)))])))) hx3 (cvo (by simp) (by first | (rw [List.map_append]; rfl) | simp) r5)
    clear r5
    refine tailL (L := []) (R := (fun v τ => Pr.has (Ty.pr (Ty.val x3)) τ v)) rfl rfl (by decide) ok13 (Yld.toL (y_assign q28)) (fun a14 s14 hs6 ok14 r6 sm6 => ?_)
    have F14 := F13.stepL hs6 (by decide); have o14 := Own.keepL o13 hs6 (by decide) (by decide)
    have q29 : At (Ty.val x3) s14 a14 (.tmp 4) := r6
    clear r6; refine wpList_nil ?_; refine tn ?_; refine wp_ret ?_; refine br ?_
    exact retL1 rfl ok14 F14 ⟨x3, q29, (cvo (by (rw [enc_3 (by omega) (by omega) (by omega), e1_, e2_])) (by (rw [enc_3 (by omega) (by omega) (by omega), e1_, e2_])) o14)⟩
   ·
    have hn4 := c4; simp only [Bool.and_eq_false_iff, decide_eq_false_iff_not] at hn4
    refine wp_seq ?_
    refine rg a11 s11 [(Ty.val (Value.int .u32 (c % 4294967296))), (Ty.bool (decide ((65535 : Int) < (c % 4294967296)))), (Ty.bool (decide ((65535 : Int) < (c % 4294967296)))), (Ty.grd ((decide ((65535 : Int) < (c % 4294967296))) = true) (Ty.val (Value.int .u32 (c % 4294967296)))), (Ty.grd ((decide ((65535 : Int) < (c % 4294967296))) = true) (Ty.bool (decide ((c % 4294967296) ≤ (1114111 : Int))))), (Ty.bool ((decide ((65535 : Int) < (c % 4294967296))) && (decide ((c % 4294967296) ≤ (1114111 : Int))))), (Ty.bool ((decide ((65535 : Int) < (c % 4294967296))) && (decide ((c % 4294967296) ≤ (1114111 : Int)))))] ok11 ⟨?_, ?_, ?_, ?_, ?_, ?_, ?_, trivial⟩ ?_
    · intro A B E G H; exact rP (y_move (kp (H 5 rfl) E q24))
    · intro A B E G H d0; exact rP (y_gtr (ed d0 rfl rfl rfl) rfl)
    · intro A B E G H d0; exact rP (y_move (ed d0 rfl rfl rfl))
    · intro A B E G H d0
      refine run_guard G rfl rfl (by decide) (ed d0 rfl rfl rfl) (fun hg => ?_)
      have hp := of_decide_eq_true hg
      exact y_move (kp (H 5 rfl) E q24)
    · intro A B E G H d0 d1
      refine run_guard G rfl rfl (by decide) (ed d1 rfl rfl rfl) (fun hg => ?_)
      have hp := of_decide_eq_true hg
      exact y_leq ((ed d0 rfl rfl rfl).1 hg) rfl
    · intro A B E G H d0 d1; exact rP (y_pick_and (ed d0 rfl rfl rfl) (ed d1 rfl rfl rfl) rfl)
    · intro A B E G H d0 d1; exact rP (y_assign (ed d0 rfl rfl rfl))
    intro a15 s15 D9; have ok15 := D9.ok; have F15 := F11.step0 D9.stp; have q30 := D9.kt q22 rfl; have q31 := D9.kt q23 rfl; have o15 := Own.k0 o11 D9.stp; have q32 := D9.dn 6 rfl rfl; clear D9; refine tn ?_
    refine cond_t q32 (fun c5 => ?_) (fun c5 => ?_)
    ·
     obtain ⟨d3, d4⟩ := Bool.and_eq_true_iff.mp c5
     replace d3 := of_decide_eq_true d3
     replace d4 := of_decide_eq_true d4
     simp only [Bool.and_eq_true, decide_eq_true_eq] at c5
     refine wp_seq ?_
     refine reg2 (a := a15) (σ := s15) rfl 20 (fun i_ => List.getD [(Ty.pr (Ty.val buf)), (Ty.pr (Ty.val (Value.int .i32 c))), (Ty.pr (Ty.val (Value.int .i32 (c / 262144)))), (Ty.pr (Ty.val (Value.int .u8 (c / 262144)))), (Ty.pr (Ty.val (Value.int .u8 (240 + (c / 262144))))), (Ty.pr (Ty.val (Value.int .i32 c))), (Ty.pr (Ty.val (Value.int .i32 (c / 4096)))), (Ty.pr (Ty.val (Value.int .u8 (c / 4096 % 256)))), (Ty.pr (Ty.val (Value.int .u8 ((c / 4096 % 256) % 64)))), (Ty.pr (Ty.val (Value.int .u8 (128 + ((c / 4096 % 256) % 64))))), (Ty.pr (Ty.val (Value.int .i32 c))), (Ty.pr (Ty.val (Value.int .i32 (c / 64)))), (Ty.pr (Ty.val (Value.int .u8 (c / 64 % 256)))), (Ty.pr (Ty.val (Value.int .u8 ((c / 64 % 256) % 64)))), (Ty.pr (Ty.val (Value.int .u8 (128 + ((c / 64 % 256) % 64))))), (Ty.pr (Ty.val (Value.int .i32 c))), (Ty.pr (Ty.val (Value.int .u8 (c % 256)))), (Ty.pr (Ty.val (Value.int .u8 ((c % 256) % 64)))), (Ty.pr (Ty.val (Value.int .u8 (128 + ((c % 256) % 64))))), (Ty.pr (Ty.sl 1 4 [(Ty.byte (bt (240 + (c / 262144)))), (Ty.byte (bt (128 + ((c / 4096 % 256) % 64)))), (Ty.byte (bt (128 + ((c / 64 % 256) % 64)))), (Ty.byte (bt (128 + ((c % 256) % 64))))]))] i_ Pr.any) ok15 rfl (by decide) rfl ⟨?_, ?_, ?_, ?_, ?_, ?_, ?_, ?_, ?_, ?_, ?_, ?_, ?_, ?_, ?_, ?_, ?_, ?_, ?_, ?_, trivial⟩ ?_
     · intro A B E G H; exact rP (y_move (kp (H 0 rfl) E q30))
     · intro A B E G H; exact rP (y_move (kp (H 1 rfl) E q31))
     · intro A B E G H d0; exact rP (y_shr18 (ed d0 rfl rfl rfl) rfl)
     · intro A B E G H d0; exact rP (y_conv Tryd.underlying5 (ed d0 rfl rfl rfl) (by exact wrap_u8 (by omega) (by omega)) (by rw [Tryd.underlying21]; rfl))
     · intro A B E G H d0; exact rP (y_or8 (i := 3) (m := 30) rfl (ed d0 rfl rfl rfl) (by omega) (by omega) (by decide) (by omega))
     · intro A B E G H; exact rP (y_move (kp (H 1 rfl) E q31))
     · intro A B E G H d0; exact rP (y_shr12 (ed d0 rfl rfl rfl) rfl)
     · intro A B E G H d0; exact rP (y_conv (m := (c / 4096 % 256)) Tryd.underlying5 (ed d0 rfl rfl rfl) (by exact wrap_u8m _) (by rw [Tryd.underlying21]; rfl))
     · intro A B E G H d0; exact rP (y_and8 (ed d0 rfl rfl rfl) rfl (by omega) (by omega))
     · intro A B E G H d0; exact rP (y_or8 (i := 6) (m := 2) rfl (ed d0 rfl rfl rfl) (by omega) (by omega) (by decide) (by omega))
     · intro A B E G H; exact rP (y_move (kp (H 1 rfl) E q31))
     · intro A B E G H d0; exact rP (y_shr6 (ed d0 rfl rfl rfl) rfl)
     · intro A B E G H d0; exact rP (y_conv (m := (c / 64 % 256)) Tryd.underlying5 (ed d0 rfl rfl rfl) (by exact wrap_u8m _) (by rw [Tryd.underlying21]; rfl))
     · intro A B E G H d0; exact rP (y_and8 (ed d0 rfl rfl rfl) rfl (by omega) (by omega))
     · intro A B E G H d0; exact rP (y_or8 (i := 6) (m := 2) rfl (ed d0 rfl rfl rfl) (by omega) (by omega) (by decide) (by omega))
     · intro A B E G H; exact rP (y_move (kp (H 1 rfl) E q31))
     · intro A B E G H d0; exact rP (y_conv (m := (c % 256)) Tryd.underlying5 (ed d0 rfl rfl rfl) (by exact wrap_u8m c) (by rw [Tryd.underlying21]; rfl))
     · intro A B E G H d0; exact rP (y_and8 (ed d0 rfl rfl rfl) rfl (by omega) (by omega))
     · intro A B E G H d0; exact rP (y_or8 (i := 6) (m := 2) rfl (ed d0 rfl rfl rfl) (by omega) (by omega) (by decide) (by omega))
     · intro A B E G H d0 d1 d2 d3; exact rP (y_build4 Tryd.underlying55 Tryd.inf5 rfl (one_val rfl) (one_val rfl) (one_val rfl) (one_val rfl) (cvByte (by omega) (by omega) (ed d0 rfl rfl rfl)) (cvByte (by omega) (by omega) (ed d1 rfl rfl rfl)) (cvByte (by omega) (by omega) (ed d2 rfl rfl rfl)) (cvByte (by omega) (by omega) (ed d3 rfl rfl rfl)))
     intro a16 s16 D10; have ok16 := D10.ok; have F16 := F15.step0 D10.stp; have o16 := Own.k0 o15 D10.stp; have q33 := D10.dn 0 (by decide) rfl rfl; have q34 := D10.dn 19 (by decide) rfl rfl
     have b4 := sl_le q34
     clear D10
     refine tailL (L := [41]) (R := (fun v τ => Own τ 41 5 1 v ((List.length l) + 4) ((List.map Ty.byte l) ++ [(Ty.byte (bt (240 + (c / 262144)))), (Ty.byte (bt (128 + ((c / 4096 % 256) % 64)))), (Ty.byte (bt (128 + ((c / 64 % 256) % 64)))), (Ty.byte (bt (128 + ((c % 256) % 64))))]))) rfl rfl (by decide) ok16 (YldM.toL (m_append Tryd.underlying55 Tryd.inf5 (by decide) rfl (by decide) (al (R := (Pr.own 41 5 1 (List.length l) (List.map Ty.byte l))) q33 o16) q34 (by intro U hU; simp at hU; rcases hU with rfl | rfl | rfl | rfl <;> exact one_val rfl) (by omega) (by omega))) (fun a17 s17 hs7 ok17 r7 sm7 => ?_)
     have F17 := F16.stepL hs7 (by decide)
     obtain ⟨x4, hx4⟩ : ∃ x, a17.eval (.tmp 77) = x := ⟨_, rfl⟩
     have q35 : At (Ty.val x4) s17 a17 (.tmp 77) := hx4
     have o17 : Own s17 41 5 1 x4 (List.length (l ++ [(bt (240 + (c / 262144))), (bt (128 + ((c / 4096 % 256) % 64))), (bt (128 + ((c / 64 % 256) % 64))), (bt (128 + ((c % 256) % 64)))])) (List.map Ty.byte (l ++ [(bt (240 + (c / 262144))), (bt (128 + ((c / 4096 % 256) % 64))), (bt (128 + ((c / 64 % 256) % 64))), (bt (128 + ((c % 256) % 64)))])) := al2 (R := (Pr.own 41 5 1 (List.length (l ++ [(bt (240 + (c / 262144))), (bt (128 + ((c / 4096 % 256) % 64))), (bt (128 + ((c / 64 % 256) % 64))), (bt (128 + ((c % 256) % 64)))])) (List.map Ty.byte (l ++ [(bt (240 + (c / 262144))), (bt (128 + ((c / 4096 % 256) % 64))), (bt (128 + ((c / 64 % 256) % 64))), (bt (128 + ((c % 256) % 64)))])))) hx4 (cvo (by simp) (by first | (rw [List.map_append]; rfl) | simp) r7)
     clear r7
     refine tailL (L := []) (R := (fun v τ => Pr.has (Ty.pr (Ty.val x4)) τ v)) rfl rfl (by decide) ok17 (Yld.toL (y_assign q35)) (fun a18 s18 hs8 ok18 r8 sm8 => ?_)
     have F18 := F17.stepL hs8 (by decide); have o18 := Own.keepL o17 hs8 (by decide) (by decide)
     have q36 : At (Ty.val x4) s18 a18 (.tmp 4) := r8
     clear r8; refine wpList_nil ?_; refine tn ?_; refine wp_ret ?_; refine br ?_
     exact retL1 rfl ok18 F18 ⟨x4, q36, (cvo (by (rw [enc_4 (by omega) (by omega), e1_, e2_, e3_])) (by (rw [enc_4 (by omega) (by omega), e1_, e2_, e3_])) o18)⟩
    ·
     simp only [Bool.and_eq_false_iff, decide_eq_false_iff_not] at c5
     refine wp_seq ?_
     refine reg2 (a := a15) (σ := s15) rfl 2 (fun i_ => List.getD [(Ty.pr (Ty.val buf)), (Ty.pr (Ty.sl 1 3 [(Ty.byte (bt (239 : Int))), (Ty.byte (bt (191 : Int))), (Ty.byte (bt (189 : Int)))]))] i_ Pr.any) ok15 rfl (by decide) rfl ⟨?_, ?_, trivial⟩ ?_
     · intro A B E G H; exact rP (y_move (kp (H 0 rfl) E q30))
     · intro A B E G H; exact rP (y_build3 Tryd.underlying55 Tryd.inf5 rfl (one_val rfl) (one_val rfl) (one_val rfl) (cvByte (by omega) (by omega) rfl) (cvByte (by omega) (by omega) rfl) (cvByte (by omega) (by omega) rfl))
     intro a19 s19 D11; have ok19 := D11.ok; have F19 := F15.step0 D11.stp; have o19 := Own.k0 o15 D11.stp; have q37 := D11.dn 0 (by decide) rfl rfl; have q38 := D11.dn 1 (by decide) rfl rfl
     have b5 := sl_le q38
     clear D11
     refine tailL (L := [41]) (R := (fun v τ => Own τ 41 5 1 v ((List.length l) + 3) ((List.map Ty.byte l) ++ [(Ty.byte (bt (239 : Int))), (Ty.byte (bt (191 : Int))), (Ty.byte (bt (189 : Int)))]))) rfl rfl (by decide) ok19 (YldM.toL (m_append Tryd.underlying55 Tryd.inf5 (by decide) rfl (by decide) (al (R := (Pr.own 41 5 1 (List.length l) (List.map Ty.byte l))) q37 o19) q38 (by intro U hU; simp at hU; rcases hU with rfl | rfl | rfl <;> exact one_val rfl) (by omega) (by omega))) (fun a20 s20 hs9 ok20 r9 sm9 => ?_)
     have F20 := F19.stepL hs9 (by decide)
     obtain ⟨x5, hx5⟩ : ∃ x, a20.eval (.tmp 10) = x := ⟨_, rfl⟩
     have q39 : At (Ty.val x5) s20 a20 (.tmp 10) := hx5
     have o20 : Own s20 41 5 1 x5 (List.length (l ++ [(bt (239 : Int)), (bt (191 : Int)), (bt (189 : Int))])) (List.map Ty.byte (l ++ [(bt (239 : Int)), (bt (191 : Int)), (bt (189 : Int))])) := al2 (R := (Pr.own 41 5 1 (List.length (l ++ [(bt (239 : Int)), (bt (191 : Int)), (bt (189 : Int))])) (List.map Ty.byte (l ++ [(bt (239 : Int)), (bt (191 : Int)), (bt (189 : Int))])))) hx5 (cvo (by simp) (by first | (rw [List.map_append]; rfl) | simp) r9)
     clear r9
     refine tailL (L := []) (R := (fun v τ => Pr.has (Ty.pr (Ty.val x5)) τ v)) rfl rfl (by decide) ok20 (Yld.toL (y_assign q39)) (fun a21 s21 hs10 ok21 r10 sm10 => ?_)
     have F21 := F20.stepL hs10 (by decide); have o21 := Own.keepL o20 hs10 (by decide) (by decide)
     have q40 : At (Ty.val x5) s21 a21 (.tmp 4) := r10
     clear r10; refine wpList_nil ?_; refine tn ?_; refine wp_ret ?_; refine br ?_
     exact retL1 rfl ok21 F21 ⟨x5, q40, (cvo (by (rw [enc_bad (by omega)])) (by (rw [enc_bad (by omega)])) o21)⟩


set_option maxHeartbeats 4000000 in
set_option maxRecDepth 100000 in
theorem appendRune_fn (buf : Value) (l : List UInt8) (c : Int) (σ : GW) (hlow : Low [41] σ) (v0 v1 : Value) (hv0 : Ty.has (Ty.val buf) σ v0) (hv1 : Ty.has (Ty.val (Value.int .i32 c)) σ v1) (ho_buf : Own σ 41 5 1 buf (List.length l) (List.map Ty.byte l)) (hl : l.length ≤ 1000000000) (hc : -2147483648 ≤ c ∧ c ≤ 2147483647) :
    FnL Tryd.prog 49 #[v0, v1] σ [41] (fun v τ => ∃ (bz : Value), (Ty.has (Ty.val bz) τ v) ∧ (Own τ 41 5 1 bz (List.length (l ++ (ByteArray.data (Utf8.encode c)).toList)) (List.map Ty.byte (l ++ (ByteArray.data (Utf8.encode c)).toList)))) := by
 refine fn_introL hlow Tryd.func49 rfl Tryd.ntmps49 (Nat.le_of_ble_eq_true rfl) (fun a0 F0 ok0 hargs => ?_)
 have p0 : At (Ty.val buf) σ a0 (.tmp 0) := by have e := hargs 0 _ rfl; show Ty.has _ _ _; rw [e]; exact hv0
 have p1 : At (Ty.val (Value.int .i32 c)) σ a0 (.tmp 1) := by have e := hargs 1 _ rfl; show Ty.has _ _ _; rw [e]; exact hv1
 clear hargs; refine wp_seq ?_
 refine reg (a := a0) (σ := σ) rfl (fun i_ => List.getD [(Ty.pr (Ty.val (Value.slice none 0 0)))] i_ Pr.any) ok0 rfl ⟨?_, trivial⟩ ?_
 · intro A B E G H; exact rP (y_assign rfl)
 intro a1 s1 D1; have ok1 := D1.ok; have F1 := F0.step0 D1.stp; have q1 := D1.kt p0 rfl; have q2 := D1.kt p1 rfl; have o1 := Own.k0 ho_buf D1.stp; clear D1; refine tn ?_; refine wp_seq ?_; refine wp_seq ?_
 refine rg a1 s1 [(Ty.val (Value.int .i32 c)), (Ty.val (Value.int .u32 (c % 4294967296))), (Ty.bool (decide ((c % 4294967296) ≤ (127 : Int))))] ok1 ⟨?_, ?_, ?_, trivial⟩ ?_
 · intro A B E G H; exact rP (y_move (kp (H 1 rfl) E q2))
 · intro A B E G H d0; exact rP (y_conv (m := (c % 4294967296)) Tryd.underlying88 (ed d0 rfl rfl rfl) (by exact wrap_u32m c) (by rw [Tryd.underlying21]; rfl))
 · intro A B E G H d0; exact rP (y_leq (ed d0 rfl rfl rfl) rfl)
 intro a2 s2 D2; have ok2 := D2.ok; have F2 := F1.step0 D2.stp; have q3 := D2.kt q1 rfl; have q4 := D2.kt q2 rfl; have o2 := Own.k0 o1 D2.stp; have q5 := D2.dn 2 rfl rfl; clear D2; refine tn ?_
 refine cond_p (p := ((c % 4294967296) ≤ (127 : Int))) q5 (fun c1 => ?_) (fun c1 => ?_)
 ·
  refine wp_seq ?_
  refine reg2 (a := a2) (σ := s2) rfl 4 (fun i_ => List.getD [(Ty.pr (Ty.val buf)), (Ty.pr (Ty.val (Value.int .i32 c))), (Ty.pr (Ty.val (Value.int .u8 c))), (Ty.pr (Ty.sl 1 1 [(Ty.byte (Nat.toUInt8 (Int.toNat c)))]))] i_ Pr.any) ok2 rfl (by decide) rfl ⟨?_, ?_, ?_, ?_, trivial⟩ ?_
  · intro A B E G H; exact rP (y_move (kp (H 0 rfl) E q3))
  · intro A B E G H; exact rP (y_move (kp (H 1 rfl) E q4))
  · intro A B E G H d0; exact rP (y_conv Tryd.underlying5 (ed d0 rfl rfl rfl) (by exact wrap_u8 (by omega) (by omega)) (by rw [Tryd.underlying21]; rfl))
  · intro A B E G H d0; exact rP (y_build1o Tryd.underlying55 Tryd.inf5 rfl (one_val rfl) (cvByte (by omega) (by omega) (ed d0 rfl rfl rfl)))
  intro a3 s3 D3; have ok3 := D3.ok; have F3 := F2.step0 D3.stp; have o3 := Own.k0 o2 D3.stp; have q6 := D3.dn 0 (by decide) rfl rfl; have q7 := D3.dn 3 (by decide) rfl rfl
  have b1 := sl_le q7
  clear D3
  refine tailL (L := [41]) (R := (fun v τ => Own τ 41 5 1 v ((List.length l) + 1) ((List.map Ty.byte l) ++ [(Ty.byte (Nat.toUInt8 (Int.toNat c)))]))) rfl rfl (by decide) ok3 (YldM.toL (m_append Tryd.underlying55 Tryd.inf5 (by decide) rfl (by decide) (al (R := (Pr.own 41 5 1 (List.length l) (List.map Ty.byte l))) q6 o3) q7 (by intro U hU; simp at hU; subst hU; exact one_val rfl) (by omega) (by omega))) (fun a4 s4 hs1 ok4 r1 sm1 => ?_)
  have F4 := F3.stepL hs1 (by decide)
  obtain ⟨x1, hx1⟩ : ∃ x, a4.eval (.tmp 12) = x := ⟨_, rfl⟩
  have q8 : At (Ty.val x1) s4 a4 (.tmp 12) := hx1
  have o4 : Own s4 41 5 1 x1 (List.length (l ++ [(Nat.toUInt8 (Int.toNat c))])) (List.map Ty.byte (l ++ [(Nat.toUInt8 (Int.toNat c))])) := al2 (R := (Pr.own 41 5 1 (List.length (l ++ [(Nat.toUInt8 (Int.toNat c))])) (List.map Ty.byte (l ++ [(Nat.toUInt8 (Int.toNat c))])))) hx1 (cvo (by simp) (by first | (rw [List.map_append]; rfl) | simp) r1)
  clear r1
  refine tailL (L := []) (R := (fun v τ => Pr.has (Ty.pr (Ty.val x1)) τ v)) rfl rfl (by decide) ok4 (Yld.toL (y_assign q8)) (fun a5 s5 hs2 ok5 r2 sm2 => ?_)
  have F5 := F4.stepL hs2 (by decide); have o5 := Own.keepL o4 hs2 (by decide) (by decide)
  have q9 : At (Ty.val x1) s5 a5 (.tmp 4) := r2
  clear r2; refine wpList_nil ?_; refine tn ?_; refine wp_ret ?_; refine tr ?_
  exact retL1 rfl ok5 F5 ⟨x1, q9, (cvo (by (rw [enc_1 (by omega) (by omega)]; rfl)) (by (rw [enc_1 (by omega) (by omega)]; rfl)) o5)⟩
 ·
  refine wp_skip ?_; refine tn ?_; refine wp_seq ?_
  refine reg2 (a := a2) (σ := s2) rfl 2 (fun i_ => List.getD [(Ty.pr (Ty.val buf)), (Ty.pr (Ty.val (Value.int .i32 c)))] i_ Pr.any) ok2 rfl (by decide) rfl ⟨?_, ?_, trivial⟩ ?_
  · intro A B E G H; exact rP (y_move (kp (H 0 rfl) E q3))
  · intro A B E G H; exact rP (y_move (kp (H 1 rfl) E q4))
  intro a6 s6 D4; have ok6 := D4.ok; have F6 := F2.step0 D4.stp; have o6 := Own.k0 o2 D4.stp; have q10 := D4.dn 0 (by decide) rfl rfl; have q11 := D4.dn 1 (by decide) rfl rfl; clear D4
  refine tailL (L := [41]) (R := (fun v τ' => ∃ τ, (fun v τ => ∃ (bz : Value), (Ty.has (Ty.val bz) τ v) ∧ (Own τ 41 5 1 bz (List.length (l ++ (ByteArray.data (Utf8.encode c)).toList)) (List.map Ty.byte (l ++ (ByteArray.data (Utf8.encode c)).toList)))) v τ ∧ Back [(41, 41)] τ τ')) rfl rfl (by decide) ok6 (y_callL (L := [41]) [(41, 41)] [(41, 41)] #[a6.eval (.tmp 13), a6.eval (.tmp 14)] rfl (by decide) Tryd.func63 rfl rfl (by simp only [List.map_toArray, List.map_cons, List.map_nil]) (appendRuneNA_fn (buf) (l) (c) _ (GW.low_lend _ (by decide)) _ _ (Ty.up _ (GW.le_lend _ _) q10) (Ty.up _ (GW.le_lend _ _) q11) (Own.ren o6 (GW.ren_lend _ _ (by decide) rfl)) (by omega) (by omega) (by omega))) (fun a7 s7 hs3 ok7 r3 sm3 => ?_)
  have F7 := F6.stepL hs3 (by decide)
  obtain ⟨t1, ⟨x2, hT1, o7⟩, B1⟩ := r3
  have q12 : At (Ty.val x2) s7 a7 (.tmp 15) := Ty.up _ B1.le hT1
  have o8 : Own s7 41 5 1 x2 (List.length (l ++ (ByteArray.data (Utf8.encode c)).toList)) (List.map Ty.byte (l ++ (ByteArray.data (Utf8.encode c)).toList)) := Own.ren o7 (B1.ren (by decide) rfl)
  refine tailL (L := []) (R := (fun v τ => Pr.has (Ty.pr (Ty.val x2)) τ v)) rfl rfl (by decide) ok7 (Yld.toL (y_assign q12)) (fun a8 s8 hs4 ok8 r4 sm4 => ?_)
  have F8 := F7.stepL hs4 (by decide); have o9 := Own.keepL o8 hs4 (by decide) (by decide)
  have q13 : At (Ty.val x2) s8 a8 (.tmp 4) := r4
  clear r4; refine wpList_nil ?_; refine tn ?_; refine wp_ret ?_
  exact retL1 rfl ok8 F8 ⟨x2, q13, o9⟩


set_option maxHeartbeats 4000000 in
set_option maxRecDepth 100000 in
theorem writeRune_fn (b buf : Value) (nb : Bool) (l : List UInt8) (c : Int) (σ : GW) (hlow : Low [40, 41] σ) (v0 v1 : Value) (hv0 : Ty.has (Ty.val b) σ v0) (hv1 : Ty.has (Ty.val (Value.int .i32 c)) σ v1) (ho_b : OwnPT 57 σ 40 b [(Ty.val (bAddr nb b)), (Ty.val buf)]) (ho_buf : Own σ 41 5 1 buf (List.length l) (List.map Ty.byte l)) (hl : l.length ≤ 1000000000) (hc : -2147483648 ≤ c ∧ c ≤ 2147483647) :
    FnL Tryd.prog 32 #[v0, v1] σ [40, 41] (fun v τ => ∃ (bz : Value), (Ty.has (Ty.tup2 (Ty.nat (ByteArray.size (Utf8.encode c))) (Ty.val Value.nilIface)) τ v) ∧ (OwnPT 57 τ 40 b [(Ty.val (bAddr false b)), (Ty.val bz)]) ∧ (Own τ 41 5 1 bz (List.length (l ++ (ByteArray.data (Utf8.encode c)).toList)) (List.map Ty.byte (l ++ (ByteArray.data (Utf8.encode c)).toList)))) := by
 refine fn_introL hlow Tryd.func32 rfl Tryd.ntmps32 (Nat.le_of_ble_eq_true rfl) (fun a0 F0 ok0 hargs => ?_)
 have p0 : At (Ty.val b) σ a0 (.tmp 0) := by have e := hargs 0 _ rfl; show Ty.has _ _ _; rw [e]; exact hv0
 have p1 : At (Ty.val (Value.int .i32 c)) σ a0 (.tmp 1) := by have e := hargs 1 _ rfl; show Ty.has _ _ _; rw [e]; exact hv1
 clear hargs; refine wp_seq ?_
 refine reg (a := a0) (σ := σ) rfl (fun i_ => List.getD [(Ty.pr (Ty.int (0 : Int))), (Ty.pr (Ty.val Value.nilIface))] i_ Pr.any) ok0 rfl ⟨?_, ?_, trivial⟩ ?_
 · intro A B E G H; exact rP (y_assign rfl)
 · intro A B E G H d0; exact rP (y_assign rfl)
 intro a1 s1 D1; have ok1 := D1.ok; have F1 := F0.step0 D1.stp; have q1 := D1.kt p0 rfl; have q2 := D1.kt p1 rfl; have o1 := OwnPT.k0 ho_b D1.stp; have o2 := Own.k0 ho_buf D1.stp; clear D1; refine tn ?_; refine wp_seq ?_
 refine reg2 (a := a1) (σ := s1) rfl 1 (fun i_ => List.getD [(Ty.pr (Ty.val b))] i_ Pr.any) ok1 rfl (by decide) rfl ⟨?_, trivial⟩ ?_
 · intro A B E G H; exact rP (y_move (kp (H 0 rfl) E q1))
 intro a2 s2 D2; have ok2 := D2.ok; have F2 := F1.step0 D2.stp; have q3 := D2.kt q1 rfl; have q4 := D2.kt q2 rfl; have o3 := OwnPT.k0 o1 D2.stp; have o4 := Own.k0 o2 D2.stp; have q5 := D2.dn 0 (by decide) rfl rfl; clear D2
 refine tailL (L := [40]) (R := (fun v τ' => ∃ τ, (fun v τ => True ∧ (OwnPT 57 τ 40 b [(Ty.val (bAddr false b)), (Ty.val buf)])) v τ ∧ Back [(40, 40)] τ τ')) rfl rfl (by decide) ok2 (y_callL (L := [40]) [(40, 40)] [(40, 40)] #[a2.eval (.tmp 7)] rfl (by decide) Tryd.func47 rfl rfl (by simp only [List.map_toArray, List.map_cons, List.map_nil]) (copyCheck_fn (b) (buf) (nb) _ (GW.low_lend _ (by decide)) _ (Ty.up _ (GW.le_lend _ _) q5) (OwnPT.ren o3 (GW.ren_lend _ _ (by decide) rfl)) )) (fun a3 s3 hs1 ok3 r1 sm1 => ?_)
 have F3 := F2.stepL hs1 (by decide); have q6 := kpL hs1 (by decide) (sm1 0 (by decide)) q3; have q7 := kpL hs1 (by decide) (sm1 1 (by decide)) q4; have o7 := Own.keepL o4 hs1 (by decide) (by decide)
 obtain ⟨t1, ⟨hT1, o5⟩, B1⟩ := r1
 have o6 : OwnPT 57 s3 40 b [(Ty.val (bAddr false b)), (Ty.val buf)] := OwnPT.ren o5 (B1.ren (by decide) rfl)
 refine wpList_nil ?_; refine tn ?_; refine wp_seq ?_
 refine rg a3 s3 [(Ty.val b), (Ty.val b), (Ty.val (ptrAt b 1)), (Ty.val buf), (Ty.nat (List.length l)), (Ty.nat (List.length l))] ok3 ⟨?_, ?_, ?_, ?_, ?_, ?_, trivial⟩ ?_
 · intro A B E G H; exact rP (y_move (kp (H 0 rfl) E q6))
 · intro A B E G H d0; exact rP (y_nilp (OwnPT.toP (OwnPT.k0 o6 E)) (ed d0 rfl rfl rfl))
 · intro A B E G H d0; exact rP (ownp_field Tryd.fld57_1 Tryd.inf55 (by decide) (OwnPT.toP (OwnPT.k0 o6 E)) (ed d0 rfl rfl rfl))
 · intro A B E G H d0; exact rP (ownp_load Tryd.underlying55 rfl (OwnPT.toP (OwnPT.k0 o6 E)) (ed d0 rfl rfl rfl) rfl)
 · intro A B E G H d0; exact rP (own_len Tryd.underlying55 (al (R := (Pr.own 41 5 1 (List.length l) (List.map Ty.byte l))) (ed d0 rfl rfl rfl) (Own.k0 o7 E)))
 · intro A B E G H d0 d1 d2 d3 d4 d5; exact rP (y_assign (ed d0 rfl rfl rfl))
 intro a4 s4 D3; have ok4 := D3.ok; have F4 := F3.step0 D3.stp; have q9 := D3.kt q6 rfl; have q10 := D3.kt q7 rfl; have o8 := Own.k0 o7 D3.stp; have o9 := OwnPT.k0 o6 D3.stp; have q11 := D3.dn 5 rfl rfl; clear D3; refine tn ?_; refine wp_seq ?_
 refine reg2 (a := a4) (σ := s4) rfl 6 (fun i_ => List.getD [(Ty.pr (Ty.val b)), (Ty.pr (Ty.val b)), (Ty.pr (Ty.val b)), (Ty.pr (Ty.val (ptrAt b 1))), (Ty.pr (Ty.val buf)), (Ty.pr (Ty.val (Value.int .i32 c)))] i_ Pr.any) ok4 rfl (by decide) rfl ⟨?_, ?_, ?_, ?_, ?_, ?_, trivial⟩ ?_
 · intro A B E G H; exact rP (y_move (kp (H 0 rfl) E q9))
 · intro A B E G H; exact rP (y_move (kp (H 0 rfl) E q9))
 · intro A B E G H d0; exact rP (y_nilp (OwnPT.toP (OwnPT.k0 o9 E)) (ed d0 rfl rfl rfl))
 · intro A B E G H d0; exact rP (ownp_field Tryd.fld57_1 Tryd.inf55 (by decide) (OwnPT.toP (OwnPT.k0 o9 E)) (ed d0 rfl rfl rfl))
 · intro A B E G H d0; exact rP (ownp_load Tryd.underlying55 rfl (OwnPT.toP (OwnPT.k0 o9 E)) (ed d0 rfl rfl rfl) rfl)
 · intro A B E G H; exact rP (y_move (kp (H 1 rfl) E q10))
 intro a5 s5 D4; have ok5 := D4.ok; have F5 := F4.step0 D4.stp; have q12 := D4.kt q9 rfl; have q13 := D4.kt q11 rfl; have o10 := Own.k0 o8 D4.stp; have o11 := OwnPT.k0 o9 D4.stp; have q14 := D4.dn 0 (by decide) rfl rfl; have q15 := D4.dn 4 (by decide) rfl rfl; have q16 := D4.dn 5 (by decide) rfl rfl; clear D4
 refine tailL (L := [41]) (R := (fun v τ' => ∃ τ, (fun v τ => ∃ (bz : Value), (Ty.has (Ty.val bz) τ v) ∧ (Own τ 41 5 1 bz (List.length (l ++ (ByteArray.data (Utf8.encode c)).toList)) (List.map Ty.byte (l ++ (ByteArray.data (Utf8.encode c)).toList)))) v τ ∧ Back [(41, 41)] τ τ')) rfl rfl (by decide) ok5 (y_callL (L := [41]) [(41, 41)] [(41, 41)] #[a5.eval (.tmp 18), a5.eval (.tmp 19)] rfl (by decide) Tryd.func49 rfl rfl (by simp only [List.map_toArray, List.map_cons, List.map_nil]) (appendRune_fn (buf) (l) (c) _ (GW.low_lend _ (by decide)) _ _ (Ty.up _ (GW.le_lend _ _) q15) (Ty.up _ (GW.le_lend _ _) q16) (Own.ren o10 (GW.ren_lend _ _ (by decide) rfl)) (by omega) (by omega))) (fun a6 s6 hs2 ok6 r2 sm2 => ?_)
 have F6 := F5.stepL hs2 (by decide); have q17 := kpL hs2 (by decide) (sm2 0 (by decide)) q12; have q18 := kpL hs2 (by decide) (sm2 6 (by decide)) q13; have q19 := kpL hs2 (by decide) (sm2 14 (by decide)) q14; have o14 := OwnPT.keepL o11 hs2 (by decide) (by decide)
 obtain ⟨t2, ⟨x1, hT2, o12⟩, B2⟩ := r2
 have q20 : At (Ty.val x1) s6 a6 (.tmp 20) := Ty.up _ B2.le hT2
 have o13 : Own s6 41 5 1 x1 (List.length (l ++ (ByteArray.data (Utf8.encode c)).toList)) (List.map Ty.byte (l ++ (ByteArray.data (Utf8.encode c)).toList)) := Own.ren o12 (B2.ren (by decide) rfl)
 refine tailL (L := []) (R := (fun v τ => Pr.has (Ty.pr (Ty.val b)) τ v)) rfl rfl (by decide) ok6 (Yld.toL (y_nilp (OwnPT.toP o14) q19)) (fun a7 s7 hs3 ok7 r3 sm3 => ?_)
 have F7 := F6.stepL hs3 (by decide); have q21 := kpL hs3 (by decide) (sm3 0 (by decide)) q17; have q22 := kpL hs3 (by decide) (sm3 6 (by decide)) q18; have q23 := kpL hs3 (by decide) (sm3 20 (by decide)) q20; have o15 := OwnPT.keepL o14 hs3 (by decide) (by decide); have o16 := Own.keepL o13 hs3 (by decide) (by decide)
 have q24 : At (Ty.val b) s7 a7 (.tmp 21) := r3
 clear r3
 refine tailL (L := []) (R := (fun v τ => Pr.has (Ty.pr (Ty.val (ptrAt b 1))) τ v)) rfl rfl (by decide) ok7 (Yld.toL (ownp_field Tryd.fld57_1 Tryd.inf55 (by decide) (OwnPT.toP o15) q24)) (fun a8 s8 hs4 ok8 r4 sm4 => ?_)
 have F8 := F7.stepL hs4 (by decide); have q25 := kpL hs4 (by decide) (sm4 0 (by decide)) q21; have q26 := kpL hs4 (by decide) (sm4 6 (by decide)) q22; have q27 := kpL hs4 (by decide) (sm4 20 (by decide)) q23; have o17 := OwnPT.keepL o15 hs4 (by decide) (by decide); have o18 := Own.keepL o16 hs4 (by decide) (by decide)
 have q28 : At (Ty.val (ptrAt b 1)) s8 a8 (.tmp 22) := r4
 clear r4
 refine tailL0 (L := [40]) (R := (fun _ τ => OwnPT 57 τ 40 b ([(Ty.val (bAddr false b)), (Ty.val buf)].set 1 (Ty.val x1)))) rfl rfl (YldM.toL (m_storept Tryd.inf55 (by decide) o17 q28 (Nat.le_of_ble_eq_true rfl) q27 (one_val (Own.one o18)))) (fun v1 s9 hs5 r5 => ?_)
 have F9 := F8.stepL hs5 (by decide); have q29 := kpL hs5 (by decide) rfl q25; have q30 := kpL hs5 (by decide) rfl q26; have o20 := Own.keepL o18 hs5 (by decide) (by decide)
 have o19 : OwnPT 57 s9 40 b [(Ty.val (bAddr false b)), (Ty.val x1)] := r5
 clear r5; refine wpList_nil ?_; refine tn ?_; refine wp_seq ?_
 have hal : (l ++ (ByteArray.data (Utf8.encode c)).toList).length = l.length + (Utf8.encode c).size := List.length_append
 have hes := (enc_size c).2
 refine rg a8 s9 [(Ty.val b), (Ty.val b), (Ty.val (ptrAt b 1)), (Ty.val x1), (Ty.nat (List.length (l ++ (ByteArray.data (Utf8.encode c)).toList))), (Ty.nat (List.length l)), (Ty.nat ((List.length (l ++ (ByteArray.data (Utf8.encode c)).toList)) - (List.length l))), (Ty.nat ((List.length (l ++ (ByteArray.data (Utf8.encode c)).toList)) - (List.length l))), (Ty.val Value.nilIface)] ok8 ⟨?_, ?_, ?_, ?_, ?_, ?_, ?_, ?_, ?_, trivial⟩ ?_
 · intro A B E G H; exact rP (y_move (kp (H 0 rfl) E q29))
 · intro A B E G H d0; exact rP (y_nilp (OwnPT.toP (OwnPT.k0 o19 E)) (ed d0 rfl rfl rfl))
 · intro A B E G H d0; exact rP (ownp_field Tryd.fld57_1 Tryd.inf55 (by decide) (OwnPT.toP (OwnPT.k0 o19 E)) (ed d0 rfl rfl rfl))
 · intro A B E G H d0; exact rP (ownp_load Tryd.underlying55 rfl (OwnPT.toP (OwnPT.k0 o19 E)) (ed d0 rfl rfl rfl) rfl)
 · intro A B E G H d0; exact rP (own_len Tryd.underlying55 (al (R := (Pr.own 41 5 1 (List.length (l ++ (ByteArray.data (Utf8.encode c)).toList)) (List.map Ty.byte (l ++ (ByteArray.data (Utf8.encode c)).toList)))) (ed d0 rfl rfl rfl) (Own.k0 o20 E)))
 · intro A B E G H; exact rP (y_move (kp (H 6 rfl) E q30))
 · intro A B E G H d0 d1; exact rP ((y_sub (ed d0 rfl rfl rfl) (ed d1 rfl rfl rfl) (w64 (by omega) (by omega))).mono (fun τ _ h => cvi (σ := τ) (by omega) h))
 · intro A B E G H d0 d1 d2 d3 d4 d5 d6 d7; exact rP (y_assign (ed d0 rfl rfl rfl))
 · intro A B E G H d0 d1 d2 d3 d4 d5 d6 d7 d8; exact rP (y_assign rfl)
 intro a9 s10 D5; have ok9 := D5.ok; have F10 := F9.step0 D5.stp; have o21 := Own.k0 o20 D5.stp; have o22 := OwnPT.k0 o19 D5.stp; have q32 := D5.dn 7 rfl rfl; have q33 := D5.dn 8 rfl rfl; clear D5; refine tn ?_; refine wp_ret ?_
 exact retL2 rfl ok9 F10 ⟨x1, (hasT2 (cvi (by (rw [hal]; omega)) q32) q33), o22, o21⟩


set_option maxHeartbeats 4000000 in
set_option maxRecDepth 100000 in
theorem bString_fn (b buf : Value) (nb : Bool) (l : List UInt8) (σ : GW) (hlow : Low [40, 41] σ) (v0 : Value) (hv0 : Ty.has (Ty.val b) σ v0) (ho_b : OwnPT 57 σ 40 b [(Ty.val (bAddr nb b)), (Ty.val buf)]) (ho_buf : Own σ 41 5 1 buf (List.length l) (List.map Ty.byte l))  :
    FnL Tryd.prog 33 #[v0] σ [40, 41] (fun v τ => (Ty.has (Ty.val (Value.string (bsL l))) τ v)) := by
 refine fn_introL hlow Tryd.func33 rfl Tryd.ntmps33 (Nat.le_of_ble_eq_true rfl) (fun a0 F0 ok0 hargs => ?_)
 have p0 : At (Ty.val b) σ a0 (.tmp 0) := by have e := hargs 0 _ rfl; show Ty.has _ _ _; rw [e]; exact hv0
 clear hargs; refine wp_seq ?_
 refine reg (a := a0) (σ := σ) rfl (fun i_ => List.getD [(Ty.pr (Ty.val (Value.string (ByteArray.mk #[]))))] i_ Pr.any) ok0 rfl ⟨?_, trivial⟩ ?_
 · intro A B E G H; exact rP (y_assign rfl)
 intro a1 s1 D1; have ok1 := D1.ok; have F1 := F0.step0 D1.stp; have q1 := D1.kt p0 rfl; have o1 := OwnPT.k0 ho_b D1.stp; have o2 := Own.k0 ho_buf D1.stp; clear D1; refine tn ?_; refine wp_seq ?_
 refine reg2 (a := a1) (σ := s1) rfl 10 (fun i_ => List.getD [(Ty.pr (Ty.val b)), (Ty.pr (Ty.val b)), (Ty.pr (Ty.val (ptrAt b 1))), (Ty.pr (Ty.val buf)), (Ty.pr (Ty.dptr buf (List.length l))), (Ty.pr (Ty.val b)), (Ty.pr (Ty.val b)), (Ty.pr (Ty.val (ptrAt b 1))), (Ty.pr (Ty.val buf)), (Ty.pr (Ty.nat (List.length l)))] i_ Pr.any) ok1 rfl (by decide) rfl ⟨?_, ?_, ?_, ?_, ?_, ?_, ?_, ?_, ?_, ?_, trivial⟩ ?_
 · intro A B E G H; exact rP (y_move (kp (H 0 rfl) E q1))
 · intro A B E G H d0; exact rP (y_nilp (OwnPT.toP (OwnPT.k0 o1 E)) (ed d0 rfl rfl rfl))
 · intro A B E G H d0; exact rP (ownp_field Tryd.fld57_1 Tryd.inf55 (by decide) (OwnPT.toP (OwnPT.k0 o1 E)) (ed d0 rfl rfl rfl))
 · intro A B E G H d0; exact rP (ownp_load Tryd.underlying55 rfl (OwnPT.toP (OwnPT.k0 o1 E)) (ed d0 rfl rfl rfl) rfl)
 · intro A B E G H d0; exact rP (y_sdata Tryd.underlying78 (Own.k0 o2 E) (ed d0 rfl rfl rfl))
 · intro A B E G H; exact rP (y_move (kp (H 0 rfl) E q1))
 · intro A B E G H d0; exact rP (y_nilp (OwnPT.toP (OwnPT.k0 o1 E)) (ed d0 rfl rfl rfl))
 · intro A B E G H d0; exact rP (ownp_field Tryd.fld57_1 Tryd.inf55 (by decide) (OwnPT.toP (OwnPT.k0 o1 E)) (ed d0 rfl rfl rfl))
 · intro A B E G H d0; exact rP (ownp_load Tryd.underlying55 rfl (OwnPT.toP (OwnPT.k0 o1 E)) (ed d0 rfl rfl rfl) rfl)
 · intro A B E G H d0; exact rP (own_len Tryd.underlying55 (al (R := (Pr.own 41 5 1 (List.length l) (List.map Ty.byte l))) (ed d0 rfl rfl rfl) (Own.k0 o2 E)))
 intro a2 s2 D2; have ok2 := D2.ok; have F2 := F1.step0 D2.stp; have o3 := OwnPT.k0 o1 D2.stp; have o4 := Own.k0 o2 D2.stp; have q2 := D2.dn 4 (by decide) rfl rfl; have q3 := D2.dn 9 (by decide) rfl rfl; clear D2
 refine tailL (L := [41]) (R := (fun v τ => (Ty.val (Value.string (bsL l))).has τ v)) rfl rfl (by decide) ok2 (YldM.toL (m_sstr (by decide) Tryd.underlying78 (by kernel_rfl) o4 q2 q3)) (fun a3 s3 hs1 ok3 r1 sm1 => ?_)
 have F3 := F2.stepL hs1 (by decide); have o5 := OwnPT.keepL o3 hs1 (by decide) (by decide)
 have q4 : At (Ty.val (Value.string (bsL l))) s3 a3 (.tmp 13) := r1
 clear r1
 refine tailL (L := []) (R := (fun v τ => Pr.has (Ty.pr (Ty.val (Value.string (bsL l)))) τ v)) rfl rfl (by decide) ok3 (Yld.toL (y_assign q4)) (fun a4 s4 hs2 ok4 r2 sm2 => ?_)
 have F4 := F3.stepL hs2 (by decide); have o6 := OwnPT.keepL o5 hs2 (by decide) (by decide)
 have q5 : At (Ty.val (Value.string (bsL l))) s4 a4 (.tmp 2) := r2
 clear r2; refine wpList_nil ?_; refine tn ?_; refine wp_ret ?_
 exact retL1 rfl ok4 F4 q5


set_option maxHeartbeats 4000000 in
set_option maxRecDepth 100000 in
theorem print_fn (cs : List BCall) (l : List Int) (σ : GW)  (v0 v1 : Value) (hv0 : Ty.has (Ty.lstc 2 callC cs) σ v0) (hv1 : Ty.has (Ty.lst Ty.int l) σ v1)  (hasc : ∀ c ∈ cs, -2147483648 ≤ c.1 ∧ c.1 ≤ 2147483647) :
    FnC Tryd.prog 10 #[v0, v1] σ (Ty.tup2 (Ty.val (Value.string (ptT cs l))) (Ty.int (ptE cs l))) := by
 obtain ⟨T, hT⟩ : ∃ T, T = prR cs 0 l := ⟨_, rfl⟩
 have hTs := prt_size cs 0 l
 rw [← hT] at hTs
 refine fn_intro0 Tryd.func10 rfl Tryd.ntmps10 (Nat.le_of_ble_eq_true rfl) (fun s0 a0 hle F0 ok0 hargs => ?_)
 have p0 : At (Ty.lstc 2 callC cs) s0 a0 (.tmp 0) := by have e := hargs 0 _ rfl; show Ty.has _ _ _; rw [e]; exact Ty.up _ hle hv0
 have b1 := sl_le p0
 have p1 : At (Ty.lst Ty.int l) s0 a0 (.tmp 1) := by have e := hargs 1 _ rfl; show Ty.has _ _ _; rw [e]; exact Ty.up _ hle hv1
 have b2 := sl_le p1
 clear hargs; refine wp_seq ?_
 refine rg a0 s0 [(Ty.val (Value.string (ByteArray.mk #[]))), (Ty.int (0 : Int))] ok0 ⟨?_, ?_, trivial⟩ ?_
 · intro A B E G H; exact rP (y_assign rfl)
 · intro A B E G H d0; exact rP (y_assign rfl)
 intro a1 s1 D1; have ok1 := D1.ok; have F1 := F0.step0 D1.stp; have q1 := D1.kt p0 rfl; have q2 := D1.kt p1 rfl; clear D1; refine tn ?_; refine wp_seq ?_; refine wp_seq ?_
 refine rg a1 s1 [(Ty.lst Ty.int l), (Ty.nat (List.length l)), (Ty.bool (decide ((((List.length l) : Nat) : Int) < (1 : Int)))), (Ty.bool (decide ((((List.length l) : Nat) : Int) < (1 : Int)))), (Ty.grd ((decide ((((List.length l) : Nat) : Int) < (1 : Int))) = false) (Ty.lst Ty.int l)), (Ty.grd ((decide ((((List.length l) : Nat) : Int) < (1 : Int))) = false) (Ty.nat (List.length l))), (Ty.grd ((decide ((((List.length l) : Nat) : Int) < (1 : Int))) = false) (Ty.bool (decide ((400 : Int) < (((List.length l) : Nat) : Int))))), (Ty.bool ((decide ((((List.length l) : Nat) : Int) < (1 : Int))) || (decide ((400 : Int) < (((List.length l) : Nat) : Int)))))] ok1 ⟨?_, ?_, ?_, ?_, ?_, ?_, ?_, ?_, trivial⟩ ?_
 · intro A B E G H; exact rP (y_move (kp (H 1 rfl) E q2))
 · intro A B E G H d0; exact rP (y_len Tryd.underlying26 (ed d0 rfl rfl rfl))
 · intro A B E G H d0; exact rP (y_lss (ed d0 rfl rfl rfl) rfl)
 · intro A B E G H d0; exact rP (y_move (ed d0 rfl rfl rfl))
 · intro A B E G H d0
   refine run_guard G rfl rfl (by decide) (ed d0 rfl rfl rfl) (fun hg => ?_)
   have hp := of_decide_eq_false hg
   exact y_move (kp (H 1 rfl) E q2)
 · intro A B E G H d0 d1
   refine run_guard G rfl rfl (by decide) (ed d1 rfl rfl rfl) (fun hg => ?_)
   have hp := of_decide_eq_false hg
   exact y_len Tryd.underlying26 ((ed d0 rfl rfl rfl).1 hg)
 · intro A B E G H d0 d1
   refine run_guard G rfl rfl (by decide) (ed d1 rfl rfl rfl) (fun hg => ?_)
   have hp := of_decide_eq_false hg
   exact y_gtr ((ed d0 rfl rfl rfl).1 hg) rfl
 · intro A B E G H d0 d1; exact rP (y_pick_or (ed d0 rfl rfl rfl) rfl (ed d1 rfl rfl rfl))
 intro a2 s2 D2; have ok2 := D2.ok; have F2 := F1.step0 D2.stp; have q3 := D2.kt q1 rfl; have q4 := D2.kt q2 rfl; have q5 := D2.dn 7 rfl rfl; clear D2; refine tn ?_
 refine cond_t q5 (fun c1 => ?_) (fun c1 => ?_)
 ·
  simp only [Bool.or_eq_true, decide_eq_true_eq] at c1; have hcc : l.length < 1 ∨ 400 < l.length := (by omega)
  refine wp_seq ?_
  refine rg a2 s2 [(Ty.val (Value.string (ByteArray.mk #[]))), (Ty.int (1 : Int))] ok2 ⟨?_, ?_, trivial⟩ ?_
  · intro A B E G H; exact rP (y_assign rfl)
  · intro A B E G H d0 d1; exact rP (y_assign rfl)
  intro a3 s3 D3; have ok3 := D3.ok; have F3 := F2.step0 D3.stp; have q6 := D3.dn 0 rfl rfl; have q7 := D3.dn 1 rfl rfl; clear D3; refine tn ?_; refine wp_ret ?_; refine tr ?_
  exact retL2 rfl ok3 F3 (hasT2 (cvt (by (rw [(pt_cnt hcc).2]; rfl)) q6) (cvi (by (exact (pt_cnt hcc).1.symm)) q7))
 ·
  obtain ⟨d1, d2⟩ := Bool.or_eq_false_iff.mp c1
  replace d1 := of_decide_eq_false d1
  replace d2 := of_decide_eq_false d2
  have hcc : ¬ (l.length < 1 ∨ 400 < l.length) := (by simp only [Bool.or_eq_false_iff, decide_eq_false_iff_not] at c1; omega)
  refine wp_skip ?_; refine tn ?_; refine wp_seq ?_; refine wp_seq ?_
  refine rg a2 s2 [(Ty.lst Ty.int l), (Ty.nat (List.length l)), (Ty.int (0 : Int))] ok2 ⟨?_, ?_, ?_, trivial⟩ ?_
  · intro A B E G H; exact rP (y_move (kp (H 1 rfl) E q4))
  · intro A B E G H d0; exact rP (y_len Tryd.underlying26 (ed d0 rfl rfl rfl))
  · intro A B E G H; exact rP (y_move rfl)
  intro a4 s4 D4; have ok4 := D4.ok; have F4 := F2.step0 D4.stp; have q8 := D4.kt q3 rfl; have q9 := D4.kt q4 rfl; have q10 := D4.dn 0 rfl rfl; have q11 := D4.dn 1 rfl rfl; have q12 := D4.dn 2 rfl rfl; clear D4; refine tn ?_; refine wp_block ?_
  refine loop (fun n1 a5 w1 => ∃ (t1 : GW) (i : Nat), t1.w = w1 ∧ FromL [] s0 t1 ∧ Ok 73 a5 ∧ At (Ty.nat i) t1 a5 (.tmp 20) ∧ At (Ty.lstc 2 callC cs) t1 a5 (.tmp 0) ∧ At (Ty.lst Ty.int l) t1 a5 (.tmp 1) ∧ At (Ty.lst Ty.int l) t1 a5 (.tmp 18) ∧ At (Ty.nat (List.length l)) t1 a5 (.tmp 19) ∧ (i ≤ l.length) ∧ (∀ k, k < i → 0 ≤ l.getD k 0 ∧ l.getD k 0 < (cs.length : Int)) ∧ n1 = l.length - i) (l.length - (0)) ?_ ?_
  ·
   exact ⟨s4, 0, rfl, F4, ok4, (cvi (by (first | rfl | omega | (simp_all; done) | (simp_all; omega))) q12), q8, q9, q10, q11, by omega, fun j hj => absurd hj (Nat.not_lt_zero j), rfl⟩
  ·
   rintro n2 a6 w2 ⟨t2, i, rfl, F5, ok5, q13, q14, q15, q16, q17, hi, hin, rfl⟩
   refine wp_seq ?_
   refine reg (a := a6) (σ := t2) rfl (fun i_ => List.getD [(Ty.pr (Ty.bool (decide (((i : Nat) : Int) < (((List.length l) : Nat) : Int)))))] i_ Pr.any) ok5 rfl ⟨?_, trivial⟩ ?_
   · intro A B E G H; exact rP (y_lss (kp (H 20 rfl) E q13) (kp (H 19 rfl) E q17))
   intro a7 s5 D5; have ok6 := D5.ok; have F6 := F5.step0 D5.stp; have q18 := D5.kt q13 rfl; have q19 := D5.kt q14 rfl; have q20 := D5.kt q15 rfl; have q21 := D5.kt q16 rfl; have q22 := D5.kt q17 rfl; have q23 := D5.dn 0 rfl rfl; clear D5; refine tn ?_; refine wp_seq ?_
   refine cond_p (p := (((i : Nat) : Int) < (((List.length l) : Nat) : Int))) q23 (fun c2 => ?_) (fun c2 => ?_)
   ·
    refine wp_skip ?_; refine tn ?_; refine wp_seq ?_; refine wp_block ?_; refine wp_seq ?_
    refine rg a7 s5 [(Ty.ref [(Ty.int (l.getD i 0))]), (Ty.int (l.getD i 0)), (Ty.int (l.getD i 0))] ok6 ⟨?_, ?_, ?_, trivial⟩ ?_
    · intro A B E G H; exact rP (y_index1 Tryd.underlying26 Tryd.inf3 (kp (H 18 rfl) E q21) (kp (H 20 rfl) E q18) (by omega) (lst_get Ty.int l 0 i (by omega)))
    · intro A B E G H d0; exact rP (y_load Tryd.underlying3 rfl (ed d0 rfl rfl rfl) rfl)
    · intro A B E G H d0 d1 d2; exact rP (y_assign (ed d0 rfl rfl rfl))
    intro a8 s6 D6; have ok7 := D6.ok; have F7 := F6.step0 D6.stp; have q24 := D6.kt q18 rfl; have q25 := D6.kt q19 rfl; have q26 := D6.kt q20 rfl; have q27 := D6.kt q21 rfl; have q28 := D6.kt q22 rfl; have q29 := D6.dn 2 rfl rfl; clear D6; refine tn ?_; refine wp_seq ?_
    refine rg a8 s6 [(Ty.int (l.getD i 0)), (Ty.bool (decide ((l.getD i 0) < (0 : Int)))), (Ty.bool (decide ((l.getD i 0) < (0 : Int)))), (Ty.grd ((decide ((l.getD i 0) < (0 : Int))) = false) (Ty.int (l.getD i 0))), (Ty.grd ((decide ((l.getD i 0) < (0 : Int))) = false) (Ty.lstc 2 callC cs)), (Ty.grd ((decide ((l.getD i 0) < (0 : Int))) = false) (Ty.nat (List.length cs))), (Ty.grd ((decide ((l.getD i 0) < (0 : Int))) = false) (Ty.bool (decide ((((List.length cs) : Nat) : Int) ≤ (l.getD i 0))))), (Ty.bool ((decide ((l.getD i 0) < (0 : Int))) || (decide ((((List.length cs) : Nat) : Int) ≤ (l.getD i 0)))))] ok7 ⟨?_, ?_, ?_, ?_, ?_, ?_, ?_, ?_, trivial⟩ ?_
    · intro A B E G H; exact rP (y_move (kp (H 7 rfl) E q29))
    · intro A B E G H d0; exact rP (y_lss (ed d0 rfl rfl rfl) rfl)
    · intro A B E G H d0; exact rP (y_move (ed d0 rfl rfl rfl))
    · intro A B E G H d0
      refine run_guard G rfl rfl (by decide) (ed d0 rfl rfl rfl) (fun hg => ?_)
      have hp := of_decide_eq_false hg
      exact y_move (kp (H 7 rfl) E q29)
    · intro A B E G H d0
      refine run_guard G rfl rfl (by decide) (ed d0 rfl rfl rfl) (fun hg => ?_)
      have hp := of_decide_eq_false hg
      exact y_move (kp (H 0 rfl) E q25)
    · intro A B E G H d0 d1
      refine run_guard G rfl rfl (by decide) (ed d1 rfl rfl rfl) (fun hg => ?_)
      have hp := of_decide_eq_false hg
      exact y_len Tryd.underlying25 ((ed d0 rfl rfl rfl).1 hg)
    · intro A B E G H d0 d1 d2
      refine run_guard G rfl rfl (by decide) (ed d2 rfl rfl rfl) (fun hg => ?_)
      have hp := of_decide_eq_false hg
      exact y_geq ((ed d0 rfl rfl rfl).1 hg) ((ed d1 rfl rfl rfl).1 hg)
    · intro A B E G H d0 d1; exact rP (y_pick_or (ed d0 rfl rfl rfl) rfl (ed d1 rfl rfl rfl))
    intro a9 s7 D7; have ok8 := D7.ok; have F8 := F7.step0 D7.stp; have q30 := D7.kt q24 rfl; have q31 := D7.kt q25 rfl; have q32 := D7.kt q26 rfl; have q33 := D7.kt q27 rfl; have q34 := D7.kt q28 rfl; have q35 := D7.dn 7 rfl rfl; clear D7; refine tn ?_
    refine cond_t q35 (fun c3 => ?_) (fun c3 => ?_)
    ·
     simp only [Bool.or_eq_true, decide_eq_true_eq] at c3; have hbv : l.getD i 0 < 0 ∨ (cs.length : Int) ≤ l.getD i 0 := (by omega)
     refine wp_seq ?_
     refine rg a9 s7 [(Ty.val (Value.string (ByteArray.mk #[]))), (Ty.int (12 : Int))] ok8 ⟨?_, ?_, trivial⟩ ?_
     · intro A B E G H; exact rP (y_assign rfl)
     · intro A B E G H d0 d1; exact rP (y_assign rfl)
     intro a10 s8 D8; have ok9 := D8.ok; have F9 := F8.step0 D8.stp; have q36 := D8.dn 0 rfl rfl; have q37 := D8.dn 1 rfl rfl; clear D8; refine tn ?_; refine wp_ret ?_; refine br ?_; refine tr ?_; refine tr ?_; refine br ?_; refine tr ?_
     exact retL2 rfl ok9 F9 (hasT2 (cvt (by (rw [(pt_val hcc (k := i) (by omega) hbv).2]; rfl)) q36) (cvi (by (exact (pt_val hcc (k := i) (by omega) hbv).1.symm)) q37))
    ·
     obtain ⟨d3, d4⟩ := Bool.or_eq_false_iff.mp c3
     replace d3 := of_decide_eq_false d3
     replace d4 := of_decide_eq_false d4
     simp only [Bool.or_eq_false_iff, decide_eq_false_iff_not] at c3
     refine wp_skip ?_; refine bn ?_; refine tn ?_
     refine rg a9 s7 [(Ty.nat (i + 1)), (Ty.nat (i + 1))] ok8 ⟨?_, ?_, trivial⟩ ?_
     · intro A B E G H; exact rP ((y_add (kp (H 20 rfl) E q30) rfl (w64 (by omega) (by omega))).mono (fun τ _ h => cvi (σ := τ) (by first | omega | exact (Int.natCast_mul _ _).symm) h))
     · intro A B E G H d0; exact rP (y_move (ed d0 rfl rfl rfl))
     intro a11 s9 D9; have ok10 := D9.ok; have F10 := F8.step0 D9.stp; have q38 := D9.kt q31 rfl; have q39 := D9.kt q32 rfl; have q40 := D9.kt q33 rfl; have q41 := D9.kt q34 rfl; have q42 := D9.dn 1 rfl rfl; clear D9
     exact tn ⟨l.length - ((i+1)), by omega, s9, (i+1), rfl, F10, ok10, (cvi (by (first | rfl | omega | (simp_all; done) | (simp_all; omega))) q42), q38, q39, q40, q41, by omega, fun k hk => by (by_cases e : k = i; (subst e; omega); exact hin k (by omega)), rfl⟩
   ·
    have hin2 : ∀ k, k < l.length → 0 ≤ l.getD k 0 ∧ l.getD k 0 < (cs.length : Int) := fun k hk => hin k (by omega)
    refine wp_exit ?_; refine tx ?_; refine tx ?_; refine bx ?_; refine tn ?_; refine wp_seq ?_
    refine reg (a := a7) (σ := s5) rfl (fun i_ => List.getD [(Pr.ownpt 57 5 [(Ty.val (Value.pointer none)), (Ty.val (Value.slice none 0 0))])] i_ Pr.any) ok6 rfl ⟨?_, trivial⟩ ?_
    · intro A B E G H; exact rP (y_alloct Tryd.inf57 rfl (alloc_vals (vs := [.pointer none, .slice none 0 0]) rfl))
    intro a12 s10 D10; have ok11 := D10.ok; have F11 := F6.step0 D10.stp; have q43 := D10.kt q19 rfl; have q44 := D10.kt q20 rfl
    obtain ⟨x1, hx1⟩ : ∃ x, a12.eval (.tmp 8) = x := ⟨_, rfl⟩
    have q45 : At (Ty.val x1) s10 a12 (.tmp 8) := hx1
    have o1 : OwnPT 57 s10 5 x1 [(Ty.val (Value.pointer none)), (Ty.val (Value.slice none 0 0))] := al2 (R := (Pr.ownpt 57 5 [(Ty.val (Value.pointer none)), (Ty.val (Value.slice none 0 0))])) hx1 (D10.done 0)
    clear D10; refine tn ?_; refine wp_seq ?_; refine wp_block ?_
    have o2 : Own s10 6 5 1 (Value.slice none 0 0) 0 (List.map Ty.byte ([] : List UInt8)) := Own.nil _ _ _ _
    refine loop (fun n3 a13 w3 => ∃ (t3 : GW) (ll : List Int) (out : List UInt8) (nz : Bool) (bf : Value), t3.w = w3 ∧ FromL [] s0 t3 ∧ Ok 73 a13 ∧ At (Ty.lst Ty.int ll) t3 a13 (.tmp 1) ∧ At (Ty.lstc 2 callC cs) t3 a13 (.tmp 0) ∧ At (Ty.val x1) t3 a13 (.tmp 8) ∧ OwnPT 57 t3 5 x1 [(Ty.val (bAddr nz x1)), (Ty.val bf)] ∧ Own t3 6 5 1 bf (List.length out) (List.map Ty.byte out) ∧ (bsL out ++ prR cs 0 ll = T) ∧ (ll.length ≤ l.length) ∧ (∀ k, k < ll.length → 0 ≤ ll.getD k 0 ∧ ll.getD k 0 < (cs.length : Int)) ∧ n3 = ll.length) ((l).length) ?_ ?_
    ·
     exact ⟨s10, l, ([] : List UInt8), true, (Value.slice none 0 0), rfl, F11, ok11, (cvt (by (first | rfl | omega | (simp_all; done) | (simp_all; omega))) q44), q43, q45, (ownpt_cell 0 (Ty.val (bAddr (true) x1)) o1 rfl (fun _ _ h => (cvt (by (first | rfl | omega | (simp_all; done) | (simp_all; omega))) h))), (cvo (by (simp)) (by (simp)) o2), by rw [show bsL [] = ByteArray.empty from rfl, ba_nil', hT], by omega, hin2, rfl⟩
    ·
     rintro n4 a14 w4 ⟨t4, ll, out, nz, bf, rfl, F12, ok12, q46, q47, q48, o3, o4, E, hll, hil, rfl⟩
     have hos : out.length ≤ T.size := by rw [← E, ByteArray.size_append, bsL_size]; omega
     refine wp_seq ?_; refine wp_seq ?_
     refine reg (a := a14) (σ := t4) rfl (fun i_ => List.getD [(Ty.pr (Ty.lst Ty.int ll)), (Ty.pr (Ty.nat (List.length ll))), (Ty.pr (Ty.bool (decide ((0 : Int) < (((List.length ll) : Nat) : Int)))))] i_ Pr.any) ok12 rfl ⟨?_, ?_, ?_, trivial⟩ ?_
     · intro A B E G H; exact rP (y_move (kp (H 1 rfl) E q46))
     · intro A B E G H d0; exact rP (y_len Tryd.underlying26 (ed d0 rfl rfl rfl))
     · intro A B E G H d0; exact rP (y_gtr (ed d0 rfl rfl rfl) rfl)
     intro a15 s11 D11; have ok13 := D11.ok; have F13 := F12.step0 D11.stp; have q49 := D11.kt q46 rfl; have q50 := D11.kt q47 rfl; have q51 := D11.kt q48 rfl; have o5 := OwnPT.k0 o3 D11.stp; have o6 := Own.k0 o4 D11.stp; have q52 := D11.dn 2 rfl rfl; clear D11; refine tn ?_
     refine cond_p (p := ((0 : Int) < (((List.length ll) : Nat) : Int))) q52 (fun c4 => ?_) (fun c4 => ?_)
     ·
      have hl0 := hil 0 (by omega); have hl0b : 0 ≤ (ll.getD ((0 : Int)).toNat 0) ∧ (ll.getD ((0 : Int)).toNat 0) < (cs.length : Int) := hl0; have hca : -2147483648 ≤ (cs.getD (ll.getD ((0 : Int)).toNat 0).toNat D0).1 ∧ (cs.getD (ll.getD ((0 : Int)).toNat 0).toNat D0).1 ≤ 2147483647 := hasc _ (mem_getDD D0 (by omega))
      refine wp_skip ?_; refine tn ?_; refine wp_block ?_; refine wp_seq ?_
      refine rg a15 s11 [(Ty.int (1 : Int))] ok13 ⟨?_, trivial⟩ ?_
      · intro A B E G H; exact rP (y_assign rfl)
      intro a16 s12 D12; have ok14 := D12.ok; have F14 := F13.step0 D12.stp; have q53 := D12.kt q49 rfl; have q54 := D12.kt q50 rfl; have q55 := D12.kt q51 rfl; have o7 := OwnPT.k0 o5 D12.stp; have o8 := Own.k0 o6 D12.stp; have q56 := D12.dn 0 rfl rfl; clear D12; refine tn ?_; refine wp_seq ?_; refine wp_block ?_
      refine loop (fun n5 a17 w5 => ∃ (t5 : GW) (m : Nat), t5.w = w5 ∧ FromL [] s0 t5 ∧ Ok 73 a17 ∧ At (Ty.nat (m + 1)) t5 a17 (.tmp 9) ∧ At (Ty.lst Ty.int ll) t5 a17 (.tmp 1) ∧ At (Ty.lstc 2 callC cs) t5 a17 (.tmp 0) ∧ At (Ty.val x1) t5 a17 (.tmp 8) ∧ OwnPT 57 t5 5 x1 [(Ty.val (bAddr nz x1)), (Ty.val bf)] ∧ Own t5 6 5 1 bf (List.length out) (List.map Ty.byte out) ∧ (bsL out ++ prR cs m (List.drop m ll) = T) ∧ (m + 1 ≤ ll.length) ∧ (m + 1 ≤ 99) ∧ (ll.getD m 0 = ll.getD 0 0) ∧ n5 = ll.length - m) (ll.length - (0)) ?_ ?_
      ·
       exact ⟨s12, 0, rfl, F14, ok14, (cvi (by (rfl)) q56), q53, q54, q55, o7, o8, by rw [List.drop_zero]; exact E, by omega, by omega, rfl, rfl⟩
      ·
       rintro n6 a18 w6 ⟨t6, m, rfl, F15, ok15, q57, q58, q59, q60, o9, o10, hq, hm, hm9, hx0, rfl⟩
       refine wp_seq ?_; refine wp_seq ?_
       refine reg (a := a18) (σ := t6) rfl (fun i_ => List.getD [(Ty.pr (Ty.nat (m + 1))), (Ty.pr (Ty.lst Ty.int ll)), (Ty.pr (Ty.nat (List.length ll))), (Ty.pr (Ty.bool (decide ((((m + 1) : Nat) : Int) < (((List.length ll) : Nat) : Int))))), (Ty.pr (Ty.bool (decide ((((m + 1) : Nat) : Int) < (((List.length ll) : Nat) : Int))))), (Ty.pr (Ty.grd ((decide ((((m + 1) : Nat) : Int) < (((List.length ll) : Nat) : Int))) = true) (Ty.nat (m + 1)))), (Ty.pr (Ty.grd ((decide ((((m + 1) : Nat) : Int) < (((List.length ll) : Nat) : Int))) = true) (Ty.bool (decide ((((m + 1) : Nat) : Int) < (99 : Int)))))), (Ty.pr (Ty.bool ((decide ((((m + 1) : Nat) : Int) < (((List.length ll) : Nat) : Int))) && (decide ((((m + 1) : Nat) : Int) < (99 : Int)))))), (Ty.pr (Ty.bool ((decide ((((m + 1) : Nat) : Int) < (((List.length ll) : Nat) : Int))) && (decide ((((m + 1) : Nat) : Int) < (99 : Int)))))), (Ty.pr (Ty.grd (((decide ((((m + 1) : Nat) : Int) < (((List.length ll) : Nat) : Int))) && (decide ((((m + 1) : Nat) : Int) < (99 : Int)))) = true) (Ty.lst Ty.int ll))), (Ty.pr (Ty.grd (((decide ((((m + 1) : Nat) : Int) < (((List.length ll) : Nat) : Int))) && (decide ((((m + 1) : Nat) : Int) < (99 : Int)))) = true) (Ty.nat (m + 1)))), (Ty.pr (Ty.grd (((decide ((((m + 1) : Nat) : Int) < (((List.length ll) : Nat) : Int))) && (decide ((((m + 1) : Nat) : Int) < (99 : Int)))) = true) (Ty.ref [(Ty.int (ll.getD (m + 1) 0))]))), (Ty.pr (Ty.grd (((decide ((((m + 1) : Nat) : Int) < (((List.length ll) : Nat) : Int))) && (decide ((((m + 1) : Nat) : Int) < (99 : Int)))) = true) (Ty.int (ll.getD (m + 1) 0)))), (Ty.pr (Ty.grd (((decide ((((m + 1) : Nat) : Int) < (((List.length ll) : Nat) : Int))) && (decide ((((m + 1) : Nat) : Int) < (99 : Int)))) = true) (Ty.lst Ty.int ll))), (Ty.pr (Ty.grd (((decide ((((m + 1) : Nat) : Int) < (((List.length ll) : Nat) : Int))) && (decide ((((m + 1) : Nat) : Int) < (99 : Int)))) = true) (Ty.ref [(Ty.int (ll.getD ((0 : Int)).toNat 0))]))), (Ty.pr (Ty.grd (((decide ((((m + 1) : Nat) : Int) < (((List.length ll) : Nat) : Int))) && (decide ((((m + 1) : Nat) : Int) < (99 : Int)))) = true) (Ty.int (ll.getD ((0 : Int)).toNat 0)))), (Ty.pr (Ty.grd (((decide ((((m + 1) : Nat) : Int) < (((List.length ll) : Nat) : Int))) && (decide ((((m + 1) : Nat) : Int) < (99 : Int)))) = true) (Ty.bool (decide ((ll.getD (m + 1) 0) = (ll.getD ((0 : Int)).toNat 0)))))), (Ty.pr (Ty.bool (((decide ((((m + 1) : Nat) : Int) < (((List.length ll) : Nat) : Int))) && (decide ((((m + 1) : Nat) : Int) < (99 : Int)))) && (decide ((ll.getD (m + 1) 0) = (ll.getD ((0 : Int)).toNat 0))))))] i_ Pr.any) ok15 rfl ⟨?_, ?_, ?_, ?_, ?_, ?_, ?_, ?_, ?_, ?_, ?_, ?_, ?_, ?_, ?_, ?_, ?_, ?_, trivial⟩ ?_
       · intro A B E G H; exact rP (y_move (kp (H 9 rfl) E q57))
       · intro A B E G H; exact rP (y_move (kp (H 1 rfl) E q58))
       · intro A B E G H d0; exact rP (y_len Tryd.underlying26 (ed d0 rfl rfl rfl))
       · intro A B E G H d0 d1; exact rP (y_lss (ed d0 rfl rfl rfl) (ed d1 rfl rfl rfl))
       · intro A B E G H d0; exact rP (y_move (ed d0 rfl rfl rfl))
       · intro A B E G H d0
         refine run_guard G rfl rfl (by decide) (ed d0 rfl rfl rfl) (fun hg => ?_)
         have hp := of_decide_eq_true hg
         exact y_move (kp (H 9 rfl) E q57)
       · intro A B E G H d0 d1
         refine run_guard G rfl rfl (by decide) (ed d1 rfl rfl rfl) (fun hg => ?_)
         have hp := of_decide_eq_true hg
         exact y_lss ((ed d0 rfl rfl rfl).1 hg) rfl
       · intro A B E G H d0 d1; exact rP (y_pick_and (ed d0 rfl rfl rfl) (ed d1 rfl rfl rfl) rfl)
       · intro A B E G H d0 d1; exact rP (y_move (ed d0 rfl rfl rfl))
       · intro A B E G H d0
         refine run_guard G rfl rfl (by decide) (ed d0 rfl rfl rfl) (fun hg => ?_)
         obtain ⟨d5, d6⟩ := Bool.and_eq_true_iff.mp hg
         have d5 := of_decide_eq_true d5
         have d6 := of_decide_eq_true d6
         exact y_move (kp (H 1 rfl) E q58)
       · intro A B E G H d0
         refine run_guard G rfl rfl (by decide) (ed d0 rfl rfl rfl) (fun hg => ?_)
         obtain ⟨d7, d8⟩ := Bool.and_eq_true_iff.mp hg
         have d7 := of_decide_eq_true d7
         have d8 := of_decide_eq_true d8
         exact y_move (kp (H 9 rfl) E q57)
       · intro A B E G H d0 d1 d2
         refine run_guard G rfl rfl (by decide) (ed d2 rfl rfl rfl) (fun hg => ?_)
         obtain ⟨d9, d10⟩ := Bool.and_eq_true_iff.mp hg
         have d9 := of_decide_eq_true d9
         have d10 := of_decide_eq_true d10
         exact y_index1 Tryd.underlying26 Tryd.inf3 ((ed d0 rfl rfl rfl).1 hg) ((ed d1 rfl rfl rfl).1 hg) (by omega) (lst_get Ty.int ll 0 (m + 1) (by omega))
       · intro A B E G H d0 d1
         refine run_guard G rfl rfl (by decide) (ed d1 rfl rfl rfl) (fun hg => ?_)
         obtain ⟨d11, d12⟩ := Bool.and_eq_true_iff.mp hg
         have d11 := of_decide_eq_true d11
         have d12 := of_decide_eq_true d12
         exact y_load Tryd.underlying3 rfl ((ed d0 rfl rfl rfl).1 hg) rfl
       · intro A B E G H d0
         refine run_guard G rfl rfl (by decide) (ed d0 rfl rfl rfl) (fun hg => ?_)
         obtain ⟨d13, d14⟩ := Bool.and_eq_true_iff.mp hg
         have d13 := of_decide_eq_true d13
         have d14 := of_decide_eq_true d14
         exact y_move (kp (H 1 rfl) E q58)
       · intro A B E G H d0 d1
         refine run_guard G rfl rfl (by decide) (ed d1 rfl rfl rfl) (fun hg => ?_)
         obtain ⟨d15, d16⟩ := Bool.and_eq_true_iff.mp hg
         have d15 := of_decide_eq_true d15
         have d16 := of_decide_eq_true d16
         exact y_index1 Tryd.underlying26 Tryd.inf3 ((ed d0 rfl rfl rfl).1 hg) rfl (by omega) (lst_get Ty.int ll 0 ((0 : Int)).toNat (by omega))
       · intro A B E G H d0 d1
         refine run_guard G rfl rfl (by decide) (ed d1 rfl rfl rfl) (fun hg => ?_)
         obtain ⟨d17, d18⟩ := Bool.and_eq_true_iff.mp hg
         have d17 := of_decide_eq_true d17
         have d18 := of_decide_eq_true d18
         exact y_load Tryd.underlying3 rfl ((ed d0 rfl rfl rfl).1 hg) rfl
       · intro A B E G H d0 d1 d2
         refine run_guard G rfl rfl (by decide) (ed d2 rfl rfl rfl) (fun hg => ?_)
         obtain ⟨d19, d20⟩ := Bool.and_eq_true_iff.mp hg
         have d19 := of_decide_eq_true d19
         have d20 := of_decide_eq_true d20
         exact y_eql ((ed d0 rfl rfl rfl).1 hg) ((ed d1 rfl rfl rfl).1 hg)
       · intro A B E G H d0 d1; exact rP (y_pick_and (ed d0 rfl rfl rfl) (ed d1 rfl rfl rfl) rfl)
       intro a19 s13 D13; have ok16 := D13.ok; have F16 := F15.step0 D13.stp; have q61 := D13.kt q57 rfl; have q62 := D13.kt q58 rfl; have q63 := D13.kt q59 rfl; have q64 := D13.kt q60 rfl; have o11 := OwnPT.k0 o9 D13.stp; have o12 := Own.k0 o10 D13.stp; have q65 := D13.dn 17 rfl rfl; clear D13; refine tn ?_
       refine cond_t q65 (fun c5 => ?_) (fun c5 => ?_)
       ·
        obtain ⟨d21, d22⟩ := Bool.and_eq_true_iff.mp c5
        obtain ⟨d23, d24⟩ := Bool.and_eq_true_iff.mp d21
        replace d23 := of_decide_eq_true d23
        replace d24 := of_decide_eq_true d24
        replace d22 := of_decide_eq_true d22
        simp only [Bool.and_eq_true, decide_eq_true_eq] at c5; have hz_ : ll.getD (m + 1) 0 = ll.getD 0 0 := c5.2
        refine wp_skip ?_; refine tn ?_; refine wp_block ?_
        refine rg a19 s13 [(Ty.nat (m + 1)), (Ty.nat ((m + 1) + 1)), (Ty.nat ((m + 1) + 1))] ok16 ⟨?_, ?_, ?_, trivial⟩ ?_
        · intro A B E G H; exact rP (y_move (kp (H 9 rfl) E q61))
        · intro A B E G H d0; exact rP ((y_add (ed d0 rfl rfl rfl) rfl (w64 (by omega) (by omega))).mono (fun τ _ h => cvi (σ := τ) (by first | omega | exact (Int.natCast_mul _ _).symm) h))
        · intro A B E G H d0 d1 d2; exact rP (y_assign (ed d0 rfl rfl rfl))
        intro a20 s14 D14; have ok17 := D14.ok; have F17 := F16.step0 D14.stp; have q66 := D14.kt q62 rfl; have q67 := D14.kt q63 rfl; have q68 := D14.kt q64 rfl; have o13 := OwnPT.k0 o11 D14.stp; have o14 := Own.k0 o12 D14.stp; have q69 := D14.dn 2 rfl rfl; clear D14; refine bn ?_
        exact tn ⟨ll.length - ((m + 1)), by omega, s14, (m + 1), rfl, F17, ok17, (cvi (by (first | rfl | omega | (simp_all; done) | (simp_all; omega))) q69), q66, q67, q68, o13, o14, prt_cont hq (by omega) (by omega) (by omega), by omega, by omega, by omega, rfl⟩
       ·
        have hno : ¬ ((m + 1 < ll.length ∧ ll.getD (m + 1) 0 = ll.getD m 0) ∧ m + 1 < 99) := (by simp only [Bool.and_eq_false_iff, decide_eq_false_iff_not] at c5; rintro ⟨⟨h1_, h2_⟩, h3_⟩; rw [hx0] at h2_; rcases c5 with (h_ | h_) | h_; omega; omega; exact h_ h2_)
        refine wp_exit ?_; refine tx ?_; refine tx ?_; refine bx ?_; refine tn ?_; refine wp_seq ?_; refine wp_seq ?_
        refine rg a19 s13 [(Ty.nat (m + 1)), (Ty.bool (decide ((1 : Int) < (((m + 1) : Nat) : Int))))] ok16 ⟨?_, ?_, trivial⟩ ?_
        · intro A B E G H; exact rP (y_move (kp (H 9 rfl) E q61))
        · intro A B E G H d0; exact rP (y_gtr (ed d0 rfl rfl rfl) rfl)
        intro a21 s15 D15; have ok18 := D15.ok; have F18 := F16.step0 D15.stp; have q70 := D15.kt q61 rfl; have q71 := D15.kt q62 rfl; have q72 := D15.kt q63 rfl; have q73 := D15.kt q64 rfl; have o15 := OwnPT.k0 o11 D15.stp; have o16 := Own.k0 o12 D15.stp; have q74 := D15.dn 1 rfl rfl; clear D15; refine tn ?_
        refine cond_p (p := ((1 : Int) < (((m + 1) : Nat) : Int))) q74 (fun c6 => ?_) (fun c6 => ?_)
        ·
         have hds := dec_size (n := m + 1)
         refine reg2 (a := a21) (σ := s15) rfl 2 (fun i_ => List.getD [(Ty.pr (Ty.nat (m + 1))), (Ty.pr (Ty.val (Value.string (decB ((m + 1))))))] i_ Pr.any) ok18 rfl (by decide) rfl ⟨?_, ?_, trivial⟩ ?_
         · intro A B E G H; exact rP (y_move (kp (H 9 rfl) E q70))
         · intro A B E G H d0; exact rP (y_call #[A.eval (.tmp 58)] Tryd.func31 rfl rfl (by simp only [List.map_toArray, List.map_cons, List.map_nil]) (itoa_fn ((m + 1)) _ _ (cvi (σ := B) (by omega) (ed d0 rfl rfl rfl)) (by omega)))
         intro a22 s16 D16; have ok19 := D16.ok; have F19 := F18.step0 D16.stp; have q75 := D16.kt q70 rfl; have q76 := D16.kt q71 rfl; have q77 := D16.kt q72 rfl; have q78 := D16.kt q73 rfl; have o17 := OwnPT.k0 o15 D16.stp; have o18 := Own.k0 o16 D16.stp; have q79 := D16.dn 1 (by decide) rfl rfl; clear D16
         refine tailL (L := [5, 6]) (R := (fun v τ' => ∃ τ, (fun v τ => ∃ (bz : Value), (Ty.has (Ty.tup2 (Ty.nat (ByteArray.size ((decB ((m + 1)))))) (Ty.val Value.nilIface)) τ v) ∧ (OwnPT 57 τ 40 x1 [(Ty.val (bAddr false (x1))), (Ty.val bz)]) ∧ (Own τ 41 5 1 bz (List.length ((out) ++ (ByteArray.data ((decB ((m + 1))))).toList)) (List.map Ty.byte ((out) ++ (ByteArray.data ((decB ((m + 1))))).toList)))) v τ ∧ Back [(40, 5), (41, 6)] τ τ')) rfl rfl (by decide) ok19 (y_callL (L := [40, 41]) [(5, 40), (6, 41)] [(40, 5), (41, 6)] #[a22.eval (.tmp 8), a22.eval (.tmp 59)] rfl (by decide) Tryd.func30 rfl rfl (by simp only [List.map_toArray, List.map_cons, List.map_nil]) (writeString_fn (x1) (bf) (nz) (out) ((decB ((m + 1)))) _ (GW.low_lend _ (by decide)) _ _ (Ty.up _ (GW.le_lend _ _) q78) (Ty.up _ (GW.le_lend _ _) q79) (OwnPT.ren (ownpt_cell 0 (Ty.val (bAddr (nz) (x1))) o17 rfl (fun _ _ h => (cvt (by (first | rfl | omega | (simp_all; done) | (simp_all; omega))) h))) (GW.ren_lend _ _ (by decide) rfl)) (Own.ren (cvo (by (simp)) (by (simp)) o18) (GW.ren_lend _ _ (by decide) rfl)) (by omega) (by omega))) (fun a23 s17 hs1 ok20 r1 sm1 => ?_)
         have F20 := F19.stepL hs1 (by decide); have q80 := kpL hs1 (by decide) (sm1 9 (by decide)) q75; have q81 := kpL hs1 (by decide) (sm1 1 (by decide)) q76; have q82 := kpL hs1 (by decide) (sm1 0 (by decide)) q77; have q83 := kpL hs1 (by decide) (sm1 8 (by decide)) q78
         obtain ⟨t7, ⟨x2, hT1, o19, o20⟩, B1⟩ := r1
         have q84 : At (Ty.tup2 (Ty.nat (ByteArray.size ((decB ((m + 1)))))) (Ty.val Value.nilIface)) s17 a23 (.tmp 60) := Ty.up _ B1.le hT1
         have o21 : OwnPT 57 s17 5 x1 [(Ty.val (bAddr false (x1))), (Ty.val x2)] := OwnPT.ren o19 (B1.ren (by decide) rfl)
         have o22 : Own s17 6 5 1 x2 (List.length ((out) ++ (ByteArray.data ((decB ((m + 1))))).toList)) (List.map Ty.byte ((out) ++ (ByteArray.data ((decB ((m + 1))))).toList)) := Own.ren o20 (B1.ren (by decide) rfl)
         refine wpList_nil ?_; refine tn ?_; refine wp_seq ?_
         have hal : (out ++ (ByteArray.data (decB (m + 1))).toList).length = out.length + (decB (m + 1)).size := List.length_append
         have hds2 := dec_size (n := m + 1)
         refine reg2 (a := a23) (σ := s17) rfl 7 (fun i_ => List.getD [(Ty.pr (Ty.lstc 2 callC cs)), (Ty.pr (Ty.lst Ty.int ll)), (Ty.pr (Ty.ref [(Ty.int (ll.getD ((0 : Int)).toNat 0))])), (Ty.pr (Ty.int (ll.getD ((0 : Int)).toNat 0))), (Ty.pr (Ty.ref [(Ty.val (Value.int .i32 ((cs.getD ((ll.getD ((0 : Int)).toNat 0)).toNat D0)).1)), (Ty.lst Ty.ints ((cs.getD ((ll.getD ((0 : Int)).toNat 0)).toNat D0)).2)])), (Ty.pr (Ty.ref [(Ty.val (Value.int .i32 ((cs.getD ((ll.getD ((0 : Int)).toNat 0)).toNat D0)).1)), (Ty.lst Ty.ints ((cs.getD ((ll.getD ((0 : Int)).toNat 0)).toNat D0)).2)])), (Ty.pr (Ty.val (Value.int .i32 ((cs.getD ((ll.getD ((0 : Int)).toNat 0)).toNat D0)).1)))] i_ Pr.any) ok20 rfl (by decide) rfl ⟨?_, ?_, ?_, ?_, ?_, ?_, ?_, trivial⟩ ?_
         · intro A B E G H; exact rP (y_move (kp (H 0 rfl) E q82))
         · intro A B E G H; exact rP (y_move (kp (H 1 rfl) E q81))
         · intro A B E G H d0; exact rP (y_index1 Tryd.underlying26 Tryd.inf3 (ed d0 rfl rfl rfl) rfl (by omega) (lst_get Ty.int ll 0 ((0 : Int)).toNat (by omega)))
         · intro A B E G H d0; exact rP (y_load Tryd.underlying3 rfl (ed d0 rfl rfl rfl) rfl)
         · intro A B E G H d0 d1; exact rP (y_indexc (i := (ll.getD ((0 : Int)).toNat 0)) D0 Tryd.underlying25 Tryd.inf50 (ed d0 rfl rfl rfl) (ed d1 rfl rfl rfl) (by omega) (by omega) (by decide) (fun _ => rfl))
         · intro A B E G H d0; exact rP (y_field Tryd.fld50_0 Tryd.inf21 (by decide) (ed d0 rfl rfl rfl) rfl)
         · intro A B E G H d0; exact rP (y_load Tryd.underlying21 rfl (ed d0 rfl rfl rfl) rfl)
         intro a24 s18 D17; have ok21 := D17.ok; have F21 := F20.step0 D17.stp; have q85 := D17.kt q80 rfl; have q86 := D17.kt q81 rfl; have q87 := D17.kt q82 rfl; have q88 := D17.kt q83 rfl; have o23 := OwnPT.k0 o21 D17.stp; have o24 := Own.k0 o22 D17.stp; have q89 := D17.dn 6 (by decide) rfl rfl; clear D17
         refine tailL (L := [5, 6]) (R := (fun v τ' => ∃ τ, (fun v τ => ∃ (bz : Value), (Ty.has (Ty.tup2 (Ty.nat (ByteArray.size (Utf8.encode (((cs.getD ((ll.getD ((0 : Int)).toNat 0)).toNat D0)).1)))) (Ty.val Value.nilIface)) τ v) ∧ (OwnPT 57 τ 40 x1 [(Ty.val (bAddr false (x1))), (Ty.val bz)]) ∧ (Own τ 41 5 1 bz (List.length ((((out) ++ (ByteArray.data ((decB ((m + 1))))).toList)) ++ (ByteArray.data (Utf8.encode (((cs.getD ((ll.getD ((0 : Int)).toNat 0)).toNat D0)).1))).toList)) (List.map Ty.byte ((((out) ++ (ByteArray.data ((decB ((m + 1))))).toList)) ++ (ByteArray.data (Utf8.encode (((cs.getD ((ll.getD ((0 : Int)).toNat 0)).toNat D0)).1))).toList)))) v τ ∧ Back [(40, 5), (41, 6)] τ τ')) rfl rfl (by decide) ok21 (y_callL (L := [40, 41]) [(5, 40), (6, 41)] [(40, 5), (41, 6)] #[a24.eval (.tmp 8), a24.eval (.tmp 67)] rfl (by decide) Tryd.func32 rfl rfl (by simp only [List.map_toArray, List.map_cons, List.map_nil]) (writeRune_fn (x1) (x2) (false) (((out) ++ (ByteArray.data ((decB ((m + 1))))).toList)) (((cs.getD ((ll.getD ((0 : Int)).toNat 0)).toNat D0)).1) _ (GW.low_lend _ (by decide)) _ _ (Ty.up _ (GW.le_lend _ _) q88) (Ty.up _ (GW.le_lend _ _) (cvi (σ := s18) (by omega) q89)) (OwnPT.ren (ownpt_cell 0 (Ty.val (bAddr (false) (x1))) o23 rfl (fun _ _ h => (cvt (by (first | rfl | omega | (simp_all; done) | (simp_all; omega))) h))) (GW.ren_lend _ _ (by decide) rfl)) (Own.ren (cvo (by (simp)) (by (simp)) o24) (GW.ren_lend _ _ (by decide) rfl)) (by omega) (by omega))) (fun a25 s19 hs2 ok22 r2 sm2 => ?_)
         have F22 := F21.stepL hs2 (by decide); have q90 := kpL hs2 (by decide) (sm2 9 (by decide)) q85; have q91 := kpL hs2 (by decide) (sm2 1 (by decide)) q86; have q92 := kpL hs2 (by decide) (sm2 0 (by decide)) q87; have q93 := kpL hs2 (by decide) (sm2 8 (by decide)) q88
         obtain ⟨t8, ⟨x3, hT2, o25, o26⟩, B2⟩ := r2
         have q94 : At (Ty.tup2 (Ty.nat (ByteArray.size (Utf8.encode (((cs.getD ((ll.getD ((0 : Int)).toNat 0)).toNat D0)).1)))) (Ty.val Value.nilIface)) s19 a25 (.tmp 68) := Ty.up _ B2.le hT2
         have o27 : OwnPT 57 s19 5 x1 [(Ty.val (bAddr false (x1))), (Ty.val x3)] := OwnPT.ren o25 (B2.ren (by decide) rfl)
         have o28 : Own s19 6 5 1 x3 (List.length ((((out) ++ (ByteArray.data ((decB ((m + 1))))).toList)) ++ (ByteArray.data (Utf8.encode (((cs.getD ((ll.getD ((0 : Int)).toNat 0)).toNat D0)).1))).toList)) (List.map Ty.byte ((((out) ++ (ByteArray.data ((decB ((m + 1))))).toList)) ++ (ByteArray.data (Utf8.encode (((cs.getD ((ll.getD ((0 : Int)).toNat 0)).toNat D0)).1))).toList)) := Own.ren o26 (B2.ren (by decide) rfl)
         refine wpList_nil ?_; refine tn ?_
         refine rg a25 s19 [(Ty.lst Ty.int ll), (Ty.nat (m + 1)), (Ty.lst Ty.int (ll.drop (m + 1))), (Ty.lst Ty.int (ll.drop (m + 1)))] ok22 ⟨?_, ?_, ?_, ?_, trivial⟩ ?_
         · intro A B E G H; exact rP (y_move (kp (H 1 rfl) E q91))
         · intro A B E G H; exact rP (y_move (kp (H 9 rfl) E q90))
         · intro A B E G H d0 d1; exact rP (y_drop Tryd.underlying26 Tryd.inf3 (ed d0 rfl rfl rfl) (ed d1 rfl rfl rfl) (by omega))
         · intro A B E G H d0 d1 d2 d3; exact rP (y_assign (ed d0 rfl rfl rfl))
         intro a26 s20 D18; have ok23 := D18.ok; have F23 := F22.step0 D18.stp; have q95 := D18.kt q92 rfl; have q96 := D18.kt q93 rfl; have o29 := OwnPT.k0 o27 D18.stp; have o30 := Own.k0 o28 D18.stp; have q97 := D18.dn 3 rfl rfl; clear D18; refine bn ?_
         exact tn ⟨((ll.drop (m + 1))).length, by rw [List.length_drop]; omega, s20, (ll.drop (m + 1)), ((out ++ (ByteArray.data (decB (m + 1))).toList) ++ (ByteArray.data (Utf8.encode (cs.getD (ll.getD 0 0).toNat D0).1)).toList), false, x3, rfl, F23, ok23, (cvt (by (first | rfl | omega | (simp_all; done) | (simp_all; omega))) q97), q95, q96, (ownpt_cell 0 (Ty.val (bAddr (false) x1)) o29 rfl (fun _ _ h => (cvt (by (first | rfl | omega | (simp_all; done) | (simp_all; omega))) h))), (cvo (by (simp)) (by (simp)) o30), by rw [bsL_dat, bsL_dat, ← hx0]; exact prt_put1 hq (by omega) hno (by omega), by rw [List.length_drop]; omega, prt_in hil, rfl⟩
        ·
         refine wp_skip ?_; refine tn ?_; refine wp_seq ?_
         have hal : (out ++ (ByteArray.data (decB (m + 1))).toList).length = out.length + (decB (m + 1)).size := List.length_append
         have hds2 := dec_size (n := m + 1)
         refine reg2 (a := a21) (σ := s15) rfl 7 (fun i_ => List.getD [(Ty.pr (Ty.lstc 2 callC cs)), (Ty.pr (Ty.lst Ty.int ll)), (Ty.pr (Ty.ref [(Ty.int (ll.getD ((0 : Int)).toNat 0))])), (Ty.pr (Ty.int (ll.getD ((0 : Int)).toNat 0))), (Ty.pr (Ty.ref [(Ty.val (Value.int .i32 ((cs.getD ((ll.getD ((0 : Int)).toNat 0)).toNat D0)).1)), (Ty.lst Ty.ints ((cs.getD ((ll.getD ((0 : Int)).toNat 0)).toNat D0)).2)])), (Ty.pr (Ty.ref [(Ty.val (Value.int .i32 ((cs.getD ((ll.getD ((0 : Int)).toNat 0)).toNat D0)).1)), (Ty.lst Ty.ints ((cs.getD ((ll.getD ((0 : Int)).toNat 0)).toNat D0)).2)])), (Ty.pr (Ty.val (Value.int .i32 ((cs.getD ((ll.getD ((0 : Int)).toNat 0)).toNat D0)).1)))] i_ Pr.any) ok18 rfl (by decide) rfl ⟨?_, ?_, ?_, ?_, ?_, ?_, ?_, trivial⟩ ?_
         · intro A B E G H; exact rP (y_move (kp (H 0 rfl) E q72))
         · intro A B E G H; exact rP (y_move (kp (H 1 rfl) E q71))
         · intro A B E G H d0; exact rP (y_index1 Tryd.underlying26 Tryd.inf3 (ed d0 rfl rfl rfl) rfl (by omega) (lst_get Ty.int ll 0 ((0 : Int)).toNat (by omega)))
         · intro A B E G H d0; exact rP (y_load Tryd.underlying3 rfl (ed d0 rfl rfl rfl) rfl)
         · intro A B E G H d0 d1; exact rP (y_indexc (i := (ll.getD ((0 : Int)).toNat 0)) D0 Tryd.underlying25 Tryd.inf50 (ed d0 rfl rfl rfl) (ed d1 rfl rfl rfl) (by omega) (by omega) (by decide) (fun _ => rfl))
         · intro A B E G H d0; exact rP (y_field Tryd.fld50_0 Tryd.inf21 (by decide) (ed d0 rfl rfl rfl) rfl)
         · intro A B E G H d0; exact rP (y_load Tryd.underlying21 rfl (ed d0 rfl rfl rfl) rfl)
         intro a27 s21 D19; have ok24 := D19.ok; have F24 := F18.step0 D19.stp; have q98 := D19.kt q70 rfl; have q99 := D19.kt q71 rfl; have q100 := D19.kt q72 rfl; have q101 := D19.kt q73 rfl; have o31 := OwnPT.k0 o15 D19.stp; have o32 := Own.k0 o16 D19.stp; have q102 := D19.dn 6 (by decide) rfl rfl; clear D19
         refine tailL (L := [5, 6]) (R := (fun v τ' => ∃ τ, (fun v τ => ∃ (bz : Value), (Ty.has (Ty.tup2 (Ty.nat (ByteArray.size (Utf8.encode (((cs.getD ((ll.getD ((0 : Int)).toNat 0)).toNat D0)).1)))) (Ty.val Value.nilIface)) τ v) ∧ (OwnPT 57 τ 40 x1 [(Ty.val (bAddr false (x1))), (Ty.val bz)]) ∧ (Own τ 41 5 1 bz (List.length ((out) ++ (ByteArray.data (Utf8.encode (((cs.getD ((ll.getD ((0 : Int)).toNat 0)).toNat D0)).1))).toList)) (List.map Ty.byte ((out) ++ (ByteArray.data (Utf8.encode (((cs.getD ((ll.getD ((0 : Int)).toNat 0)).toNat D0)).1))).toList)))) v τ ∧ Back [(40, 5), (41, 6)] τ τ')) rfl rfl (by decide) ok24 (y_callL (L := [40, 41]) [(5, 40), (6, 41)] [(40, 5), (41, 6)] #[a27.eval (.tmp 8), a27.eval (.tmp 67)] rfl (by decide) Tryd.func32 rfl rfl (by simp only [List.map_toArray, List.map_cons, List.map_nil]) (writeRune_fn (x1) (bf) (nz) (out) (((cs.getD ((ll.getD ((0 : Int)).toNat 0)).toNat D0)).1) _ (GW.low_lend _ (by decide)) _ _ (Ty.up _ (GW.le_lend _ _) q101) (Ty.up _ (GW.le_lend _ _) (cvi (σ := s21) (by omega) q102)) (OwnPT.ren (ownpt_cell 0 (Ty.val (bAddr (nz) (x1))) o31 rfl (fun _ _ h => (cvt (by (first | rfl | omega | (simp_all; done) | (simp_all; omega))) h))) (GW.ren_lend _ _ (by decide) rfl)) (Own.ren (cvo (by (simp)) (by (simp)) o32) (GW.ren_lend _ _ (by decide) rfl)) (by omega) (by omega))) (fun a28 s22 hs3 ok25 r3 sm3 => ?_)
         have F25 := F24.stepL hs3 (by decide); have q103 := kpL hs3 (by decide) (sm3 9 (by decide)) q98; have q104 := kpL hs3 (by decide) (sm3 1 (by decide)) q99; have q105 := kpL hs3 (by decide) (sm3 0 (by decide)) q100; have q106 := kpL hs3 (by decide) (sm3 8 (by decide)) q101
         obtain ⟨t9, ⟨x4, hT3, o33, o34⟩, B3⟩ := r3
         have q107 : At (Ty.tup2 (Ty.nat (ByteArray.size (Utf8.encode (((cs.getD ((ll.getD ((0 : Int)).toNat 0)).toNat D0)).1)))) (Ty.val Value.nilIface)) s22 a28 (.tmp 68) := Ty.up _ B3.le hT3
         have o35 : OwnPT 57 s22 5 x1 [(Ty.val (bAddr false (x1))), (Ty.val x4)] := OwnPT.ren o33 (B3.ren (by decide) rfl)
         have o36 : Own s22 6 5 1 x4 (List.length ((out) ++ (ByteArray.data (Utf8.encode (((cs.getD ((ll.getD ((0 : Int)).toNat 0)).toNat D0)).1))).toList)) (List.map Ty.byte ((out) ++ (ByteArray.data (Utf8.encode (((cs.getD ((ll.getD ((0 : Int)).toNat 0)).toNat D0)).1))).toList)) := Own.ren o34 (B3.ren (by decide) rfl)
         refine wpList_nil ?_; refine tn ?_
         refine rg a28 s22 [(Ty.lst Ty.int ll), (Ty.nat (m + 1)), (Ty.lst Ty.int (ll.drop (m + 1))), (Ty.lst Ty.int (ll.drop (m + 1)))] ok25 ⟨?_, ?_, ?_, ?_, trivial⟩ ?_
         · intro A B E G H; exact rP (y_move (kp (H 1 rfl) E q104))
         · intro A B E G H; exact rP (y_move (kp (H 9 rfl) E q103))
         · intro A B E G H d0 d1; exact rP (y_drop Tryd.underlying26 Tryd.inf3 (ed d0 rfl rfl rfl) (ed d1 rfl rfl rfl) (by omega))
         · intro A B E G H d0 d1 d2 d3; exact rP (y_assign (ed d0 rfl rfl rfl))
         intro a29 s23 D20; have ok26 := D20.ok; have F26 := F25.step0 D20.stp; have q108 := D20.kt q105 rfl; have q109 := D20.kt q106 rfl; have o37 := OwnPT.k0 o35 D20.stp; have o38 := Own.k0 o36 D20.stp; have q110 := D20.dn 3 rfl rfl; clear D20; refine bn ?_
         exact tn ⟨((ll.drop (m + 1))).length, by rw [List.length_drop]; omega, s23, (ll.drop (m + 1)), (out ++ (ByteArray.data (Utf8.encode (cs.getD (ll.getD 0 0).toNat D0).1)).toList), false, x4, rfl, F26, ok26, (cvt (by (first | rfl | omega | (simp_all; done) | (simp_all; omega))) q110), q108, q109, (ownpt_cell 0 (Ty.val (bAddr (false) x1)) o37 rfl (fun _ _ h => (cvt (by (first | rfl | omega | (simp_all; done) | (simp_all; omega))) h))), (cvo (by (simp)) (by (simp)) o38), by rw [bsL_dat, ← hx0]; exact prt_put0 hq (by omega) hno (by omega), by rw [List.length_drop]; omega, prt_in hil, rfl⟩
     ·
      have hll0 : ll = [] := List.eq_nil_of_length_eq_zero (by omega); have hfin : bsL out = T := (by rw [hll0, prR, ba_nil] at E; exact E)
      refine wp_exit ?_; refine tx ?_; refine tx ?_; refine bx ?_; refine tn ?_; refine wp_seq ?_
      refine reg2 (a := a15) (σ := s11) rfl 0 (fun i_ => List.getD [] i_ Pr.any) ok13 rfl (by decide) rfl trivial ?_
      intro a30 s24 D21; have ok27 := D21.ok; have F27 := F13.step0 D21.stp; have q111 := D21.kt q51 rfl; have o39 := OwnPT.k0 o5 D21.stp; have o40 := Own.k0 o6 D21.stp; clear D21
      refine tailL (L := [5, 6]) (R := (fun v τ' => ∃ τ, (fun v τ => (Ty.has (Ty.val (Value.string (bsL (out)))) τ v)) v τ ∧ Back [(40, 5), (41, 6)] τ τ')) rfl rfl (by decide) ok27 (y_callL (L := [40, 41]) [(5, 40), (6, 41)] [(40, 5), (41, 6)] #[a30.eval (.tmp 8)] rfl (by decide) Tryd.func33 rfl rfl (by simp only [List.map_toArray, List.map_cons, List.map_nil]) (bString_fn (x1) (bf) (nz) (out) _ (GW.low_lend _ (by decide)) _ (Ty.up _ (GW.le_lend _ _) q111) (OwnPT.ren (ownpt_cell 0 (Ty.val (bAddr (nz) (x1))) o39 rfl (fun _ _ h => (cvt (by (first | rfl | omega | (simp_all; done) | (simp_all; omega))) h))) (GW.ren_lend _ _ (by decide) rfl)) (Own.ren (cvo (by (simp)) (by (simp)) o40) (GW.ren_lend _ _ (by decide) rfl)) )) (fun a31 s25 hs4 ok28 r4 sm4 => ?_)
      have F28 := F27.stepL hs4 (by decide)
      obtain ⟨t10, hT4, B4⟩ := r4
      have q112 : At (Ty.val (Value.string (bsL (out)))) s25 a31 (.tmp 72) := Ty.up _ B4.le hT4
      refine tailL (L := []) (R := (fun v τ => Pr.has (Ty.pr (Ty.val (Value.string (bsL (out))))) τ v)) rfl rfl (by decide) ok28 (Yld.toL (y_assign q112)) (fun a32 s26 hs5 ok29 r5 sm5 => ?_)
      have F29 := F28.stepL hs5 (by decide)
      have q113 : At (Ty.val (Value.string (bsL (out)))) s26 a32 (.tmp 4) := r5
      clear r5
      refine tailL (L := []) (R := (fun v τ => Pr.has (Ty.pr (Ty.int (0 : Int))) τ v)) rfl rfl (by decide) ok29 (Yld.toL (y_assign rfl)) (fun a33 s27 hs6 ok30 r6 sm6 => ?_)
      have F30 := F29.stepL hs6 (by decide); have q114 := kpL hs6 (by decide) (sm6 4 (by decide)) q113
      have q115 : At (Ty.int (0 : Int)) s27 a33 (.tmp 5) := r6
      clear r6; refine wpList_nil ?_; refine tn ?_; refine wp_ret ?_
      exact retL2 rfl ok30 F30 (hasT2 (cvt (by (rw [(pt_good hcc hin2).2, ← hT, hfin])) q114) (cvi (by (exact (pt_good hcc hin2).1.symm)) q115))


set_option maxHeartbeats 4000000 in
set_option maxRecDepth 100000 in
theorem rDec_fn : ∀ (d : Nat) (n : Nat) (σ : GW)  (v0 : Value) (hv0 : Ty.has (Ty.nat n) σ v0)  (hd : d = n) (hn : n < 100), FnC Tryd.prog 23 #[v0] σ (Ty.val (Value.string (decB n))) := by
 intro d
 induction d using Nat.strongRecOn with
 | _ d ih =>
 intro n σ v0 hv0 hd hn
 refine fn_intro0 Tryd.func23 rfl Tryd.ntmps23 (Nat.le_of_ble_eq_true rfl) (fun s0 a0 hle F0 ok0 hargs => ?_)
 have p0 : At (Ty.nat n) s0 a0 (.tmp 0) := by have e := hargs 0 _ rfl; show Ty.has _ _ _; rw [e]; exact Ty.up _ hle hv0
 clear hargs; refine wp_seq ?_
 refine rg a0 s0 [(Ty.val (Value.string (ByteArray.mk #[])))] ok0 ⟨?_, trivial⟩ ?_
 · intro A B E G H; exact rP (y_assign rfl)
 intro a1 s1 D1; have ok1 := D1.ok; have F1 := F0.step0 D1.stp; have q1 := D1.kt p0 rfl; clear D1; refine tn ?_; refine wp_seq ?_; refine wp_seq ?_
 refine rg a1 s1 [(Ty.nat n), (Ty.bool (decide (((n : Nat) : Int) < (-9 : Int))))] ok1 ⟨?_, ?_, trivial⟩ ?_
 · intro A B E G H; exact rP (y_move (kp (H 0 rfl) E q1))
 · intro A B E G H d0; exact rP (y_lss (ed d0 rfl rfl rfl) rfl)
 intro a2 s2 D2; have ok2 := D2.ok; have F2 := F1.step0 D2.stp; have q2 := D2.kt q1 rfl; have q3 := D2.dn 1 rfl rfl; clear D2; refine tn ?_
 refine cond_p (p := (((n : Nat) : Int) < (-9 : Int))) q3 (fun c1 => ?_) (fun c1 => ?_)
 ·
  exfalso
  omega
 ·
  refine wp_skip ?_; refine tn ?_; refine wp_seq ?_; refine wp_seq ?_
  refine rg a2 s2 [(Ty.nat n), (Ty.bool (decide (((n : Nat) : Int) < (0 : Int))))] ok2 ⟨?_, ?_, trivial⟩ ?_
  · intro A B E G H; exact rP (y_move (kp (H 0 rfl) E q2))
  · intro A B E G H d0; exact rP (y_lss (ed d0 rfl rfl rfl) rfl)
  intro a3 s3 D3; have ok3 := D3.ok; have F3 := F2.step0 D3.stp; have q4 := D3.kt q2 rfl; have q5 := D3.dn 1 rfl rfl; clear D3; refine tn ?_
  refine cond_p (p := (((n : Nat) : Int) < (0 : Int))) q5 (fun c2 => ?_) (fun c2 => ?_)
  ·
   exfalso
   omega
  ·
   refine wp_skip ?_; refine tn ?_; refine wp_seq ?_; refine wp_seq ?_
   refine rg a3 s3 [(Ty.nat n), (Ty.bool (decide (((n : Nat) : Int) < (10 : Int))))] ok3 ⟨?_, ?_, trivial⟩ ?_
   · intro A B E G H; exact rP (y_move (kp (H 0 rfl) E q4))
   · intro A B E G H d0; exact rP (y_lss (ed d0 rfl rfl rfl) rfl)
   intro a4 s4 D4; have ok4 := D4.ok; have F4 := F3.step0 D4.stp; have q6 := D4.kt q4 rfl; have q7 := D4.dn 1 rfl rfl; clear D4; refine tn ?_
   refine cond_p (p := (((n : Nat) : Int) < (10 : Int))) q7 (fun c3 => ?_) (fun c3 => ?_)
   ·
    refine wp_seq ?_
    refine rg a4 s4 [(Ty.nat n), (Ty.nat (48 + n)), (Ty.val (Value.int .u8 (((48 + n) : Nat) : Int))), (Ty.sl 1 1 [(Ty.byte (Nat.toUInt8 (Int.toNat (((48 + n) : Nat) : Int))))]), (Ty.val (Value.string (bsL [(Nat.toUInt8 (Int.toNat (((48 + n) : Nat) : Int)))]))), (Ty.val (Value.string (bsL [(Nat.toUInt8 (Int.toNat (((48 + n) : Nat) : Int)))])))] ok4 ⟨?_, ?_, ?_, ?_, ?_, ?_, trivial⟩ ?_
    · intro A B E G H; exact rP (y_move (kp (H 0 rfl) E q6))
    · intro A B E G H d0; exact rP ((y_add rfl (ed d0 rfl rfl rfl) (w64 (by omega) (by omega))).mono (fun τ _ h => cvi (σ := τ) (by first | omega | exact (Int.natCast_mul _ _).symm) h))
    · intro A B E G H d0; exact rP (y_conv Tryd.underlying5 (ed d0 rfl rfl rfl) (by exact wrap_u8 (by omega) (by omega)) (by rw [Tryd.underlying3]; rfl))
    · intro A B E G H d0; exact rP (y_build1o Tryd.underlying55 Tryd.inf5 rfl (one_val rfl) (cvByte (by omega) (by omega) (ed d0 rfl rfl rfl)))
    · intro A B E G H d0; exact rP (y_convBS (bs := [(Nat.toUInt8 (Int.toNat (((48 + n) : Nat) : Int)))]) Tryd.underlying55 Tryd.underlying5 Tryd.underlying9 (ed d0 rfl rfl rfl))
    · intro A B E G H d0 d1 d2 d3 d4 d5; exact rP (y_assign (ed d0 rfl rfl rfl))
    intro a5 s5 D5; have ok5 := D5.ok; have F5 := F4.step0 D5.stp; have q8 := D5.dn 5 rfl rfl; clear D5; refine tn ?_; refine wp_ret ?_; refine tr ?_
    exact retL1 rfl ok5 F5 (cvt (by (rw [show Int.toNat ((48 + n : Nat) : Int) = 48 + n from Int.toNat_natCast _, dec_lo (by omega)])) q8)
   ·
    refine wp_skip ?_; refine tn ?_; refine wp_seq ?_
    refine rg a4 s4 [(Ty.nat n), (Ty.nat (n / 10)), (Ty.val (Value.string (decB ((n / 10))))), (Ty.nat n), (Ty.nat (n % 10)), (Ty.nat (48 + (n % 10))), (Ty.val (Value.int .u8 (((48 + (n % 10)) : Nat) : Int))), (Ty.sl 1 1 [(Ty.byte (Nat.toUInt8 (Int.toNat (((48 + (n % 10)) : Nat) : Int))))]), (Ty.val (Value.string (bsL [(Nat.toUInt8 (Int.toNat (((48 + (n % 10)) : Nat) : Int)))]))), (Ty.val (Value.string ((decB ((n / 10))) ++ (bsL [(Nat.toUInt8 (Int.toNat (((48 + (n % 10)) : Nat) : Int)))])))), (Ty.val (Value.string ((decB ((n / 10))) ++ (bsL [(Nat.toUInt8 (Int.toNat (((48 + (n % 10)) : Nat) : Int)))]))))] ok4 ⟨?_, ?_, ?_, ?_, ?_, ?_, ?_, ?_, ?_, ?_, ?_, trivial⟩ ?_
    · intro A B E G H; exact rP (y_move (kp (H 0 rfl) E q6))
    · intro A B E G H d0; exact rP (y_quoN (ed d0 rfl rfl rfl) (toN (σ := B) rfl (by omega)) (by omega) (by omega))
    · intro A B E G H d0; exact rP (y_call #[A.eval (.tmp 31)] Tryd.func23 rfl rfl (by simp only [List.map_toArray, List.map_cons, List.map_nil]) (ih (((n / 10))) (by omega) ((n / 10)) _ _ (cvi (σ := B) (by first | omega | rfl) (ed d0 rfl rfl rfl)) (by first | omega | rfl) (by first | omega | rfl)))
    · intro A B E G H; exact rP (y_move (kp (H 0 rfl) E q6))
    · intro A B E G H d0; exact rP (y_remN (ed d0 rfl rfl rfl) (toN (σ := B) rfl (by omega)) (by omega))
    · intro A B E G H d0; exact rP ((y_add rfl (ed d0 rfl rfl rfl) (w64 (by omega) (by omega))).mono (fun τ _ h => cvi (σ := τ) (by first | omega | exact (Int.natCast_mul _ _).symm) h))
    · intro A B E G H d0; exact rP (y_conv Tryd.underlying5 (ed d0 rfl rfl rfl) (by exact wrap_u8 (by omega) (by omega)) (by rw [Tryd.underlying3]; rfl))
    · intro A B E G H d0; exact rP (y_build1o Tryd.underlying55 Tryd.inf5 rfl (one_val rfl) (cvByte (by omega) (by omega) (ed d0 rfl rfl rfl)))
    · intro A B E G H d0; exact rP (y_convBS (bs := [(Nat.toUInt8 (Int.toNat (((48 + (n % 10)) : Nat) : Int)))]) Tryd.underlying55 Tryd.underlying5 Tryd.underlying9 (ed d0 rfl rfl rfl))
    · intro A B E G H d0 d1; exact rP (y_scat (ed d0 rfl rfl rfl) (ed d1 rfl rfl rfl) (by have h1_ := dec_size (n := n / 10); rw [bsL_size, List.length_singleton]; omega))
    · intro A B E G H d0 d1 d2 d3 d4 d5 d6 d7 d8 d9 d10 d11; exact rP (y_assign (ed d0 rfl rfl rfl))
    intro a6 s6 D6; have ok6 := D6.ok; have F6 := F4.step0 D6.stp; have q9 := D6.dn 10 rfl rfl; clear D6; refine tn ?_; refine wp_ret ?_
    exact retL1 rfl ok6 F6 (cvt (by (rw [show Int.toNat ((48 + n % 10 : Nat) : Int) = 48 + n % 10 from Int.toNat_natCast _, dec_hi (by omega) (by omega)])) q9)


end Go.Proofs.YtbilebfnanlgfaaDoor
