/- The functions that the law BookOpens reaches, each by its contract. Part 1. -/
import Derived.Test.YtfgkhpkbehhflaaDoorBookOpensK1
import Derived.Test.YtfgkhpkbehhflaaDoorBookOpensK2
import Derived.Test.YtfgkhpkbehhflaaDoorBookOpensK3
import Derived.Test.YtfgkhpkbehhflaaDoorBookOpensFmtKD
import Derived.Test.YtfgkhpkbehhflaaDoorBookOpensLayJD
import Derived.Test.YtfgkhpkbehhflaaDoorProg
namespace Go.Proofs.YtfgkhpkbehhflaaDoor
open Go.KL

set_option maxHeartbeats 4000000 in
set_option maxRecDepth 100000 in
theorem slIndexByte_fn (s : ByteArray) (c : Int) (σ : GW)  (v0 v1 : Value) (hv0 : Ty.has (Ty.val (Value.string s)) σ v0) (hv1 : Ty.has (Ty.val (Value.int .u8 c)) σ v1)   :
    FnC Tryd.prog 50 #[v0, v1] σ (Ty.int (Lib.indexByte (ByteArray.data s).toList (c).toNat.toUInt8)) := by
 refine fn_intro0 Tryd.func50 rfl Tryd.ntmps50 (Nat.le_of_ble_eq_true rfl) (fun s0 a0 hle F0 ok0 hargs => ?_)
 have p0 := pA hle (hargs 0 _ rfl) hv0
 have p1 := pA hle (hargs 1 _ rfl) hv1
 clear hargs; refine wp_seq ?_
 refine gI a0 s0 ok0 (gC (Ty.int (0 : Int)) (gE ok0 fun a1 s1 ok1 D1 => ?_)); refine tn (wp_seq ?_)
 refine gI a1 s1 ok1 (gM (D1.k p0) (gM (D1.k p1) (gT (Ty.int (Lib.indexByte (ByteArray.data s).toList (c).toNat.toUInt8)) rfl (fun A B E G H d0 d1 => rP (y_extern (R := (Ty.int (Lib.indexByte (ByteArray.data s).toList (c).toNat.toUInt8))) #[(Value.string s), (Value.int .u8 c)] (by simp only [List.map_toArray, List.map_cons, List.map_nil, (show A.eval (.tmp 5) = _ from (eI d0)), (show A.eval (.tmp 6) = _ from (eI d1))]) (by rw [run_callFunc_extern Tryd.func66 (by kernel_rfl) (by kernel_rfl) (by kernel_rfl) (e := Extern.BytealgIndexByte.indexByte) (by kernel_rfl), Lib.run_indexByteString]; rfl) rfl)) (gB 0 (gE ok1 fun a2 s2 ok2 D2 => ?_))))); refine tn (wp_ret ?_)
 exact retL1 rfl ok2 ((F0.step0 D1.stp).step0 D2.stp) (D2.m 3 rfl)


set_option maxHeartbeats 4000000 in
set_option maxRecDepth 100000 in
theorem slIndexC_fn (s : ByteArray) (sep : ByteArray) (σ : GW)  (v0 v1 : Value) (hv0 : Ty.has (Ty.val (Value.string s)) σ v0) (hv1 : Ty.has (Ty.val (Value.string sep)) σ v1)  (h1 : sep.size = 1) (hss : s.size ≤ 1099511627776) :
    FnC Tryd.prog 38 #[v0, v1] σ (Ty.int (Lib.indexByte ((ByteArray.data s).toList) (sep.get! 0))) := by
 refine fn_intro0 Tryd.func38 rfl Tryd.ntmps38 (Nat.le_of_ble_eq_true rfl) (fun s0 a0 hle F0 ok0 hargs => ?_)
 have p0 := pA hle (hargs 0 _ rfl) hv0
 have p1 := pA hle (hargs 1 _ rfl) hv1
 clear hargs; refine wp_seq ?_
 refine gI a0 s0 ok0 (gC (Ty.int (0 : Int)) (gE ok0 fun a1 s1 ok1 D1 => ?_)); have q2 := D1.k p1; refine tn (wp_seq ?_)
 refine gI a1 s1 ok1 (gM q2 (gT (Ty.nat (ByteArray.size sep)) rfl (fun A B E G H d0 => rP (y_len_str Tryd.underlying9 (eI d0))) (gB 0 (gE ok1 fun a2 s2 ok2 D2 => ?_)))); have q3 := D2.k (D1.k p0); have q4 := D2.k q2; have q5 := D2.m 2 rfl; refine tn (wp_seq (wp_block (wp_seq ?_)))
 refine gI a2 s2 ok2 (gM q5 (gS rfl (fun A B E G H d0 => rP (y_eql (eI d0) rfl)) (gS rfl (fun A B E G H d0 => rP (y_move (eI d0))) (gS rfl (fun A B E G H d0 => gu G (eI d0) fun hg => y_move (kp (H 1 rfl) E q4)) (gS rfl (fun A B E G H d0 => gu G (eI d0) fun hg => y_move (kp (H 0 rfl) E q3)) (gT (Ty.grd ((decide ((((ByteArray.size sep) : Nat) : Int) = (0 : Int))) = false) (Ty.bool (decide (sep = s)))) rfl (fun A B E G H d0 d1 d2 => gu G (eI d2) fun hg => y_seql Tryd.underlying9 ((ef d0 rfl).1 hg) ((ef d1 rfl).1 hg)) (gS rfl (fun A B E G H d0 d1 => rP (y_pick_or (eI d0) rfl (eI d1))) (gB 0 (gE ok2 fun a3 s3 ok3 D3 => ?_))))))))); have F3 := ((F0.step0 D1.stp).step0 D2.stp).step0 D3.stp; refine tn ?_
 refine cond_t (D3.m 7 rfl) (fun c1 => ?_) (fun c1 => ?_)
 ·
  have hse : sep = s := (by simp only [Bool.or_eq_true, decide_eq_true_eq] at c1; rcases c1 with h_ | h_; omega; exact h_)
  refine wp_seq ?_
  refine gI a3 s3 ok3 (gC (Ty.int (0 : Int)) (gE ok3 fun a4 s4 ok4 D4 => ?_)); refine tn (wp_ret (br (tr ?_)))
  exact retL1 rfl ok4 (F3.step0 D4.stp) (cvi (by (rw [← hse]; exact (ix_self h1).symm)) (D4.m 0 rfl))
 ·
  obtain ⟨d1, d2⟩ := Bool.or_eq_false_iff.mp c1
  replace d1 := of_decide_eq_false d1
  replace d2 := of_decide_eq_false d2
  refine wp_seq ?_
  refine gI a3 s3 ok3 (gM (D3.k q5) (gS rfl (fun A B E G H d0 => rP (y_eql (eI d0) rfl)) (gB 0 (gE ok3 fun a5 s5 ok5 D5 => ?_)))); refine tn ?_
  refine cond_p (p := ((((ByteArray.size sep) : Nat) : Int) = (1 : Int))) (D5.m 2 rfl) (fun c2 => ?_) (fun c2 => ?_)
  ·
   refine wp_seq ?_
   refine gI a5 s5 ok5 (gM (D5.k (D3.k q3)) (gM (D5.k (D3.k q4)) (gT (Ty.val (Value.int .u8 (((sep.get! ((0 : Int)).toNat).toNat : Nat) : Int))) rfl (fun A B E G H d0 => rP (y_sindex Tryd.underlying9 (eI d0) rfl oM oM)) (gS rfl (fun A B E G H d0 d1 => rP (y_call _ Tryd.func50 rfl rfl my2 (slIndexByte_fn (s) ((((sep.get! ((0 : Int)).toNat).toNat : Nat) : Int)) _ _ _ (eI d0) (cvi (σ := B) oM (ef d1 rfl)) ))) (gB 0 (gE ok5 fun a6 s6 ok6 D6 => ?_)))))); refine tn (wp_ret (br (tr ?_)))
   exact retL1 rfl ok6 ((F3.step0 D5.stp).step0 D6.stp) (cvi (by (simp)) (D6.m 4 rfl))
  ·
   exfalso
   omega


set_option maxHeartbeats 4000000 in
set_option maxRecDepth 100000 in
theorem slCut_fn (s : ByteArray) (sep : ByteArray) (σ : GW)  (v0 v1 : Value) (hv0 : Ty.has (Ty.val (Value.string s)) σ v0) (hv1 : Ty.has (Ty.val (Value.string sep)) σ v1)  (h1 : sep.size = 1) (hss : s.size ≤ 1099511627776) :
    FnC Tryd.prog 25 #[v0, v1] σ (Ty.tup3 (Ty.val (Value.string (cutA (sep.get! 0) s))) (Ty.val (Value.string (cutZ (sep.get! 0) s))) (Ty.bool (!(decide (Lib.indexByte ((ByteArray.data s).toList) (sep.get! 0) = -1))))) := by
 refine fn_intro0 Tryd.func25 rfl Tryd.ntmps25 (Nat.le_of_ble_eq_true rfl) (fun s0 a0 hle F0 ok0 hargs => ?_)
 have p0 := pA hle (hargs 0 _ rfl) hv0
 have p1 := pA hle (hargs 1 _ rfl) hv1
 clear hargs; refine wp_seq ?_
 refine gI a0 s0 ok0 (gC (Ty.val (Value.string (ByteArray.mk #[]))) (gC (Ty.val (Value.string (ByteArray.mk #[]))) (gC (Ty.bool false) (gE ok0 fun a1 s1 ok1 D1 => ?_)))); have q1 := D1.k p0; have q2 := D1.k p1; refine tn (wp_seq (wp_seq ?_))
 refine gI a1 s1 ok1 (gM q1 (gM q2 (gS rfl (fun A B E G H d0 d1 => rP (y_call _ Tryd.func38 rfl rfl my2 (slIndexC_fn (s) (sep) _ _ _ (eI d0) (eI d1) (by first | omega | rfl | assumption) (by first | omega | rfl | assumption)))) (gB 0 (gE ok1 fun a2 s2 ok2 D2 => ?_))))); have q5 := D2.m 3 rfl; refine tn (wp_seq ?_)
 refine gI a2 s2 ok2 (gM q5 (gS rfl (fun A B E G H d0 => rP (y_geq (eI d0) rfl)) (gE ok2 fun a3 s3 ok3 D3 => ?_))); have F3 := ((F0.step0 D1.stp).step0 D2.stp).step0 D3.stp; have q6 := D3.k (D2.k q1); refine tn ?_
 refine cond_p (p := ((0 : Int) ≤ (Lib.indexByte ((ByteArray.data s).toList) (sep.get! 0)))) (D3.m 1 rfl) (fun c1 => ?_) (fun c1 => ?_)
 ·
  obtain ⟨o, ho⟩ : ∃ o : Nat, Lib.indexByte ((ByteArray.data s).toList) (sep.get! 0) = o := ⟨(Lib.indexByte ((ByteArray.data s).toList) (sep.get! 0)).toNat, by omega⟩; have hos := (count_at ho).2; have hLs : s.data.toList.length = s.size := (by simp)
  have q10 : At (Ty.nat o) s3 a3 (.tmp 7) := cvt (T := (Ty.int (Lib.indexByte ((ByteArray.data s).toList) (sep.get! 0)))) (U := (Ty.nat o)) (by rw [ho]) (D3.k q5)
  refine wp_seq ?_
  refine gI a3 s3 ok3 (gM q6 (gM q10 (gT (Ty.val (Value.string (ByteArray.extract s 0 o))) rfl (fun A B E G H d0 d1 => rP (y_sto (h := o) Tryd.underlying9 (eI d0) (eI d1) oM)) (gM q6 (gM q10 (gM (D3.k (D2.k q2)) (gT (Ty.nat (ByteArray.size sep)) rfl (fun A B E G H d0 => rP (y_len_str Tryd.underlying9 (eI d0))) (gT (Ty.nat (o + (ByteArray.size sep))) rfl (fun A B E G H d0 d1 => rP ((y_add (eI d0) (eI d1) wX).mono (fun τ _ h => cN (σ := τ) h))) (gT (Ty.val (Value.string (ByteArray.extract s (o + (ByteArray.size sep)) (ByteArray.size s)))) rfl (fun A B E G H d0 d1 => rP (y_sfrom (l := (o + (ByteArray.size sep))) Tryd.underlying9 (eI d0) (eI d1) oM)) (gB 0 (gB 0 (gC (Ty.bool true) (gE ok3 fun a4 s4 ok4 D4 => ?_))))))))))))); refine tn (wp_ret (tr ?_))
  exact retL3 rfl ok4 (F3.step0 D4.stp) (hasT3 (cvt (by (exact congrArg _ (congrArg _ (cutA_yes ho)))) (D4.m 9 rfl)) (cvt (by (rw [h1]; exact congrArg _ (congrArg _ (cutZ_yes ho)))) (D4.m 10 rfl)) (cvb (by (simp [ho])) (D4.m 11 rfl)))
 ·
  have ho : Lib.indexByte ((ByteArray.data s).toList) (sep.get! 0) = -1 := (by have := Lib.indexByte_ge ((ByteArray.data s).toList) (sep.get! 0); omega)
  refine wp_skip (tn (wp_seq ?_))
  refine gI a3 s3 ok3 (gM q6 (gB 0 (gC (Ty.val (Value.string (ByteArray.mk #[]))) (gC (Ty.bool false) (gE ok3 fun a5 s5 ok5 D5 => ?_))))); refine tn (wp_ret ?_)
  exact retL3 rfl ok5 (F3.step0 D5.stp) (hasT3 (cvt (by (exact congrArg _ (congrArg _ (cutA_no ho)))) (D5.m 1 rfl)) (cvt (by (exact congrArg _ (congrArg _ (cutZ_no ho)))) (D5.m 2 rfl)) (cvb (by (simp [ho])) (D5.m 3 rfl)))


set_option maxHeartbeats 4000000 in
set_option maxRecDepth 100000 in
theorem sCut_fn (s : ByteArray) (sep : ByteArray) (σ : GW)  (v0 v1 : Value) (hv0 : Ty.has (Ty.val (Value.string s)) σ v0) (hv1 : Ty.has (Ty.val (Value.string sep)) σ v1)  (h1 : sep.size = 1) (hss : s.size ≤ 1099511627776) :
    FnC Tryd.prog 14 #[v0, v1] σ (Ty.tup3 (Ty.val (Value.string (cutA (sep.get! 0) s))) (Ty.val (Value.string (cutZ (sep.get! 0) s))) (Ty.bool (!(decide (Lib.indexByte ((ByteArray.data s).toList) (sep.get! 0) = -1))))) := by
 refine fn_intro0 Tryd.func14 rfl Tryd.ntmps14 (Nat.le_of_ble_eq_true rfl) (fun s0 a0 hle F0 ok0 hargs => ?_)
 have p0 := pA hle (hargs 0 _ rfl) hv0
 have p1 := pA hle (hargs 1 _ rfl) hv1
 clear hargs; refine wp_seq ?_
 refine gI a0 s0 ok0 (gC (Ty.val (Value.string (ByteArray.mk #[]))) (gC (Ty.val (Value.string (ByteArray.mk #[]))) (gC (Ty.bool false) (gE ok0 fun a1 s1 ok1 D1 => ?_)))); refine tn (wp_seq ?_)
 refine gI a1 s1 ok1 (gM (D1.k p0) (gM (D1.k p1) (gS rfl (fun A B E G H d0 d1 => rP (y_call _ Tryd.func25 rfl rfl my2 (slCut_fn (s) (sep) _ _ _ (eI d0) (eI d1) (by first | omega | rfl | assumption) (by first | omega | rfl | assumption)))) (gT (Ty.val (Value.string (cutA (sep.get! 0) s))) rfl (fun A B E G H d0 => rP (y_ext3_0 (eI d0))) (gT (Ty.val (Value.string (cutZ (sep.get! 0) s))) rfl (fun A B E G H d0 => rP (y_ext3_1 (eI d0))) (gT (Ty.bool (!(decide (Lib.indexByte ((ByteArray.data s).toList) (sep.get! 0) = -1)))) rfl (fun A B E G H d0 => rP (y_ext3_2 (eI d0))) (gB 0 (gB 0 (gB 0 (gE ok1 fun a2 s2 ok2 D2 => ?_)))))))))); refine tn (wp_ret ?_)
 exact retL3 rfl ok2 ((F0.step0 D1.stp).step0 D2.stp) (hasT3 (D2.m 6 rfl) (D2.m 7 rfl) (D2.m 8 rfl))


set_option maxHeartbeats 4000000 in
set_option maxRecDepth 100000 in
theorem slIndex_fn (s : ByteArray) (σ : GW)  (v0 v1 : Value) (hv0 : Ty.has (Ty.val (Value.string s)) σ v0) (hv1 : Ty.has (Ty.val (Value.string (ByteArray.mk #[124]))) σ v1)   :
    FnC Tryd.prog 38 #[v0, v1] σ (Ty.int (Lib.indexByte ((ByteArray.data s).toList) 124)) := by
 have hsp : (ByteArray.mk #[124]).size = 1 := rfl
 refine fn_intro0 Tryd.func38 rfl Tryd.ntmps38 (Nat.le_of_ble_eq_true rfl) (fun s0 a0 hle F0 ok0 hargs => ?_)
 have p0 := pA hle (hargs 0 _ rfl) hv0
 have p1 := pA hle (hargs 1 _ rfl) hv1
 clear hargs; refine wp_seq ?_
 refine gI a0 s0 ok0 (gC (Ty.int (0 : Int)) (gE ok0 fun a1 s1 ok1 D1 => ?_)); have q2 := D1.k p1; refine tn (wp_seq ?_)
 refine gI a1 s1 ok1 (gM q2 (gT (Ty.nat (ByteArray.size (ByteArray.mk #[124]))) rfl (fun A B E G H d0 => rP (y_len_str Tryd.underlying9 (eI d0))) (gB 0 (gE ok1 fun a2 s2 ok2 D2 => ?_)))); have q3 := D2.k (D1.k p0); have q4 := D2.k q2; have q5 := D2.m 2 rfl; refine tn (wp_seq (wp_block (wp_seq ?_)))
 refine gI a2 s2 ok2 (gM q5 (gS rfl (fun A B E G H d0 => rP (y_eql (eI d0) rfl)) (gS rfl (fun A B E G H d0 => rP (y_move (eI d0))) (gS rfl (fun A B E G H d0 => gu G (eI d0) fun hg => y_move (kp (H 1 rfl) E q4)) (gS rfl (fun A B E G H d0 => gu G (eI d0) fun hg => y_move (kp (H 0 rfl) E q3)) (gT (Ty.grd ((decide ((((ByteArray.size (ByteArray.mk #[124])) : Nat) : Int) = (0 : Int))) = false) (Ty.bool (decide ((ByteArray.mk #[124]) = s)))) rfl (fun A B E G H d0 d1 d2 => gu G (eI d2) fun hg => y_seql Tryd.underlying9 ((ef d0 rfl).1 hg) ((ef d1 rfl).1 hg)) (gS rfl (fun A B E G H d0 d1 => rP (y_pick_or (eI d0) rfl (eI d1))) (gB 0 (gE ok2 fun a3 s3 ok3 D3 => ?_))))))))); have F3 := ((F0.step0 D1.stp).step0 D2.stp).step0 D3.stp; refine tn ?_
 refine cond_t (D3.m 7 rfl) (fun c1 => ?_) (fun c1 => ?_)
 ·
  have hse : (ByteArray.mk #[124]) = s := (by simpa [hsp] using c1)
  refine wp_seq ?_
  refine gI a3 s3 ok3 (gC (Ty.int (0 : Int)) (gE ok3 fun a4 s4 ok4 D4 => ?_)); refine tn (wp_ret (br (tr ?_)))
  exact retL1 rfl ok4 (F3.step0 D4.stp) (cvi (by (rw [← hse]; rfl)) (D4.m 0 rfl))
 ·
  obtain ⟨d1, d2⟩ := Bool.or_eq_false_iff.mp c1
  replace d1 := of_decide_eq_false d1
  replace d2 := of_decide_eq_false d2
  refine wp_seq ?_
  refine gI a3 s3 ok3 (gM (D3.k q5) (gS rfl (fun A B E G H d0 => rP (y_eql (eI d0) rfl)) (gB 0 (gE ok3 fun a5 s5 ok5 D5 => ?_)))); refine tn ?_
  refine cond_p (p := ((((ByteArray.size (ByteArray.mk #[124])) : Nat) : Int) = (1 : Int))) (D5.m 2 rfl) (fun c2 => ?_) (fun c2 => ?_)
  ·
   refine wp_seq ?_
   refine gI a5 s5 ok5 (gM (D5.k (D3.k q3)) (gM (D5.k (D3.k q4)) (gT (Ty.val (Value.int .u8 ((((ByteArray.mk #[124]).get! ((0 : Int)).toNat).toNat : Nat) : Int))) rfl (fun A B E G H d0 => rP (y_sindex Tryd.underlying9 (eI d0) rfl oM oM)) (gS rfl (fun A B E G H d0 d1 => rP (y_call _ Tryd.func50 rfl rfl my2 (slIndexByte_fn (s) (((((ByteArray.mk #[124]).get! ((0 : Int)).toNat).toNat : Nat) : Int)) _ _ _ (eI d0) (cvi (σ := B) oM (ef d1 rfl)) ))) (gB 0 (gE ok5 fun a6 s6 ok6 D6 => ?_)))))); refine tn (wp_ret (br (tr ?_)))
   exact retL1 rfl ok6 ((F3.step0 D5.stp).step0 D6.stp) (cvi (by (rfl)) (D6.m 4 rfl))
  ·
   exfalso
   exact c2 (by rw [hsp]; rfl)


set_option maxHeartbeats 4000000 in
set_option maxRecDepth 100000 in
theorem sIndex_fn (s : ByteArray) (σ : GW)  (v0 v1 : Value) (hv0 : Ty.has (Ty.val (Value.string s)) σ v0) (hv1 : Ty.has (Ty.val (Value.string (ByteArray.mk #[124]))) σ v1)   :
    FnC Tryd.prog 56 #[v0, v1] σ (Ty.int (Lib.indexByte ((ByteArray.data s).toList) 124)) := by
 refine fn_intro0 Tryd.func56 rfl Tryd.ntmps56 (Nat.le_of_ble_eq_true rfl) (fun s0 a0 hle F0 ok0 hargs => ?_)
 have p0 := pA hle (hargs 0 _ rfl) hv0
 have p1 := pA hle (hargs 1 _ rfl) hv1
 clear hargs; refine wp_seq ?_
 refine gI a0 s0 ok0 (gC (Ty.int (0 : Int)) (gE ok0 fun a1 s1 ok1 D1 => ?_)); refine tn (wp_seq ?_)
 refine gI a1 s1 ok1 (gM (D1.k p0) (gM (D1.k p1) (gS rfl (fun A B E G H d0 d1 => rP (y_call _ Tryd.func38 rfl rfl my2 (slIndex_fn (s) _ _ _ (eI d0) (eI d1) ))) (gB 0 (gE ok1 fun a2 s2 ok2 D2 => ?_))))); refine tn (wp_ret ?_)
 exact retL1 rfl ok2 ((F0.step0 D1.stp).step0 D2.stp) (D2.m 3 rfl)


set_option maxHeartbeats 4000000 in
set_option maxRecDepth 100000 in
theorem sCountC_fn (s : ByteArray) (sep : ByteArray) (σ : GW)  (v0 v1 : Value) (hv0 : Ty.has (Ty.val (Value.string s)) σ v0) (hv1 : Ty.has (Ty.val (Value.string sep)) σ v1)  (h1 : sep.size = 1) (hss : s.size ≤ 1099511627776) :
    FnC Tryd.prog 55 #[v0, v1] σ (Ty.int ((List.count (sep.get! 0) ((ByteArray.data s).toList) : Nat) : Int)) := by
 refine fn_intro0 Tryd.func55 rfl Tryd.ntmps55 (Nat.le_of_ble_eq_true rfl) (fun s0 a0 hle F0 ok0 hargs => ?_)
 have p0 := pA hle (hargs 0 _ rfl) hv0
 have p1 := pA hle (hargs 1 _ rfl) hv1
 clear hargs; refine wp_seq ?_
 refine gI a0 s0 ok0 (gC (Ty.int (0 : Int)) (gE ok0 fun a1 s1 ok1 D1 => ?_)); have q2 := D1.k p1; refine tn (wp_seq (wp_seq ?_))
 refine gI a1 s1 ok1 (gM q2 (gT (Ty.nat (ByteArray.size sep)) rfl (fun A B E G H d0 => rP (y_len_str Tryd.underlying9 (eI d0))) (gS rfl (fun A B E G H d0 => rP (y_eql (eI d0) rfl)) (gE ok1 fun a2 s2 ok2 D2 => ?_)))); have q4 := D2.k q2; refine tn ?_
 refine cond_p (p := ((((ByteArray.size sep) : Nat) : Int) = (0 : Int))) (D2.m 2 rfl) (fun c1 => ?_) (fun c1 => ?_)
 ·
  exfalso
  omega
 ·
  refine wp_skip (tn (wp_seq (wp_seq ?_)))
  refine gI a2 s2 ok2 (gM q4 (gT (Ty.nat (ByteArray.size sep)) rfl (fun A B E G H d0 => rP (y_len_str Tryd.underlying9 (eI d0))) (gS rfl (fun A B E G H d0 => rP (y_eql (eI d0) rfl)) (gE ok2 fun a3 s3 ok3 D3 => ?_)))); refine tn ?_
  refine cond_p (p := ((((ByteArray.size sep) : Nat) : Int) = (1 : Int))) (D3.m 2 rfl) (fun c2 => ?_) (fun c2 => ?_)
  ·
   refine wp_seq ?_
   refine gI a3 s3 ok3 (gM (D3.k (D2.k (D1.k p0))) (gM (D3.k q4) (gT (Ty.val (Value.int .u8 (((sep.get! ((0 : Int)).toNat).toNat : Nat) : Int))) rfl (fun A B E G H d0 => rP (y_sindex Tryd.underlying9 (eI d0) rfl oM oM)) (gT (Ty.int ((Lib.countByte (ByteArray.data s).toList (((((sep.get! ((0 : Int)).toNat).toNat : Nat) : Int))).toNat.toUInt8 : Nat) : Int)) rfl (fun A B E G H d0 d1 => rP (y_extern (R := (Ty.int ((Lib.countByte (ByteArray.data s).toList (((((sep.get! ((0 : Int)).toNat).toNat : Nat) : Int))).toNat.toUInt8 : Nat) : Int))) #[(Value.string s), (Value.int .u8 (((sep.get! ((0 : Int)).toNat).toNat : Nat) : Int))] (by simp only [List.map_toArray, List.map_cons, List.map_nil, (show A.eval (.tmp 16) = _ from (eI d0)), (show A.eval (.tmp 18) = _ from (eI d1))]) (by rw [run_callFunc_extern Tryd.func70 (by kernel_rfl) (by kernel_rfl) (by kernel_rfl) (e := Extern.BytealgCount.count) (by kernel_rfl), Lib.run_countString]; rfl) rfl)) (gB 0 (gE ok3 fun a4 s4 ok4 D4 => ?_)))))); refine tn (wp_ret (tr ?_))
   exact retL1 rfl ok4 ((((F0.step0 D1.stp).step0 D2.stp).step0 D3.stp).step0 D4.stp) (cvi (by (simp [Lib.countByte])) (D4.m 4 rfl))
  ·
   exfalso
   omega


set_option maxHeartbeats 4000000 in
set_option maxRecDepth 100000 in
theorem sIndexC_fn (s : ByteArray) (sep : ByteArray) (σ : GW)  (v0 v1 : Value) (hv0 : Ty.has (Ty.val (Value.string s)) σ v0) (hv1 : Ty.has (Ty.val (Value.string sep)) σ v1)  (h1 : sep.size = 1) (hss : s.size ≤ 1099511627776) :
    FnC Tryd.prog 56 #[v0, v1] σ (Ty.int (Lib.indexByte ((ByteArray.data s).toList) (sep.get! 0))) := by
 refine fn_intro0 Tryd.func56 rfl Tryd.ntmps56 (Nat.le_of_ble_eq_true rfl) (fun s0 a0 hle F0 ok0 hargs => ?_)
 have p0 := pA hle (hargs 0 _ rfl) hv0
 have p1 := pA hle (hargs 1 _ rfl) hv1
 clear hargs; refine wp_seq ?_
 refine gI a0 s0 ok0 (gC (Ty.int (0 : Int)) (gE ok0 fun a1 s1 ok1 D1 => ?_)); refine tn (wp_seq ?_)
 refine gI a1 s1 ok1 (gM (D1.k p0) (gM (D1.k p1) (gS rfl (fun A B E G H d0 d1 => rP (y_call _ Tryd.func38 rfl rfl my2 (slIndexC_fn (s) (sep) _ _ _ (eI d0) (eI d1) (by first | omega | rfl | assumption) (by first | omega | rfl | assumption)))) (gB 0 (gE ok1 fun a2 s2 ok2 D2 => ?_))))); refine tn (wp_ret ?_)
 exact retL1 rfl ok2 ((F0.step0 D1.stp).step0 D2.stp) (D2.m 3 rfl)

theorem Tryd.inf9 : Info Tryd.prog 9 (.string ByteArray.empty) 1 16 := by unfold Info; kernel_rfl
set_option maxHeartbeats 4000000 in
set_option maxRecDepth 100000 in
theorem genSplitC_fn (s : ByteArray) (sep : ByteArray) (σ : GW)  (v0 v1 v2 v3 : Value) (hv0 : Ty.has (Ty.val (Value.string s)) σ v0) (hv1 : Ty.has (Ty.val (Value.string sep)) σ v1) (hv2 : Ty.has (Ty.nat 0) σ v2) (hv3 : Ty.has (Ty.int (-1 : Int)) σ v3)  (h1 : sep.size = 1) (hss : s.size ≤ 1099511627776) :
    FnC Tryd.prog 39 #[v0, v1, v2, v3] σ (Ty.lst Ty.str (cutT (sep.get! 0) s)) := by
 obtain ⟨L, hL⟩ : ∃ L, L = s.data.toList := ⟨_, rfl⟩
 obtain ⟨c, hcc⟩ : ∃ c, c = sep.get! 0 := ⟨_, rfl⟩
 have hLs : L.length = s.size := by rw [hL]; simp
 have hcl : List.count c L ≤ L.length := List.count_le_length
 obtain ⟨N, hN⟩ : ∃ N : Nat, N = List.count c L := ⟨_, rfl⟩
 refine fn_intro0 Tryd.func39 rfl Tryd.ntmps39 (Nat.le_of_ble_eq_true rfl) (fun s0 a0 hle F0 ok0 hargs => ?_)
 have p0 := pA hle (hargs 0 _ rfl) hv0
 have p1 := pA hle (hargs 1 _ rfl) hv1
 have p2 := pA hle (hargs 2 _ rfl) hv2
 have p3 := pA hle (hargs 3 _ rfl) hv3
 clear hargs; refine wp_seq ?_
 refine gI a0 s0 ok0 (gC (Ty.val (Value.slice none 0 0)) (gE ok0 fun a1 s1 ok1 D1 => ?_)); have q4 := D1.k p3; refine tn (wp_seq (wp_seq ?_))
 refine gI a1 s1 ok1 (gM q4 (gT (Ty.bool false) rfl (fun A B E G H d0 => rP ((y_eql (eI d0) rfl).mono (fun τ _ h => cvb (σ := τ) dE h))) (gE ok1 fun a2 s2 ok2 D2 => ?_))); have q6 := D2.k (D1.k p1); refine tn ?_
 refine cond_t (D2.m 1 rfl) (fun c1 => (by cases c1)) (fun _ => ?_)
 refine wp_skip (tn (wp_seq (wp_seq ?_)))
 refine gI a2 s2 ok2 (gM q6 (gT (Ty.bool (decide (sep = (ByteArray.mk #[])))) rfl (fun A B E G H d0 => rP (y_seql Tryd.underlying9 (eI d0) rfl)) (gE ok2 fun a3 s3 ok3 D3 => ?_))); refine tn ?_
 refine cond_p (p := (sep = (ByteArray.mk #[]))) (D3.m 1 rfl) (fun c2 => ?_) (fun c2 => ?_)
 ·
  exfalso
  rw [c2] at h1; cases h1
 ·
  refine wp_skip (tn (wp_seq (wp_seq ?_)))
  refine gI a3 s3 ok3 (gM (D3.k (D2.k q4)) (gT (Ty.bool true) rfl (fun A B E G H d0 => rP ((y_lss (eI d0) rfl).mono (fun τ _ h => cvb (σ := τ) dE h))) (gE ok3 fun a4 s4 ok4 D4 => ?_))); have q15 := D4.k (D3.k (D2.k (D1.k p0))); have q16 := D4.k (D3.k q6); refine tn ?_
  refine cond_t (D4.m 1 rfl) (fun _ => ?_) (fun c3 => (by cases c3))
  refine gI a4 s4 ok4 (gM q15 (gM q16 (gT (Ty.nat N) rfl (fun A B E G H d0 d1 => rP ((y_call _ Tryd.func55 rfl rfl my2 (sCountC_fn (s) (sep) _ _ _ (eI d0) (eI d1) (by first | omega | rfl | assumption) (by first | omega | rfl | assumption))).mono (fun τ _ h => cvt (σ := τ) (T := (Ty.int ((List.count (sep.get! 0) ((ByteArray.data s).toList) : Nat) : Int))) (U := (Ty.nat N)) (by rw [hN, hL, hcc]) h))) (gT (Ty.nat (N + 1)) rfl (fun A B E G H d0 => rP ((y_add (eI d0) rfl wX).mono (fun τ _ h => cN (σ := τ) h))) (gB 0 (gE ok4 fun a5 s5 ok5 D5 => ?_)))))); have q20 := D5.k q15; refine tn (wp_seq ?_)
  refine gI a5 s5 ok5 (gM (D5.m 4 rfl) (gM q20 (gT (Ty.nat (ByteArray.size s)) rfl (fun A B E G H d0 => rP (y_len_str Tryd.underlying9 (eI d0))) (gT (Ty.nat ((ByteArray.size s) + 1)) rfl (fun A B E G H d0 => rP ((y_add (eI d0) rfl wX).mono (fun τ _ h => cN (σ := τ) h))) (gT (Ty.int (min (((N + 1) : Nat) : Int) ((((ByteArray.size s) + 1) : Nat) : Int))) rfl (fun A B E G H d0 d1 => rP (y_min (eI d0) (eI d1))) (gB 0 (gE ok5 fun a6 s6 ok6 D6 => ?_)))))))
  have q28 : At (Ty.nat (N + 1)) s6 a6 (.tmp 3) := (cvi (by (omega)) (D6.m 5 rfl))
  refine tn (wp_seq ?_)
  refine gI a6 s6 ok6 (gM q28 (gR (Pr.own 61 9 1 (N + 1) (List.map Ty.str (List.replicate (N + 1) ByteArray.empty))) rfl (by intro A B E G H d0 d1; have e0 := ed d0 rfl rfl rfl; exact rP ((y_make (k := 61) (T := Ty.str ByteArray.empty) (n := (N + 1)) Tryd.underlying40 Tryd.inf9 rfl (fun _ => rfl) e0 e0 oM oM).mono (fun _ _ h => cvo (by simp) (by simp) h))) (gE2 ok6 fun a7 s7 ok7 D7 => ?_)))
  obtain ⟨x1, hx1⟩ : ∃ x, a7.eval (.tmp 31) = x := ⟨_, rfl⟩
  have q33 : At (Ty.val x1) s7 a7 (.tmp 31) := hx1
  have o1 := al2 (R := (Pr.own 61 9 1 (N + 1) (List.map Ty.str (List.replicate (N + 1) ByteArray.empty)))) hx1 (D7.done 1 dE)
  refine tL ok7 (Yld.toL (y_as q33)) fun a8 s8 hs1 ok8 r1 sm1 => ?_
  have q38 : At (Ty.val x1) s8 a8 (.tmp 9) := r1
  clear r1; refine wpList_nil (tn (wp_seq ?_))
  refine gI a8 s8 ok8 (gM (kq hs1 sm1 3 (D7.k q28)) (gT (Ty.int ((((N + 1) : Nat) : Int) - (1 : Int))) rfl (fun A B E G H d0 => rP (y_sub (eI d0) rfl wX)) (gB 0 (gE ok8 fun a9 s9 ok9 D8 => ?_)))); have o3 := Own.k0 (Own.kl o1 hs1) D8.stp
  have q44 : At (Ty.nat N) s9 a9 (.tmp 3) := (cvi (by (omega)) (D8.m 2 rfl))
  refine tn (wp_seq ?_)
  refine gI a9 s9 ok9 (gC (Ty.int (0 : Int)) (gE ok9 fun a10 s10 ok10 D9 => ?_)); have o4 := Own.k0 o3 D9.stp; refine tn (wp_seq (wp_block ?_))
  refine loop (fun n1 a11 w1 => ∃ (t1 : GW) (i : Nat) (l : List UInt8) (ys : List ByteArray) (x9_0 : Value), t1.w = w1 ∧ FromL [] s0 t1 ∧ Ok 66 [] a11 ∧ At (Ty.val (Value.string (bsL l))) t1 a11 (.tmp 0) ∧ At (Ty.nat i) t1 a11 (.tmp 10) ∧ At (Ty.val x9_0) t1 a11 (.tmp 9) ∧ At (Ty.val (Value.string sep)) t1 a11 (.tmp 1) ∧ At (Ty.nat 0) t1 a11 (.tmp 2) ∧ At (Ty.nat N) t1 a11 (.tmp 3) ∧ Own t1 61 9 1 x9_0 (List.length ys) (List.map Ty.str ys) ∧ ((ys.take i) ++ (cutL c l).map bsL = cutT c s) ∧ (i + List.count c l = N) ∧ (ys.length = N + 1) ∧ (l.length ≤ s.size) ∧ n1 = N + 1 - i) (N + 1 - (0)) ?_ ?_
  ·
   exact ⟨s10, 0, L, (List.replicate (N + 1) ByteArray.empty), x1, rfl, ((((((((((F0.step0 D1.stp).step0 D2.stp).step0 D3.stp).step0 D4.stp).step0 D5.stp).step0 D6.stp).step0 D7.stp).sl hs1).step0 D8.stp).step0 D9.stp), ok10, (cvt (by (rw [hL, bsL_data])) (D9.k (D8.k (kq hs1 sm1 0 (D7.k (D6.k q20)))))), (cvi (by (rfl)) (D9.m 0 rfl)), (D9.k (D8.k q38)), (D9.k (D8.k (kq hs1 sm1 1 (D7.k (D6.k (D5.k q16)))))), (D9.k (D8.k (kq hs1 sm1 2 (D7.k (D6.k (D5.k (D4.k (D3.k (D2.k (D1.k p2)))))))))), (D9.k q44), (cvo (by (first | rfl | simp)) (by (first | rfl | simp)) o4), by rw [hL]; rfl, by omega, by simp, by omega, rfl⟩
  ·
   rintro n2 a12 w2 ⟨t2, i, l, ys, x9_0, rfl, F11, ok11, q51, q52, q53, q54, q55, q56, o5, hq, hi, hy, hll, rfl⟩
   have hbs := bsL_size l
   refine wp_seq (wp_seq ?_)
   refine gI a12 t2 ok11 (gM q52 (gM q56 (gS rfl (fun A B E G H d0 d1 => rP (y_lss (eI d0) (eI d1))) (gE ok11 fun a13 s11 ok12 D10 => ?_)))); have F12 := F11.step0 D10.stp; have q57 := D10.k q51; have q58 := D10.k q52; have q59 := D10.k q53; have q60 := D10.k q54; have o6 := Own.k0 o5 D10.stp; refine tn ?_
   refine cond_p (p := (((i : Nat) : Int) < ((N : Nat) : Int))) (D10.m 2 rfl) (fun c4 => ?_) (fun c4 => ?_)
   ·
    have hix := Lib.indexByte_ge l c
    refine wp_skip (tn (wp_block (wp_seq ?_)))
    refine gI a13 s11 ok12 (gM q57 (gM q60 (gT (Ty.int (Lib.indexByte l c)) rfl (fun A B E G H d0 d1 => rP ((y_call _ Tryd.func56 rfl rfl my2 (sIndexC_fn ((bsL l)) (sep) _ _ _ (eI d0) (eI d1) (by first | omega | rfl | assumption) (by first | omega | rfl | assumption))).mono (fun τ _ h => cvt (σ := τ) (T := (Ty.int (Lib.indexByte ((ByteArray.data ((bsL l))).toList) (sep.get! 0)))) (U := (Ty.int (Lib.indexByte l c))) (by rw [data_bsL, hcc]) h))) (gB 0 (gE ok12 fun a14 s12 ok13 D11 => ?_))))); have o7 := Own.k0 o6 D11.stp; have q70 := D11.m 3 rfl; refine tn (wp_seq (wp_seq ?_))
    refine gI a14 s12 ok13 (gM q70 (gS rfl (fun A B E G H d0 => rP (y_lss (eI d0) rfl)) (gE ok13 fun a15 s13 ok14 D12 => ?_))); have F14 := (F12.step0 D11.stp).step0 D12.stp; have q71 := D12.k (D11.k q57); have q72 := D12.k (D11.k q58); have q73 := D12.k (D11.k q59); have q75 := D12.k (D11.k (D10.k q55)); have o8 := Own.k0 o7 D12.stp; refine tn ?_
    refine cond_p (p := ((Lib.indexByte l c) < (0 : Int))) (D12.m 1 rfl) (fun c5 => ?_) (fun c5 => ?_)
    ·
     have hc0 : List.count c l = 0 := ix_count.1 oM; have hsl : (ys.set i (bsL l)).length = ys.length := List.length_set
     refine wp_exit (tx ?_)
     refine bo dE ?_
     refine tx (bx (tn (wp_seq ?_)))
     refine gI a15 s13 ok14 (gM q73 (gM q72 (gM q71 (gT (Ty.val (cellPtr x9_0 i)) rfl (fun A B E G H d0 d1 d2 d3 d4 => rP (own_index1 (i := ((i : Nat) : Int)) Tryd.underlying40 Tryd.inf9 (Own.k0 o8 E) (eI d0) (eI d1) oM oM)) (gE2 ok14 fun a16 s14 ok15 D13 => ?_))))); have o9 := Own.k0 o8 D13.stp
     refine tailL0 (L := [61]) (R := (fun _ τ => Own τ 61 9 1 x9_0 (List.length ys) ((List.map Ty.str ys).set i (Ty.val (Value.string (bsL l)))))) rfl rfl (YldM.toL (m_store Tryd.inf9 dE o9 (D13.m 3 rfl) (by simp only [List.length_map, List.length_set]; omega) (D13.m 2 rfl) (one_val rfl))) (fun v1 s15 hs2 r2 => ?_)
     have q83 := kpL hs2 dE rfl (D13.k q72); have q84 := kpL hs2 dE rfl (D13.k q73)
     have o10 : Own s15 61 9 1 x9_0 (List.length (ys.set i (bsL l))) (List.map Ty.str (ys.set i (bsL l))) := (cvo (by simp) (by first | (simp; done) | (rw [List.map_set]; done) | (rw [List.map_set]; rfl)) r2)
     clear r2; refine wpList_nil (tn (wp_seq ?_))
     refine gI a16 s15 ok15 (gM q84 (gM q83 (gT (Ty.nat (i + 1)) rfl (fun A B E G H d0 => rP ((y_add (eI d0) rfl wX).mono (fun τ _ h => cN (σ := τ) h))) (gR (Pr.own 61 9 1 (List.length ((ys.set i (bsL l)).take (i + 1))) (List.map Ty.str ((ys.set i (bsL l)).take (i + 1)))) rfl (by intro A B E G H d0 d1; exact rP ((y_otake (h := (i + 1)) Tryd.underlying40 Tryd.inf9 (Own.k0 o10 E) (eI d0) (eI d1) oM).mono (fun _ _ h => own_lst_take oM h))) (gE2 ok15 fun a17 s16 ok16 D14 => ?_))))); have o11 := Own.k0 o10 D14.stp
     obtain ⟨x2, hx2⟩ : ∃ x, a17.eval (.tmp 65) = x := ⟨_, rfl⟩
     have q86 : At (Ty.val x2) s16 a17 (.tmp 65) := hx2
     have o12 := al2 (R := (Pr.own 61 9 1 (List.length ((ys.set i (bsL l)).take (i + 1))) (List.map Ty.str ((ys.set i (bsL l)).take (i + 1))))) hx2 (D14.done 3 dE)
     refine tL ok16 (Yld.toL (y_as q86)) fun a18 s17 hs3 ok17 r3 sm2 => ?_
     have o13 := Own.kl o11 hs3
     have q87 : At (Ty.val x2) s17 a18 (.tmp 8) := r3
     clear r3; refine wpList_nil (tn (wp_ret ?_))
     obtain ⟨t3, e1, h1, q88⟩ := Own.seal (Own.kl o12 hs3) dE
     rw [← e1]
     have F19 := ((((F14.step0 D13.stp).sl hs2).step0 D14.stp).sl hs3).step h1 dE
     have q89 : At (Ty.lst Ty.str ((ys.set i (bsL l)).take (i + 1))) t3 a18 (.tmp 8) := by have e : a18.eval (.tmp 8) = x2 := q87; show Ty.has _ _ _; rw [e]; exact q88
     exact retL1 rfl ok17 F19 (cvt (by (rw [sp_end hq hc0 oM, hcc])) q89)
    ·
     obtain ⟨m, hm⟩ : ∃ m : Nat, Lib.indexByte l c = m := ⟨(Lib.indexByte l c).toNat, by omega⟩; obtain ⟨hca, hml⟩ := count_at hm
     have q90 : At (Ty.nat m) s13 a15 (.tmp 11) := cvt (T := (Ty.int (Lib.indexByte l c))) (U := (Ty.nat m)) (by rw [hm]) (D12.k q70)
     refine wp_skip (tn (wp_seq ?_))
     refine gI a15 s13 ok14 (gM q73 (gM q72 (gM q71 (gM q90 (gM q75 (gT (Ty.nat (m + 0)) rfl (fun A B E G H d0 d1 => rP ((y_add (eI d0) (eI d1) wX).mono (fun τ _ h => cN (σ := τ) h))) (gT (Ty.val (Value.string (ByteArray.extract (bsL l) 0 (m + 0)))) rfl (fun A B E G H d0 d1 => rP (y_sto (h := (m + 0)) Tryd.underlying9 (eI d0) (eI d1) oM)) (gT (Ty.val (cellPtr x9_0 i)) rfl (fun A B E G H d0 d1 d2 d3 d4 d5 d6 d7 d8 => rP (own_index1 (i := ((i : Nat) : Int)) Tryd.underlying40 Tryd.inf9 (Own.k0 o8 E) (eI d0) (eI d1) oM oM)) (gE2 ok14 fun a19 s18 ok18 D15 => ?_))))))))); have o15 := Own.k0 o8 D15.stp
     refine tailL0 (L := [61]) (R := (fun _ τ => Own τ 61 9 1 x9_0 (List.length ys) ((List.map Ty.str ys).set i (Ty.val (Value.string (ByteArray.extract (bsL l) 0 (m + 0))))))) rfl rfl (YldM.toL (m_store Tryd.inf9 dE o15 (D15.m 7 rfl) (by simp only [List.length_map, List.length_set]; omega) (D15.m 6 rfl) (one_val rfl))) (fun v2 s19 hs4 r4 => ?_)
     have q100 := kpL hs4 dE rfl (D15.k q71); have q101 := kpL hs4 dE rfl (D15.k q72); have q102 := kpL hs4 dE rfl (D15.k q73); have q103 := kpL hs4 dE rfl (D15.k (D12.k (D11.k q60))); have q104 := kpL hs4 dE rfl (D15.k q75); have q105 := kpL hs4 dE rfl (D15.k (D12.k (D11.k (D10.k q56)))); have q106 := kpL hs4 dE rfl (D15.k q90)
     have o16 : Own s19 61 9 1 x9_0 (List.length (ys.set i (ByteArray.extract (bsL l) 0 (m + 0)))) (List.map Ty.str (ys.set i (ByteArray.extract (bsL l) 0 (m + 0)))) := (cvo (by simp) (by first | (simp; done) | (rw [List.map_set]; done) | (rw [List.map_set]; rfl)) r4)
     clear r4; refine wpList_nil (tn (wp_seq ?_))
     refine gI a19 s19 ok18 (gM q100 (gM q106 (gM q103 (gT (Ty.nat (ByteArray.size sep)) rfl (fun A B E G H d0 => rP (y_len_str Tryd.underlying9 (eI d0))) (gT (Ty.nat (m + (ByteArray.size sep))) rfl (fun A B E G H d0 d1 => rP ((y_add (eI d0) (eI d1) wX).mono (fun τ _ h => cN (σ := τ) h))) (gT (Ty.val (Value.string (ByteArray.extract (bsL l) (m + (ByteArray.size sep)) (ByteArray.size (bsL l))))) rfl (fun A B E G H d0 d1 => rP (y_sfrom (l := (m + (ByteArray.size sep))) Tryd.underlying9 (eI d0) (eI d1) oM)) (gB 0 (gE ok18 fun a20 s20 ok19 D16 => ?_)))))))); have o17 := Own.k0 o16 D16.stp; refine tn ?_
     refine gI a20 s20 ok19 (gM (D16.k q101) (gT (Ty.nat (i + 1)) rfl (fun A B E G H d0 => rP ((y_add (eI d0) rfl wX).mono (fun τ _ h => cN (σ := τ) h))) (gB 0 (gE ok19 fun a21 s21 ok20 D17 => ?_)))); have o18 := Own.k0 o17 D17.stp; refine bn ?_
     exact tn ⟨N + 1 - ((i + 1)), by omega, s21, (i + 1), (l.drop (m + 1)), (ys.set i (ByteArray.extract (bsL l) 0 (m + 0))), x9_0, rfl, ((((F14.step0 D15.stp).sl hs4).step0 D16.stp).step0 D17.stp), ok20, (cvt (by (rw [ext_tail (by rw [h1])])) (D17.k (D16.m 6 rfl))), (cJ (D17.m 2 rfl)), (D17.k (D16.k q102)), (D17.k (D16.k q103)), (D17.k (D16.k q104)), (D17.k (D16.k q105)), (cvo (by (simp)) (by (simp)) o18), sp_go hq hm oM (ext_head rfl), by omega, by rw [List.length_set]; exact hy, by rw [List.length_drop]; omega, rfl⟩
   ·
    have hc0 : List.count c l = 0 := oM; have hsl : (ys.set i (bsL l)).length = ys.length := List.length_set
    refine wp_exit (tx (tx (bx (tn (wp_seq ?_)))))
    refine gI a13 s11 ok12 (gM q59 (gM q58 (gM q57 (gT (Ty.val (cellPtr x9_0 i)) rfl (fun A B E G H d0 d1 d2 d3 d4 => rP (own_index1 (i := ((i : Nat) : Int)) Tryd.underlying40 Tryd.inf9 (Own.k0 o6 E) (eI d0) (eI d1) oM oM)) (gE2 ok12 fun a22 s22 ok21 D18 => ?_))))); have o19 := Own.k0 o6 D18.stp
    refine tailL0 (L := [61]) (R := (fun _ τ => Own τ 61 9 1 x9_0 (List.length ys) ((List.map Ty.str ys).set i (Ty.val (Value.string (bsL l)))))) rfl rfl (YldM.toL (m_store Tryd.inf9 dE o19 (D18.m 3 rfl) (by simp only [List.length_map, List.length_set]; omega) (D18.m 2 rfl) (one_val rfl))) (fun v3 s23 hs5 r5 => ?_)
    have q124 := kpL hs5 dE rfl (D18.k q58); have q125 := kpL hs5 dE rfl (D18.k q59)
    have o20 : Own s23 61 9 1 x9_0 (List.length (ys.set i (bsL l))) (List.map Ty.str (ys.set i (bsL l))) := (cvo (by simp) (by first | (simp; done) | (rw [List.map_set]; done) | (rw [List.map_set]; rfl)) r5)
    clear r5; refine wpList_nil (tn (wp_seq ?_))
    refine gI a22 s23 ok21 (gM q125 (gM q124 (gT (Ty.nat (i + 1)) rfl (fun A B E G H d0 => rP ((y_add (eI d0) rfl wX).mono (fun τ _ h => cN (σ := τ) h))) (gR (Pr.own 61 9 1 (List.length ((ys.set i (bsL l)).take (i + 1))) (List.map Ty.str ((ys.set i (bsL l)).take (i + 1)))) rfl (by intro A B E G H d0 d1; exact rP ((y_otake (h := (i + 1)) Tryd.underlying40 Tryd.inf9 (Own.k0 o20 E) (eI d0) (eI d1) oM).mono (fun _ _ h => own_lst_take oM h))) (gE2 ok21 fun a23 s24 ok22 D19 => ?_))))); have o21 := Own.k0 o20 D19.stp
    obtain ⟨x3, hx3⟩ : ∃ x, a23.eval (.tmp 65) = x := ⟨_, rfl⟩
    have q127 : At (Ty.val x3) s24 a23 (.tmp 65) := hx3
    have o22 := al2 (R := (Pr.own 61 9 1 (List.length ((ys.set i (bsL l)).take (i + 1))) (List.map Ty.str ((ys.set i (bsL l)).take (i + 1))))) hx3 (D19.done 3 dE)
    refine tL ok22 (Yld.toL (y_as q127)) fun a24 s25 hs6 ok23 r6 sm3 => ?_
    have o23 := Own.kl o21 hs6
    have q128 : At (Ty.val x3) s25 a24 (.tmp 8) := r6
    clear r6; refine wpList_nil (tn (wp_ret ?_))
    obtain ⟨t4, e2, h2, q129⟩ := Own.seal (Own.kl o22 hs6) dE
    rw [← e2]
    have F28 := ((((F12.step0 D18.stp).sl hs5).step0 D19.stp).sl hs6).step h2 dE
    have q130 : At (Ty.lst Ty.str ((ys.set i (bsL l)).take (i + 1))) t4 a24 (.tmp 8) := by have e : a24.eval (.tmp 8) = x3 := q128; show Ty.has _ _ _; rw [e]; exact q129
    exact retL1 rfl ok23 F28 (cvt (by (rw [sp_end hq hc0 oM, hcc])) q130)


set_option maxHeartbeats 4000000 in
set_option maxRecDepth 100000 in
theorem splitC_fn (s : ByteArray) (sep : ByteArray) (σ : GW)  (v0 v1 : Value) (hv0 : Ty.has (Ty.val (Value.string s)) σ v0) (hv1 : Ty.has (Ty.val (Value.string sep)) σ v1)  (h1 : sep.size = 1) (hss : s.size ≤ 1099511627776) :
    FnC Tryd.prog 26 #[v0, v1] σ (Ty.lst Ty.str (cutT (sep.get! 0) s)) := by
 refine fn_intro0 Tryd.func26 rfl Tryd.ntmps26 (Nat.le_of_ble_eq_true rfl) (fun s0 a0 hle F0 ok0 hargs => ?_)
 have p0 := pA hle (hargs 0 _ rfl) hv0
 have p1 := pA hle (hargs 1 _ rfl) hv1
 clear hargs; refine wp_seq ?_
 refine gI a0 s0 ok0 (gC (Ty.val (Value.slice none 0 0)) (gE ok0 fun a1 s1 ok1 D1 => ?_)); refine tn (wp_seq ?_)
 refine gI a1 s1 ok1 (gM (D1.k p0) (gM (D1.k p1) (gS rfl (fun A B E G H d0 d1 => rP (y_call #[A.eval (.tmp 5), A.eval (.tmp 6), A.eval ((Operand.const (Value.int IntKind.i64 0))), A.eval ((Operand.const (Value.int IntKind.i64 (-1))))] Tryd.func39 rfl rfl my4 (genSplitC_fn (s) (sep) _ _ _ _ _ (eI d0) (eI d1) (cvi (σ := B) (by first | omega | rfl | assumption) rfl) rfl (by first | omega | rfl | assumption) (by first | omega | rfl | assumption)))) (gB 0 (gE ok1 fun a2 s2 ok2 D2 => ?_))))); refine tn (wp_ret ?_)
 exact retL1 rfl ok2 ((F0.step0 D1.stp).step0 D2.stp) (D2.m 3 rfl)


set_option maxHeartbeats 4000000 in
set_option maxRecDepth 100000 in
theorem bCheck_fn (s : ByteArray) (σ : GW)  (v0 : Value) (hv0 : Ty.has (Ty.val (Value.string s)) σ v0)  (E : s.size ≤ 17592186044416) :
    FnC Tryd.prog 28 #[v0] σ (Ty.val (Value.int .u32 (((chk (ByteArray.data s).toList) : Nat) : Int))) := by
 refine fn_intro0 Tryd.func28 rfl Tryd.ntmps28 (Nat.le_of_ble_eq_true rfl) (fun s0 a0 hle F0 ok0 hargs => ?_)
 have p0 := pA hle (hargs 0 _ rfl) hv0
 clear hargs; refine wp_seq ?_
 refine gI a0 s0 ok0 (gC (Ty.val (Value.int .u32 (0 : Int))) (gE ok0 fun a1 s1 ok1 D1 => ?_)); refine tn (wp_seq ?_)
 refine gI a1 s1 ok1 (gC (Ty.val (Value.int .u32 (5381 : Int))) (gE ok1 fun a2 s2 ok2 D2 => ?_)); have q2 := D2.k (D1.k p0); refine tn (wp_seq (wp_seq ?_))
 refine gI a2 s2 ok2 (gM q2 (gT (Ty.nat (ByteArray.size s)) rfl (fun A B E G H d0 => rP (y_len_str Tryd.underlying9 (eI d0))) (gT (Ty.int (0 : Int)) rfl (fun A B E G H => rP (y_move rfl)) (gE ok2 fun a3 s3 ok3 D3 => ?_)))); refine tn (wp_block ?_)
 refine loop (fun n1 a4 w1 => ∃ (t1 : GW) (k : Nat), t1.w = w1 ∧ FromL [] s0 t1 ∧ Ok 19 [] a4 ∧ At (Ty.nat k) t1 a4 (.tmp 7) ∧ At (Ty.val (Value.int .u32 (((ckT (ByteArray.data s).toList k) : Nat) : Int))) t1 a4 (.tmp 3) ∧ At (Ty.val (Value.string s)) t1 a4 (.tmp 0) ∧ At (Ty.nat (ByteArray.size s)) t1 a4 (.tmp 6) ∧ (k ≤ s.size) ∧ n1 = s.size - k) (s.size - (0)) ?_ ?_
 ·
  exact ⟨s3, 0, rfl, (((F0.step0 D1.stp).step0 D2.stp).step0 D3.stp), ok3, (cJ (D3.m 2 rfl)), (cvi (by (rfl)) (D3.k (D2.m 0 rfl))), (D3.k q2), (D3.m 1 rfl), by omega, rfl⟩
 ·
  rintro n2 a5 w2 ⟨t2, k, rfl, F4, ok4, q8, q9, q10, q11, hk, rfl⟩
  have hck := ckT_lt (l := s.data.toList) (i := k)
  have hb256 := UInt8.toNat_lt (s.get! k)
  have hc33 : ckT (ByteArray.data s).toList k * 33 % 4294967296 < 4294967296 := Nat.mod_lt _ dE
  refine wp_seq ?_
  refine gI a5 t2 ok4 (gS rfl (fun A B E G H => rP (y_lss (kp (H 7 rfl) E q8) (kp (H 6 rfl) E q11))) (gE ok4 fun a6 s4 ok5 D4 => ?_)); have F5 := F4.step0 D4.stp; have q12 := D4.k q8; have q13 := D4.k q9; refine tn (wp_seq ?_)
  refine cond_p (p := (((k : Nat) : Int) < (((ByteArray.size s) : Nat) : Int))) (D4.m 0 rfl) (fun c1 => ?_) (fun c1 => ?_)
  ·
   refine wp_skip (tn (wp_seq (wp_block (wp_seq ?_))))
   refine gI a6 s4 ok5 (gM q12 (gB 0 (gE ok5 fun a7 s5 ok6 D5 => ?_))); have q19 := D5.k (D4.k q10); refine tn ?_
   refine gI a7 s5 ok6 (gM (D5.k q13) (gT (Ty.val (Value.int .u32 ((((ckT (ByteArray.data s).toList k) * 33 % 4294967296 : Nat)) : Int))) rfl (fun A B E G H d0 => rP (y_mul33 (h := (ckT (ByteArray.data s).toList k)) (eI d0) rfl)) (gM q19 (gM (D5.m 1 rfl) (gT (Ty.val (Value.int .u8 (((s.get! k).toNat : Nat) : Int))) rfl (fun A B E G H d0 d1 => rP (y_sindex Tryd.underlying9 (eI d0) (eI d1) oM oM)) (gT (Ty.val (Value.int .u32 (((s.get! k).toNat : Nat) : Int))) rfl (fun A B E G H d0 => rP (y_conv Tryd.underlying72 (eI d0) (by exact wrap_u32 oM oM) (by rw [Tryd.underlying5]; rfl))) (gT (Ty.val (Value.int .u32 (((((ckT (ByteArray.data s).toList k) * 33 % 4294967296) ^^^ (s.get! k).toNat : Nat)) : Int))) rfl (fun A B E G H d0 d1 => rP (y_xor32 (m := ((ckT (ByteArray.data s).toList k) * 33 % 4294967296)) (n := (s.get! k).toNat) (eI d0) (eI d1) oM oM)) (gB 0 (gE ok6 fun a8 s6 ok7 D6 => ?_))))))))); refine bn (tn ?_)
   refine gI a8 s6 ok7 (gT (Ty.int (((k : Nat) : Int) + (1 : Int))) rfl (fun A B E G H => rP (y_add (kp (H 7 rfl) E (D6.k (D5.k q12))) rfl wX)) (gS rfl (fun A B E G H d0 => rP (y_move (eI d0))) (gE ok7 fun a9 s7 ok8 D7 => ?_)))
   exact tn ⟨s.size - ((k+1)), by omega, s7, (k+1), rfl, (((F5.step0 D5.stp).step0 D6.stp).step0 D7.stp), ok8, (cJ (D7.m 1 rfl)), (cvi (by (rw [ckT_step oM])) (D7.k (D6.m 7 rfl))), (D7.k (D6.k q19)), (D7.k (D6.k (D5.k (D4.k q11)))), by omega, rfl⟩
  ·
   refine wp_exit (tx (tx (bx (tn (wp_seq ?_)))))
   refine gI a6 s4 ok5 (gM q13 (gB 0 (gE ok5 fun a10 s8 ok9 D8 => ?_))); refine tn (wp_ret ?_)
   exact retL1 rfl ok9 (F5.step0 D8.stp) (cvi (by (rw [ckT_end oM])) (D8.m 1 rfl))


theorem fmtN_fn (n : Nat) (b : Int) (σ : GW) (v0 v1 : Value) (hv0 : Ty.has (Ty.val (.int .u64 ((n : Nat) : Int))) σ v0) (hv1 : Ty.has (Ty.int b) σ v1) (hb : b = 10) (hn : n < 18446744073709551616) (hglb0 : Gbk Tryd.prog GA GB σ) : FnC Tryd.prog 27 #[v0, v1] σ (Ty.str (dcB n)) := by
  subst hb
  obtain rfl : v0 = _ := hv0
  obtain rfl : v1 = _ := hv1
  exact fnc_grow (fmtU n hn σ.w hglb0.tab.is) (fun τ => rfl)


theorem atoiA_fn (s : ByteArray) (σ : GW) (hlow : Low [] σ) (v0 : Value) (hv0 : Ty.has (Ty.val (Value.string s)) σ v0) (E : s.size ≤ 1099511627776) (hglb0 : Gbk Tryd.prog GA GB σ) : FnL Tryd.prog 41 #[v0] σ [] (fun v τ => ∃ (n : Int), ∃ (ev : Value), (Ty.has (Ty.tup2 (Ty.int n) (Ty.val ev)) τ v) ∧ (AtA s n ev)) := by
  obtain rfl : v0 = _ := hv0
  exact ata_of hglb0.syn hglb0.ran (fun v h => Go.Proofs.Any.strconv_Atoi_ok atoiL s oM v h σ.w) (fun h1_ h2_ ev hv hev => (Go.Proofs.Any.strconv_Atoi_syntax atoiL s oM (by cases e_ : Lib.atoiAll s.data.toList; exact absurd e_ (h1_ _); rfl; exact absurd e_ h2_) ev σ.w hv hev).mono (fun e w' ⟨N, h1, _, _, h4⟩ => ⟨N, h1, h4⟩))
    (fun h ev hv hev => (Go.Proofs.Any.strconv_Atoi_range atoiL s oM h ev σ.w hv hev).mono (fun e w' ⟨N, h1, _, _, h4⟩ => ⟨N, h1, h4⟩))


theorem itoaN_fn (n : Nat) (σ : GW) (v0 : Value) (hv0 : Ty.has (Ty.nat n) σ v0) (hn : n < 9223372036854775808) (hglb0 : Gbk Tryd.prog GA GB σ) : FnC Tryd.prog 42 #[v0] σ (Ty.str (dcB n)) := by
  obtain rfl : v0 = _ := hv0
  exact fnc_grow (itoaU n oM σ.w hglb0.tab.is) (fun τ => rfl)


set_option maxHeartbeats 4000000 in
set_option maxRecDepth 100000 in
theorem bNum_fn (s : ByteArray) (σ : GW) (hlow : Low [] σ) (v0 : Value) (hv0 : Ty.has (Ty.val (Value.string s)) σ v0)  (hsz : s.size ≤ 1099511627776) (hglb0 : Gbk Tryd.prog GA GB σ) :
    FnL Tryd.prog 29 #[v0] σ [] (fun v τ => ∃ (n : Int), ∃ (b : Bool), (Ty.has (Ty.tup2 (Ty.int n) (Ty.bool b)) τ v) ∧ (NumBk s n b)) := by
 refine fn_introL hlow Tryd.func29 rfl Tryd.ntmps29 (Nat.le_of_ble_eq_true rfl) (fun a0 F0 ok0 hargs => ?_)
 have p0 := pB (hargs 0 _ rfl) hv0
 clear hargs; refine wp_seq ?_
 refine gI a0 σ ok0 (gC (Ty.int (0 : Int)) (gC (Ty.bool false) (gE ok0 fun a1 s1 ok1 D1 => ?_))); have q1 := D1.k p0; refine tn (wp_seq ?_)
 refine gI a1 s1 ok1 (gM q1 (gE2 ok1 fun a2 s2 ok2 D2 => ?_)); have F2 := (F0.step0 D1.stp).step0 D2.stp
 refine tL ok2 (y_callL (L := []) [] [] _ rfl dE Tryd.func41 rfl rfl my1 (atoiA_fn (s) _ lW _ (uL (D2.m 0 rfl))  (by first | omega | assumption | exact Gbk.up (GW.le_lend _ _) (Gbk.fl F2 rfl hglb0) | exact Gbk.up E.le0 (Gbk.fl F2 rfl hglb0) | exact Gbk.up (GW.le_lend _ _) (Gbk.fl F2 rfl hglb) | exact Gbk.up E.le0 (Gbk.fl F2 rfl hglb)) (by first | omega | assumption | exact Gbk.up (GW.le_lend _ _) (Gbk.fl F2 rfl hglb0) | exact Gbk.up E.le0 (Gbk.fl F2 rfl hglb0) | exact Gbk.up (GW.le_lend _ _) (Gbk.fl F2 rfl hglb) | exact Gbk.up E.le0 (Gbk.fl F2 rfl hglb)))) fun a3 s3 hs1 ok3 r1 sm1 => ?_
 obtain ⟨t1, ⟨g1, g2, hT1, hp1⟩, B1⟩ := r1
 have q5 : At (Ty.tup2 (Ty.int (g1)) (Ty.val g2)) s3 a3 (.tmp 8) := Ty.up _ B1.le hT1
 refine tL ok3 (Yld.toL (y_mv q5)) fun a4 s4 hs2 ok4 r2 sm2 => ?_
 have q7 : At (Ty.tup2 (Ty.int (g1)) (Ty.val g2)) s4 a4 (.tmp 6) := r2
 clear r2
 refine tL (R := (fun v τ => Pr.has (Ty.pr (Ty.int (g1))) τ v)) ok4 (Yld.toL (y_ext2_0 q7)) fun a5 s5 hs3 ok5 r3 sm3 => ?_
 have q10 : At (Ty.int (g1)) s5 a5 (.tmp 9) := r3
 clear r3
 refine tL (R := (fun v τ => Pr.has (Ty.pr (Ty.val g2)) τ v)) ok5 (Yld.toL (y_ext2_1 (kq hs3 sm3 6 q7))) fun a6 s6 hs4 ok6 r4 sm4 => ?_
 have q13 : At (Ty.val g2) s6 a6 (.tmp 10) := r4
 clear r4
 refine tL ok6 (Yld.toL (y_as (kq hs4 sm4 9 q10))) fun a7 s7 hs5 ok7 r5 sm5 => ?_
 have q16 : At (Ty.int (g1)) s7 a7 (.tmp 4) := r5
 clear r5
 refine tL ok7 (Yld.toL (y_as (kq hs5 sm5 10 q13))) fun a8 s8 hs6 ok8 r6 sm6 => ?_
 have F8 := (((((F2.sl hs1).sl hs2).sl hs3).sl hs4).sl hs5).sl hs6; have q18 := kq hs6 sm6 4 q16
 have q19 : At (Ty.val g2) s8 a8 (.tmp 5) := r6
 clear r6; refine wpList_nil ?_
 have hbd_ := (by assumption : AtA _ _ _).2.1
 refine tn (wp_seq ?_)
 refine gI a8 s8 ok8 (gM q18 (gM q19 (gT (Ty.bool (isNilV g2)) rfl (fun A B E G H d0 => rP (y_eqnil (ev := g2) (by kernel_rfl) (eI d0) (by exact (by assumption : AtA _ _ _).1))) (gS rfl (fun A B E G H d0 => rP (y_move (eI d0))) (gS rfl (fun A B E G H d0 => gu G (eI d0) fun hg => y_move (kp (H 4 rfl) E q18)) (gS rfl (fun A B E G H d0 d1 => gu G (eI d1) fun hg => y_geq ((ef d0 rfl).1 hg) rfl) (gS rfl (fun A B E G H d0 d1 => rP (y_pick_and (eI d0) (eI d1) rfl)) (gS rfl (fun A B E G H d0 d1 => rP (y_move (eI d0))) (gT (Ty.grd (((isNilV g2) && (decide ((0 : Int) ≤ (g1)))) = true) (Ty.int (g1))) rfl (by intro A B E G H d0; refine run_guard G rfl rfl dE (eI d0) (fun hg => ?_); obtain ⟨d1, d2⟩ := Bool.and_eq_true_iff.mp hg; have d2 := of_decide_eq_true d2; exact y_move (kp (H 4 rfl) E q18)) ?_)))))))))
 refine gT (Ty.grd (((isNilV g2) && (decide ((0 : Int) ≤ (g1)))) = true) (Ty.val (Value.string (dcB (((g1)).toNat))))) rfl (by intro A B E G H d0 d1 d2; refine run_guard G rfl rfl dE (eI d1) (fun hg => ?_); obtain ⟨d3, d4⟩ := Bool.and_eq_true_iff.mp hg; have d4 := of_decide_eq_true d4; exact y_call _ Tryd.func42 rfl rfl my1 (itoaN_fn (((g1)).toNat) _ _ (cvi (σ := B) (by first | omega | assumption | exact Gbk.up (GW.le_lend _ _) (Gbk.fl @F rfl hglb0) | exact Gbk.up E.le0 (Gbk.fl @F rfl hglb0) | exact Gbk.up (GW.le_lend _ _) (Gbk.fl @F rfl hglb) | exact Gbk.up E.le0 (Gbk.fl @F rfl hglb)) ((ef d0 rfl).1 hg)) (by first | omega | assumption | exact Gbk.up (GW.le_lend _ _) (Gbk.fl F8 rfl hglb0) | exact Gbk.up E.le0 (Gbk.fl F8 rfl hglb0) | exact Gbk.up (GW.le_lend _ _) (Gbk.fl F8 rfl hglb) | exact Gbk.up E.le0 (Gbk.fl F8 rfl hglb)) (by first | omega | assumption | exact Gbk.up (GW.le_lend _ _) (Gbk.fl F8 rfl hglb0) | exact Gbk.up E.le0 (Gbk.fl F8 rfl hglb0) | exact Gbk.up (GW.le_lend _ _) (Gbk.fl F8 rfl hglb) | exact Gbk.up E.le0 (Gbk.fl F8 rfl hglb)))) (gT (Ty.grd (((isNilV g2) && (decide ((0 : Int) ≤ (g1)))) = true) (Ty.val (Value.string s))) rfl (by intro A B E G H d0 d1; refine run_guard G rfl rfl dE (eI d0) (fun hg => ?_); obtain ⟨d5, d6⟩ := Bool.and_eq_true_iff.mp hg; have d6 := of_decide_eq_true d6; exact y_move (kp (H 0 rfl) E (kq hs6 sm6 0 (kq hs5 sm5 0 (kq hs4 sm4 0 (kq hs3 sm3 0 (kq hs2 sm2 0 (kq hs1 sm1 0 (D2.k q1))))))))) (gT (Ty.grd (((isNilV g2) && (decide ((0 : Int) ≤ (g1)))) = true) (Ty.bool (decide ((dcB (((g1)).toNat)) = s)))) rfl (by intro A B E G H d0 d1 d2 d3; refine run_guard G rfl rfl dE (eI d2) (fun hg => ?_); obtain ⟨d7, d8⟩ := Bool.and_eq_true_iff.mp hg; have d8 := of_decide_eq_true d8; exact y_seql Tryd.underlying9 ((ef d0 rfl).1 hg) ((ef d1 rfl).1 hg)) (gS rfl (fun A B E G H d0 d1 d2 => rP (y_pick_and (eI d0) (eI d1) rfl)) ?_)))
 refine gB 0 (gB 0 (gE ok8 fun a9 s9 ok9 D3 => ?_)); refine tn (wp_ret ?_)
 exact retL2 rfl ok9 (F8.step0 D3.stp) ⟨g1, (((isNilV g2) && (decide ((0 : Int) ≤ (g1)))) && (decide ((dcB (((g1)).toNat)) = s))), (hasT2 (D3.m 13 rfl) (cvb (by (first | rfl | omega | (simp_all; done) | (simp_all; omega))) (D3.m 14 rfl))), (by exact numP_of (by assumption) (by simp only [Bool.and_eq_true, decide_eq_true_eq, and_assoc]; exact Iff.rfl))⟩


set_option maxRecDepth 100000 in
theorem letter_fn (c : Int) (σ : GW) (v0 : Value) (hv0 : Ty.has (Ty.val (Value.int .i32 c)) σ v0)  :
    FnC Tryd.prog 48 #[v0] σ (Ty.bool (letterB c)) := by
 refine fn_intro Tryd.func48 rfl Tryd.ntmps48 (Nat.le_of_ble_eq_true rfl) (fun s0 a0 hle F0 ok0 hargs => ?_)
 have p0 := pA hle (hargs 0 _ rfl) hv0
 clear hargs; refine wp_seq ?_
 refine gI a0 s0 ok0 (gC (Ty.bool false) (gE ok0 fun a1 s1 ok1 D1 => ?_)); have q1 := D1.k p0; refine tn (wp_seq ?_)
 refine gI a1 s1 ok1 (gM q1 (gS rfl (fun A B E G H d0 => rP (y_geq (eI d0) rfl)) (gS rfl (fun A B E G H d0 => rP (y_move (eI d0))) (gS rfl (fun A B E G H d0 => gu G (eI d0) fun hg => y_move (kp (H 0 rfl) E q1)) (gS rfl (fun A B E G H d0 d1 => gu G (eI d1) fun hg => y_leq ((ef d0 rfl).1 hg) rfl) (gS rfl (fun A B E G H d0 d1 => rP (y_pick_and (eI d0) (eI d1) rfl)) (gS rfl (fun A B E G H d0 d1 => rP (y_move (eI d0))) (gS rfl (fun A B E G H d0 => gu G (eI d0) fun hg => y_move (kp (H 0 rfl) E q1)) (gS rfl (fun A B E G H d0 d1 => gu G (eI d1) fun hg => y_geq ((ef d0 rfl).1 hg) rfl) (gS rfl (fun A B E G H d0 d1 d2 => gu G (eI d1) fun hg => y_mv ((ef d0 rfl).1 hg)) (gS rfl (fun A B E G H d0 => gu2 G (eI d0) fun hg => y_move (kp (H 0 rfl) E q1)) (gS rfl (fun A B E G H d0 d1 => gu2 G (eI d1) fun hg => y_leq ((ef d0 rfl).1 hg) rfl) (gS rfl (fun A B E G H d0 d1 d2 => gu G (eI d2) fun hg => y_pick_and ((ef d0 rfl).1 hg) (grd_part hg (eI d1)) rfl) (gS rfl (fun A B E G H d0 d1 => rP (y_pick_or (eI d0) rfl (eI d1))) (gS rfl (fun A B E G H d0 d1 => rP (y_move (eI d0))) (gT (Ty.grd ((((decide ((65 : Int) ≤ c)) && (decide (c ≤ (90 : Int)))) || ((decide ((97 : Int) ≤ c)) && (decide (c ≤ (122 : Int))))) = false) (Ty.val (Value.int .i32 c))) rfl (by intro A B E G H d0; refine run_guard G rfl rfl dE (eI d0) (fun hg => ?_); obtain ⟨d1, d2⟩ := Bool.or_eq_false_iff.mp hg; exact y_move (kp (H 0 rfl) E q1)) ?_))))))))))))))))
 refine gT (Ty.grd ((((decide ((65 : Int) ≤ c)) && (decide (c ≤ (90 : Int)))) || ((decide ((97 : Int) ≤ c)) && (decide (c ≤ (122 : Int))))) = false) (Ty.bool (decide ((48 : Int) ≤ c)))) rfl (by intro A B E G H d0 d1; refine run_guard G rfl rfl dE (eI d1) (fun hg => ?_); obtain ⟨d3, d4⟩ := Bool.or_eq_false_iff.mp hg; exact y_geq ((ef d0 rfl).1 hg) rfl) (gT (Ty.grd ((((decide ((65 : Int) ≤ c)) && (decide (c ≤ (90 : Int)))) || ((decide ((97 : Int) ≤ c)) && (decide (c ≤ (122 : Int))))) = false) (Ty.bool (decide ((48 : Int) ≤ c)))) rfl (by intro A B E G H d0 d1 d2; refine run_guard G rfl rfl dE (eI d1) (fun hg => ?_); obtain ⟨d5, d6⟩ := Bool.or_eq_false_iff.mp hg; exact y_move ((ef d0 rfl).1 hg)) (gS rfl (fun A B E G H d0 => gu2 G (eI d0) fun hg => y_move (kp (H 0 rfl) E q1)) (gS rfl (fun A B E G H d0 d1 => gu2 G (eI d1) fun hg => y_leq ((ef d0 rfl).1 hg) rfl) (gT (Ty.grd ((((decide ((65 : Int) ≤ c)) && (decide (c ≤ (90 : Int)))) || ((decide ((97 : Int) ≤ c)) && (decide (c ≤ (122 : Int))))) = false) (Ty.bool ((decide ((48 : Int) ≤ c)) && (decide (c ≤ (57 : Int)))))) rfl (by intro A B E G H d0 d1 d2; refine run_guard G rfl rfl dE (eI d2) (fun hg => ?_); obtain ⟨d7, d8⟩ := Bool.or_eq_false_iff.mp hg; exact y_pick_and ((ef d0 rfl).1 hg) (grd_part hg (eI d1)) rfl) (gS rfl (fun A B E G H d0 d1 => rP (y_pick_or (eI d0) rfl (eI d1))) (gS rfl (fun A B E G H d0 d1 => rP (y_move (eI d0))) ?_))))))
 refine gT (Ty.grd (((((decide ((65 : Int) ≤ c)) && (decide (c ≤ (90 : Int)))) || ((decide ((97 : Int) ≤ c)) && (decide (c ≤ (122 : Int))))) || ((decide ((48 : Int) ≤ c)) && (decide (c ≤ (57 : Int))))) = false) (Ty.val (Value.int .i32 c))) rfl (by intro A B E G H d0; refine run_guard G rfl rfl dE (eI d0) (fun hg => ?_); obtain ⟨d9, d10⟩ := Bool.or_eq_false_iff.mp hg; obtain ⟨d11, d12⟩ := Bool.or_eq_false_iff.mp d9; exact y_move (kp (H 0 rfl) E q1)) (gT (Ty.grd (((((decide ((65 : Int) ≤ c)) && (decide (c ≤ (90 : Int)))) || ((decide ((97 : Int) ≤ c)) && (decide (c ≤ (122 : Int))))) || ((decide ((48 : Int) ≤ c)) && (decide (c ≤ (57 : Int))))) = false) (Ty.bool (decide (c = (32 : Int))))) rfl (by intro A B E G H d0 d1; refine run_guard G rfl rfl dE (eI d1) (fun hg => ?_); obtain ⟨d13, d14⟩ := Bool.or_eq_false_iff.mp hg; obtain ⟨d15, d16⟩ := Bool.or_eq_false_iff.mp d13; exact y_eql ((ef d0 rfl).1 hg) rfl) (gS rfl (fun A B E G H d0 d1 => rP (y_pick_or (eI d0) rfl (eI d1))) (gS rfl (fun A B E G H d0 d1 => rP (y_move (eI d0))) (gT (Ty.grd ((((((decide ((65 : Int) ≤ c)) && (decide (c ≤ (90 : Int)))) || ((decide ((97 : Int) ≤ c)) && (decide (c ≤ (122 : Int))))) || ((decide ((48 : Int) ≤ c)) && (decide (c ≤ (57 : Int))))) || (decide (c = (32 : Int)))) = false) (Ty.val (Value.int .i32 c))) rfl (by intro A B E G H d0; refine run_guard G rfl rfl dE (eI d0) (fun hg => ?_); obtain ⟨d17, d18⟩ := Bool.or_eq_false_iff.mp hg; obtain ⟨d19, d20⟩ := Bool.or_eq_false_iff.mp d17; obtain ⟨d21, d22⟩ := Bool.or_eq_false_iff.mp d19; have d18 := of_decide_eq_false d18; exact y_move (kp (H 0 rfl) E q1)) ?_))))
 refine gT (Ty.grd ((((((decide ((65 : Int) ≤ c)) && (decide (c ≤ (90 : Int)))) || ((decide ((97 : Int) ≤ c)) && (decide (c ≤ (122 : Int))))) || ((decide ((48 : Int) ≤ c)) && (decide (c ≤ (57 : Int))))) || (decide (c = (32 : Int)))) = false) (Ty.bool (decide ((192 : Int) ≤ c)))) rfl (by intro A B E G H d0 d1; refine run_guard G rfl rfl dE (eI d1) (fun hg => ?_); obtain ⟨d23, d24⟩ := Bool.or_eq_false_iff.mp hg; obtain ⟨d25, d26⟩ := Bool.or_eq_false_iff.mp d23; obtain ⟨d27, d28⟩ := Bool.or_eq_false_iff.mp d25; have d24 := of_decide_eq_false d24; exact y_geq ((ef d0 rfl).1 hg) rfl) (gT (Ty.grd ((((((decide ((65 : Int) ≤ c)) && (decide (c ≤ (90 : Int)))) || ((decide ((97 : Int) ≤ c)) && (decide (c ≤ (122 : Int))))) || ((decide ((48 : Int) ≤ c)) && (decide (c ≤ (57 : Int))))) || (decide (c = (32 : Int)))) = false) (Ty.bool (decide ((192 : Int) ≤ c)))) rfl (by intro A B E G H d0 d1 d2; refine run_guard G rfl rfl dE (eI d1) (fun hg => ?_); obtain ⟨d29, d30⟩ := Bool.or_eq_false_iff.mp hg; obtain ⟨d31, d32⟩ := Bool.or_eq_false_iff.mp d29; obtain ⟨d33, d34⟩ := Bool.or_eq_false_iff.mp d31; have d30 := of_decide_eq_false d30; exact y_move ((ef d0 rfl).1 hg)) (gS rfl (fun A B E G H d0 => gu2 G (eI d0) fun hg => y_move (kp (H 0 rfl) E q1)) (gS rfl (fun A B E G H d0 d1 => gu2 G (eI d1) fun hg => y_leq ((ef d0 rfl).1 hg) rfl) ?_)))
 refine gT (Ty.grd ((((((decide ((65 : Int) ≤ c)) && (decide (c ≤ (90 : Int)))) || ((decide ((97 : Int) ≤ c)) && (decide (c ≤ (122 : Int))))) || ((decide ((48 : Int) ≤ c)) && (decide (c ≤ (57 : Int))))) || (decide (c = (32 : Int)))) = false) (Ty.bool ((decide ((192 : Int) ≤ c)) && (decide (c ≤ (382 : Int)))))) rfl (by intro A B E G H d0 d1 d2; refine run_guard G rfl rfl dE (eI d2) (fun hg => ?_); obtain ⟨d35, d36⟩ := Bool.or_eq_false_iff.mp hg; obtain ⟨d37, d38⟩ := Bool.or_eq_false_iff.mp d35; obtain ⟨d39, d40⟩ := Bool.or_eq_false_iff.mp d37; have d36 := of_decide_eq_false d36; exact y_pick_and ((ef d0 rfl).1 hg) (grd_part hg (eI d1)) rfl) (gT (Ty.grd ((((((decide ((65 : Int) ≤ c)) && (decide (c ≤ (90 : Int)))) || ((decide ((97 : Int) ≤ c)) && (decide (c ≤ (122 : Int))))) || ((decide ((48 : Int) ≤ c)) && (decide (c ≤ (57 : Int))))) || (decide (c = (32 : Int)))) = false) (Ty.bool ((decide ((192 : Int) ≤ c)) && (decide (c ≤ (382 : Int)))))) rfl (by intro A B E G H d0 d1 d2; refine run_guard G rfl rfl dE (eI d2) (fun hg => ?_); obtain ⟨d41, d42⟩ := Bool.or_eq_false_iff.mp hg; obtain ⟨d43, d44⟩ := Bool.or_eq_false_iff.mp d41; obtain ⟨d45, d46⟩ := Bool.or_eq_false_iff.mp d43; have d42 := of_decide_eq_false d42; exact y_move ((ef d0 rfl).1 hg)) (gT (Ty.grd (((((((decide ((65 : Int) ≤ c)) && (decide (c ≤ (90 : Int)))) || ((decide ((97 : Int) ≤ c)) && (decide (c ≤ (122 : Int))))) || ((decide ((48 : Int) ≤ c)) && (decide (c ≤ (57 : Int))))) || (decide (c = (32 : Int)))) = false) ∧ ((decide ((192 : Int) ≤ c)) && (decide (c ≤ (382 : Int)))) = true) (Ty.val (Value.int .i32 c))) rfl (by intro A B E G H d0; refine run_guard2 G rfl rfl dE (eI d0) (fun hg => ?_); obtain ⟨d47, d48⟩ := Bool.and_eq_true_iff.mp hg.2; have d47 := of_decide_eq_true d47; have d48 := of_decide_eq_true d48; exact y_move (kp (H 0 rfl) E q1)) ?_))
 refine gT (Ty.grd (((((((decide ((65 : Int) ≤ c)) && (decide (c ≤ (90 : Int)))) || ((decide ((97 : Int) ≤ c)) && (decide (c ≤ (122 : Int))))) || ((decide ((48 : Int) ≤ c)) && (decide (c ≤ (57 : Int))))) || (decide (c = (32 : Int)))) = false) ∧ ((decide ((192 : Int) ≤ c)) && (decide (c ≤ (382 : Int)))) = true) (Ty.bool (decide (c ≠ (215 : Int))))) rfl (by intro A B E G H d0 d1; refine run_guard2 G rfl rfl dE (eI d1) (fun hg => ?_); obtain ⟨d49, d50⟩ := Bool.and_eq_true_iff.mp hg.2; have d49 := of_decide_eq_true d49; have d50 := of_decide_eq_true d50; exact y_neq ((ef d0 rfl).1 hg) rfl) (gT (Ty.grd ((((((decide ((65 : Int) ≤ c)) && (decide (c ≤ (90 : Int)))) || ((decide ((97 : Int) ≤ c)) && (decide (c ≤ (122 : Int))))) || ((decide ((48 : Int) ≤ c)) && (decide (c ≤ (57 : Int))))) || (decide (c = (32 : Int)))) = false) (Ty.bool (((decide ((192 : Int) ≤ c)) && (decide (c ≤ (382 : Int)))) && (decide (c ≠ (215 : Int)))))) rfl (by intro A B E G H d0 d1 d2; refine run_guard G rfl rfl dE (eI d2) (fun hg => ?_); obtain ⟨d51, d52⟩ := Bool.or_eq_false_iff.mp hg; obtain ⟨d53, d54⟩ := Bool.or_eq_false_iff.mp d51; obtain ⟨d55, d56⟩ := Bool.or_eq_false_iff.mp d53; have d52 := of_decide_eq_false d52; exact y_pick_and ((ef d0 rfl).1 hg) (grd_part hg (eI d1)) rfl) ?_)
 refine gT (Ty.grd ((((((decide ((65 : Int) ≤ c)) && (decide (c ≤ (90 : Int)))) || ((decide ((97 : Int) ≤ c)) && (decide (c ≤ (122 : Int))))) || ((decide ((48 : Int) ≤ c)) && (decide (c ≤ (57 : Int))))) || (decide (c = (32 : Int)))) = false) (Ty.bool (((decide ((192 : Int) ≤ c)) && (decide (c ≤ (382 : Int)))) && (decide (c ≠ (215 : Int)))))) rfl (by intro A B E G H d0 d1 d2; refine run_guard G rfl rfl dE (eI d2) (fun hg => ?_); obtain ⟨d57, d58⟩ := Bool.or_eq_false_iff.mp hg; obtain ⟨d59, d60⟩ := Bool.or_eq_false_iff.mp d57; obtain ⟨d61, d62⟩ := Bool.or_eq_false_iff.mp d59; have d58 := of_decide_eq_false d58; exact y_move ((ef d0 rfl).1 hg)) (gT (Ty.grd (((((((decide ((65 : Int) ≤ c)) && (decide (c ≤ (90 : Int)))) || ((decide ((97 : Int) ≤ c)) && (decide (c ≤ (122 : Int))))) || ((decide ((48 : Int) ≤ c)) && (decide (c ≤ (57 : Int))))) || (decide (c = (32 : Int)))) = false) ∧ (((decide ((192 : Int) ≤ c)) && (decide (c ≤ (382 : Int)))) && (decide (c ≠ (215 : Int)))) = true) (Ty.val (Value.int .i32 c))) rfl (by intro A B E G H d0; refine run_guard2 G rfl rfl dE (eI d0) (fun hg => ?_); obtain ⟨d63, d64⟩ := Bool.and_eq_true_iff.mp hg.2; obtain ⟨d65, d66⟩ := Bool.and_eq_true_iff.mp d63; have d65 := of_decide_eq_true d65; have d66 := of_decide_eq_true d66; have d64 := of_decide_eq_true d64; exact y_move (kp (H 0 rfl) E q1)) ?_)
 refine gT (Ty.grd (((((((decide ((65 : Int) ≤ c)) && (decide (c ≤ (90 : Int)))) || ((decide ((97 : Int) ≤ c)) && (decide (c ≤ (122 : Int))))) || ((decide ((48 : Int) ≤ c)) && (decide (c ≤ (57 : Int))))) || (decide (c = (32 : Int)))) = false) ∧ (((decide ((192 : Int) ≤ c)) && (decide (c ≤ (382 : Int)))) && (decide (c ≠ (215 : Int)))) = true) (Ty.bool (decide (c ≠ (247 : Int))))) rfl (by intro A B E G H d0 d1; refine run_guard2 G rfl rfl dE (eI d1) (fun hg => ?_); obtain ⟨d67, d68⟩ := Bool.and_eq_true_iff.mp hg.2; obtain ⟨d69, d70⟩ := Bool.and_eq_true_iff.mp d67; have d69 := of_decide_eq_true d69; have d70 := of_decide_eq_true d70; have d68 := of_decide_eq_true d68; exact y_neq ((ef d0 rfl).1 hg) rfl) (gT (Ty.grd ((((((decide ((65 : Int) ≤ c)) && (decide (c ≤ (90 : Int)))) || ((decide ((97 : Int) ≤ c)) && (decide (c ≤ (122 : Int))))) || ((decide ((48 : Int) ≤ c)) && (decide (c ≤ (57 : Int))))) || (decide (c = (32 : Int)))) = false) (Ty.bool ((((decide ((192 : Int) ≤ c)) && (decide (c ≤ (382 : Int)))) && (decide (c ≠ (215 : Int)))) && (decide (c ≠ (247 : Int)))))) rfl (by intro A B E G H d0 d1 d2; refine run_guard G rfl rfl dE (eI d2) (fun hg => ?_); obtain ⟨d71, d72⟩ := Bool.or_eq_false_iff.mp hg; obtain ⟨d73, d74⟩ := Bool.or_eq_false_iff.mp d71; obtain ⟨d75, d76⟩ := Bool.or_eq_false_iff.mp d73; have d72 := of_decide_eq_false d72; exact y_pick_and ((ef d0 rfl).1 hg) (grd_part hg (eI d1)) rfl) (gS rfl (fun A B E G H d0 d1 => rP (y_pick_or (eI d0) rfl (eI d1))) (gB 0 (gE ok1 fun a2 s2 ok2 D2 => ?_)))); refine tn (wp_ret ?_)
 exact ret1 rfl ok2 ((F0.step0 D1.stp).step0 D2.stp) (cvb (by (rfl)) (D2.m 42 rfl))


set_option maxRecDepth 100000 in
theorem mName_fn (s : ByteArray) (σ : GW) (v0 : Value) (hv0 : Ty.has (Ty.val (Value.string s)) σ v0) (E : s.size ≤ 1099511627776) :
    FnC Tryd.prog 36 #[v0] σ (Ty.bool (nameL s)) := by
 refine fn_intro Tryd.func36 rfl Tryd.ntmps36 (Nat.le_of_ble_eq_true rfl) (fun s0 a0 hle F0 ok0 hargs => ?_)
 have p0 := pA hle (hargs 0 _ rfl) hv0
 clear hargs; refine wp_seq ?_
 refine gI a0 s0 ok0 (gC (Ty.bool false) (gE ok0 fun a1 s1 ok1 D1 => ?_)); refine tn (wp_seq ?_)
 refine gI a1 s1 ok1 (gC (Ty.int (0 : Int)) (gE ok1 fun a2 s2 ok2 D2 => ?_)); have q2 := D2.k (D1.k p0); refine tn (wp_seq (wp_seq ?_))
 refine gI a2 s2 ok2 (gM q2 (gR (Pr.iter 7 s 0) rfl (by intro A B E G H d0; exact rP (y_range 7 Tryd.underlying9 (eI d0))) (gE ok2 fun a3 s3 ok3 D3 => ?_)))
 have q6 : (Pr.iter 7 s 0).has s3 (a3.eval (.tmp 7)) := D3.done 1
 refine tn (wp_block ?_)
 refine loop (fun n1 a4 w1 => ∃ (t1 : GW) (xs : List Nat) (p : Nat) (f : Nat), t1.w = w1 ∧ From s0 t1 ∧ Ok 35 [] a4 ∧ (Pr.iter 7 s p).has t1 (a4.eval (.tmp 7)) ∧ At (Ty.nat xs.length) t1 a4 (.tmp 3) ∧ At (Ty.val (Value.string s)) t1 a4 (.tmp 0) ∧ (∀ c ∈ xs, letterB ((c : Nat) : Int) = true) ∧ (xs ++ runesF s f p = runesL s) ∧ (s.size ≤ f + p) ∧ (p ≤ s.size + 4) ∧ (xs.length ≤ p) ∧ (xs.length = 0 ∨ 0 < s.size) ∧ n1 = s.size + 8 - p) (s.size + 8 - (0)) ?_ ?_
 ·
  exact ⟨s3, ([] : List Nat), 0, s.size, rfl, (((F0.step0 D1.stp).step0 D2.stp).step0 D3.stp), ok3, (cvit oM q6), (cJ (D3.k (D2.m 0 rfl))), (D3.k q2), fun c hc => by simp at hc, rfl, by omega, by omega, by simp, .inl rfl, rfl⟩
 ·
  rintro n2 a5 w2 ⟨t2, xs, p, f, rfl, F4, ok4, q7, q8, q9, hall, heq, hf, hp, hx, hz, rfl⟩
  have hw := wid_pos s p
  have hw2 := wid_le s p
  refine wp_seq ?_
  refine gI a5 t2 ok4 (gE2 ok4 fun a6 s4 ok5 D4 => ?_); have q10 := (Pr.iter 7 s p).up D4.stp q7
  have q11 : a6.eval (.tmp 7) = a5.eval (.tmp 7) := D4.same 7 rfl
  refine tail_step (m := 7) (R := (fun v τ => (Ty.nxt (decide (p < s.size)) p (run1 s p)).has τ v ∧ Iter τ 7 (a5.eval (.tmp 7)) s (stepTo s p))) rfl rfl dE ok5 (m_next dE q10 q11) (fun a7 s5 hs1 ok6 r1 sm1 => ?_)
  have F6 := (F4.step0 D4.stp).step hs1 dE
  have q14 : (Pr.iter 7 s (stepTo s p)).has s5 (a5.eval (.tmp 7)) := (r1).2
  have q15 := (sm1 7 dE).trans q11
  have q16 : At (Ty.nat xs.length) s5 a7 (.tmp 3) := kpm hs1 dE (sm1 3 dE) (D4.k q8)
  have q17 : At (Ty.val (Value.string s)) s5 a7 (.tmp 0) := kpm hs1 dE (sm1 0 dE) (D4.k q9)
  have q18 : At (Ty.nxt (decide (p < s.size)) p (run1 s p)) s5 a7 (.tmp 8) := (r1).1
  refine tail_step (m := 0) (R := (fun v τ => Pr.has (Ty.pr (Ty.bool (decide (p < s.size)))) τ v)) rfl rfl dE ok6 (Yld.toM (y_ext_n0 q18)) (fun a8 s6 hs2 ok7 r2 sm2 => ?_)
  have F7 := F6.step hs2 dE; have q19 := Iter.keep q14 hs2 dE (.inl rfl); have q20 := (sm2 7 dE).trans q15
  have q21 : At (Ty.nat xs.length) s6 a8 (.tmp 3) := kpm hs2 dE (sm2 3 dE) q16
  have q22 : At (Ty.val (Value.string s)) s6 a8 (.tmp 0) := kpm hs2 dE (sm2 0 dE) q17
  have q23 : At (Ty.nxt (decide (p < s.size)) p (run1 s p)) s6 a8 (.tmp 8) := kpm hs2 dE (sm2 8 dE) q18
  have q24 : At (Ty.bool (decide (p < s.size))) s6 a8 (.tmp 9) := r2
  refine wpList_nil ?_
  have q25 : (Pr.iter 7 s (stepTo s p)).has s6 (a8.eval (.tmp 7)) := al q20 q19
  refine tn (wp_seq ?_)
  refine cond_p (p := (p < s.size)) q24 (fun c1 => ?_) (fun c1 => ?_)
  ·
   refine wp_skip (tn (wp_block (wp_seq ?_)))
   refine gI a8 s6 ok7 (gT (Ty.val (Value.int .i32 ((run1 s p : Nat) : Int))) rfl (fun A B E G H => rP (y_ext_n2 (kp (H 8 rfl) E q23) (decide_eq_true oM))) (gB 0 (gE ok7 fun a9 s7 ok8 D5 => ?_)))
   have q26 : (Pr.iter 7 s (stepTo s p)).has s7 (a9.eval (.tmp 7)) := D5.ko q25 rfl
   refine tn (wp_seq (wp_seq ?_))
   refine gI a9 s7 ok8 (gM (D5.m 1 rfl) (gS rfl (fun A B E G H d0 => rP (y_call _ Tryd.func48 rfl rfl my1 (letter_fn (((run1 s p : Nat) : Int)) _ _ (eI d0) ))) (gS rfl (fun A B E G H d0 => rP (y_not (eI d0))) (gE ok8 fun a10 s8 ok9 D6 => ?_)))); have F9 := (F7.step0 D5.stp).step0 D6.stp
   have q30 : (Pr.iter 7 s (stepTo s p)).has s8 (a10.eval (.tmp 7)) := D6.ko q26 rfl
   refine tn ?_
   refine cond_t (D6.m 2 rfl) (fun c2 => ?_) (fun c2 => ?_)
   ·
    have hlet : letterB (run1 s p : Nat) = false := (by simpa using c2)
    refine wp_seq ?_
    refine gI a10 s8 ok9 (gC (Ty.bool false) (gE ok9 fun a11 s9 ok10 D7 => ?_)); refine tn (wp_ret (tr (br (tr (br (tr ?_))))))
    exact ret1 rfl ok10 (F9.step0 D7.stp) (cvb (by (exact (nameL_no heq oM oM hlet).symm)) (D7.m 0 rfl))
   ·
    have hlet : letterB (run1 s p : Nat) = true := (by simpa using c2)
    refine wp_skip (tn ?_)
    refine gI a10 s8 ok9 (gM (D6.k (D5.k q21)) (gT (Ty.int (((xs.length : Nat) : Int) + (1 : Int))) rfl (fun A B E G H d0 => rP (y_add (eI d0) rfl wX)) (gB 0 (gE ok9 fun a12 s10 ok11 D8 => ?_))))
    have q35 : (Pr.iter 7 s (stepTo s p)).has s10 (a12.eval (.tmp 7)) := D8.ko q30 rfl
    refine bn ?_
    exact tn ⟨s.size + 8 - ((p + wid s p)), by omega, s10, (xs ++ [run1 s p]), (p + wid s p), (f - 1), rfl, (F9.step0 D8.stp), ok11, (cvit (by unfold stepTo; rw [if_pos oM]) q35), (cvi (by (simp)) (D8.m 2 rfl)), (D8.k (D6.k (D5.k q22))), fun c hc => by (rcases List.mem_append.1 hc with h | h; exact hall c h; simp at h; subst h; exact hlet), runesF_step heq oM oM, by omega, by omega, by simp; omega, .inr oM, rfl⟩
  ·
   refine wp_exit (tx (tx (bx (tn (wp_seq ?_)))))
   refine gI a8 s6 ok7 (gM q21 (gS rfl (fun A B E G H d0 => rP (y_geq (eI d0) rfl)) (gS rfl (fun A B E G H d0 => rP (y_move (eI d0))) (gS rfl (fun A B E G H d0 => gu G (eI d0) fun hg => y_move (kp (H 3 rfl) E q21)) (gS rfl (fun A B E G H d0 d1 => gu G (eI d1) fun hg => y_leq ((ef d0 rfl).1 hg) rfl) (gS rfl (fun A B E G H d0 d1 => rP (y_pick_and (eI d0) (eI d1) rfl)) (gS rfl (fun A B E G H d0 d1 => rP (y_move (eI d0))) (gT (Ty.grd (((decide ((1 : Int) ≤ ((xs.length : Nat) : Int))) && (decide (((xs.length : Nat) : Int) ≤ (20 : Int)))) = true) (Ty.val (Value.string s))) rfl (by intro A B E G H d0; refine run_guard G rfl rfl dE (eI d0) (fun hg => ?_); obtain ⟨d1, d2⟩ := Bool.and_eq_true_iff.mp hg; have d1 := of_decide_eq_true d1; have d2 := of_decide_eq_true d2; exact y_move (kp (H 0 rfl) E q22)) (gT (Ty.grd (((decide ((1 : Int) ≤ ((xs.length : Nat) : Int))) && (decide (((xs.length : Nat) : Int) ≤ (20 : Int)))) = true) (Ty.val (Value.int .u8 (((s.get! ((0 : Int)).toNat).toNat : Nat) : Int)))) rfl (by intro A B E G H d0 d1; refine run_guard G rfl rfl dE (eI d1) (fun hg => ?_); obtain ⟨d3, d4⟩ := Bool.and_eq_true_iff.mp hg; have d3 := of_decide_eq_true d3; have d4 := of_decide_eq_true d4; exact y_sindex Tryd.underlying9 ((ef d0 rfl).1 hg) rfl oM oM) (gT (Ty.grd (((decide ((1 : Int) ≤ ((xs.length : Nat) : Int))) && (decide (((xs.length : Nat) : Int) ≤ (20 : Int)))) = true) (Ty.bool (decide ((((s.get! ((0 : Int)).toNat).toNat : Nat) : Int) ≠ (32 : Int))))) rfl (by intro A B E G H d0 d1; refine run_guard G rfl rfl dE (eI d1) (fun hg => ?_); obtain ⟨d5, d6⟩ := Bool.and_eq_true_iff.mp hg; have d5 := of_decide_eq_true d5; have d6 := of_decide_eq_true d6; exact y_neq ((ef d0 rfl).1 hg) rfl) ?_))))))))))
   refine gS rfl (fun A B E G H d0 d1 => rP (y_pick_and (eI d0) (eI d1) rfl)) (gS rfl (fun A B E G H d0 d1 => rP (y_move (eI d0))) (gT (Ty.grd ((((decide ((1 : Int) ≤ ((xs.length : Nat) : Int))) && (decide (((xs.length : Nat) : Int) ≤ (20 : Int)))) && (decide ((((s.get! ((0 : Int)).toNat).toNat : Nat) : Int) ≠ (32 : Int)))) = true) (Ty.val (Value.string s))) rfl (by intro A B E G H d0; refine run_guard G rfl rfl dE (eI d0) (fun hg => ?_); obtain ⟨d7, d8⟩ := Bool.and_eq_true_iff.mp hg; obtain ⟨d9, d10⟩ := Bool.and_eq_true_iff.mp d7; have d9 := of_decide_eq_true d9; have d10 := of_decide_eq_true d10; have d8 := of_decide_eq_true d8; exact y_move (kp (H 0 rfl) E q22)) (gT (Ty.grd ((((decide ((1 : Int) ≤ ((xs.length : Nat) : Int))) && (decide (((xs.length : Nat) : Int) ≤ (20 : Int)))) && (decide ((((s.get! ((0 : Int)).toNat).toNat : Nat) : Int) ≠ (32 : Int)))) = true) (Ty.val (Value.string s))) rfl (by intro A B E G H d0; refine run_guard G rfl rfl dE (eI d0) (fun hg => ?_); obtain ⟨d11, d12⟩ := Bool.and_eq_true_iff.mp hg; obtain ⟨d13, d14⟩ := Bool.and_eq_true_iff.mp d11; have d13 := of_decide_eq_true d13; have d14 := of_decide_eq_true d14; have d12 := of_decide_eq_true d12; exact y_move (kp (H 0 rfl) E q22)) (gT (Ty.grd ((((decide ((1 : Int) ≤ ((xs.length : Nat) : Int))) && (decide (((xs.length : Nat) : Int) ≤ (20 : Int)))) && (decide ((((s.get! ((0 : Int)).toNat).toNat : Nat) : Int) ≠ (32 : Int)))) = true) (Ty.nat (ByteArray.size s))) rfl (by intro A B E G H d0 d1; refine run_guard G rfl rfl dE (eI d1) (fun hg => ?_); obtain ⟨d15, d16⟩ := Bool.and_eq_true_iff.mp hg; obtain ⟨d17, d18⟩ := Bool.and_eq_true_iff.mp d15; have d17 := of_decide_eq_true d17; have d18 := of_decide_eq_true d18; have d16 := of_decide_eq_true d16; exact y_len_str Tryd.underlying9 ((ef d0 rfl).1 hg)) ?_))))
   refine gT (Ty.grd ((((decide ((1 : Int) ≤ ((xs.length : Nat) : Int))) && (decide (((xs.length : Nat) : Int) ≤ (20 : Int)))) && (decide ((((s.get! ((0 : Int)).toNat).toNat : Nat) : Int) ≠ (32 : Int)))) = true) (Ty.int ((((ByteArray.size s) : Nat) : Int) - (1 : Int)))) rfl (by intro A B E G H d0 d1; refine run_guard G rfl rfl dE (eI d1) (fun hg => ?_); obtain ⟨d19, d20⟩ := Bool.and_eq_true_iff.mp hg; obtain ⟨d21, d22⟩ := Bool.and_eq_true_iff.mp d19; have d21 := of_decide_eq_true d21; have d22 := of_decide_eq_true d22; have d20 := of_decide_eq_true d20; exact y_sub ((ef d0 rfl).1 hg) rfl wX) (gT (Ty.grd ((((decide ((1 : Int) ≤ ((xs.length : Nat) : Int))) && (decide (((xs.length : Nat) : Int) ≤ (20 : Int)))) && (decide ((((s.get! ((0 : Int)).toNat).toNat : Nat) : Int) ≠ (32 : Int)))) = true) (Ty.val (Value.int .u8 (((s.get! (((((ByteArray.size s) : Nat) : Int) - (1 : Int))).toNat).toNat : Nat) : Int)))) rfl (by intro A B E G H d0 d1 d2; refine run_guard G rfl rfl dE (eI d2) (fun hg => ?_); obtain ⟨d23, d24⟩ := Bool.and_eq_true_iff.mp hg; obtain ⟨d25, d26⟩ := Bool.and_eq_true_iff.mp d23; have d25 := of_decide_eq_true d25; have d26 := of_decide_eq_true d26; have d24 := of_decide_eq_true d24; exact y_sindex Tryd.underlying9 ((ef d0 rfl).1 hg) ((ef d1 rfl).1 hg) oM oM) ?_)
   refine gT (Ty.grd ((((decide ((1 : Int) ≤ ((xs.length : Nat) : Int))) && (decide (((xs.length : Nat) : Int) ≤ (20 : Int)))) && (decide ((((s.get! ((0 : Int)).toNat).toNat : Nat) : Int) ≠ (32 : Int)))) = true) (Ty.bool (decide ((((s.get! (((((ByteArray.size s) : Nat) : Int) - (1 : Int))).toNat).toNat : Nat) : Int) ≠ (32 : Int))))) rfl (by intro A B E G H d0 d1; refine run_guard G rfl rfl dE (eI d1) (fun hg => ?_); obtain ⟨d27, d28⟩ := Bool.and_eq_true_iff.mp hg; obtain ⟨d29, d30⟩ := Bool.and_eq_true_iff.mp d27; have d29 := of_decide_eq_true d29; have d30 := of_decide_eq_true d30; have d28 := of_decide_eq_true d28; exact y_neq ((ef d0 rfl).1 hg) rfl) (gS rfl (fun A B E G H d0 d1 => rP (y_pick_and (eI d0) (eI d1) rfl)) (gB 0 (gE ok7 fun a13 s11 ok12 D9 => ?_))); refine tn (wp_ret ?_)
   exact ret1 rfl ok12 (F7.step0 D9.stp) (cvb (by (rw [runesF_end oM, List.append_nil] at heq; rw [nameL_all (by rw [← heq]; exact hall), heq]; simp)) (D9.m 19 rfl))


end Go.Proofs.YtfgkhpkbehhflaaDoor
