/- The functions that the law PlaceParses reaches, each by its contract. Part 6. -/
import Derived.Test.YtdjihbjikpbhgaaPlaceParsesW5
namespace Go.Proofs.Ytdjihbjikpbhgaa
open Go.KL

set_option maxHeartbeats 4000000 in
set_option maxRecDepth 100000 in
theorem placeParses_fn (n : Int) (s : ByteArray) (σ : GW)  (v0 v1 : Value) (hv0 : Ty.has (Ty.int n) σ v0) (hv1 : Ty.has (Ty.val (Value.string s)) σ v1)   :
    FnC Try.prog 3 #[v0, v1] σ (Ty.bool true) := by
 refine fn_intro0 Try.func3 rfl Try.ntmps3 (Nat.le_of_ble_eq_true rfl) (fun s0 a0 hle F0 ok0 hargs => ?_)
 have p0 := pA hle (hargs 0 _ rfl) hv0
 have p1 := pA hle (hargs 1 _ rfl) hv1
 clear hargs; refine wp_seq ?_
 refine gI a0 s0 ok0 (gC (Ty.bool false) (gE ok0 fun a1 s1 ok1 D1 => ?_)); have q2 := D1.kt p1 rfl; refine tn (wp_seq (wp_seq ?_))
 refine gI a1 s1 ok1 (gM q2 (gT (Ty.nat (ByteArray.size s)) rfl (fun A B E G H d0 => rP (y_len_str Try.underlying9 (ed d0 rfl rfl rfl))) (gS rfl (fun A B E G H d0 => rP (y_gtr (ed d0 rfl rfl rfl) rfl)) (gS rfl (fun A B E G H d0 => rP (y_move (ed d0 rfl rfl rfl))) (gS rfl (fun A B E G H d0 => gu G (ed d0 rfl rfl rfl) fun hg => y_move (kp (H 1 rfl) E q2)) (gT (Ty.grd ((decide ((600 : Int) < (((ByteArray.size s) : Nat) : Int))) = true) (Ty.nat (ByteArray.size s))) rfl (fun A B E G H d0 d1 => gu G (ed d1 rfl rfl rfl) fun hg => y_len_str Try.underlying9 ((ed d0 rfl rfl rfl).1 hg)) (gS rfl (fun A B E G H d0 d1 => gu G (ed d1 rfl rfl rfl) fun hg => y_lss ((ed d0 rfl rfl rfl).1 hg) rfl) (gS rfl (fun A B E G H d0 d1 => rP (y_pick_and (ed d0 rfl rfl rfl) (ed d1 rfl rfl rfl) rfl)) (gE ok1 fun a2 s2 ok2 D2 => ?_))))))))); have F2 := (F0.step0 D1.stp).step0 D2.stp; have q3 := D2.kt (D1.kt p0 rfl) rfl; have q4 := D2.kt q2 rfl; refine tn ?_
 refine cond_t (D2.dn 7 rfl rfl) (fun c1 => ?_) (fun c1 => ?_)
 ·
  obtain ⟨d1, d2⟩ := Bool.and_eq_true_iff.mp c1
  replace d1 := of_decide_eq_true d1
  replace d2 := of_decide_eq_true d2
  refine wp_seq ?_
  refine gI a2 s2 ok2 (gC (Ty.bool true) (gE ok2 fun a3 s3 ok3 D3 => ?_)); refine tn (wp_ret (tr ?_))
  exact retL1 rfl ok3 (F2.step0 D3.stp) (D3.dn 0 rfl rfl)
 ·
  refine wp_skip (tn (wp_seq ?_))
  refine gI a2 s2 ok2 (gM q3 (gM q4 (gS rfl (fun A B E G H d0 d1 => rP (y_call _ Try.func7 rfl rfl my2 (plParse_fn (n) (s) _ _ _ (ed d0 rfl rfl rfl) (ed d1 rfl rfl rfl) ))) (gS rfl (fun A B E G H d0 => rP (y_move (ed d0 rfl rfl rfl))) (gT (Ty.lst Ty.ints (plM n s).2) rfl (fun A B E G H d0 => rP (y_ext2_0 (ed d0 rfl rfl rfl))) (gT (Ty.int (plM n s).1) rfl (fun A B E G H d0 d1 => rP (y_ext2_1 (ed d0 rfl rfl rfl))) (gB 0 (gB 0 (gE ok2 fun a4 s4 ok4 D4 => ?_))))))))); refine tn (wp_seq ?_)
  refine gI a4 s4 ok4 (gM (D4.kt q3 rfl) (gM (D4.kt q4 rfl) (gS rfl (fun A B E G H d0 d1 => rP (y_call _ Try.func8 rfl rfl my2 (rParsePlaces_fn (n) (s) _ _ _ (ed d0 rfl rfl rfl) (ed d1 rfl rfl rfl) ))) (gS rfl (fun A B E G H d0 => rP (y_move (ed d0 rfl rfl rfl))) (gT (Ty.lst Ty.ints (plM n s).2) rfl (fun A B E G H d0 => rP (y_ext2_0 (ed d0 rfl rfl rfl))) (gT (Ty.int (plM n s).1) rfl (fun A B E G H d0 d1 => rP (y_ext2_1 (ed d0 rfl rfl rfl))) (gB 0 (gB 0 (gE ok4 fun a5 s5 ok5 D5 => ?_))))))))); refine tn (wp_seq ?_)
  refine gI a5 s5 ok5 (gM (D5.kt (D4.dn 7 rfl rfl) rfl) (gM (D5.dn 7 rfl rfl) (gS rfl (fun A B E G H d0 d1 => rP (y_eql (ed d0 rfl rfl rfl) (ed d1 rfl rfl rfl))) (gS rfl (fun A B E G H d0 => rP (y_move (ed d0 rfl rfl rfl))) (gS rfl (fun A B E G H d0 => gu G (ed d0 rfl rfl rfl) fun hg => y_move (kp (H 5 rfl) E (D5.kt (D4.dn 6 rfl rfl) rfl))) (gS rfl (fun A B E G H d0 => gu G (ed d0 rfl rfl rfl) fun hg => y_move (kp (H 7 rfl) E (D5.dn 6 rfl rfl))) (gS rfl (fun A B E G H d0 d1 d2 d3 => gut G (ed d2 rfl rfl rfl) fun hg hp => y_call _ Try.func9 rfl rfl my2 (rSameAll_fn ((plM n s).2) ((plM n s).2) _ _ _ ((ed d0 rfl rfl rfl).1 hg) ((ed d1 rfl rfl rfl).1 hg) )) (gS rfl (fun A B E G H d0 d1 => rP (y_pick_and (ed d0 rfl rfl rfl) (ed d1 rfl rfl rfl) rfl)) (gB 0 (gE ok5 fun a6 s6 ok6 D6 => ?_)))))))))); refine tn (wp_ret ?_)
  exact retL1 rfl ok6 (((F2.step0 D4.stp).step0 D5.stp).step0 D6.stp) (cvb (by (simp)) (D6.dn 8 rfl rfl))


end Go.Proofs.Ytdjihbjikpbhgaa
