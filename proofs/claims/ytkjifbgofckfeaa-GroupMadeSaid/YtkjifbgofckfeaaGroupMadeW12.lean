/- The functions that the law GroupMade reaches, each by its contract. Part 12. -/
import Derived.Test.YtkjifbgofckfeaaGroupMadeW11
namespace Go.Proofs.Ytkjifbgofckfeaa
open Go.KL
set_option maxHeartbeats 4000000 in
set_option maxRecDepth 100000 in
theorem groupMade_fn (raw:List Int) (n:Int) (many:Int) (k:Int) (σ:GW)  (v0 v1 v2 v3:Value) (hv0:Ty.has (Ty.lst Ty.int raw) σ v0) (hv1:Ty.has (Ty.int n) σ v1) (hv2:Ty.has (Ty.int many) σ v2) (hv3:Ty.has (Ty.int k) σ v3)  (hraw:∀ x ∈ raw,-9223372036854775808 ≤ x∧x ≤ 9223372036854775807) (hn:-9223372036854775808 ≤ n∧n ≤ 9223372036854775807) (hmany:-9223372036854775808 ≤ many∧many ≤ 9223372036854775807) (hk:-9223372036854775808 ≤ k∧k ≤ 9223372036854775807) :
    FnC Try.prog 9 #[v0,v1,v2,v3] σ (Ty.bool true):=by
 have hp_n:=pick_lt n (n:=6) oM
 have hp_many:=pick_lt many (n:=4) oM
 obtain ⟨N,hN⟩:∃ N,N = 1 + pick n 6:=⟨_,rfl⟩
 have hN12:1 ≤ N∧N ≤ 12:=oM
 obtain ⟨GS,hGS⟩:∃ GS,GS = rowsOf raw 0 N (pick many 4):=⟨_,rfl⟩
 have hrw:∀ k,-9223372036854775808 ≤ rawAt raw k∧rawAt raw k ≤ 9223372036854775807:=fun k=>rawAt_bd hraw k
 have hL64:∀ x ∈ leadsOf raw 9 3,-9223372036854775808 ≤ x∧x ≤ 9223372036854775807:=fun x hx=>(by have h_:=leads_in (raw:=raw) (many:=9) (calls:=3) oM x hx;omega)
 refine fn_intro0 Try.func9 rfl Try.ntmps9 (Nat.le_of_ble_eq_true rfl) (fun s0 a0 hle F0 ok0 hargs=>?_)
 have p0:=pA hle (hargs 0 _ rfl) hv0
 have b1:=sl_le p0
 have p1:=pA hle (hargs 1 _ rfl) hv1
 have p2:=pA hle (hargs 2 _ rfl) hv2
 have p3:=pA hle (hargs 3 _ rfl) hv3
 clear hargs;refine wp_seq ?_
 refine gI a0 s0 ok0 (gC (Ty.bool false) (gE ok0 fun a1 s1 ok1 D1=>?_));have q1:=D1.k p0;refine tn (wp_seq (wp_seq ?_))
 refine gI a1 s1 ok1 (gM q1 (gS rfl (fun A B E G H d0=>rP (y_len Try.underlying22 (eI d0))) (gS rfl (fun A B E G H d0=>rP (y_gtr (eI d0) rfl)) (gE ok1 fun a2 s2 ok2 D2=>?_))));have F2:=(F0.step0 D1.stp).step0 D2.stp;refine tn ?_
 refine cond_p (p:=((256:Int) < (((List.length raw):Nat):Int))) (D2.m 2 rfl) (fun c1=>?_) (fun c1=>?_)
 ·
  refine wp_seq ?_
  refine gI a2 s2 ok2 (gC (Ty.bool true) (gE ok2 fun a3 s3 ok3 D3=>?_));refine tn (wp_ret (tr ?_))
  exact retL1 rfl ok3 (F2.step0 D3.stp) (D3.m 0 rfl)
 ·
  refine wp_skip (tn (wp_seq ?_))
  refine gI a2 s2 ok2 (gM (D2.k (D1.k p1)) (gS rfl (fun A B E G H d0=>rP (y_call #[A.eval (.tmp 13),A.eval ((Operand.const (Value.int IntKind.i64 6)))] Try.func15 rfl rfl my2 (pick_fn (n) (6) _ _ _ (cvi (σ:=B) oM (ef d0 rfl)) (cvi (σ:=B) oM rfl) oM oM))) (gT (Ty.nat (1 + (pick (n) (6)))) rfl (fun A B E G H d0=>rP ((y_add rfl (eI d0) wX).mono (fun τ _ h=>cN (σ:=τ) h))) (gB 0 (gE ok2 fun a4 s4 ok4 D4=>?_)))));have q11:=D4.k (D2.k q1)
  have q15:At (Ty.nat N) s4 a4 (.tmp 1):=(cvi (by (rw [hN])) (D4.m 3 rfl))
  refine tn (wp_seq ?_)
  refine gI a4 s4 ok4 (gM q11 (gM q15 (gM (D4.k (D2.k (D1.k p2))) (gS rfl (fun A B E G H d0=>rP (y_call #[A.eval (.tmp 18),A.eval ((Operand.const (Value.int IntKind.i64 4)))] Try.func15 rfl rfl my2 (pick_fn (many) (4) _ _ _ (cvi (σ:=B) oM (ef d0 rfl)) (cvi (σ:=B) oM rfl) oM oM))) (gS rfl (fun A B E G H d0 d1 d2 d3=>rP (y_call #[A.eval (.tmp 16),A.eval ((Operand.const (Value.int IntKind.i64 0))),A.eval (.tmp 17),A.eval (.tmp 19)] Try.func16 rfl rfl my4 (rRowsOf_fn (raw) (0) (N) ((pick (many) (4))) _ _ _ _ _ (eI d0) (cvi (σ:=B) (by first | omega | exact wr64_bd _ | assumption) rfl) (cvi (σ:=B) (by first | omega | exact wr64_bd _ | assumption) (ef d1 rfl)) (cvi (σ:=B) (by first | omega | exact wr64_bd _ | assumption) (ef d2 rfl)) (by first | omega | exact wr64_bd _ | assumption) (by first | omega | exact wr64_bd _ | assumption) (by first | omega | exact wr64_bd _ | assumption)))) (gB 0 (gE ok4 fun a5 s5 ok5 D5=>?_)))))));have q17:=D5.k (D4.k (D2.k (D1.k p3)));have q18:=D5.k q15
  have q20:At (Ty.lst Ty.ints GS) s5 a5 (.tmp 9):=(cvt (by (rw [hGS])) (D5.m 5 rfl))
  refine tn (wp_seq ?_)
  refine gI a5 s5 ok5 (gM q18 (gM q20 (gM q17 (gM q18 (gS rfl (fun A B E G H d0 d1=>rP (y_call _ Try.func31 rfl rfl my2 (rRowOf_fn (k) (N) _ _ _ (cvi (σ:=B) (by first | omega | exact hr _ | assumption) (ef d0 rfl)) (cvi (σ:=B) (by first | omega | exact hr _ | assumption) (ef d1 rfl)) (by first | omega | exact hr _ | assumption) (by first | omega | exact hr _ | assumption)))) (gM (D5.k q11) (gS rfl (fun A B E G H d0 d1=>rP (y_call #[A.eval (.tmp 26),A.eval ((Operand.const (Value.int IntKind.i64 9))),A.eval ((Operand.const (Value.int IntKind.i64 3)))] Try.func32 rfl rfl my3 (rLeadsOf_fn (raw) (9) (3) _ _ _ _ (eI d0) (cvi (σ:=B) oX rfl) (cvi (σ:=B) oX rfl) oX oX oX))) (gM q17 (gM q18 (gS rfl (fun A B E G H d0 d1 d2=>rP (y_call _ Try.func15 rfl rfl my2 (pick_fn (k) (N) _ _ _ (cvi (σ:=B) oM (ef d0 rfl)) (cvi (σ:=B) oM (ef d1 rfl)) oM oM))) ?_))))))))))
  refine gS rfl (fun A B E G H d0 d1 d2 d3 d4 d5=>rP (y_call _ Try.func8 rfl rfl my5 (groupSays_fn (((N:Nat):Int)) (GS) ((atL (N) (pick (k) (fct (N))))) ((leadsOf raw (9) (3))) ((((pick (k) (N)):Nat):Int)) _ _ _ _ _ _ (cvi (σ:=B) oX (ef d0 rfl)) (eI d1) (eI d2) (eI d3) (cvi (σ:=B) oX (ef d4 rfl)) oX))) (gB 0 (gE ok5 fun a6 s6 ok6 D6=>?_));refine tn (wp_ret ?_)
  exact retL1 rfl ok6 (((F2.step0 D4.stp).step0 D5.stp).step0 D6.stp) (D6.m 11 rfl)
end Go.Proofs.Ytkjifbgofckfeaa
