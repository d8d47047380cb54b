/- The functions that the law MethodMade reaches, each by its contract. Part 7. -/
import Derived.Test.YtdjihbjikpbhgaaGreatDoorMethodMadeW6
namespace Go.Proofs.YtdjihbjikpbhgaaGreatDoor
open Go.KL

set_option maxHeartbeats 4000000 in
set_option maxRecDepth 100000 in
theorem genSplit_fn (s : ByteArray) (σ : GW)  (v0 v1 v2 v3 : Value) (hv0 : Ty.has (Ty.val (Value.string s)) σ v0) (hv1 : Ty.has (Ty.val (Value.string (ByteArray.mk #[124]))) σ v1) (hv2 : Ty.has (Ty.nat 0) σ v2) (hv3 : Ty.has (Ty.int (-1 : Int)) σ v3)  (hss : s.size ≤ 1099511627776) :
    FnC Tryz.prog 70 #[v0, v1, v2, v3] σ (Ty.lst Ty.str (cutT 124 s)) := by
 have hsp : (ByteArray.mk #[124]).size = 1 := rfl
 obtain ⟨L, hL⟩ : ∃ L, L = s.data.toList := ⟨_, rfl⟩
 have hLs : L.length = s.size := by rw [hL]; simp
 have hcl : List.count (124 : UInt8) L ≤ L.length := List.count_le_length
 obtain ⟨N, hN⟩ : ∃ N : Nat, N = List.count (124 : UInt8) L := ⟨_, rfl⟩
 refine fn_intro0 Tryz.func70 rfl Tryz.ntmps70 (Nat.le_of_ble_eq_true rfl) (fun s0 a0 hle F0 ok0 hargs => ?_)
 have p0 := pA hle (hargs 0 _ rfl) hv0
 have p1 := pA hle (hargs 1 _ rfl) hv1
 have p2 := pA hle (hargs 2 _ rfl) hv2
 have p3 := pA hle (hargs 3 _ rfl) hv3
 clear hargs; refine wp_seq ?_
 refine gI a0 s0 ok0 (gC (Ty.val (Value.slice none 0 0)) (gE ok0 fun a1 s1 ok1 D1 => ?_)); have q4 := D1.kt p3 rfl; refine tn (wp_seq (wp_seq ?_))
 refine gI a1 s1 ok1 (gM q4 (gT (Ty.bool false) rfl (fun G H I J O d0 => rP ((y_eql (ed d0 rfl rfl rfl) rfl).mono (fun τ _ h => cvb (σ := τ) (by decide) h))) (gE ok1 fun a2 s2 ok2 D2 => ?_))); have q6 := D2.kt (D1.kt p1 rfl) rfl; refine tn ?_
 refine cond_t (D2.dn 1 rfl rfl) (fun c1 => (by cases c1)) (fun _ => ?_)
 refine wp_skip (tn (wp_seq (wp_seq ?_)))
 refine gI a2 s2 ok2 (gM q6 (gT (Ty.bool (decide ((ByteArray.mk #[124]) = (ByteArray.mk #[])))) rfl (fun G H I J O d0 => rP (y_seql Tryz.underlying9 (ed d0 rfl rfl rfl) rfl)) (gE ok2 fun a3 s3 ok3 D3 => ?_))); refine tn ?_
 refine cond_p (p := ((ByteArray.mk #[124]) = (ByteArray.mk #[]))) (D3.dn 1 rfl rfl) (fun c2 => ?_) (fun c2 => ?_)
 ·
  exfalso
  cases c2
 ·
  refine wp_skip (tn (wp_seq (wp_seq ?_)))
  refine gI a3 s3 ok3 (gM (D3.kt (D2.kt q4 rfl) rfl) (gT (Ty.bool true) rfl (fun G H I J O d0 => rP ((y_lss (ed d0 rfl rfl rfl) rfl).mono (fun τ _ h => cvb (σ := τ) (by decide) h))) (gE ok3 fun a4 s4 ok4 D4 => ?_))); have q15 := D4.kt (D3.kt (D2.kt (D1.kt p0 rfl) rfl) rfl) rfl; have q16 := D4.kt (D3.kt q6 rfl) rfl; refine tn ?_
  refine cond_t (D4.dn 1 rfl rfl) (fun _ => ?_) (fun c3 => (by cases c3))
  refine gI a4 s4 ok4 (gM q15 (gM q16 (gT (Ty.nat N) rfl (fun G H I J O d0 d1 => rP ((y_call _ Tryz.func89 rfl rfl my2 (sCount_fn (s) _ _ _ (ed d0 rfl rfl rfl) (ed d1 rfl rfl rfl) )).mono (fun τ _ h => cvt (σ := τ) (T := (Ty.int ((List.count (124 : UInt8) ((ByteArray.data s).toList) : Nat) : Int))) (U := (Ty.nat N)) (by rw [hN, hL]) h))) (gT (Ty.nat (N + 1)) rfl (fun G H I J O d0 => rP ((y_add (ed d0 rfl rfl rfl) rfl (w64 (by omega) (by omega))).mono (fun τ _ h => cvi (σ := τ) (by first | omega | exact (Int.natCast_mul _ _).symm) h))) (gB 0 (gE ok4 fun a5 s5 ok5 D5 => ?_)))))); have q20 := D5.kt q15 rfl; refine tn (wp_seq ?_)
  refine gI a5 s5 ok5 (gM (D5.dn 4 rfl rfl) (gM q20 (gT (Ty.nat (ByteArray.size s)) rfl (fun G H I J O d0 => rP (y_len_str Tryz.underlying9 (ed d0 rfl rfl rfl))) (gT (Ty.nat ((ByteArray.size s) + 1)) rfl (fun G H I J O d0 => rP ((y_add (ed d0 rfl rfl rfl) rfl (w64 (by omega) (by omega))).mono (fun τ _ h => cvi (σ := τ) (by first | omega | exact (Int.natCast_mul _ _).symm) h))) (gT (Ty.int (min (((N + 1) : Nat) : Int) ((((ByteArray.size s) + 1) : Nat) : Int))) rfl (fun G H I J O d0 d1 => rP (y_min (ed d0 rfl rfl rfl) (ed d1 rfl rfl rfl))) (gB 0 (gE ok5 fun a6 s6 ok6 D6 => ?_)))))))
  have q28 : At (Ty.nat (N + 1)) s6 a6 (.tmp 3) := (cvi (by (omega)) (D6.dn 5 rfl rfl))
  refine tn (wp_seq ?_)
  refine gI a6 s6 ok6 (gM q28 (gR (Pr.own 61 9 1 (N + 1) (List.map Ty.str (List.replicate (N + 1) ByteArray.empty))) rfl (by intro G H I J O d0 d1; have e0 := ed d0 rfl rfl rfl; exact rP ((y_make (k := 61) (T := Ty.str ByteArray.empty) (n := (N + 1)) Tryz.underlying86 Tryz.inf9 rfl (fun _ => rfl) e0 e0 (by omega) (by omega)).mono (fun _ _ h => cvo (by simp) (by simp) h))) (gE2 ok6 fun a7 s7 ok7 D7 => ?_)))
  obtain ⟨x1, hx1⟩ : ∃ x, a7.eval (.tmp 31) = x := ⟨_, rfl⟩
  have q33 : At (Ty.val x1) s7 a7 (.tmp 31) := hx1
  have o1 := al2 (R := (Pr.own 61 9 1 (N + 1) (List.map Ty.str (List.replicate (N + 1) ByteArray.empty)))) hx1 (D7.done 1 (by decide))
  refine tL ok7 (Yld.toL (y_as q33)) fun a8 s8 hs1 ok8 r1 sm1 => ?_
  have F8 := (((((((F0.step0 D1.stp).step0 D2.stp).step0 D3.stp).step0 D4.stp).step0 D5.stp).step0 D6.stp).step0 D7.stp).stepL hs1 (by decide); have q34 := kpL hs1 (by decide) (sm1 0 (by decide)) (D7.kt (D6.kt q20 rfl) rfl); have q35 := kpL hs1 (by decide) (sm1 1 (by decide)) (D7.kt (D6.kt (D5.kt q16 rfl) rfl) rfl); have q36 := kpL hs1 (by decide) (sm1 2 (by decide)) (D7.kt (D6.kt (D5.kt (D4.kt (D3.kt (D2.kt (D1.kt p2 rfl) rfl) rfl) rfl) rfl) rfl) rfl); have q37 := kpL hs1 (by decide) (sm1 3 (by decide)) (D7.kt q28 rfl); have o2 := Own.keepL o1 hs1 (by decide) (by decide)
  have q38 : At (Ty.val x1) s8 a8 (.tmp 9) := r1
  clear r1; refine wpList_nil (tn (wp_seq ?_))
  refine gI a8 s8 ok8 (gM q37 (gT (Ty.int ((((N + 1) : Nat) : Int) - (1 : Int))) rfl (fun G H I J O d0 => rP (y_sub (ed d0 rfl rfl rfl) rfl (w64 (by omega) (by omega)))) (gB 0 (gE ok8 fun a9 s9 ok9 D8 => ?_)))); have o3 := Own.k0 o2 D8.stp
  have q44 : At (Ty.nat N) s9 a9 (.tmp 3) := (cvi (by (omega)) (D8.dn 2 rfl rfl))
  refine tn (wp_seq ?_)
  refine gI a9 s9 ok9 (gC (Ty.int (0 : Int)) (gE ok9 fun a10 s10 ok10 D9 => ?_)); have o4 := Own.k0 o3 D9.stp; refine tn (wp_seq (wp_block ?_))
  refine loop (fun n1 a11 w1 => ∃ (t1 : GW) (i : Nat) (l : List UInt8) (ys : List ByteArray) (x9_0 : Value), t1.w = w1 ∧ FromL [] s0 t1 ∧ Ok 66 [] a11 ∧ At (Ty.val (Value.string (bsL l))) t1 a11 (.tmp 0) ∧ At (Ty.nat i) t1 a11 (.tmp 10) ∧ At (Ty.val x9_0) t1 a11 (.tmp 9) ∧ At (Ty.val (Value.string (ByteArray.mk #[124]))) t1 a11 (.tmp 1) ∧ At (Ty.nat 0) t1 a11 (.tmp 2) ∧ At (Ty.nat N) t1 a11 (.tmp 3) ∧ Own t1 61 9 1 x9_0 (List.length ys) (List.map Ty.str ys) ∧ ((ys.take i) ++ (cutL 124 l).map bsL = cutT 124 s) ∧ (i + List.count (124 : UInt8) l = N) ∧ (ys.length = N + 1) ∧ (l.length ≤ s.size) ∧ n1 = N + 1 - i) (N + 1 - (0)) ?_ ?_
  ·
   exact ⟨s10, 0, L, (List.replicate (N + 1) ByteArray.empty), x1, rfl, ((F8.step0 D8.stp).step0 D9.stp), ok10, (cvt (by (rw [hL, bsL_data])) (D9.kt (D8.kt q34 rfl) rfl)), (cvi (by (rfl)) (D9.dn 0 rfl rfl)), (D9.kt (D8.kt q38 rfl) rfl), (D9.kt (D8.kt q35 rfl) rfl), (D9.kt (D8.kt q36 rfl) rfl), (D9.kt q44 rfl), (cvo (by (first | rfl | simp)) (by (first | rfl | simp)) o4), by rw [hL]; rfl, by omega, by simp, by omega, rfl⟩
  ·
   rintro n2 a12 w2 ⟨t2, i, l, ys, x9_0, rfl, F11, ok11, q51, q52, q53, q54, q55, q56, o5, hq, hi, hy, hll, rfl⟩
   have hbs := bsL_size l
   refine wp_seq (wp_seq ?_)
   refine gI a12 t2 ok11 (gM q52 (gM q56 (gS rfl (fun G H I J O d0 d1 => rP (y_lss (ed d0 rfl rfl rfl) (ed d1 rfl rfl rfl))) (gE ok11 fun a13 s11 ok12 D10 => ?_)))); have F12 := F11.step0 D10.stp; have q57 := D10.kt q51 rfl; have q58 := D10.kt q52 rfl; have q59 := D10.kt q53 rfl; have q60 := D10.kt q54 rfl; have o6 := Own.k0 o5 D10.stp; refine tn ?_
   refine cond_p (p := (((i : Nat) : Int) < ((N : Nat) : Int))) (D10.dn 2 rfl rfl) (fun c4 => ?_) (fun c4 => ?_)
   ·
    have hix := Lib.indexByte_ge l 124
    refine wp_skip (tn (wp_block (wp_seq ?_)))
    refine gI a13 s11 ok12 (gM q57 (gM q60 (gT (Ty.int (Lib.indexByte l 124)) rfl (fun G H I J O d0 d1 => rP ((y_call _ Tryz.func90 rfl rfl my2 (sIndex_fn ((bsL l)) _ _ _ (ed d0 rfl rfl rfl) (ed d1 rfl rfl rfl) )).mono (fun τ _ h => cvt (σ := τ) (T := (Ty.int (Lib.indexByte ((ByteArray.data ((bsL l))).toList) 124))) (U := (Ty.int (Lib.indexByte l 124))) (by rw [data_bsL]) h))) (gB 0 (gE ok12 fun a14 s12 ok13 D11 => ?_))))); have o7 := Own.k0 o6 D11.stp; have q70 := D11.dn 3 rfl rfl; refine tn (wp_seq (wp_seq ?_))
    refine gI a14 s12 ok13 (gM q70 (gS rfl (fun G H I J O d0 => rP (y_lss (ed d0 rfl rfl rfl) rfl)) (gE ok13 fun a15 s13 ok14 D12 => ?_))); have F14 := (F12.step0 D11.stp).step0 D12.stp; have q71 := D12.kt (D11.kt q57 rfl) rfl; have q72 := D12.kt (D11.kt q58 rfl) rfl; have q73 := D12.kt (D11.kt q59 rfl) rfl; have q75 := D12.kt (D11.kt (D10.kt q55 rfl) rfl) rfl; have o8 := Own.k0 o7 D12.stp; refine tn ?_
    refine cond_p (p := ((Lib.indexByte l 124) < (0 : Int))) (D12.dn 1 rfl rfl) (fun c5 => ?_) (fun c5 => ?_)
    ·
     have hc0 : List.count (124 : UInt8) l = 0 := ix_count.1 (by omega); have hsl : (ys.set i (bsL l)).length = ys.length := List.length_set
     refine wp_exit (tx ?_)
     refine bo (by decide) ?_
     refine tx (bx (tn (wp_seq ?_)))
     refine gI a15 s13 ok14 (gM q73 (gM q72 (gM q71 (gT (Ty.val (cellPtr x9_0 i)) rfl (fun G H I J O d0 d1 d2 d3 d4 => rP (own_index1 (i := ((i : Nat) : Int)) Tryz.underlying86 Tryz.inf9 (Own.k0 o8 I) (ed d0 rfl rfl rfl) (ed d1 rfl rfl rfl) (by omega) (by omega))) (gE2 ok14 fun a16 s14 ok15 D13 => ?_))))); have o9 := Own.k0 o8 D13.stp
     refine tailL0 (L := [61]) (R := (fun _ τ => Own τ 61 9 1 x9_0 (List.length ys) ((List.map Ty.str ys).set i (Ty.val (Value.string (bsL l)))))) rfl rfl (YldM.toL (m_store Tryz.inf9 (by decide) o9 (D13.dn 3 (by decide) rfl rfl) (by simp only [List.length_map, List.length_set]; omega) (D13.dn 2 (by decide) rfl rfl) (one_val rfl))) (fun v1 s15 hs2 r2 => ?_)
     have F16 := (F14.step0 D13.stp).stepL hs2 (by decide); have q83 := kpL hs2 (by decide) rfl (D13.kt q72 rfl); have q84 := kpL hs2 (by decide) rfl (D13.kt q73 rfl)
     have o10 : Own s15 61 9 1 x9_0 (List.length (ys.set i (bsL l))) (List.map Ty.str (ys.set i (bsL l))) := (cvo (by simp) (by simp) r2)
     clear r2; refine wpList_nil (tn (wp_seq ?_))
     refine gI a16 s15 ok15 (gM q84 (gM q83 (gT (Ty.nat (i + 1)) rfl (fun G H I J O d0 => rP ((y_add (ed d0 rfl rfl rfl) rfl (w64 (by omega) (by omega))).mono (fun τ _ h => cvi (σ := τ) (by first | omega | exact (Int.natCast_mul _ _).symm) h))) (gR (Pr.own 61 9 1 (List.length ((ys.set i (bsL l)).take (i + 1))) (List.map Ty.str ((ys.set i (bsL l)).take (i + 1)))) rfl (by intro G H I J O d0 d1; exact rP ((y_otake (h := (i + 1)) Tryz.underlying86 Tryz.inf9 (Own.k0 o10 I) (ed d0 rfl rfl rfl) (ed d1 rfl rfl rfl) (by omega)).mono (fun _ _ h => own_lst_take (by omega) h))) (gE2 ok15 fun a17 s16 ok16 D14 => ?_))))); have o11 := Own.k0 o10 D14.stp
     obtain ⟨x2, hx2⟩ : ∃ x, a17.eval (.tmp 65) = x := ⟨_, rfl⟩
     have q86 : At (Ty.val x2) s16 a17 (.tmp 65) := hx2
     have o12 := al2 (R := (Pr.own 61 9 1 (List.length ((ys.set i (bsL l)).take (i + 1))) (List.map Ty.str ((ys.set i (bsL l)).take (i + 1))))) hx2 (D14.done 3 (by decide))
     refine tL ok16 (Yld.toL (y_as q86)) fun a18 s17 hs3 ok17 r3 sm2 => ?_
     have F18 := (F16.step0 D14.stp).stepL hs3 (by decide); have o13 := Own.keepL o11 hs3 (by decide) (by decide); have o14 := Own.keepL o12 hs3 (by decide) (by decide)
     have q87 : At (Ty.val x2) s17 a18 (.tmp 8) := r3
     clear r3; refine wpList_nil (tn (wp_ret ?_))
     obtain ⟨t3, e1, h1, q88⟩ := Own.seal o14 (by decide)
     rw [← e1]
     have F19 := F18.step h1 (by decide)
     have q89 : At (Ty.lst Ty.str ((ys.set i (bsL l)).take (i + 1))) t3 a18 (.tmp 8) := by have e : a18.eval (.tmp 8) = x2 := q87; show Ty.has _ _ _; rw [e]; exact q88
     exact retL1 rfl ok17 F19 (cvt (by (rw [sp_end hq hc0 (by omega)])) q89)
    ·
     obtain ⟨m, hm⟩ : ∃ m : Nat, Lib.indexByte l 124 = m := ⟨(Lib.indexByte l 124).toNat, by omega⟩; obtain ⟨hca, hml⟩ := count_at hm
     have q90 : At (Ty.nat m) s13 a15 (.tmp 11) := cvt (T := (Ty.int (Lib.indexByte l 124))) (U := (Ty.nat m)) (by rw [hm]) (D12.kt q70 rfl)
     refine wp_skip (tn (wp_seq ?_))
     refine gI a15 s13 ok14 (gM q73 (gM q72 (gM q71 (gM q90 (gM q75 (gT (Ty.nat (m + 0)) rfl (fun G H I J O d0 d1 => rP ((y_add (ed d0 rfl rfl rfl) (ed d1 rfl rfl rfl) (w64 (by omega) (by omega))).mono (fun τ _ h => cvi (σ := τ) (by first | omega | exact (Int.natCast_mul _ _).symm) h))) (gT (Ty.val (Value.string (ByteArray.extract (bsL l) 0 (m + 0)))) rfl (fun G H I J O d0 d1 => rP (y_sto (h := (m + 0)) Tryz.underlying9 (ed d0 rfl rfl rfl) (ed d1 rfl rfl rfl) (by omega))) (gT (Ty.val (cellPtr x9_0 i)) rfl (fun G H I J O d0 d1 d2 d3 d4 d5 d6 d7 d8 => rP (own_index1 (i := ((i : Nat) : Int)) Tryz.underlying86 Tryz.inf9 (Own.k0 o8 I) (ed d0 rfl rfl rfl) (ed d1 rfl rfl rfl) (by omega) (by omega))) (gE2 ok14 fun a19 s18 ok18 D15 => ?_))))))))); have o15 := Own.k0 o8 D15.stp
     refine tailL0 (L := [61]) (R := (fun _ τ => Own τ 61 9 1 x9_0 (List.length ys) ((List.map Ty.str ys).set i (Ty.val (Value.string (ByteArray.extract (bsL l) 0 (m + 0))))))) rfl rfl (YldM.toL (m_store Tryz.inf9 (by decide) o15 (D15.dn 7 (by decide) rfl rfl) (by simp only [List.length_map, List.length_set]; omega) (D15.dn 6 (by decide) rfl rfl) (one_val rfl))) (fun v2 s19 hs4 r4 => ?_)
     have F21 := (F14.step0 D15.stp).stepL hs4 (by decide); have q100 := kpL hs4 (by decide) rfl (D15.kt q71 rfl); have q101 := kpL hs4 (by decide) rfl (D15.kt q72 rfl); have q102 := kpL hs4 (by decide) rfl (D15.kt q73 rfl); have q103 := kpL hs4 (by decide) rfl (D15.kt (D12.kt (D11.kt q60 rfl) rfl) rfl); have q104 := kpL hs4 (by decide) rfl (D15.kt q75 rfl); have q105 := kpL hs4 (by decide) rfl (D15.kt (D12.kt (D11.kt (D10.kt q56 rfl) rfl) rfl) rfl); have q106 := kpL hs4 (by decide) rfl (D15.kt q90 rfl)
     have o16 : Own s19 61 9 1 x9_0 (List.length (ys.set i (ByteArray.extract (bsL l) 0 (m + 0)))) (List.map Ty.str (ys.set i (ByteArray.extract (bsL l) 0 (m + 0)))) := (cvo (by simp) (by simp) r4)
     clear r4; refine wpList_nil (tn (wp_seq ?_))
     refine gI a19 s19 ok18 (gM q100 (gM q106 (gM q103 (gT (Ty.nat (ByteArray.size (ByteArray.mk #[124]))) rfl (fun G H I J O d0 => rP (y_len_str Tryz.underlying9 (ed d0 rfl rfl rfl))) (gT (Ty.nat (m + (ByteArray.size (ByteArray.mk #[124])))) rfl (fun G H I J O d0 d1 => rP ((y_add (ed d0 rfl rfl rfl) (ed d1 rfl rfl rfl) (w64 (by omega) (by omega))).mono (fun τ _ h => cvi (σ := τ) (by first | omega | exact (Int.natCast_mul _ _).symm) h))) (gT (Ty.val (Value.string (ByteArray.extract (bsL l) (m + (ByteArray.size (ByteArray.mk #[124]))) (ByteArray.size (bsL l))))) rfl (fun G H I J O d0 d1 => rP (y_sfrom (l := (m + (ByteArray.size (ByteArray.mk #[124])))) Tryz.underlying9 (ed d0 rfl rfl rfl) (ed d1 rfl rfl rfl) (by omega))) (gB 0 (gE ok18 fun a20 s20 ok19 D16 => ?_)))))))); have o17 := Own.k0 o16 D16.stp; refine tn ?_
     refine gI a20 s20 ok19 (gM (D16.kt q101 rfl) (gT (Ty.nat (i + 1)) rfl (fun G H I J O d0 => rP ((y_add (ed d0 rfl rfl rfl) rfl (w64 (by omega) (by omega))).mono (fun τ _ h => cvi (σ := τ) (by first | omega | exact (Int.natCast_mul _ _).symm) h))) (gB 0 (gE ok19 fun a21 s21 ok20 D17 => ?_)))); have o18 := Own.k0 o17 D17.stp; refine bn ?_
     exact tn ⟨N + 1 - ((i + 1)), by omega, s21, (i + 1), (l.drop (m + 1)), (ys.set i (ByteArray.extract (bsL l) 0 (m + 0))), x9_0, rfl, ((F21.step0 D16.stp).step0 D17.stp), ok20, (cvt (by (rw [ext_tail (by rw [hsp])])) (D17.kt (D16.dn 6 rfl rfl) rfl)), (cvi (by (first | rfl | omega | (simp_all; done) | (simp_all; omega))) (D17.dn 2 rfl rfl)), (D17.kt (D16.kt q102 rfl) rfl), (D17.kt (D16.kt q103 rfl) rfl), (D17.kt (D16.kt q104 rfl) rfl), (D17.kt (D16.kt q105 rfl) rfl), (cvo (by (simp)) (by (simp)) o18), sp_go hq hm (by omega) (ext_head rfl), by omega, by rw [List.length_set]; exact hy, by rw [List.length_drop]; omega, rfl⟩
   ·
    have hc0 : List.count (124 : UInt8) l = 0 := (by omega); have hsl : (ys.set i (bsL l)).length = ys.length := List.length_set
    refine wp_exit (tx (tx (bx (tn (wp_seq ?_)))))
    refine gI a13 s11 ok12 (gM q59 (gM q58 (gM q57 (gT (Ty.val (cellPtr x9_0 i)) rfl (fun G H I J O d0 d1 d2 d3 d4 => rP (own_index1 (i := ((i : Nat) : Int)) Tryz.underlying86 Tryz.inf9 (Own.k0 o6 I) (ed d0 rfl rfl rfl) (ed d1 rfl rfl rfl) (by omega) (by omega))) (gE2 ok12 fun a22 s22 ok21 D18 => ?_))))); have o19 := Own.k0 o6 D18.stp
    refine tailL0 (L := [61]) (R := (fun _ τ => Own τ 61 9 1 x9_0 (List.length ys) ((List.map Ty.str ys).set i (Ty.val (Value.string (bsL l)))))) rfl rfl (YldM.toL (m_store Tryz.inf9 (by decide) o19 (D18.dn 3 (by decide) rfl rfl) (by simp only [List.length_map, List.length_set]; omega) (D18.dn 2 (by decide) rfl rfl) (one_val rfl))) (fun v3 s23 hs5 r5 => ?_)
    have F25 := (F12.step0 D18.stp).stepL hs5 (by decide); have q124 := kpL hs5 (by decide) rfl (D18.kt q58 rfl); have q125 := kpL hs5 (by decide) rfl (D18.kt q59 rfl)
    have o20 : Own s23 61 9 1 x9_0 (List.length (ys.set i (bsL l))) (List.map Ty.str (ys.set i (bsL l))) := (cvo (by simp) (by simp) r5)
    clear r5; refine wpList_nil (tn (wp_seq ?_))
    refine gI a22 s23 ok21 (gM q125 (gM q124 (gT (Ty.nat (i + 1)) rfl (fun G H I J O d0 => rP ((y_add (ed d0 rfl rfl rfl) rfl (w64 (by omega) (by omega))).mono (fun τ _ h => cvi (σ := τ) (by first | omega | exact (Int.natCast_mul _ _).symm) h))) (gR (Pr.own 61 9 1 (List.length ((ys.set i (bsL l)).take (i + 1))) (List.map Ty.str ((ys.set i (bsL l)).take (i + 1)))) rfl (by intro G H I J O d0 d1; exact rP ((y_otake (h := (i + 1)) Tryz.underlying86 Tryz.inf9 (Own.k0 o20 I) (ed d0 rfl rfl rfl) (ed d1 rfl rfl rfl) (by omega)).mono (fun _ _ h => own_lst_take (by omega) h))) (gE2 ok21 fun a23 s24 ok22 D19 => ?_))))); have o21 := Own.k0 o20 D19.stp
    obtain ⟨x3, hx3⟩ : ∃ x, a23.eval (.tmp 65) = x := ⟨_, rfl⟩
    have q127 : At (Ty.val x3) s24 a23 (.tmp 65) := hx3
    have o22 := al2 (R := (Pr.own 61 9 1 (List.length ((ys.set i (bsL l)).take (i + 1))) (List.map Ty.str ((ys.set i (bsL l)).take (i + 1))))) hx3 (D19.done 3 (by decide))
    refine tL ok22 (Yld.toL (y_as q127)) fun a24 s25 hs6 ok23 r6 sm3 => ?_
    have F27 := (F25.step0 D19.stp).stepL hs6 (by decide); have o23 := Own.keepL o21 hs6 (by decide) (by decide); have o24 := Own.keepL o22 hs6 (by decide) (by decide)
    have q128 : At (Ty.val x3) s25 a24 (.tmp 8) := r6
    clear r6; refine wpList_nil (tn (wp_ret ?_))
    obtain ⟨t4, e2, h2, q129⟩ := Own.seal o24 (by decide)
    rw [← e2]
    have F28 := F27.step h2 (by decide)
    have q130 : At (Ty.lst Ty.str ((ys.set i (bsL l)).take (i + 1))) t4 a24 (.tmp 8) := by have e : a24.eval (.tmp 8) = x3 := q128; show Ty.has _ _ _; rw [e]; exact q129
    exact retL1 rfl ok23 F28 (cvt (by (rw [sp_end hq hc0 (by omega)])) q130)


set_option maxHeartbeats 4000000 in
set_option maxRecDepth 100000 in
theorem split_fn (s : ByteArray) (σ : GW)  (v0 v1 : Value) (hv0 : Ty.has (Ty.val (Value.string s)) σ v0) (hv1 : Ty.has (Ty.val (Value.string (ByteArray.mk #[124]))) σ v1)  (hss : s.size ≤ 1099511627776) :
    FnC Tryz.prog 60 #[v0, v1] σ (Ty.lst Ty.str (cutT 124 s)) := by
 refine fn_intro0 Tryz.func60 rfl Tryz.ntmps60 (Nat.le_of_ble_eq_true rfl) (fun s0 a0 hle F0 ok0 hargs => ?_)
 have p0 := pA hle (hargs 0 _ rfl) hv0
 have p1 := pA hle (hargs 1 _ rfl) hv1
 clear hargs; refine wp_seq ?_
 refine gI a0 s0 ok0 (gC (Ty.val (Value.slice none 0 0)) (gE ok0 fun a1 s1 ok1 D1 => ?_)); refine tn (wp_seq ?_)
 refine gI a1 s1 ok1 (gM (D1.kt p0 rfl) (gM (D1.kt p1 rfl) (gS rfl (fun G H I J O d0 d1 => rP (y_call #[G.eval (.tmp 5), G.eval (.tmp 6), G.eval ((Operand.const (Value.int IntKind.i64 0))), G.eval ((Operand.const (Value.int IntKind.i64 (-1))))] Tryz.func70 rfl rfl my4 (genSplit_fn (s) _ _ _ _ _ (ed d0 rfl rfl rfl) (ed d1 rfl rfl rfl) (cvi (σ := H) (by omega) rfl) rfl (by omega)))) (gB 0 (gE ok1 fun a2 s2 ok2 D2 => ?_))))); refine tn (wp_ret ?_)
 exact retL1 rfl ok2 ((F0.step0 D1.stp).step0 D2.stp) (D2.dn 3 rfl rfl)


theorem trim_fn (s : ByteArray) (σ : GW) (v0 v1 : Value) (hv0 : Ty.has (Ty.val (Value.string s)) σ v0) (hv1 : Ty.has (Ty.val (Value.string (ByteArray.mk #[48, 49, 50, 51, 52, 53, 54, 55, 56, 57]))) σ v1) (I : s.size ≤ 1099511627776) : FnC Tryz.prog 61 #[v0, v1] σ (Ty.val (Value.string (bsL (Lib.trimS (ByteArray.data s).toList (ByteArray.data (ByteArray.mk #[48, 49, 50, 51, 52, 53, 54, 55, 56, 57])).toList)))) := by
  obtain rfl : v0 = _ := hv0
  obtain rfl : v1 = _ := hv1
  exact fnc_below (Go.Proofs.Any.strings_Trim_laid trimL (by kernel_rfl) s (ByteArray.mk #[48, 49, 50, 51, 52, 53, 54, 55, 56, 57]) σ.w (by omega) (by decide) (Go.Proofs.ascii_of_all (by decide))) (fun τ => rfl)


def errG : Nat := atoiL_ren.g 16
theorem atoi_fn (s : ByteArray) (σ : GW) (hlow : Low [] σ) (v0 : Value) (hv0 : Ty.has (Ty.val (Value.string s)) σ v0) (hd : ∀ b ∈ s.data.toList, isDig b) (hne : s.data.toList ≠ []) (I : s.size ≤ 1099511627776) (hg : Glb errG σ) : FnL Tryz.prog 62 #[v0] σ [] (fun v τ => ∃ (n : Int), ∃ (ev : Value), (Ty.has (Ty.tup2 (Ty.int n) (Ty.val ev)) τ v) ∧ (AtR s n ev)) := by
  obtain rfl : v0 = _ := hv0
  exact atr_of hd hne hg (fun v h => Go.Proofs.Any.strconv_Atoi_ok atoiL s (by omega) v h σ.w) (fun v h => (Lib.atoiAll_bounds h).2) (fun h ev hv hev => (Go.Proofs.Any.strconv_Atoi_range atoiL s (by omega) h ev σ.w hv hev).mono (fun e w' ⟨N, h1, _, _, h4⟩ => ⟨_, N, h1, h4⟩))

theorem Tryz.inf26 : Info Tryz.prog 26 (.int .i64 0) 1 8 := by unfold Info; kernel_rfl
section
set_option maxHeartbeats 4000000
open Go.RowKit
theorem ta_nil (w : World) : (Instr.typeAssert Value.nilIface 20 103 true).run Tryz.prog w = .ok (.tuple #[.int .i64 0, .bool false]) w := by kernel_rfl
theorem ta_flt (e : Int) (w : World) : (Instr.typeAssert (Value.iface 103 (.int .i64 e)) 20 103 true).run Tryz.prog w = .ok (.tuple #[.int .i64 e, .bool true]) w := by kernel_rfl
theorem catch_run (p q : Value) (w : World) : (invoke (.fn (.func 80) #[p, q]) #[]).run Tryz.prog w = .ok (.enter 80 #[p, q]) w := by kernel_rfl
theorem catch_idle (p q : Addr) (w : World) : CallsD Tryz.prog 80 #[.pointer (some p), .pointer (some q)] .returning w fun e u' w' => e = .returned (.tuple #[]) ∧ u' = .returning ∧ w' = w := by
  refine callsD_of_wpS Tryz.func80 rfl fun c₀ cs hu => ?_
  apply wpS_seq
  apply wpS_region
  simp [wpOpsS, go_sem, recoverD, hu, Tryz.ntmps80, Exit.thenS, ta_nil]
  apply wpS_seq
  apply wpS_region
  simp [wpOpsS, go_sem, Exit.thenS]
  refine wpS_cond (t := false) (by simp [Act.eval, Array.replicate]) ?_
  simp
  refine wpS_of_wp (wp_skip ?_)
  cases c₀
  simp_all [bodyPostS, results, Tryz.results80, Exit.thenS]
theorem catch_hit (p q : Value) (k l : Nat) (U1 U2 : Ty) (e : Int) (σ : GW) (hk : 2 ≤ k) (hl : 2 ≤ l) (hkl : k ≠ l) (h1 : OwnP σ k p [U1]) (h2 : OwnP σ l q [U2]) :
    CallsD Tryz.prog 80 #[p, q] (.panicking (fltC 103 e)) σ.w fun x u' w' => x = .returned (.tuple #[]) ∧ u' = .panicking [{ v := .iface 103 (.int .i64 e), recovered := true }] ∧ ∃ τ : GW, τ.w = w' ∧ StpL [k, l] σ τ ∧ OwnP τ k p [Ty.val (.slice none 0 0)] ∧ OwnP τ l q [Ty.int e] := by
  refine callsD_of_wpS Tryz.func80 rfl fun c₀ cs hu => ?_
  obtain ⟨cs', hcs⟩ : ∃ cs', cs' = { c₀ with mode := .panicking [{ v := .iface 103 (.int .i64 e), recovered := true }] } :: cs := ⟨_, rfl⟩
  have hrec : recoverD (c₀ :: cs) = some (.iface 103 (.int .i64 e), cs') := by
    rw [hcs]; simp only [recoverD, hu, fltC]
  generalize hQ : bodyPostS Tryz.prog Tryz.f80 c₀ cs _ = Q0
  apply wpS_seq
  apply wpS_region
  simp [wpOpsS, go_sem, hrec, Tryz.ntmps80, Exit.thenS, ta_flt]
  generalize hA : Act.mk _ _ = A
  have e0 : A.eval (.tmp 0) = p := by rw [← hA]; simp [Act.eval, Array.replicate]
  have e1 : A.eval (.tmp 1) = q := by rw [← hA]; simp [Act.eval, Array.replicate]
  have e2 : A.eval (.tmp 2) = .int .i64 e := by rw [← hA]; simp [Act.eval, Array.replicate]
  have e3 : A.eval (.tmp 3) = .bool true := by rw [← hA]; simp [Act.eval, Array.replicate]
  have okA : Ok 11 [] A := ⟨by rw [← hA]; simp [Array.replicate], by rw [← hA]⟩
  clear hA
  apply wpS_seq
  apply wpS_region
  show wpOpsS _ _ _ [0] _ _ _
  refine wpS_op rfl rfl (y_move (R := (Ty.bool true).pr) (σ := σ) e3 _ _ fun v0 s0 hs0 r0 => ?_)
  obtain rfl : v0 = .bool true := r0
  have okB := okA.put (some 9) (.bool true)
  have f9 := eval_put_same okA (d := 9) (by decide) (.bool true)
  have f0 := (eval_put_ne (a := A) (d := some 9) (t := 0) (by decide) (.bool true)).trans e0
  have f1 := (eval_put_ne (a := A) (d := some 9) (t := 1) (by decide) (.bool true)).trans e1
  have f2 := (eval_put_ne (a := A) (d := some 9) (t := 2) (by decide) (.bool true)).trans e2
  generalize A.put (some 9) (.bool true) = B at okB f9 f0 f1 f2 ⊢
  show Code.wpS _ _ _ _ _ _
  refine wpS_cond (t := true) f9 ?_
  rw [if_pos rfl]
  apply wpS_region
  show wpOpsS _ _ _ [0, 1, 2] _ _ _
  refine wpS_op rfl rfl (y_move (R := (Ty.int e).pr) (σ := s0) f2 _ _ fun v1 s1 hs1 r1 => ?_)
  obtain rfl : v1 = .int .i64 e := r1
  have okC := okB.put (some 10) (.int .i64 e)
  have g10 := eval_put_same okB (d := 10) (by decide) (.int .i64 e)
  have g0 := (eval_put_ne (a := B) (d := some 10) (t := 0) (by decide) (.int .i64 e)).trans f0
  have g1 := (eval_put_ne (a := B) (d := some 10) (t := 1) (by decide) (.int .i64 e)).trans f1
  generalize B.put (some 10) (.int .i64 e) = C at okC g10 g0 g1 ⊢
  have o1 := (h1.k0 hs0).k0 hs1; have o2 := (h2.k0 hs0).k0 hs1
  refine wpS_op rfl rfl (m_storep (k := k) (v := p) (T := Ty.val (.slice none 0 0)) Tryz.inf22 hk o1 (ptr0 o1 g0) Nat.one_pos (by exact rfl) (one_val rfl) _ _ fun v2 s2 hs2 o3 => ?_)
  have o4 := o2.keep hs2 (by omega) (.inr (fun e_ => hkl e_.symm))
  refine wpS_op rfl rfl (m_storep (k := l) (v := q) (T := Ty.int e) Tryz.inf26 hl o4 (ptr0 o4 g1) Nat.one_pos g10 (one_val rfl) _ _ fun v3 s3 hs3 o5 => ?_)
  have o6 := o3.keep hs3 (by omega) (.inr hkl)
  subst hQ
  refine ⟨okC.defers, _, hcs, .tuple #[], by simp [results, Tryz.results80], rfl, rfl, s3, rfl, ?_, o6, o5⟩
  exact (hs0.toL0.trans hs1.toL0).trans ((hs2.toL (by simp)).trans (hs3.toL (by simp)))
theorem catch_fn : Catch Tryz.prog 80 103 := ⟨catch_run, catch_idle, catch_hit⟩
end


set_option maxHeartbeats 4000000 in
set_option maxRecDepth 100000 in
theorem isNaN_fn (x : Int) (σ : GW)  (v0 : Value) (hv0 : Ty.has (Ty.int x) σ v0)   :
    FnC Tryz.prog 137 #[v0] σ (Ty.bool false) := by
 refine fn_intro0 Tryz.func137 rfl Tryz.ntmps137 (Nat.le_of_ble_eq_true rfl) (fun s0 a0 hle F0 ok0 hargs => ?_)
 have p0 := pA hle (hargs 0 _ rfl) hv0
 clear hargs; refine wp_seq ?_
 refine gI a0 s0 ok0 (gC (Ty.bool false) (gE ok0 fun a1 s1 ok1 D1 => ?_)); have q1 := D1.kt p0 rfl; refine tn (wp_seq ?_)
 refine gI a1 s1 ok1 (gM q1 (gM q1 (gS rfl (fun G H I J O d0 d1 => rP (y_neq (ed d0 rfl rfl rfl) (ed d1 rfl rfl rfl))) (gB 0 (gE ok1 fun a2 s2 ok2 D2 => ?_))))); refine tn (wp_ret ?_)
 exact retL1 rfl ok2 ((F0.step0 D1.stp).step0 D2.stp) (cvb (by (simp)) (D2.dn 3 rfl rfl))


set_option maxHeartbeats 4000000 in
set_option maxRecDepth 100000 in
theorem lessInt_fn (x : Int) (y : Int) (σ : GW)  (v0 v1 : Value) (hv0 : Ty.has (Ty.int x) σ v0) (hv1 : Ty.has (Ty.int y) σ v1)   :
    FnC Tryz.prog 132 #[v0, v1] σ (Ty.bool (decide (x < y))) := by
 refine fn_intro0 Tryz.func132 rfl Tryz.ntmps132 (Nat.le_of_ble_eq_true rfl) (fun s0 a0 hle F0 ok0 hargs => ?_)
 have p0 := pA hle (hargs 0 _ rfl) hv0
 have p1 := pA hle (hargs 1 _ rfl) hv1
 clear hargs; refine wp_seq ?_
 refine gI a0 s0 ok0 (gC (Ty.bool false) (gE ok0 fun a1 s1 ok1 D1 => ?_)); have q1 := D1.kt p0 rfl; have q2 := D1.kt p1 rfl; refine tn (wp_seq ?_)
 refine gI a1 s1 ok1 (gM q1 (gS rfl (fun G H I J O d0 => rP (y_call _ Tryz.func137 rfl rfl my1 (isNaN_fn (x) _ _ (ed d0 rfl rfl rfl) ))) (gS rfl (fun G H I J O d0 d1 => rP (y_move (ed d0 rfl rfl rfl))) (gS rfl (fun G H I J O d0 => gu J (ed d0 rfl rfl rfl) fun hg => y_move (kp (O 1 rfl) I q2)) (gS rfl (fun G H I J O d0 d1 d2 => gu J (ed d1 rfl rfl rfl) fun hg => y_call _ Tryz.func137 rfl rfl my1 (isNaN_fn (y) _ _ (cvi (σ := H) (by omega) ((ed d0 rfl rfl rfl).1 hg)) )) (gS rfl (fun G H I J O d0 d1 => gu J (ed d1 rfl rfl rfl) fun hg => y_not ((ed d0 rfl rfl rfl).1 hg)) (gT (Ty.bool false) rfl (fun G H I J O d0 d1 => rP (y_pickF (ed d0 rfl rfl rfl) rfl)) (gS rfl (fun G H I J O d0 d1 => rP (y_move (ed d0 rfl rfl rfl))) (gS rfl (fun G H I J O d0 => gu J (ed d0 rfl rfl rfl) fun hg => y_move (kp (O 0 rfl) I q1)) (gS rfl (fun G H I J O d0 => gu J (ed d0 rfl rfl rfl) fun hg => y_move (kp (O 1 rfl) I q2)) (gS rfl (fun G H I J O d0 d1 d2 => gu J (ed d2 rfl rfl rfl) fun hg => y_lss ((ed d0 rfl rfl rfl).1 hg) ((ed d1 rfl rfl rfl).1 hg)) (gS rfl (fun G H I J O d0 d1 => rP (y_pick_or (ed d0 rfl rfl rfl) rfl (ed d1 rfl rfl rfl))) (gB 0 (gE ok1 fun a2 s2 ok2 D2 => ?_)))))))))))))); refine tn (wp_ret ?_)
 exact retL1 rfl ok2 ((F0.step0 D1.stp).step0 D2.stp) (cvb (by (simp)) (D2.dn 12 rfl rfl))


set_option maxHeartbeats 4000000 in
set_option maxRecDepth 100000 in
theorem isSortedO_fn (x : Value) (xs : List Int) (σ : GW) (hlow : Low [40] σ) (v0 : Value) (hv0 : Ty.has (Ty.val x) σ v0) (ho_x : Own σ 40 3 1 x (List.length xs) (List.map Ty.int xs)) (hx : 1 ≤ xs.length) (hx2 : xs.length ≤ 1000000) :
    FnL Tryz.prog 119 #[v0] σ [40] (fun v τ => (Ty.has (Ty.bool (sortB xs)) τ v) ∧ (Own τ 40 3 1 x (List.length xs) (List.map Ty.int xs))) := by
 refine fn_introL hlow Tryz.func119 rfl Tryz.ntmps119 (Nat.le_of_ble_eq_true rfl) (fun a0 F0 ok0 hargs => ?_)
 have p0 := pB (hargs 0 _ rfl) hv0
 clear hargs; refine wp_seq ?_
 refine gI a0 σ ok0 (gC (Ty.bool false) (gE ok0 fun a1 s1 ok1 D1 => ?_)); have q1 := D1.kt p0 rfl; have o1 := Own.k0 ho_x D1.stp; refine tn (wp_seq (wp_seq ?_))
 refine gI a1 s1 ok1 (gM q1 (gT (Ty.nat (List.length xs)) rfl (fun G H I J O d0 => rP (own_len Tryz.underlying30 (al (R := (Pr.own 40 3 1 (List.length xs) (List.map Ty.int xs))) (ed d0 rfl rfl rfl) (Own.k0 o1 I)))) (gT (Ty.nat ((List.length xs) - 1)) rfl (fun G H I J O d0 => rP ((y_sub (ed d0 rfl rfl rfl) rfl (w64 (by omega) (by omega))).mono (fun τ _ h => cvi (σ := τ) (by omega) h))) (gB 0 (gE ok1 fun a2 s2 ok2 D2 => ?_))))); have o2 := Own.k0 o1 D2.stp; refine tn (wp_block ?_)
 refine loop (fun n1 a3 w1 => ∃ (t1 : GW) (i : Nat), t1.w = w1 ∧ FromL [40] σ t1 ∧ Ok 21 [] a3 ∧ At (Ty.nat i) t1 a3 (.tmp 3) ∧ At (Ty.val x) t1 a3 (.tmp 0) ∧ Own t1 40 3 1 x (List.length xs) (List.map Ty.int xs) ∧ (i + 1 ≤ xs.length) ∧ (∀ k, i ≤ k → k + 1 < xs.length → xs.getD k 0 ≤ xs.getD (k + 1) 0) ∧ n1 = i + 1) (((xs.length - 1)) + 1) ?_ ?_
 ·
  exact ⟨s2, (xs.length - 1), rfl, ((F0.step0 D1.stp).step0 D2.stp), ok2, (cvi (by (first | rfl | omega | (simp_all; done) | (simp_all; omega))) (D2.dn 3 rfl rfl)), (D2.kt q1 rfl), o2, by omega, fun k h1 h2 => by omega, rfl⟩
 ·
  rintro n2 a4 w2 ⟨t2, i, rfl, F3, ok3, q4, q5, o3, hi, I, rfl⟩
  refine wp_seq (wp_seq ?_)
  refine gI a4 t2 ok3 (gM q4 (gS rfl (fun G H I J O d0 => rP (y_gtr (ed d0 rfl rfl rfl) rfl)) (gE ok3 fun a5 s3 ok4 D3 => ?_))); have F4 := F3.step0 D3.stp; have q6 := D3.kt q4 rfl; have q7 := D3.kt q5 rfl; have o4 := Own.k0 o3 D3.stp; refine tn ?_
  refine cond_p (p := ((0 : Int) < ((i : Nat) : Int))) (D3.dn 1 rfl rfl) (fun c1 => ?_) (fun c1 => ?_)
  ·
   refine wp_skip (tn (wp_seq (wp_block (wp_seq ?_))))
   refine gI a5 s3 ok4 (gM q7 (gM q6 (gT (Ty.val (cellPtr x i)) rfl (fun G H I J O d0 d1 => rP (own_index1 (i := ((i : Nat) : Int)) Tryz.underlying30 Tryz.inf3 (Own.k0 o4 I) (ed d0 rfl rfl rfl) (ed d1 rfl rfl rfl) (by omega) (by omega))) (gS rfl (fun G H I J O d0 => rP (own_load Tryz.underlying3 rfl (Own.k0 o4 I) (ed d0 rfl rfl rfl) (lst_get Ty.int xs 0 i (by omega)))) (gM q7 (gM q6 (gT (Ty.nat (i - 1)) rfl (fun G H I J O d0 => rP ((y_sub (ed d0 rfl rfl rfl) rfl (w64 (by omega) (by omega))).mono (fun τ _ h => cvi (σ := τ) (by omega) h))) (gT (Ty.val (cellPtr x (i - 1))) rfl (fun G H I J O d0 d1 => rP (own_index1 (i := (((i - 1) : Nat) : Int)) Tryz.underlying30 Tryz.inf3 (Own.k0 o4 I) (ed d0 rfl rfl rfl) (ed d1 rfl rfl rfl) (by omega) (by omega))) (gS rfl (fun G H I J O d0 => rP (own_load Tryz.underlying3 rfl (Own.k0 o4 I) (ed d0 rfl rfl rfl) (lst_get Ty.int xs 0 (i - 1) (by omega)))) (gS rfl (fun G H I J O d0 d1 => rP (y_call _ Tryz.func132 rfl rfl my2 (lessInt_fn ((xs.getD i 0)) ((xs.getD (i - 1) 0)) _ _ _ (cvi (σ := H) (by omega) (ed d0 rfl rfl rfl)) (cvi (σ := H) (by omega) (ed d1 rfl rfl rfl)) ))) (gE ok4 fun a6 s4 ok5 D4 => ?_))))))))))); have F5 := F4.step0 D4.stp; have o5 := Own.k0 o4 D4.stp; refine tn ?_
   refine cond_t (D4.dn 9 rfl rfl) (fun c2 => ?_) (fun c2 => ?_)
   ·
    have c2_ := of_decide_eq_true c2
    refine wp_seq ?_
    refine gI a6 s4 ok5 (gC (Ty.bool false) (gE ok5 fun a7 s5 ok6 D5 => ?_)); have o6 := Own.k0 o5 D5.stp; refine tn (wp_ret (br (tr (tr (br (tr ?_))))))
    exact retL1 rfl ok6 (F5.step0 D5.stp) ⟨(cvb (by (exact (sortB_no (k := i - 1) (by omega) (by rw [show i - 1 + 1 = i by omega]; omega)).symm)) (D5.dn 0 rfl rfl)), o6⟩
   ·
    have c2_ := of_decide_eq_false c2
    refine wp_skip (bn (tn ?_))
    refine gI a6 s4 ok5 (gM (D4.kt q6 rfl) (gT (Ty.nat (i - 1)) rfl (fun G H I J O d0 => rP ((y_sub (ed d0 rfl rfl rfl) rfl (w64 (by omega) (by omega))).mono (fun τ _ h => cvi (σ := τ) (by omega) h))) (gB 0 (gE ok5 fun a8 s6 ok7 D6 => ?_)))); have o7 := Own.k0 o5 D6.stp
    exact tn ⟨((i - 1)) + 1, by omega, s6, (i - 1), rfl, (F5.step0 D6.stp), ok7, (cvi (by (first | rfl | omega | (simp_all; done) | (simp_all; omega))) (D6.dn 2 rfl rfl)), (D6.kt (D4.kt q7 rfl) rfl), o7, by omega, fun k h1 h2 => by (by_cases e : k = i - 1; (subst e; rw [show i - 1 + 1 = i by omega]; omega); exact I k (by omega) h2), rfl⟩
  ·
   refine wp_exit (tx (tx (bx (tn (wp_seq ?_)))))
   refine gI a5 s3 ok4 (gC (Ty.bool true) (gE ok4 fun a9 s7 ok8 D7 => ?_)); have o8 := Own.k0 o4 D7.stp; refine tn (wp_ret ?_)
   exact retL1 rfl ok8 (F4.step0 D7.stp) ⟨(cvb (by (exact ((sortB_iff xs).2 fun k h2 => I k (by omega) h2).symm)) (D7.dn 0 rfl rfl)), o8⟩


set_option maxHeartbeats 4000000 in
set_option maxRecDepth 100000 in
theorem cloneO_fn (x : Value) (xs : List Int) (σ : GW) (hlow : Low [40] σ) (v0 : Value) (hv0 : Ty.has (Ty.val x) σ v0) (ho_x : Own σ 40 3 1 x (List.length xs) (List.map Ty.int xs)) (hx1 : 1 ≤ xs.length) (hx2 : xs.length ≤ 1000000) :
    FnL Tryz.prog 104 #[v0] σ [40] (fun v τ => ∃ (z : Value), (Ty.has (Ty.val z) τ v) ∧ (Own τ 40 3 1 x (List.length xs) (List.map Ty.int xs)) ∧ (Own τ 41 3 1 z (List.length xs) (List.map Ty.int xs))) := by
 refine fn_introL hlow Tryz.func104 rfl Tryz.ntmps104 (Nat.le_of_ble_eq_true rfl) (fun a0 F0 ok0 hargs => ?_)
 have p0 := pB (hargs 0 _ rfl) hv0
 clear hargs; refine wp_seq ?_
 refine gI a0 σ ok0 (gC (Ty.val (Value.slice none 0 0)) (gE ok0 fun a1 s1 ok1 D1 => ?_)); have q1 := D1.kt p0 rfl; have o1 := Own.k0 ho_x D1.stp; refine tn (wp_seq (wp_seq ?_))
 refine gI a1 s1 ok1 (gM q1 (gT (Ty.bool false) rfl (fun G H I J O d0 => rP (y_ownnil Tryz.underlying30 (Own.k0 o1 I) (by omega) (ed d0 rfl rfl rfl) rfl)) (gE ok1 fun a2 s2 ok2 D2 => ?_))); have o2 := Own.k0 o1 D2.stp; refine tn ?_
 refine cond_t (D2.dn 1 rfl rfl) (fun c1 => (by cases c1)) (fun _ => ?_)
 refine wp_skip (tn (wp_seq ?_))
 refine gI a2 s2 ok2 (gR (Pr.own 41 3 1 0 (List.map Ty.int ([] : List Int))) rfl (by intro G H I J O; exact rP ((y_lit0 (k := 41) Tryz.underlying30 Tryz.inf3).mono (fun _ _ h => cvo (by simp) (by simp) h))) (gM (D2.kt q1 rfl) (gE2 ok2 fun a3 s3 ok3 D3 => ?_))); have o3 := Own.k0 o2 D3.stp
 obtain ⟨x1, hx1⟩ : ∃ x, a3.eval (.tmp 5) = x := ⟨_, rfl⟩
 have q4 : At (Ty.val x1) s3 a3 (.tmp 5) := hx1
 have o4 := al2 (R := (Pr.own 41 3 1 0 (List.map Ty.int ([] : List Int)))) hx1 (D3.done 0 (by decide))
 have q5 : At (Ty.val x) s3 a3 (.tmp 6) := D3.done 1 (by decide)
 refine tL (R := (fun v τ => Own τ 41 3 1 v (0 + (List.length xs)) ((List.map Ty.int ([] : List Int)) ++ (List.map Ty.int xs)))) ok3 (YldM.toL (m_appendo Tryz.underlying30 Tryz.inf3 (by decide) rfl (by decide) (al (R := (Pr.own 41 3 1 0 (List.map Ty.int ([] : List Int)))) q4 o4) (al (R := (Pr.own 40 3 1 (List.length xs) (List.map Ty.int xs))) q5 o3) (one_map (fun _ => one_val rfl)) (by omega) (by omega))) fun a4 s4 hs1 ok4 r1 sm1 => ?_
 have F4 := (((F0.step0 D1.stp).step0 D2.stp).step0 D3.stp).stepL hs1 (by decide); have o6 := Own.keepL o3 hs1 (by decide) (by decide)
 obtain ⟨x2, hx2⟩ : ∃ x, a4.eval (.tmp 7) = x := ⟨_, rfl⟩
 have q6 : At (Ty.val x2) s4 a4 (.tmp 7) := hx2
 have o5 := al2 (R := (Pr.own 41 3 1 (List.length xs) (List.map Ty.int xs))) hx2 (cvo (by simp) (by first | (rw [List.map_append]; rfl) | simp) r1)
 clear r1
 refine tL ok4 (Yld.toL (y_as q6)) fun a5 s5 hs2 ok5 r2 sm2 => ?_
 have F5 := F4.stepL hs2 (by decide); have o7 := Own.keepL o6 hs2 (by decide) (by decide); have o8 := Own.keepL o5 hs2 (by decide) (by decide)
 have q7 : At (Ty.val x2) s5 a5 (.tmp 2) := r2
 clear r2; refine wpList_nil (tn (wp_ret ?_))
 exact retL1 rfl ok5 F5 ⟨x2, q7, o7, o8⟩


set_option maxHeartbeats 4000000 in
set_option maxRecDepth 100000 in
theorem compact_fn (x : Value) (xs : List Int) (σ : GW) (hlow : Low [40] σ) (v0 : Value) (hv0 : Ty.has (Ty.val x) σ v0) (ho_x : Own σ 40 3 1 x (List.length xs) (List.map Ty.int xs)) (hx : xs.length ≤ 1000000) (hx1 : 1 ≤ xs.length) :
    FnL Tryz.prog 120 #[v0] σ [40] (fun v τ => ∃ (zs : List Int), ∃ (z : Value), (Ty.has (Ty.val z) τ v) ∧ (Own τ 40 3 1 z (List.length zs) (List.map Ty.int zs)) ∧ ((dupB xs = false → zs.length = xs.length) ∧ (dupB xs = true → zs.length < xs.length))) := by
 refine fn_introL hlow Tryz.func120 rfl Tryz.ntmps120 (Nat.le_of_ble_eq_true rfl) (fun a0 F0 ok0 hargs => ?_)
 have p0 := pB (hargs 0 _ rfl) hv0
 clear hargs; refine wp_seq ?_
 refine gI a0 σ ok0 (gC (Ty.val (Value.slice none 0 0)) (gE ok0 fun a1 s1 ok1 D1 => ?_)); have q1 := D1.kt p0 rfl; have o1 := Own.k0 ho_x D1.stp; refine tn (wp_seq (wp_seq ?_))
 refine gI a1 s1 ok1 (gM q1 (gT (Ty.nat (List.length xs)) rfl (fun G H I J O d0 => rP (own_len Tryz.underlying30 (al (R := (Pr.own 40 3 1 (List.length xs) (List.map Ty.int xs))) (ed d0 rfl rfl rfl) (Own.k0 o1 I)))) (gS rfl (fun G H I J O d0 => rP (y_lss (ed d0 rfl rfl rfl) rfl)) (gE ok1 fun a2 s2 ok2 D2 => ?_)))); have F2 := (F0.step0 D1.stp).step0 D2.stp; have q2 := D2.kt q1 rfl; have o2 := Own.k0 o1 D2.stp; refine tn ?_
 refine cond_p (p := ((((List.length xs) : Nat) : Int) < (2 : Int))) (D2.dn 2 rfl rfl) (fun c1 => ?_) (fun c1 => ?_)
 ·
  refine wp_seq ?_
  refine gI a2 s2 ok2 (gM q2 (gB 0 (gE ok2 fun a3 s3 ok3 D3 => ?_))); have o3 := Own.k0 o2 D3.stp
  have q4 : At (Ty.val x) s3 a3 (.tmp 2) := D3.done 1
  refine tn (wp_ret (tr ?_))
  exact retL1 rfl ok3 (F2.step0 D3.stp) ⟨xs, x, q4, (cvo (by (simp)) (by (simp)) o3), (by exact ⟨fun _ => rfl, fun h_ => by (rw [(dupB_iff xs).2 fun k h => by omega] at h_; cases h_)⟩)⟩
 ·
  refine wp_skip (tn (wp_seq (wp_seq ?_)))
  refine gI a2 s2 ok2 (gC (Ty.int (1 : Int)) (gE ok2 fun a4 s4 ok4 D4 => ?_)); have o4 := Own.k0 o2 D4.stp; refine tn (wp_block ?_)
  refine loop (fun n1 a5 w1 => ∃ (t1 : GW) (i : Nat), t1.w = w1 ∧ FromL [40] σ t1 ∧ Ok 61 [] a5 ∧ At (Ty.nat i) t1 a5 (.tmp 3) ∧ At (Ty.val x) t1 a5 (.tmp 0) ∧ Own t1 40 3 1 x (List.length xs) (List.map Ty.int xs) ∧ (1 ≤ i ∧ i ≤ xs.length) ∧ (∀ k, k + 1 < i → xs.getD k 0 ≠ xs.getD (k + 1) 0) ∧ n1 = xs.length - i) (xs.length - (1)) ?_ ?_
  ·
   exact ⟨s4, 1, rfl, (F2.step0 D4.stp), ok4, (cvi (by (rfl)) (D4.dn 0 rfl rfl)), (D4.kt q2 rfl), o4, by omega, fun k h => by omega, rfl⟩
  ·
   rintro n2 a6 w2 ⟨t2, i, rfl, F5, ok5, q7, q8, o5, hi, I, rfl⟩
   refine wp_seq (wp_seq ?_)
   refine gI a6 t2 ok5 (gM q7 (gM q8 (gT (Ty.nat (List.length xs)) rfl (fun G H I J O d0 => rP (own_len Tryz.underlying30 (al (R := (Pr.own 40 3 1 (List.length xs) (List.map Ty.int xs))) (ed d0 rfl rfl rfl) (Own.k0 o5 I)))) (gS rfl (fun G H I J O d0 d1 => rP (y_lss (ed d0 rfl rfl rfl) (ed d1 rfl rfl rfl))) (gE ok5 fun a7 s5 ok6 D5 => ?_))))); have F6 := F5.step0 D5.stp; have q9 := D5.kt q7 rfl; have q10 := D5.kt q8 rfl; have o6 := Own.k0 o5 D5.stp; refine tn ?_
   refine cond_p (p := (((i : Nat) : Int) < (((List.length xs) : Nat) : Int))) (D5.dn 3 rfl rfl) (fun c2 => ?_) (fun c2 => ?_)
   ·
    refine wp_skip (tn (wp_seq (wp_block (wp_seq ?_))))
    refine gI a7 s5 ok6 (gM q10 (gM q9 (gT (Ty.val (cellPtr x i)) rfl (fun G H I J O d0 d1 => rP (own_index1 (i := ((i : Nat) : Int)) Tryz.underlying30 Tryz.inf3 (Own.k0 o6 I) (ed d0 rfl rfl rfl) (ed d1 rfl rfl rfl) (by omega) (by omega))) (gS rfl (fun G H I J O d0 => rP (own_load Tryz.underlying3 rfl (Own.k0 o6 I) (ed d0 rfl rfl rfl) (lst_get Ty.int xs 0 i (by omega)))) (gM q10 (gM q9 (gT (Ty.nat (i - 1)) rfl (fun G H I J O d0 => rP ((y_sub (ed d0 rfl rfl rfl) rfl (w64 (by omega) (by omega))).mono (fun τ _ h => cvi (σ := τ) (by omega) h))) (gT (Ty.val (cellPtr x (i - 1))) rfl (fun G H I J O d0 d1 => rP (own_index1 (i := (((i - 1) : Nat) : Int)) Tryz.underlying30 Tryz.inf3 (Own.k0 o6 I) (ed d0 rfl rfl rfl) (ed d1 rfl rfl rfl) (by omega) (by omega))) (gS rfl (fun G H I J O d0 => rP (own_load Tryz.underlying3 rfl (Own.k0 o6 I) (ed d0 rfl rfl rfl) (lst_get Ty.int xs 0 (i - 1) (by omega)))) (gS rfl (fun G H I J O d0 d1 => rP (y_eql (ed d0 rfl rfl rfl) (ed d1 rfl rfl rfl))) (gE ok6 fun a8 s6 ok7 D6 => ?_))))))))))); have F7 := F6.step0 D6.stp; have q12 := D6.kt q9 rfl; have q13 := D6.kt q10 rfl; have o7 := Own.k0 o6 D6.stp; refine tn ?_
    refine cond_p (p := ((xs.getD i 0) = (xs.getD (i - 1) 0))) (D6.dn 9 rfl rfl) (fun c3 => ?_) (fun c3 => ?_)
    ·
     refine wp_seq ?_
     refine gI a8 s6 ok7 (gM q13 (gM q12 (gT (Ty.val (sufOf x i)) rfl (fun G H I J O d0 d1 => rP (y_suf (j := i) Tryz.underlying30 Tryz.inf3 (Own.k0 o7 I) (ed d0 rfl rfl rfl) (ed d1 rfl rfl rfl) (by omega))) (gB 0 (gE ok7 fun a9 s7 ok8 D7 => ?_))))); have o8 := Own.k0 o7 D7.stp; refine tn (wp_seq (wp_seq ?_))
     refine gI a9 s7 ok8 (gC (Ty.int (1 : Int)) (gE ok8 fun a10 s8 ok9 D8 => ?_)); have o9 := Own.k0 o8 D8.stp; refine tn (wp_block ?_)
     refine loop (fun n3 a11 w3 => ∃ (t3 : GW) (ys : List Int) (j : Nat) (q : Nat), t3.w = w3 ∧ FromL [40] σ t3 ∧ Ok 61 [] a11 ∧ At (Ty.nat j) t3 a11 (.tmp 3) ∧ At (Ty.nat q) t3 a11 (.tmp 5) ∧ At (Ty.val x) t3 a11 (.tmp 0) ∧ At (Ty.val (sufOf x i)) t3 a11 (.tmp 4) ∧ Own t3 40 3 1 x (List.length ys) (List.map Ty.int ys) ∧ (ys.length = xs.length) ∧ (1 ≤ q ∧ q ≤ xs.length - i) ∧ (j + 1 ≤ i + q) ∧ n3 = xs.length - q) (xs.length - (1)) ?_ ?_
     ·
      exact ⟨s8, xs, i, 1, rfl, ((F7.step0 D7.stp).step0 D8.stp), ok9, (cvi (by (first | rfl | omega | (simp_all; done) | (simp_all; omega))) (D8.kt (D7.kt q12 rfl) rfl)), (cvi (by (rfl)) (D8.dn 0 rfl rfl)), (D8.kt (D7.kt q13 rfl) rfl), (D8.kt (D7.dn 3 rfl rfl) rfl), (cvo (by (simp)) (by (simp)) o9), rfl, by omega, by omega, rfl⟩
     ·
      rintro n4 a12 w4 ⟨t4, ys, j, q, rfl, F10, ok10, q22, q23, q24, q25, o10, hy, hq, hj, rfl⟩
      refine wp_seq (wp_seq ?_)
      refine gI a12 t4 ok10 (gM q23 (gM q25 (gT (Ty.nat ((List.length ys) - i)) rfl (fun G H I J O d0 => rP (y_sufLen Tryz.underlying30 (Own.form (Own.k0 o10 I)) (ed d0 rfl rfl rfl))) (gS rfl (fun G H I J O d0 d1 => rP (y_lss (ed d0 rfl rfl rfl) (ed d1 rfl rfl rfl))) (gE ok10 fun a13 s9 ok11 D9 => ?_))))); have F11 := F10.step0 D9.stp; have q26 := D9.kt q22 rfl; have q27 := D9.kt q23 rfl; have q28 := D9.kt q24 rfl; have q29 := D9.kt q25 rfl; have o11 := Own.k0 o10 D9.stp; refine tn ?_
      refine cond_p (p := (((q : Nat) : Int) < ((((List.length ys) - i) : Nat) : Int))) (D9.dn 3 rfl rfl) (fun c4 => ?_) (fun c4 => ?_)
      ·
       refine wp_skip (tn (wp_seq (wp_block (wp_seq ?_))))
       refine gI a13 s9 ok11 (gM q29 (gM q27 (gT (Ty.val (cellPtr x (i + q))) rfl (fun G H I J O d0 d1 => rP (y_sufIdx Tryz.underlying30 Tryz.inf3 (Own.k0 o11 I) (ed d0 rfl rfl rfl) (ed d1 rfl rfl rfl) (by omega))) (gS rfl (fun G H I J O d0 => rP (own_load Tryz.underlying3 rfl (Own.k0 o11 I) (ed d0 rfl rfl rfl) (lst_get Ty.int ys 0 (i + q) (by omega)))) (gM q29 (gM q27 (gT (Ty.nat (q - 1)) rfl (fun G H I J O d0 => rP ((y_sub (ed d0 rfl rfl rfl) rfl (w64 (by omega) (by omega))).mono (fun τ _ h => cvi (σ := τ) (by omega) h))) (gT (Ty.val (cellPtr x (i + (q - 1)))) rfl (fun G H I J O d0 d1 => rP (y_sufIdx Tryz.underlying30 Tryz.inf3 (Own.k0 o11 I) (ed d0 rfl rfl rfl) (ed d1 rfl rfl rfl) (by omega))) (gS rfl (fun G H I J O d0 => rP (own_load Tryz.underlying3 rfl (Own.k0 o11 I) (ed d0 rfl rfl rfl) (lst_get Ty.int ys 0 (i + (q - 1)) (by omega)))) (gS rfl (fun G H I J O d0 d1 => rP (y_neq (ed d0 rfl rfl rfl) (ed d1 rfl rfl rfl))) (gE ok11 fun a14 s10 ok12 D10 => ?_))))))))))); have F12 := F11.step0 D10.stp; have q31 := D10.kt q26 rfl; have q32 := D10.kt q27 rfl; have q33 := D10.kt q28 rfl; have q34 := D10.kt q29 rfl; have o12 := Own.k0 o11 D10.stp; refine tn ?_
       refine cond_p (p := ((ys.getD (i + q) 0) ≠ (ys.getD (i + (q - 1)) 0))) (D10.dn 9 rfl rfl) (fun c5 => ?_) (fun c5 => ?_)
       ·
        refine wp_seq ?_
        refine gI a14 s10 ok12 (gM q33 (gM q31 (gM q34 (gM q32 (gT (Ty.val (cellPtr x (i + q))) rfl (fun G H I J O d0 d1 => rP (y_sufIdx Tryz.underlying30 Tryz.inf3 (Own.k0 o12 I) (ed d0 rfl rfl rfl) (ed d1 rfl rfl rfl) (by omega))) (gS rfl (fun G H I J O d0 => rP (own_load Tryz.underlying3 rfl (Own.k0 o12 I) (ed d0 rfl rfl rfl) (lst_get Ty.int ys 0 (i + q) (by omega)))) (gT (Ty.val (cellPtr x j)) rfl (fun G H I J O d0 d1 d2 d3 d4 d5 d6 d7 => rP (own_index1 (i := ((j : Nat) : Int)) Tryz.underlying30 Tryz.inf3 (Own.k0 o12 I) (ed d0 rfl rfl rfl) (ed d1 rfl rfl rfl) (by omega) (by omega))) (gE2 ok12 fun a15 s11 ok13 D11 => ?_)))))))); have o13 := Own.k0 o12 D11.stp
        refine tailL0 (L := [40]) (R := (fun _ τ => Own τ 40 3 1 x (List.length ys) ((List.map Ty.int ys).set j (Ty.int (ys.getD (i + q) 0))))) rfl rfl (YldM.toL (m_store Tryz.inf3 (by decide) o13 (D11.dn 6 (by decide) rfl rfl) (by simp only [List.length_map, List.length_set]; omega) (D11.dn 5 (by decide) rfl rfl) (one_val rfl))) (fun v1 s12 hs1 r1 => ?_)
        have F14 := (F12.step0 D11.stp).stepL hs1 (by decide); have q42 := kpL hs1 (by decide) rfl (D11.kt q31 rfl); have q43 := kpL hs1 (by decide) rfl (D11.kt q32 rfl); have q44 := kpL hs1 (by decide) rfl (D11.kt q33 rfl); have q45 := kpL hs1 (by decide) rfl (D11.kt q34 rfl)
        have o14 : Own s12 40 3 1 x (List.length (ys.set j (ys.getD (i + q) 0))) (List.map Ty.int (ys.set j (ys.getD (i + q) 0))) := (cvo (by simp) (by simp) r1)
        clear r1; refine wpList_nil (tn ?_)
        refine gI a15 s12 ok13 (gM q42 (gT (Ty.nat (j + 1)) rfl (fun G H I J O d0 => rP ((y_add (ed d0 rfl rfl rfl) rfl (w64 (by omega) (by omega))).mono (fun τ _ h => cvi (σ := τ) (by first | omega | exact (Int.natCast_mul _ _).symm) h))) (gB 0 (gE ok13 fun a16 s13 ok14 D12 => ?_)))); have o15 := Own.k0 o14 D12.stp; refine bn (tn ?_)
        refine gI a16 s13 ok14 (gM (D12.kt q43 rfl) (gT (Ty.nat (q + 1)) rfl (fun G H I J O d0 => rP ((y_add (ed d0 rfl rfl rfl) rfl (w64 (by omega) (by omega))).mono (fun τ _ h => cvi (σ := τ) (by first | omega | exact (Int.natCast_mul _ _).symm) h))) (gB 0 (gE ok14 fun a17 s14 ok15 D13 => ?_)))); have o16 := Own.k0 o15 D13.stp
        exact tn ⟨xs.length - ((q + 1)), by omega, s14, (ys.set j (ys.getD (i + q) 0)), (j + 1), (q + 1), rfl, ((F14.step0 D12.stp).step0 D13.stp), ok15, (cvi (by (first | rfl | omega | (simp_all; done) | (simp_all; omega))) (D13.kt (D12.dn 2 rfl rfl) rfl)), (cvi (by (first | rfl | omega | (simp_all; done) | (simp_all; omega))) (D13.dn 2 rfl rfl)), (D13.kt (D12.kt q44 rfl) rfl), (D13.kt (D12.kt q45 rfl) rfl), (cvo (by (simp)) (by (simp)) o16), by rw [List.length_set]; exact hy, by omega, by omega, rfl⟩
       ·
        refine wp_skip (bn (tn ?_))
        refine gI a14 s10 ok12 (gM q32 (gT (Ty.nat (q + 1)) rfl (fun G H I J O d0 => rP ((y_add (ed d0 rfl rfl rfl) rfl (w64 (by omega) (by omega))).mono (fun τ _ h => cvi (σ := τ) (by first | omega | exact (Int.natCast_mul _ _).symm) h))) (gB 0 (gE ok12 fun a18 s15 ok16 D14 => ?_)))); have o17 := Own.k0 o12 D14.stp
        exact tn ⟨xs.length - ((q + 1)), by omega, s15, ys, j, (q + 1), rfl, (F12.step0 D14.stp), ok16, (D14.kt q31 rfl), (cvi (by (first | rfl | omega | (simp_all; done) | (simp_all; omega))) (D14.dn 2 rfl rfl)), (D14.kt q33 rfl), (D14.kt q34 rfl), o17, by omega, by omega, by omega, rfl⟩
      ·
       refine wp_exit (tx (tx (bx (tn (wp_seq ?_)))))
       have hfm := Own.form o11
       refine gI a13 s9 ok11 (gM q28 (gM q26 (gT (Ty.val (sufOf x j)) rfl (fun G H I J O d0 d1 => rP (y_suf (j := j) Tryz.underlying30 Tryz.inf3 (Own.k0 o11 I) (ed d0 rfl rfl rfl) (ed d1 rfl rfl rfl) (by omega))) (gE2 ok11 fun a19 s16 ok17 D15 => ?_)))); have o18 := Own.k0 o11 D15.stp
       refine tailL0 (L := [40]) (R := (fun _ τ => Own τ 40 3 1 (preOf x j) j ((List.map Ty.int ys).take j))) rfl rfl (YldM.toL (m_clrS Tryz.underlying30 Tryz.inf3 rfl rfl (by decide) o18 (D15.dn 2 (by decide) rfl rfl) (by omega))) (fun v2 s17 hs2 r2 => ?_)
       have F19 := (F11.step0 D15.stp).stepL hs2 (by decide); have q62 := kpL hs2 (by decide) rfl (D15.kt q26 rfl); have q63 := kpL hs2 (by decide) rfl (D15.kt q28 rfl)
       have o19 : Own s17 40 3 1 (preOf x j) j (List.map Ty.int (ys.take j)) := cvo rfl (by rw [List.map_take]) (r2)
       clear r2; refine wpList_nil (tn (wp_seq ?_))
       refine gI a19 s17 ok17 (gM q63 (gM q62 (gT (Ty.val (preOf x j)) rfl (fun G H I J O d0 d1 => rP (y_preF (i := j) Tryz.underlying30 Tryz.inf3 hfm (ed d0 rfl rfl rfl) (ed d1 rfl rfl rfl) (by omega))) (gB 0 (gE ok17 fun a20 s18 ok18 D16 => ?_))))); have o20 := Own.k0 o19 D16.stp; refine tn (wp_ret (br (tr (tr (br (tr ?_))))))
       exact retL1 rfl ok18 (F19.step0 D16.stp) ⟨(ys.take j), (preOf x j), (D16.dn 3 rfl rfl), (cvo (by (first | rfl | (rw [List.length_take]; omega))) (by (first | rfl | (rw [List.length_take]; omega))) o20), (by rw [List.length_take]; exact ⟨fun h_ => absurd (dupB_yes (l := xs) (k := i - 1) (by omega) (by rw [show i - 1 + 1 = i by omega]; omega)) (by rw [h_]; simp), fun _ => by omega⟩)⟩
    ·
     refine wp_skip (bn (tn ?_))
     refine gI a8 s6 ok7 (gM q12 (gT (Ty.nat (i + 1)) rfl (fun G H I J O d0 => rP ((y_add (ed d0 rfl rfl rfl) rfl (w64 (by omega) (by omega))).mono (fun τ _ h => cvi (σ := τ) (by first | omega | exact (Int.natCast_mul _ _).symm) h))) (gB 0 (gE ok7 fun a21 s19 ok19 D17 => ?_)))); have o21 := Own.k0 o7 D17.stp
     exact tn ⟨xs.length - ((i + 1)), by omega, s19, (i + 1), rfl, (F7.step0 D17.stp), ok19, (cvi (by (first | rfl | omega | (simp_all; done) | (simp_all; omega))) (D17.dn 2 rfl rfl)), (D17.kt q13 rfl), o21, by omega, fun k h => by (by_cases e : k = i - 1; (subst e; rw [show i - 1 + 1 = i by omega]; omega); exact I k (by omega)), rfl⟩
   ·
    refine wp_exit (tx (tx (bx (tn (wp_seq ?_)))))
    refine gI a7 s5 ok6 (gM q10 (gB 0 (gE ok6 fun a22 s20 ok20 D18 => ?_))); have o22 := Own.k0 o6 D18.stp
    have q68 : At (Ty.val x) s20 a22 (.tmp 2) := D18.done 1
    refine tn (wp_ret ?_)
    exact retL1 rfl ok20 (F6.step0 D18.stp) ⟨xs, x, q68, (cvo (by (simp)) (by (simp)) o22), (by exact ⟨fun _ => rfl, fun h_ => by (rw [(dupB_iff xs).2 fun k h => I k (by omega)] at h_; cases h_)⟩)⟩


set_option maxHeartbeats 4000000 in
set_option maxRecDepth 100000 in
theorem fail_fn (e : Int) (σ : GW) (hlow : Low [] σ) (v0 : Value) (hv0 : Ty.has (Ty.int e) σ v0)  (hne : e ≠ 0) :
    FnP Tryz.prog 102 #[v0] σ [] (fun v τ => True ∧ (e = 0)) (fun c_ => c_ = fltC 103 e ∧ e ≠ 0) := by
 refine fn_introP hlow Tryz.func102 rfl Tryz.ntmps102 (Nat.le_of_ble_eq_true rfl) (fun a0 F0 ok0 hargs => ?_)
 have p0 := pB (hargs 0 _ rfl) hv0
 clear hargs
 refine gI a0 σ ok0 (gM p0 (gT (Ty.val (Value.iface 103 (Value.int .i64 e))) rfl (fun G H I J O d0 => rP (y_mkif Tryz.underlying103 rfl (ed d0 rfl rfl rfl))) (gE2 ok0 fun a1 s1 ok1 D1 => ?_)))
 exact tail_pan (D1.dn 1 (by decide) rfl rfl) (panB ok1 (F0.step0 D1.stp) ⟨rfl, by assumption⟩)


set_option maxHeartbeats 4000000 in
set_option maxRecDepth 100000 in
theorem insert_fn (x : Value) (xs : List Int) (y : Value) (ys : List Int) (σ : GW) (hlow : Low [40, 41] σ) (v0 v1 v2 : Value) (hv0 : Ty.has (Ty.val x) σ v0) (hv1 : Ty.has (Ty.nat 0) σ v1) (hv2 : Ty.has (Ty.val y) σ v2) (ho_x : Own σ 40 3 1 x (List.length xs) (List.map Ty.int xs)) (ho_y : Own σ 41 3 1 y 1 (List.map Ty.int ys)) (hx : xs.length ≤ 1000000) (hx1 : 1 ≤ xs.length) (hys : ∃ c, ys = [c]) :
    FnL Tryz.prog 121 #[v0, v1, v2] σ [40, 41] (fun v τ => ∃ (z : Value), (Ty.has (Ty.val z) τ v) ∧ (Own τ 40 3 1 z (List.length (ys ++ xs)) (List.map Ty.int (ys ++ xs)))) := by
 refine fn_introL hlow Tryz.func121 rfl Tryz.ntmps121 (Nat.le_of_ble_eq_true rfl) (fun a0 F0 ok0 hargs => ?_)
 have p0 := pB (hargs 0 _ rfl) hv0
 have p1 := pB (hargs 1 _ rfl) hv1
 have p2 := pB (hargs 2 _ rfl) hv2
 clear hargs; refine wp_seq ?_
 refine gI a0 σ ok0 (gC (Ty.val (Value.slice none 0 0)) (gE ok0 fun a1 s1 ok1 D1 => ?_)); have q1 := D1.kt p0 rfl; have q2 := D1.kt p1 rfl; have o1 := Own.k0 ho_x D1.stp; have o2 := Own.k0 ho_y D1.stp; refine tn (wp_seq ?_)
 refine gI a1 s1 ok1 (gM q1 (gM q2 (gT (Ty.val (sufOf x 0)) rfl (fun G H I J O d0 d1 => rP (y_suf (j := 0) Tryz.underlying30 Tryz.inf3 (Own.k0 o1 I) (ed d0 rfl rfl rfl) (ed d1 rfl rfl rfl) (by omega))) (gE ok1 fun a2 s2 ok2 D2 => ?_)))); have q6 := D2.kt (D1.kt p2 rfl) rfl; have o3 := Own.k0 o1 D2.stp; have o4 := Own.k0 o2 D2.stp; refine tn (wp_seq ?_)
 refine gI a2 s2 ok2 (gM q6 (gT (Ty.nat 1) rfl (fun G H I J O d0 => rP (own_len Tryz.underlying30 (al (R := (Pr.own 41 3 1 1 (List.map Ty.int ys))) (ed d0 rfl rfl rfl) (Own.k0 o4 I)))) (gB 0 (gE ok2 fun a3 s3 ok3 D3 => ?_)))); have o5 := Own.k0 o3 D3.stp; have o6 := Own.k0 o4 D3.stp; have q10 := D3.dn 2 rfl rfl; refine tn (wp_seq (wp_seq ?_))
 refine gI a3 s3 ok3 (gM q10 (gS rfl (fun G H I J O d0 => rP (y_eql (ed d0 rfl rfl rfl) rfl)) (gE ok3 fun a4 s4 ok4 D4 => ?_))); have q11 := D4.kt (D3.kt (D2.kt q1 rfl) rfl) rfl; have o7 := Own.k0 o5 D4.stp; have o8 := Own.k0 o6 D4.stp; refine tn ?_
 refine cond_p (p := (((1 : Nat) : Int) = (0 : Int))) (D4.dn 1 rfl rfl) (fun c1 => ?_) (fun c1 => ?_)
 ·
  exfalso
  omega
 ·
  refine wp_skip (tn (wp_seq ?_))
  refine gI a4 s4 ok4 (gM q11 (gT (Ty.nat (List.length xs)) rfl (fun G H I J O d0 => rP (own_len Tryz.underlying30 (al (R := (Pr.own 40 3 1 (List.length xs) (List.map Ty.int xs))) (ed d0 rfl rfl rfl) (Own.k0 o7 I)))) (gB 0 (gE ok4 fun a5 s5 ok5 D5 => ?_)))); have q17 := D5.kt (D4.kt (D3.kt (D2.kt q2 rfl) rfl) rfl) rfl; have o9 := Own.k0 o7 D5.stp; have o10 := Own.k0 o8 D5.stp; have q20 := D5.dn 2 rfl rfl; refine tn (wp_seq (wp_seq ?_))
  refine gI a5 s5 ok5 (gM q17 (gM q20 (gS rfl (fun G H I J O d0 d1 => rP (y_eql (ed d0 rfl rfl rfl) (ed d1 rfl rfl rfl))) (gE ok5 fun a6 s6 ok6 D6 => ?_)))); have q21 := D6.kt (D5.kt q11 rfl) rfl; have q24 := D6.kt (D5.kt (D4.kt q10 rfl) rfl) rfl; have q25 := D6.kt q20 rfl; have o11 := Own.k0 o9 D6.stp; have o12 := Own.k0 o10 D6.stp; refine tn ?_
  refine cond_p (p := (((0 : Nat) : Int) = (((List.length xs) : Nat) : Int))) (D6.dn 2 rfl rfl) (fun c2 => ?_) (fun c2 => ?_)
  ·
   exfalso
   omega
  ·
   refine wp_skip (tn (wp_seq (wp_seq ?_)))
   refine gI a6 s6 ok6 (gM q25 (gM q24 (gT (Ty.nat ((List.length xs) + 1)) rfl (fun G H I J O d0 d1 => rP ((y_add (ed d0 rfl rfl rfl) (ed d1 rfl rfl rfl) (w64 (by omega) (by omega))).mono (fun τ _ h => cvi (σ := τ) (by first | omega | exact (Int.natCast_mul _ _).symm) h))) (gM q21 (gT (Ty.nat (capOf x)) rfl (fun G H I J O d0 => rP (y_capO Tryz.underlying30 (Own.k0 o11 I) (ed d0 rfl rfl rfl))) (gS rfl (fun G H I J O d0 d1 => rP (y_gtr (ed d0 rfl rfl rfl) (ed d1 rfl rfl rfl))) (gE ok6 fun a7 s7 ok7 D7 => ?_))))))); have F7 := ((((((F0.step0 D1.stp).step0 D2.stp).step0 D3.stp).step0 D4.stp).step0 D5.stp).step0 D6.stp).step0 D7.stp; have q27 := D7.kt q21 rfl; have q28 := D7.kt (D6.kt q17 rfl) rfl; have q29 := D7.kt (D6.kt (D5.kt (D4.kt (D3.kt q6 rfl) rfl) rfl) rfl) rfl; have q30 := D7.kt q24 rfl; have q31 := D7.kt q25 rfl; have o13 := Own.k0 o11 D7.stp; have o14 := Own.k0 o12 D7.stp; refine tn ?_
   refine cond_p (p := ((((capOf x) : Nat) : Int) < ((((List.length xs) + 1) : Nat) : Int))) (D7.dn 5 rfl rfl) (fun c3 => ?_) (fun c3 => ?_)
   ·
    refine wp_seq ?_
    refine gI a7 s7 ok7 (gM q27 (gM q28 (gT (Ty.val (preOf x 0)) rfl (fun G H I J O d0 d1 => rP (y_pre (i := 0) Tryz.underlying30 Tryz.inf3 (Own.k0 o13 I) (ed d0 rfl rfl rfl) (ed d1 rfl rfl rfl) (by omega))) (gM q31 (gM q30 (gT (Ty.nat ((List.length xs) + 1)) rfl (fun G H I J O d0 d1 => rP ((y_add (ed d0 rfl rfl rfl) (ed d1 rfl rfl rfl) (w64 (by omega) (by omega))).mono (fun τ _ h => cvi (σ := τ) (by first | omega | exact (Int.natCast_mul _ _).symm) h))) (gM q28 (gT (Ty.nat (((List.length xs) + 1) - 0)) rfl (fun G H I J O d0 d1 => rP ((y_sub (ed d0 rfl rfl rfl) (ed d1 rfl rfl rfl) (w64 (by omega) (by omega))).mono (fun τ _ h => cvi (σ := τ) (by omega) h))) (gE2 ok7 fun a8 s8 ok8 D8 => ?_))))))))); have o15 := Own.k0 o13 D8.stp; have o16 := Own.k0 o14 D8.stp
    refine tL (R := (fun v τ => Own τ 61 3 1 v (((List.length xs) + 1) - 0) (List.replicate (((List.length xs) + 1) - 0) (Ty.int 0)))) ok8 (YldM.toL (m_appn0 (k := 61) (T := Ty.int 0) Tryz.underlying30 Tryz.underlying3 Tryz.inf3 rfl (fun _ => rfl) o15 (D8.dn 2 (by decide) rfl rfl) (D8.dn 7 (by decide) rfl rfl) (by omega) (by omega) (by omega))) fun a9 s9 hs1 ok9 r1 sm1 => ?_
    have F9 := (F7.step0 D8.stp).stepL hs1 (by decide); have q39 := kpL hs1 (by decide) (sm1 0 (by decide)) (D8.kt q27 rfl); have q40 := kpL hs1 (by decide) (sm1 1 (by decide)) (D8.kt q28 rfl); have q41 := kpL hs1 (by decide) (sm1 2 (by decide)) (D8.kt q29 rfl); have q42 := kpL hs1 (by decide) (sm1 7 (by decide)) (D8.kt q30 rfl); have o18 := Own.keepL o15 hs1 (by decide) (by decide); have o19 := Own.keepL o16 hs1 (by decide) (by decide)
    obtain ⟨x1, hx1⟩ : ∃ x, a9.eval (.tmp 40) = x := ⟨_, rfl⟩
    have q43 : At (Ty.val x1) s9 a9 (.tmp 40) := hx1
    have o17 := al2 (R := (Pr.own 61 3 1 (((List.length xs) + 1) - 0) (List.map Ty.int (List.replicate (((List.length xs) + 1) - 0) 0)))) hx1 (cvo rfl (by simp) r1)
    clear r1
    refine tL ok9 (Yld.toL (y_as q43)) fun a10 s10 hs2 ok10 r2 sm2 => ?_
    have F10 := F9.stepL hs2 (by decide); have q44 := kpL hs2 (by decide) (sm2 0 (by decide)) q39; have q45 := kpL hs2 (by decide) (sm2 1 (by decide)) q40; have q46 := kpL hs2 (by decide) (sm2 2 (by decide)) q41; have q47 := kpL hs2 (by decide) (sm2 7 (by decide)) q42; have o20 := Own.keepL o18 hs2 (by decide) (by decide); have o21 := Own.keepL o19 hs2 (by decide) (by decide); have o22 := Own.keepL o17 hs2 (by decide) (by decide)
    have q48 : At (Ty.val x1) s10 a10 (.tmp 9) := r2
    clear r2; refine wpList_nil (tn (wp_seq ?_))
    refine gI a10 s10 ok10 (gM q48 (gM q45 (gT (Ty.val (sufOf x1 0)) rfl (fun G H I J O d0 d1 => rP (y_suf (j := 0) Tryz.underlying30 Tryz.inf3 (Own.k0 o22 I) (ed d0 rfl rfl rfl) (ed d1 rfl rfl rfl) (by omega))) (gM q46 (gE2 ok10 fun a11 s11 ok11 D9 => ?_))))); have o23 := Own.k0 o20 D9.stp; have o24 := Own.k0 o21 D9.stp; have o25 := Own.k0 o22 D9.stp
    refine tL (R := (fun v τ => Pr.has (Pr.cpd 61 3 (((List.length xs) + 1) - 0) x1 (1 - 0) ((List.map Ty.int (List.replicate (((List.length xs) + 1) - 0) 0)).take 0 ++ (List.map Ty.int ys).drop 0 ++ (List.map Ty.int (List.replicate (((List.length xs) + 1) - 0) 0)).drop (0 + (1 - 0)))) τ v)) ok11 (YldM.toL (m_copyO (i := 0) (j := 0) Tryz.underlying30 Tryz.inf3 (by decide) o25 o24 (D9.dn 2 (by decide) rfl rfl) (((D9.dn 3 (by decide) rfl rfl) : _ = _).trans (Own.suf0 o24 (by omega)).symm) (one_map (fun _ => one_val rfl)) (by omega) (by omega) (by omega))) fun a12 s12 hs3 ok12 r3 sm3 => ?_
    have F12 := (F10.step0 D9.stp).stepL hs3 (by decide); have q55 := kpL hs3 (by decide) (sm3 0 (by decide)) (D9.kt q44 rfl); have q56 := kpL hs3 (by decide) (sm3 1 (by decide)) (D9.kt q45 rfl); have q57 := kpL hs3 (by decide) (sm3 7 (by decide)) (D9.kt q47 rfl); have q58 := kpL hs3 (by decide) (sm3 9 (by decide)) (D9.kt q48 rfl); have o27 := Own.keepL o23 hs3 (by decide) (by decide); have o28 := Own.keepL o24 hs3 (by decide) (by decide)
    have q59 : At (Ty.nat (1 - 0)) s12 a12 (.tmp 45) := (r3).1
    have o26 : Own s12 61 3 1 x1 (((List.length xs) + 1) - 0) (List.map Ty.int ((List.replicate (((List.length xs) + 1) - 0) 0).take 0 ++ ys.drop 0 ++ (List.replicate (((List.length xs) + 1) - 0) 0).drop (0 + (1 - 0)))) := cvo rfl (by simp only [List.map_append, List.map_take, List.map_drop]) (r3).2
    clear r3; refine wpList_nil (tn (wp_seq ?_))
    refine gI a12 s12 ok12 (gM q58 (gM q56 (gM q57 (gT (Ty.nat (0 + 1)) rfl (fun G H I J O d0 d1 => rP ((y_add (ed d0 rfl rfl rfl) (ed d1 rfl rfl rfl) (w64 (by omega) (by omega))).mono (fun τ _ h => cvi (σ := τ) (by first | omega | exact (Int.natCast_mul _ _).symm) h))) (gT (Ty.val (sufOf x1 (0 + 1))) rfl (fun G H I J O d0 d1 => rP (y_suf (j := (0 + 1)) Tryz.underlying30 Tryz.inf3 (Own.k0 o26 I) (ed d0 rfl rfl rfl) (ed d1 rfl rfl rfl) (by omega))) (gM q55 (gM q56 (gT (Ty.val (sufOf x 0)) rfl (fun G H I J O d0 d1 => rP (y_suf (j := 0) Tryz.underlying30 Tryz.inf3 (Own.k0 o27 I) (ed d0 rfl rfl rfl) (ed d1 rfl rfl rfl) (by omega))) (gE2 ok12 fun a13 s13 ok13 D10 => ?_))))))))); have o29 := Own.k0 o27 D10.stp; have o30 := Own.k0 o28 D10.stp; have o31 := Own.k0 o26 D10.stp
    refine tL (R := (fun v τ => Pr.has (Pr.cpd 61 3 (((List.length xs) + 1) - 0) x1 ((List.length xs) - 0) ((List.map Ty.int ((List.replicate (((List.length xs) + 1) - 0) 0).take 0 ++ ys.drop 0 ++ (List.replicate (((List.length xs) + 1) - 0) 0).drop (0 + (1 - 0)))).take (0 + 1) ++ (List.map Ty.int xs).drop 0 ++ (List.map Ty.int ((List.replicate (((List.length xs) + 1) - 0) 0).take 0 ++ ys.drop 0 ++ (List.replicate (((List.length xs) + 1) - 0) 0).drop (0 + (1 - 0)))).drop ((0 + 1) + ((List.length xs) - 0)))) τ v)) ok13 (YldM.toL (m_copyO (i := 0) (j := (0 + 1)) Tryz.underlying30 Tryz.inf3 (by decide) o31 o29 (D10.dn 4 (by decide) rfl rfl) (D10.dn 7 (by decide) rfl rfl) (one_map (fun _ => one_val rfl)) (by omega) (by omega) (by omega))) fun a14 s14 hs4 ok14 r4 sm4 => ?_
    have F14 := (F12.step0 D10.stp).stepL hs4 (by decide); have q63 := kpL hs4 (by decide) (sm4 9 (by decide)) (D10.kt q58 rfl); have o33 := Own.keepL o29 hs4 (by decide) (by decide); have o34 := Own.keepL o30 hs4 (by decide) (by decide)
    have q64 : At (Ty.nat ((List.length xs) - 0)) s14 a14 (.tmp 54) := (r4).1
    have o32 : Own s14 61 3 1 x1 (((List.length xs) + 1) - 0) (List.map Ty.int (((List.replicate (((List.length xs) + 1) - 0) 0).take 0 ++ ys.drop 0 ++ (List.replicate (((List.length xs) + 1) - 0) 0).drop (0 + (1 - 0))).take (0 + 1) ++ xs.drop 0 ++ ((List.replicate (((List.length xs) + 1) - 0) 0).take 0 ++ ys.drop 0 ++ (List.replicate (((List.length xs) + 1) - 0) 0).drop (0 + (1 - 0))).drop ((0 + 1) + ((List.length xs) - 0)))) := cvo rfl (by simp only [List.map_append, List.map_take, List.map_drop]) (r4).2
    clear r4; refine wpList_nil (tn (wp_seq ?_))
    refine gI a14 s14 ok14 (gM q63 (gB 0 (gE ok14 fun a15 s15 ok15 D11 => ?_))); have o35 := Own.k0 o33 D11.stp; have o36 := Own.k0 o34 D11.stp; have o37 := Own.k0 o32 D11.stp
    have q65 : At (Ty.val x1) s15 a15 (.tmp 6) := D11.done 1
    refine tn (wp_ret (tr ?_))
    obtain ⟨t1, e1, h1, o38⟩ := Own.retag (k' := 40) o37 (by decide) (by decide)
    rw [← e1]
    have F16 := (F14.step0 D11.stp).step h1 (by decide); have o39 := Own.keepL o35 (h1.toL (L := [61]) (by simp)) (by decide) (by decide); have o40 := Own.keepL o36 (h1.toL (L := [61]) (by simp)) (by decide) (by decide); have q66 := Ty.up (Ty.val x1) (h1.le (by decide)) q65
    exact retL1 rfl ok15 F16 ⟨x1, q66, (cvo (by (obtain ⟨c, rfl⟩ := hys; first | (simp; done) | (simp; omega) | exact ins_tail hx1)) (by (obtain ⟨c, rfl⟩ := hys; first | (simp; done) | (simp; omega) | exact ins_tail hx1)) o38)⟩
   ·
    refine wp_skip (tn (wp_seq ?_))
    refine gI a7 s7 ok7 (gM q27 (gM q31 (gM q30 (gT (Ty.nat ((List.length xs) + 1)) rfl (fun G H I J O d0 d1 => rP ((y_add (ed d0 rfl rfl rfl) (ed d1 rfl rfl rfl) (w64 (by omega) (by omega))).mono (fun τ _ h => cvi (σ := τ) (by first | omega | exact (Int.natCast_mul _ _).symm) h))) (gT (Ty.val (preOf x ((List.length xs) + 1))) rfl (fun G H I J O d0 d1 => rP (y_preX (h := ((List.length xs) + 1)) Tryz.underlying30 Tryz.inf3 (Own.k0 o13 I) (ed d0 rfl rfl rfl) (ed d1 rfl rfl rfl) (by omega))) (gB 0 (gE ok7 fun a16 s16 ok16 D12 => ?_))))))); have q67 := D12.kt q28 rfl; have q68 := D12.kt q29 rfl; have q69 := D12.kt q30 rfl; have o41 := Own.k0 o13 D12.stp; have o42 := Own.k0 o14 D12.stp; have q71 := D12.dn 5 rfl rfl; refine tn (wp_seq (wp_seq ?_))
    have hfx : SlForm (preOf x ((List.length xs) + 1)) ((List.length xs) + 1) := SlForm.pre (Own.form o41) (by omega)
    refine gI a16 s16 ok16 (gM q68 (gM q71 (gM q67 (gM q69 (gT (Ty.nat (0 + 1)) rfl (fun G H I J O d0 d1 => rP ((y_add (ed d0 rfl rfl rfl) (ed d1 rfl rfl rfl) (w64 (by omega) (by omega))).mono (fun τ _ h => cvi (σ := τ) (by first | omega | exact (Int.natCast_mul _ _).symm) h))) (gT (Ty.val (sufOf (preOf x ((List.length xs) + 1)) (0 + 1))) rfl (fun G H I J O d0 d1 => rP (y_sufF (j := (0 + 1)) Tryz.underlying30 Tryz.inf3 hfx (ed d0 rfl rfl rfl) (ed d1 rfl rfl rfl) (by omega))) (gT (Ty.bool false) rfl (fun G H I J O d0 d1 => rP (y_ovl (tr := 4) (h := ((List.length xs) + 1)) (j := (0 + 1)) Tryz.underlying30 Tryz.inf3 (Own.k0 o42 I) (Own.k0 o41 I) (by decide) (by omega) (by omega) (ed d0 rfl rfl rfl) (ed d1 rfl rfl rfl) (by omega) (fun args_ w_ => run_callFunc_extern Tryz.func133 (by kernel_rfl) (by kernel_rfl) (by kernel_rfl) (by kernel_rfl) args_ w_) Tryz.func133)) (gS rfl (fun G H I J O d0 => rP (y_not (ed d0 rfl rfl rfl))) (gE ok16 fun a17 s17 ok17 D13 => ?_))))))))); have q72 := D13.kt q67 rfl; have q76 := D13.kt q71 rfl; have o43 := Own.k0 o41 D13.stp; have o44 := Own.k0 o42 D13.stp; refine tn ?_
    refine cond_t (D13.dn 7 rfl rfl) (fun c4 => ?_) (fun c4 => ?_)
    ·
     refine wp_seq ?_
     refine gI a17 s17 ok17 (gM q76 (gM q72 (gM (D13.kt q69 rfl) (gT (Ty.nat (0 + 1)) rfl (fun G H I J O d0 d1 => rP ((y_add (ed d0 rfl rfl rfl) (ed d1 rfl rfl rfl) (w64 (by omega) (by omega))).mono (fun τ _ h => cvi (σ := τ) (by first | omega | exact (Int.natCast_mul _ _).symm) h))) (gT (Ty.val (sufOf (preOf x ((List.length xs) + 1)) (0 + 1))) rfl (fun G H I J O d0 d1 => rP (y_sufF (j := (0 + 1)) Tryz.underlying30 Tryz.inf3 hfx (ed d0 rfl rfl rfl) (ed d1 rfl rfl rfl) (by omega))) (gM q76 (gM q72 (gT (Ty.val (sufOf (preOf x ((List.length xs) + 1)) 0)) rfl (fun G H I J O d0 d1 => rP (y_sufF (j := 0) Tryz.underlying30 Tryz.inf3 hfx (ed d0 rfl rfl rfl) (ed d1 rfl rfl rfl) (by omega))) (gE2 ok17 fun a18 s18 ok18 D14 => ?_))))))))); have o45 := Own.k0 o43 D14.stp; have o46 := Own.k0 o44 D14.stp
     refine tL (R := (fun v τ => Pr.has (Pr.cpd 40 3 ((List.length xs) + 1) (preOf x ((List.length xs) + 1)) (List.length xs) ((List.map Ty.int xs).take 1 ++ (List.map Ty.int xs))) τ v)) ok18 (YldM.toL (m_copyX Tryz.underlying30 Tryz.inf3 (by decide) o45 (by omega) (by omega) (D14.dn 4 (by decide) rfl rfl) (D14.dn 7 (by decide) rfl rfl) (one_map (fun _ => one_val rfl)))) fun a19 s19 hs5 ok19 r5 sm5 => ?_
     have F20 := (((F7.step0 D12.stp).step0 D13.stp).step0 D14.stp).stepL hs5 (by decide); have q83 := kpL hs5 (by decide) (sm5 1 (by decide)) (D14.kt q72 rfl); have q84 := kpL hs5 (by decide) (sm5 2 (by decide)) (D14.kt (D13.kt q68 rfl) rfl); have q85 := kpL hs5 (by decide) (sm5 0 (by decide)) (D14.kt q76 rfl); have o48 := Own.keepL o46 hs5 (by decide) (by decide)
     have q86 : At (Ty.nat (List.length xs)) s19 a19 (.tmp 77) := (r5).1
     have o47 : Own s19 40 3 1 (preOf x ((List.length xs) + 1)) ((List.length xs) + 1) (List.map Ty.int (xs.take 1 ++ xs)) := cvo rfl (by simp only [List.map_append, List.map_take]) (r5).2
     clear r5; refine wpList_nil (tn (wp_seq ?_))
     refine gI a19 s19 ok19 (gM q85 (gM q83 (gT (Ty.val (sufOf (preOf x ((List.length xs) + 1)) 0)) rfl (fun G H I J O d0 d1 => rP (y_suf (j := 0) Tryz.underlying30 Tryz.inf3 (Own.k0 o47 I) (ed d0 rfl rfl rfl) (ed d1 rfl rfl rfl) (by omega))) (gM q84 (gE2 ok19 fun a20 s20 ok20 D15 => ?_))))); have o49 := Own.k0 o48 D15.stp; have o50 := Own.k0 o47 D15.stp
     refine tL (R := (fun v τ => Pr.has (Pr.cpd 40 3 ((List.length xs) + 1) (preOf x ((List.length xs) + 1)) (1 - 0) ((List.map Ty.int (xs.take 1 ++ xs)).take 0 ++ (List.map Ty.int ys).drop 0 ++ (List.map Ty.int (xs.take 1 ++ xs)).drop (0 + (1 - 0)))) τ v)) ok20 (YldM.toL (m_copyO (i := 0) (j := 0) Tryz.underlying30 Tryz.inf3 (by decide) o50 o49 (D15.dn 2 (by decide) rfl rfl) (((D15.dn 3 (by decide) rfl rfl) : _ = _).trans (Own.suf0 o49 (by omega)).symm) (one_map (fun _ => one_val rfl)) (by omega) (by omega) (by omega))) fun a21 s21 hs6 ok21 r6 sm6 => ?_
     have F22 := (F20.step0 D15.stp).stepL hs6 (by decide); have q90 := kpL hs6 (by decide) (sm6 0 (by decide)) (D15.kt q85 rfl); have o52 := Own.keepL o49 hs6 (by decide) (by decide)
     have q91 : At (Ty.nat (1 - 0)) s21 a21 (.tmp 82) := (r6).1
     have o51 : Own s21 40 3 1 (preOf x ((List.length xs) + 1)) ((List.length xs) + 1) (List.map Ty.int ((xs.take 1 ++ xs).take 0 ++ ys.drop 0 ++ (xs.take 1 ++ xs).drop (0 + (1 - 0)))) := cvo rfl (by simp only [List.map_append, List.map_take, List.map_drop]) (r6).2
     clear r6; refine wpList_nil (tn (wp_seq ?_))
     refine gI a21 s21 ok21 (gM q90 (gB 0 (gE ok21 fun a22 s22 ok22 D16 => ?_))); have o53 := Own.k0 o52 D16.stp; have o54 := Own.k0 o51 D16.stp; refine tn (wp_ret (tr ?_))
     exact retL1 rfl ok22 (F22.step0 D16.stp) ⟨(preOf x ((List.length xs) + 1)), (D16.dn 1 rfl rfl), (cvo (by (obtain ⟨c, rfl⟩ := hys; first | (simp; done) | (simp; omega) | exact ins_tail hx1)) (by (obtain ⟨c, rfl⟩ := hys; first | (simp; done) | (simp; omega) | exact ins_tail hx1)) o54)⟩
    ·
     exfalso
     simp at c4

theorem Tryz.inf4 : Info Tryz.prog 4 (.bool false) 1 1 := by unfold Info; kernel_rfl
theorem Tryz.fld107_0 : fieldOf Tryz.prog 107 0 = some (3, 0) := by kernel_rfl
theorem Tryz.fld107_2 : fieldOf Tryz.prog 107 2 = some (22, 2) := by kernel_rfl
theorem Tryz.fld107_6 : fieldOf Tryz.prog 107 6 = some (4, 6) := by kernel_rfl
set_option maxHeartbeats 4000000 in
set_option maxRecDepth 100000 in
theorem put_fn (r av bv sv : Value) (n : Int) (blk : List (List Int)) (mir : Bool) (opn : Bool) (dot : Bool) (l : List Int) (σ : GW) (hlow : Low [40, 42] σ) (v0 v1 : Value) (hv0 : Ty.has (Ty.val r) σ v0) (hv1 : Ty.has (Ty.lst Ty.int l) σ v1) (ho_r : OwnP σ 40 r [(Ty.int n), (Ty.val av), (Ty.val bv), (Ty.bool mir), (Ty.val sv), (Ty.bool opn), (Ty.bool dot)]) (ho_bv : Own σ 42 30 1 bv (List.length blk) (List.map Ty.ints blk)) (hb : blk.length ≤ 1000) (hn : -1000 ≤ n ∧ n ≤ 1000) :
    FnP Tryz.prog 101 #[v0, v1] σ [40, 42] (fun v τ => ∃ (bz : Value), True ∧ (OwnP τ 40 r [(Ty.int n), (Ty.val av), (Ty.val bz), (Ty.bool mir), (Ty.val sv), (Ty.bool opn), (Ty.bool true)]) ∧ (Own τ 42 30 1 bz (List.length (blk ++ [l])) (List.map Ty.ints (blk ++ [l]))) ∧ ((plPutE n blk.length l) = 0)) (fun c_ => c_ = fltC 103 (plPutE n blk.length l) ∧ (plPutE n blk.length l) ≠ 0) := by
 refine fn_introP hlow Tryz.func101 rfl Tryz.ntmps101 (Nat.le_of_ble_eq_true rfl) (fun a0 F0 ok0 hargs => ?_)
 have p0 := pB (hargs 0 _ rfl) hv0
 have p1 := pB (hargs 1 _ rfl) hv1
 have b1 := sl_le p1
 clear hargs; refine wp_seq (wp_seq ?_)
 refine gI a0 σ ok0 (gM p0 (gT (Ty.val r) rfl (fun G H I J O d0 => rP (y_nilp (OwnP.k0 ho_r I) (ed d0 rfl rfl rfl))) (gT (Ty.val (ptrAt r 0)) rfl (fun G H I J O d0 => rP (ownp_field Tryz.fld107_0 Tryz.inf3 (by decide) (OwnP.k0 ho_r I) (ed d0 rfl rfl rfl))) (gS rfl (fun G H I J O d0 => rP (ownp_load Tryz.underlying3 rfl (OwnP.k0 ho_r I) (ed d0 rfl rfl rfl) rfl)) (gM p1 (gS rfl (fun G H I J O d0 d1 => rP (y_call _ Tryz.func36 rfl rfl my2 (pCheck_fn (n) (l) _ _ _ (ed d0 rfl rfl rfl) (ed d1 rfl rfl rfl) (by omega)))) (gB 0 (gE ok0 fun a1 s1 ok1 D1 => ?_)))))))); have o1 := OwnP.k0 ho_r D1.stp; have o2 := Own.k0 ho_bv D1.stp; have q3 := D1.dn 6 rfl rfl; refine tn (wp_seq ?_)
 refine gI a1 s1 ok1 (gM q3 (gS rfl (fun G H I J O d0 => rP (y_neq (ed d0 rfl rfl rfl) rfl)) (gE ok1 fun a2 s2 ok2 D2 => ?_))); have F2 := (F0.step0 D1.stp).step0 D2.stp; have q4 := D2.kt (D1.kt p0 rfl) rfl; have q5 := D2.kt (D1.kt p1 rfl) rfl; have o3 := OwnP.k0 o1 D2.stp; have o4 := Own.k0 o2 D2.stp; refine tn ?_
 refine cond_p (p := ((chgMay n l) ≠ (0 : Int))) (D2.dn 1 rfl rfl) (fun c1 => ?_) (fun c1 => ?_)
 ·
  refine gI a2 s2 ok2 (gM (D2.kt q3 rfl) (gE2 ok2 fun a3 s3 ok3 D3 => ?_)); have F3 := F2.step0 D3.stp; have o5 := OwnP.k0 o3 D3.stp; have o6 := Own.k0 o4 D3.stp
  refine tailP (L := []) (R := (fun v τ' => ∃ τ, (fun v τ => True ∧ (((chgMay n l)) = 0)) v τ ∧ Back [] τ τ')) (E := (fun c_ => c_ = fltC 103 ((chgMay n l)) ∧ ((chgMay n l)) ≠ 0)) rfl rfl (by decide) ok3 (y_callP (L := []) [] [] #[a3.eval (.tmp 13)] rfl (by decide) Tryz.func102 rfl rfl (by simp only [List.map_toArray, List.map_cons, List.map_nil]) (fail_fn ((chgMay n l)) _ (GW.low_lend _ (by decide)) _ (Ty.up _ (GW.le_lend _ _) (cvi (σ := s3) (by omega) (D3.dn 0 (by decide) rfl rfl)))  (by omega))) (fun c_ t_ hs_ he_ => panB ok3 (F3.stepL hs_ (by decide)) (fltTo (fun h_ => by exact putE_1 c1) he_)) (fun a4 s4 hs1 ok4 r1 sm1 => ?_)
  have F4 := F3.stepL hs1 (by decide); have q11 := kpL hs1 (by decide) (sm1 0 (by decide)) (D3.kt q4 rfl); have q12 := kpL hs1 (by decide) (sm1 1 (by decide)) (D3.kt q5 rfl); have o7 := OwnP.keepL o5 hs1 (by decide) (by decide); have o8 := Own.keepL o6 hs1 (by decide) (by decide)
  obtain ⟨t1, ⟨hT1, hp1⟩, B1⟩ := r1
  exact absurd hp1 (by first | decide | assumption | omega)
 ·
  refine wp_skip (tn (wp_seq ?_))
  refine gI a2 s2 ok2 (gM q4 (gM q4 (gT (Ty.val r) rfl (fun G H I J O d0 => rP (y_nilp (OwnP.k0 o3 I) (ed d0 rfl rfl rfl))) (gT (Ty.val (ptrAt r 2)) rfl (fun G H I J O d0 => rP (ownp_field Tryz.fld107_2 Tryz.inf22 (by decide) (OwnP.k0 o3 I) (ed d0 rfl rfl rfl))) (gS rfl (fun G H I J O d0 => rP (ownp_load Tryz.underlying22 rfl (OwnP.k0 o3 I) (ed d0 rfl rfl rfl) rfl)) (gM q5 (gT (Ty.sl 1 1 [(Ty.lst Ty.int l)]) rfl (fun G H I J O d0 => rP (y_build1o Tryz.underlying22 Tryz.inf30 rfl (one_sl) (ed d0 rfl rfl rfl))) (gE2 ok2 fun a5 s5 ok5 D4 => ?_)))))))); have o9 := OwnP.k0 o3 D4.stp; have o10 := Own.k0 o4 D4.stp; have q17 := D4.dn 6 (by decide) rfl rfl
  have b2 := sl_le q17
  refine tL ok5 (YldM.toL (m_append Tryz.underlying22 Tryz.inf30 (by decide) rfl (by decide) (al (R := (Pr.own 42 30 1 (List.length blk) (List.map Ty.ints blk))) (D4.dn 4 (by decide) rfl rfl) o10) q17 (by intro U hU; simp at hU; subst hU; exact one_sl) (by omega) (by omega))) fun a6 s6 hs2 ok6 r2 sm2 => ?_
  have F6 := (F2.step0 D4.stp).stepL hs2 (by decide); have q18 := kpL hs2 (by decide) (sm2 0 (by decide)) (D4.kt q4 rfl); have q19 := kpL hs2 (by decide) (sm2 15 (by decide)) (D4.dn 0 (by decide) rfl rfl); have o12 := OwnP.keepL o9 hs2 (by decide) (by decide)
  obtain ⟨x1, hx1⟩ : ∃ x, a6.eval (.tmp 22) = x := ⟨_, rfl⟩
  have q20 : At (Ty.val x1) s6 a6 (.tmp 22) := hx1
  have o11 := al2 (R := (Pr.own 42 30 1 (List.length (blk ++ [l])) (List.map Ty.ints (blk ++ [l])))) hx1 (cvo (by simp) (by first | (rw [List.map_append]; rfl) | simp) r2)
  clear r2
  refine tL (R := (fun v τ => Pr.has (Ty.pr (Ty.val r)) τ v)) ok6 (Yld.toL (y_nilp o12 q19)) fun a7 s7 hs3 ok7 r3 sm3 => ?_
  have F7 := F6.stepL hs3 (by decide); have q21 := kpL hs3 (by decide) (sm3 0 (by decide)) q18; have q22 := kpL hs3 (by decide) (sm3 22 (by decide)) q20; have o13 := OwnP.keepL o12 hs3 (by decide) (by decide); have o14 := Own.keepL o11 hs3 (by decide) (by decide)
  have q23 : At (Ty.val r) s7 a7 (.tmp 23) := r3
  clear r3
  refine tL (R := (fun v τ => Pr.has (Ty.pr (Ty.val (ptrAt r 2))) τ v)) ok7 (Yld.toL (ownp_field Tryz.fld107_2 Tryz.inf22 (by decide) o13 q23)) fun a8 s8 hs4 ok8 r4 sm4 => ?_
  have F8 := F7.stepL hs4 (by decide); have q24 := kpL hs4 (by decide) (sm4 0 (by decide)) q21; have q25 := kpL hs4 (by decide) (sm4 22 (by decide)) q22; have o15 := OwnP.keepL o13 hs4 (by decide) (by decide); have o16 := Own.keepL o14 hs4 (by decide) (by decide)
  have q26 : At (Ty.val (ptrAt r 2)) s8 a8 (.tmp 24) := r4
  clear r4
  refine tailL0 (L := [40]) (R := (fun _ τ => OwnP τ 40 r ([(Ty.int n), (Ty.val av), (Ty.val bv), (Ty.bool mir), (Ty.val sv), (Ty.bool opn), (Ty.bool dot)].set 2 (Ty.val x1)))) rfl rfl (YldM.toL (m_storep Tryz.inf22 (by decide) o15 q26 (Nat.le_of_ble_eq_true rfl) q25 (one_val (Own.one o16)))) (fun v1 s9 hs5 r5 => ?_)
  have F9 := F8.stepL hs5 (by decide); have q27 := kpL hs5 (by decide) rfl q24; have o18 := Own.keepL o16 hs5 (by decide) (by decide)
  have o17 : OwnP s9 40 r [(Ty.int n), (Ty.val av), (Ty.val x1), (Ty.bool mir), (Ty.val sv), (Ty.bool opn), (Ty.bool dot)] := r5
  clear r5; refine wpList_nil (tn (wp_seq ?_))
  refine gI a8 s9 ok8 (gM q27 (gT (Ty.val r) rfl (fun G H I J O d0 d1 => rP (y_nilp (OwnP.k0 o17 I) (ed d0 rfl rfl rfl))) (gT (Ty.val (ptrAt r 6)) rfl (fun G H I J O d0 d1 => rP (ownp_field Tryz.fld107_6 Tryz.inf4 (by decide) (OwnP.k0 o17 I) (ed d0 rfl rfl rfl))) (gE2 ok8 fun a9 s10 ok9 D5 => ?_)))); have o19 := Own.k0 o18 D5.stp; have o20 := OwnP.k0 o17 D5.stp
  refine tailL0 (L := [40]) (R := (fun _ τ => OwnP τ 40 r ([(Ty.int n), (Ty.val av), (Ty.val x1), (Ty.bool mir), (Ty.val sv), (Ty.bool opn), (Ty.bool dot)].set 6 (Ty.bool true)))) rfl rfl (YldM.toL (m_storep Tryz.inf4 (by decide) o20 (D5.dn 2 (by decide) rfl rfl) (Nat.le_of_ble_eq_true rfl) rfl (one_val rfl))) (fun v2 s11 hs6 r6 => ?_)
  have F11 := (F9.step0 D5.stp).stepL hs6 (by decide); have q31 := kpL hs6 (by decide) rfl (D5.kt q27 rfl); have o22 := Own.keepL o19 hs6 (by decide) (by decide)
  have o21 : OwnP s11 40 r [(Ty.int n), (Ty.val av), (Ty.val x1), (Ty.bool mir), (Ty.val sv), (Ty.bool opn), (Ty.bool true)] := r6
  clear r6; refine wpList_nil (tn (wp_seq ?_))
  refine gI a9 s11 ok9 (gM q31 (gT (Ty.val r) rfl (fun G H I J O d0 => rP (y_nilp (OwnP.k0 o21 I) (ed d0 rfl rfl rfl))) (gT (Ty.val (ptrAt r 2)) rfl (fun G H I J O d0 => rP (ownp_field Tryz.fld107_2 Tryz.inf22 (by decide) (OwnP.k0 o21 I) (ed d0 rfl rfl rfl))) (gS rfl (fun G H I J O d0 => rP (ownp_load Tryz.underlying22 rfl (OwnP.k0 o21 I) (ed d0 rfl rfl rfl) rfl)) (gT (Ty.nat (List.length (blk ++ [l]))) rfl (fun G H I J O d0 => rP (own_len Tryz.underlying22 (al (R := (Pr.own 42 30 1 (List.length (blk ++ [l])) (List.map Ty.ints (blk ++ [l])))) (ed d0 rfl rfl rfl) (Own.k0 o22 I)))) (gS rfl (fun G H I J O d0 => rP (y_gtr (ed d0 rfl rfl rfl) rfl)) (gE ok9 fun a10 s12 ok10 D6 => ?_))))))); have F12 := F11.step0 D6.stp; have o23 := Own.k0 o22 D6.stp; have o24 := OwnP.k0 o21 D6.stp; refine tn ?_
  refine cond_p (p := ((200 : Int) < (((List.length (blk ++ [l])) : Nat) : Int))) (D6.dn 5 rfl rfl) (fun c2 => ?_) (fun c2 => ?_)
  ·
   refine gI a10 s12 ok10 (gE2 ok10 fun a11 s13 ok11 D7 => ?_); have F13 := F12.step0 D7.stp; have o25 := Own.k0 o23 D7.stp; have o26 := OwnP.k0 o24 D7.stp
   refine tailP (L := []) (R := (fun v τ' => ∃ τ, (fun v τ => True ∧ (((3 : Int)) = 0)) v τ ∧ Back [] τ τ')) (E := (fun c_ => c_ = fltC 103 ((3 : Int)) ∧ ((3 : Int)) ≠ 0)) rfl rfl (by decide) ok11 (y_callP (L := []) [] [] #[a11.eval ((Operand.const (Value.int IntKind.i64 3)))] rfl (by decide) Tryz.func102 rfl rfl (by simp only [List.map_toArray, List.map_cons, List.map_nil]) (fail_fn ((3 : Int)) _ (GW.low_lend _ (by decide)) _ (Ty.up _ (GW.le_lend _ _) (cvi (σ := s13) (by omega) rfl))  (by omega))) (fun c_ t_ hs_ he_ => panB ok11 (F13.stepL hs_ (by decide)) (fltTo (fun h_ => by exact putE_2 c1 (by rw [List.length_append, List.length_singleton] at c2; omega)) he_)) (fun a12 s14 hs7 ok12 r7 sm5 => ?_)
   have F14 := F13.stepL hs7 (by decide); have o27 := Own.keepL o25 hs7 (by decide) (by decide); have o28 := OwnP.keepL o26 hs7 (by decide) (by decide)
   obtain ⟨t2, ⟨hT2, hp2⟩, B2⟩ := r7
   exact absurd hp2 (by first | decide | assumption | omega)
  ·
   refine wp_skip ?_
   refine toPn ?_
   exact nL0 rfl ok10 F12 ⟨x1, trivial, o24, o23, (by exact putE_0 c1 (by rw [List.length_append, List.length_singleton] at c2; omega))⟩


end Go.Proofs.YtdjihbjikpbhgaaGreatDoor
