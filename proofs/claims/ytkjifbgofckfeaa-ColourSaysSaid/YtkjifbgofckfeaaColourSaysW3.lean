/- The functions that the law ColourSays reaches, each by its contract. Part 3. -/
import Derived.Test.YtkjifbgofckfeaaColourSaysW2
namespace Go.Proofs.Ytkjifbgofckfeaa
open Go.KL
theorem Try.inf93:Info Try.prog 93 (.slice none 0 0) 1 24:=by unfold Info;kernel_rfl
theorem Try.inf108:Info Try.prog 108 (.pointer none) 1 8:=by unfold Info;kernel_rfl
theorem Try.inf109:Info Try.prog 109 (.map none) 1 8:=by unfold Info;kernel_rfl
theorem Try.fld95_0:fieldOf Try.prog 95 0 = some (3,0):=by kernel_rfl
theorem Try.fld95_2:fieldOf Try.prog 95 2 = some (93,2):=by kernel_rfl
theorem Try.fld111_0:fieldOf Try.prog 111 0 = some (3,0):=by kernel_rfl
theorem Try.fld111_1:fieldOf Try.prog 111 1 = some (109,1):=by kernel_rfl
set_option maxHeartbeats 4000000 in
set_option maxRecDepth 100000 in
theorem sift_fn (gv:Value) (gs:Value) (cs:Value) (us:List Value) (n:Nat) (k:Nat) (c:Nat → Lev) (r:List Int) (σ:GW) (hlow:Low [41,42] σ) (v0 v1 v2:Value) (hv0:Ty.has (Ty.val gv) σ v0) (hv1:Ty.has (Ty.nat k) σ v1) (hv2:Ty.has (Ty.lst Ty.int r) σ v2) (ho_gv:OwnP σ 41 gv [(Ty.nat n),(Ty.val gs),(Ty.val cs)]) (ho_cs:ChnU σ 42 22 108 cs n c us) (hw:WC n c) (hkn:k ≤ n) (hr:RowN n r) (hf:Fx k r) :
    FnL Try.prog 77 #[v0,v1,v2] σ [41,42] (fun v τ=>(Ty.has (Ty.tup2 (Ty.nat (sftL n c k r).1) (Ty.lst Ty.int (sftL n c k r).2)) τ v)∧(OwnP τ 41 gv [(Ty.nat n),(Ty.val gs),(Ty.val cs)])∧(ChnU τ 42 22 108 cs n c us)):=by
 have hnn:=hw.nn
 refine fn_introL hlow Try.func77 rfl Try.ntmps77 (Nat.le_of_ble_eq_true rfl) (fun a0 F0 ok0 hargs=>?_)
 have p0:=pB (hargs 0 _ rfl) hv0
 have p1:=pB (hargs 1 _ rfl) hv1
 have p2:=pB (hargs 2 _ rfl) hv2
 have b1:=sl_le p2
 clear hargs;refine wp_seq ?_
 refine gI a0 σ ok0 (gC (Ty.int (0:Int)) (gC (Ty.val (Value.slice none 0 0)) (gE ok0 fun a1 s1 ok1 D1=>?_)));have o1:=OwnP.k0 ho_gv D1.stp;have o2:=ChnU.k0 ho_cs D1.stp;refine tn (wp_seq (wp_block ?_))
 refine loop (fun n1 a2 w1=>∃ (t1:GW) (j:Nat) (q:(List Int)),t1.w = w1∧FromL [41,42] σ t1∧Ok 49 [] a2∧At (Ty.nat j) t1 a2 (.tmp 1)∧At (Ty.lst Ty.int q) t1 a2 (.tmp 2)∧At (Ty.val gv) t1 a2 (.tmp 0)∧OwnP t1 41 gv [(Ty.nat n),(Ty.val gs),(Ty.val cs)]∧ChnU t1 42 22 108 cs n c us∧(j ≤ n)∧(RowN n q)∧(Fx j q)∧(sftL n c j q = sftL n c k r)∧n1 = n - j) (n - (k)) ?_ ?_
 ·
  exact ⟨s1,k,r,rfl,(F0.step0 D1.stp),ok1,(cJ (D1.k p1)),(cvt (by (first | rfl | omega | (simp_all;done) | (simp_all;omega))) (D1.k p2)),(D1.k p0),o1,o2,hkn,hr,hf,rfl,rfl⟩
 ·
  rintro n2 a3 w2 ⟨t2,j,q,rfl,F2,ok2,q4,q5,q6,o3,o4,hj,hq,hfj,E,rfl⟩
  have hql:=hq.len
  refine wp_seq (wp_seq ?_)
  refine gI a3 t2 ok2 (gM q4 (gM q6 (gT (Ty.val gv) rfl (fun A B E G H d0=>rP (y_nilp (OwnP.k0 o3 E) (eI d0))) (gT (Ty.val (ptrAt gv 0)) rfl (fun A B E G H d0=>rP (ownp_field Try.fld95_0 Try.inf3 dE (OwnP.k0 o3 E) (eI d0))) (gS rfl (fun A B E G H d0=>rP (ownp_load Try.underlying3 rfl (OwnP.k0 o3 E) (eI d0) rfl)) (gS rfl (fun A B E G H d0 d1=>rP (y_lss (eI d0) (eI d1))) (gE ok2 fun a4 s2 ok3 D2=>?_)))))));have F3:=F2.step0 D2.stp;have q7:=D2.k q4;have q8:=D2.k q5;have q9:=D2.k q6;have o5:=OwnP.k0 o3 D2.stp;have o6:=ChnU.k0 o4 D2.stp;refine tn ?_
  refine cond_p (p:=(((j:Nat):Int) < ((n:Nat):Int))) (D2.m 5 rfl) (fun c1=>?_) (fun c1=>?_)
  ·
   refine wp_skip (tn (wp_seq (wp_block (wp_seq ?_))))
   have o7:Own s2 42 108 1 cs n (List.map Ty.val us):=ChnU.row o6
   have hul1:=ChnU.ul o6
   refine gI a4 s2 ok3 (gM q9 (gT (Ty.val gv) rfl (fun A B E G H d0=>rP (y_nilp (OwnP.k0 o5 E) (eI d0))) (gT (Ty.val (ptrAt gv 2)) rfl (fun A B E G H d0=>rP (ownp_field Try.fld95_2 Try.inf93 dE (OwnP.k0 o5 E) (eI d0))) (gS rfl (fun A B E G H d0=>rP (ownp_load Try.underlying93 rfl (OwnP.k0 o5 E) (eI d0) rfl)) (gM q7 (gT (Ty.val (cellPtr cs j)) rfl (fun A B E G H d0 d1=>rP (own_index1 (i:=((j:Nat):Int)) Try.underlying93 Try.inf108 (Own.k0 o7 E) (eI d0) (eI d1) oM oM)) (gS rfl (fun A B E G H d0=>rP (own_load Try.underlying108 rfl (Own.k0 o7 E) (eI d0) (lst_get Ty.val us undef j oM))) (gB 0 (gE ok3 fun a5 s3 ok4 D3=>?_)))))))));have q12:=D3.k q8;have o8:=OwnP.k0 o5 D3.stp;have o9:=Own.k0 o7 D3.stp;have o10:=ChnU.k0 o6 D3.stp;have q14:=D3.m 7 rfl
   obtain ⟨ms1,rs1,hN1⟩:=o10
   have o11:ChnU s3 42 22 108 cs n c us:=⟨ms1,rs1,hN1⟩
   have hl1:=hN1.lev j oM
   obtain ⟨mq1,hmq1⟩:∃ x_,ms1 j = x_:=⟨_,rfl⟩
   obtain ⟨rq1,hrq1⟩:∃ x_,rs1 j = x_:=⟨_,rfl⟩
   have o12:OwnP s3 42 (us.getD j undef) [(Ty.nat j),(Ty.val mq1),(Ty.val rq1)]:=by have h_:=hl1.p;simp only [hmq1,hrq1] at h_;exact h_
   have o13:OwnM Ty.ints kI s3 42 mq1 (c j).orb:=by have h_:=hl1.m;simp only [hmq1,hrq1] at h_;exact h_
   refine tn (wp_seq ?_)
   refine gI a5 s3 ok4 (gM q14 (gT (Ty.val (us.getD j undef)) rfl (fun A B E G H d0=>rP (y_nilp (OwnP.k0 o12 E) (eI d0))) (gT (Ty.val (ptrAt (us.getD j undef) 1)) rfl (fun A B E G H d0=>rP (ownp_field Try.fld111_1 Try.inf109 dE (OwnP.k0 o12 E) (eI d0))) (gS rfl (fun A B E G H d0=>rP (ownp_load Try.underlying109 rfl (OwnP.k0 o12 E) (eI d0) rfl)) (gM q12 (gM q14 (gT (Ty.val (us.getD j undef)) rfl (fun A B E G H d0=>rP (y_nilp (OwnP.k0 o12 E) (eI d0))) (gT (Ty.val (ptrAt (us.getD j undef) 0)) rfl (fun A B E G H d0=>rP (ownp_field Try.fld111_0 Try.inf3 dE (OwnP.k0 o12 E) (eI d0))) (gS rfl (fun A B E G H d0=>rP (ownp_load Try.underlying3 rfl (OwnP.k0 o12 E) (eI d0) rfl)) (gT (Ty.ref [(Ty.int (q.getD j 0))]) rfl (fun A B E G H d0 d1=>rP (y_index1 Try.underlying22 Try.inf3 (eI d0) (eI d1) oM (lst_get Ty.int q 0 j oM))) (gS rfl (fun A B E G H d0=>rP (y_load Try.underlying3 rfl (eI d0) rfl)) (gT (Ty.tup2 (Ty.lst Ty.int (((c j).orb (q.getD j 0)).getD [])) (Ty.bool (Option.isSome ((c j).orb (q.getD j 0))))) rfl (fun A B E G H d0 d1=>rP (y_lookup2 (i:=(q.getD j 0)) (z:=[]) Try.underlying109 (keyInt Try.underlying3) Try.inf22 (fun _=>sl_nil) (OwnM.k0 o13 E) (eI d0) (eI d1))) (gS rfl (fun A B E G H d0=>rP (y_move (eI d0))) (gT (Ty.lst Ty.int (((c j).orb (q.getD j 0)).getD [])) rfl (fun A B E G H d0=>rP (y_ext2_0 (eI d0))) (gT (Ty.bool (Option.isSome ((c j).orb (q.getD j 0)))) rfl (fun A B E G H d0 d1=>rP (y_ext2_1 (eI d0))) (gB 0 (gB 0 (gE ok4 fun a6 s4 ok5 D4=>?_))))))))))))))))));have o14:=OwnP.k0 o8 D4.stp;have o15:=ChnU.k0 o11 D4.stp;have o16:=OwnP.k0 o12 D4.stp;have o17:=OwnM.k0 o13 D4.stp;refine tn (wp_seq (wp_seq ?_))
   refine gI a6 s4 ok5 (gM (D4.m 16 rfl) (gS rfl (fun A B E G H d0=>rP (y_not (eI d0))) (gE ok5 fun a7 s5 ok6 D5=>?_)));have F6:=((F3.step0 D3.stp).step0 D4.stp).step0 D5.stp;have q20:=D5.k (D4.k (D3.k q7));have q21:=D5.k (D4.k q12);have o18:=OwnP.k0 o14 D5.stp;have o19:=ChnU.k0 o15 D5.stp;refine tn ?_
   refine cond_t (D5.m 1 rfl) (fun c2=>?_) (fun c2=>?_)
   ·
    have ho:((c j).orb (q.getD j 0)) = none:=(by cases h_:((c j).orb (q.getD j 0)) <;> simp_all);have hs2:=E;rw [sft_none oM ho] at hs2
    refine wp_exit (tx ?_)
    refine bo dE ?_
    refine tx (tx (bx (tn (wp_seq ?_))))
    refine gI a7 s5 ok6 (gM q20 (gM q21 (gB 0 (gB 0 (gE ok6 fun a8 s6 ok7 D6=>?_)))));have o20:=OwnP.k0 o18 D6.stp;have o21:=ChnU.k0 o19 D6.stp;refine tn (wp_ret ?_)
    exact retL2 rfl ok7 (F6.step0 D6.stp) ⟨(hasT2 (cvi (by (rw [← hs2])) (D6.m 2 rfl)) (cvt (by (rw [← hs2])) (D6.m 3 rfl))),o20,o21⟩
   ·
    have ho:((c j).orb (q.getD j 0)).isSome = true:=(by cases h_:((c j).orb (q.getD j 0)) <;> simp_all);obtain ⟨hg1,hg2,hg3,hg4,hg5,hg6,hg7⟩:=sift_go hw oM hq hfj ho
    refine wp_skip (tn ?_)
    refine gI a7 s5 ok6 (gM (D5.k (D4.m 15 rfl)) (gS rfl (fun A B E G H d0=>rP (y_call _ Try.func65 rfl rfl my1 (inverse_fn ((((c j).orb (q.getD j 0)).getD [])) _ _ (eI d0) (by assumption)))) (gM q21 (gS rfl (fun A B E G H d0 d1 d2=>rP (y_call _ Try.func64 rfl rfl my2 (product_fn ((undoL ((((c j).orb (q.getD j 0)).getD [])))) (q) _ _ _ (eI d0) (eI d1) (by first | assumption | omega) (by first | assumption | omega) (by first | assumption | omega)))) (gB 0 (gE ok6 fun a9 s7 ok8 D7=>?_))))));have o22:=OwnP.k0 o18 D7.stp;have o23:=ChnU.k0 o19 D7.stp;refine bn (tn ?_)
    refine gI a9 s7 ok8 (gM (D7.k q20) (gT (Ty.nat (j + 1)) rfl (fun A B E G H d0=>rP ((y_add (eI d0) rfl wX).mono (fun τ _ h=>cN (σ:=τ) h))) (gB 0 (gE ok8 fun a10 s8 ok9 D8=>?_))));have o24:=OwnP.k0 o22 D8.stp;have o25:=ChnU.k0 o23 D8.stp
    exact tn ⟨n - ((j + 1)),by omega,s8,(j + 1),(byL (undoL (((c j).orb (q.getD j 0)).getD [])) q),rfl,((F6.step0 D7.stp).step0 D8.stp),ok9,(cJ (D8.m 2 rfl)),(cvt (by (first | rfl | omega | (simp_all;done) | (simp_all;omega))) (D8.k (D7.m 4 rfl))),(D8.k (D7.k (D5.k (D4.k (D3.k q9))))),o24,o25,by omega,hg5,hg6,hg7.trans E,rfl⟩
  ·
   have hs2:=E;rw [show j = n by omega,sft_end (Nat.le_refl n)] at hs2;have ejn:j = n:=oM
   refine wp_exit (tx (tx (bx (tn (wp_seq ?_)))))
   refine gI a4 s2 ok3 (gM q7 (gM q8 (gB 0 (gB 0 (gE ok3 fun a11 s9 ok10 D9=>?_)))));have o26:=OwnP.k0 o5 D9.stp;have o27:=ChnU.k0 o6 D9.stp;refine tn (wp_ret ?_)
   exact retL2 rfl ok10 (F3.step0 D9.stp) ⟨(hasT2 (cvi (by (rw [← hs2];show ((j:Nat):Int) = ((n:Nat):Int);omega)) (D9.m 2 rfl)) (cvt (by (rw [← hs2])) (D9.m 3 rfl))),o26,o27⟩
set_option maxHeartbeats 4000000 in
set_option maxRecDepth 100000 in
theorem cloneRO_fn (x:Value) (xs:List (List Int)) (σ:GW) (hlow:Low [40] σ) (v0:Value) (hv0:Ty.has (Ty.val x) σ v0) (ho_x:Own σ 40 22 1 x (List.length xs) (List.map Ty.ints xs)) (hx1:1 ≤ xs.length) (hx2:xs.length ≤ 1000000) :
    FnL Try.prog 115 #[v0] σ [40] (fun v τ=>∃ (z:Value),(Ty.has (Ty.val z) τ v)∧(Own τ 40 22 1 x (List.length xs) (List.map Ty.ints xs))∧(Own τ 41 22 1 z (List.length xs) (List.map Ty.ints xs))):=by
 refine fn_introL hlow Try.func115 rfl Try.ntmps115 (Nat.le_of_ble_eq_true rfl) (fun a0 F0 ok0 hargs=>?_)
 have p0:=pB (hargs 0 _ rfl) hv0
 clear hargs;refine wp_seq ?_
 refine gI a0 σ ok0 (gC (Ty.val (Value.slice none 0 0)) (gE ok0 fun a1 s1 ok1 D1=>?_));have q1:=D1.k p0;have o1:=Own.k0 ho_x D1.stp;refine tn (wp_seq (wp_seq ?_))
 refine gI a1 s1 ok1 (gM q1 (gT (Ty.bool false) rfl (fun A B E G H d0=>rP (y_ownnil Try.underlying24 (Own.k0 o1 E) oM (eI d0) rfl)) (gE ok1 fun a2 s2 ok2 D2=>?_)));have o2:=Own.k0 o1 D2.stp;refine tn ?_
 refine cond_t (D2.m 1 rfl) (fun c1=>(by cases c1)) (fun _=>?_)
 refine wp_skip (tn (wp_seq ?_))
 refine gI a2 s2 ok2 (gR (Pr.own 41 22 1 0 (List.map Ty.ints ([]:List (List Int)))) rfl (by intro A B E G H;exact rP ((y_lit0 (k:=41) Try.underlying24 Try.inf22).mono (fun _ _ h=>cvo (by simp) (by simp) h))) (gM (D2.k q1) (gE2 ok2 fun a3 s3 ok3 D3=>?_)));have o3:=Own.k0 o2 D3.stp
 obtain ⟨x1,hx1⟩:∃ x,a3.eval (.tmp 5) = x:=⟨_,rfl⟩
 have q4:At (Ty.val x1) s3 a3 (.tmp 5):=hx1
 have o4:=al2 (R:=(Pr.own 41 22 1 0 (List.map Ty.ints ([]:List (List Int))))) hx1 (D3.done 0 dE)
 have q5:At (Ty.val x) s3 a3 (.tmp 6):=D3.done 1 dE
 refine tL (R:=(fun v τ=>Own τ 41 22 1 v (0 + (List.length xs)) ((List.map Ty.ints ([]:List (List Int))) ++ (List.map Ty.ints xs)))) ok3 (YldM.toL (m_appendo Try.underlying24 Try.inf22 dE rfl dE (al (R:=(Pr.own 41 22 1 0 (List.map Ty.ints ([]:List (List Int))))) q4 o4) (al (R:=(Pr.own 40 22 1 (List.length xs) (List.map Ty.ints xs))) q5 o3) (one_map (fun _=>one_sl)) oM oM)) fun a4 s4 hs1 ok4 r1 sm1=>?_
 obtain ⟨x2,hx2⟩:∃ x,a4.eval (.tmp 7) = x:=⟨_,rfl⟩
 have q6:At (Ty.val x2) s4 a4 (.tmp 7):=hx2
 have o5:=al2 (R:=(Pr.own 41 22 1 (List.length xs) (List.map Ty.ints xs))) hx2 (cvo (by first | (simp;done) | (simp;omega)) (by first | (rw [List.map_append];rfl) | (rw [List.flatMap_append];done) | simp) r1)
 clear r1
 refine tL ok4 (Yld.toL (y_as q6)) fun a5 s5 hs2 ok5 r2 sm2=>?_
 have q7:At (Ty.val x2) s5 a5 (.tmp 2):=r2
 clear r2;refine wpList_nil (tn (wp_ret ?_))
 exact retL1 rfl ok5 (((((F0.step0 D1.stp).step0 D2.stp).step0 D3.stp).sl hs1).sl hs2) ⟨x2,q7,(Own.kl (Own.kl o3 hs1) hs2),(Own.kl o5 hs2)⟩
theorem Try.inf24:Info Try.prog 24 (.slice none 0 0) 1 24:=by unfold Info;kernel_rfl
theorem Try.fld111_2:fieldOf Try.prog 111 2 = some (24,2):=by kernel_rfl
def GAddAt (d:Nat):Prop:=∀ (gv:Value) (gs:Value) (cs:Value) (us:List Value) (n:Nat) (k:Nat) (c:Nat → Lev) (r:List Int) (σ:GW) (hlow:Low [41,42] σ) (v0 v1 v2:Value) (hv0:Ty.has (Ty.val gv) σ v0) (hv1:Ty.has (Ty.nat k) σ v1) (hv2:Ty.has (Ty.lst Ty.int r) σ v2) (ho_gv:OwnP σ 41 gv [(Ty.nat n),(Ty.val gs),(Ty.val cs)]) (ho_cs:ChnU σ 42 22 108 cs n c us) (hd:d + k = n) (hp:AddPre n k r c),FnL Try.prog 92 #[v0,v1,v2] σ [41,42] (fun v τ=>∃ (c2:Nat → Lev),True∧(OwnP τ 41 gv [(Ty.nat n),(Ty.val gs),(Ty.val cs)])∧(ChnU τ 42 22 108 cs n c2 us)∧(AddP n k r c c2))
set_option maxHeartbeats 4000000 in
set_option maxRecDepth 100000 in
theorem gExt_fn (d:Nat) (gv:Value) (gs:Value) (cs:Value) (us:List Value) (n:Nat) (k:Nat) (c:Nat → Lev) (r:List Int) (σ:GW) (hlow:Low [41,42] σ) (v0 v1 v2:Value) (hv0:Ty.has (Ty.val gv) σ v0) (hv1:Ty.has (Ty.nat k) σ v1) (hv2:Ty.has (Ty.lst Ty.int r) σ v2) (ho_gv:OwnP σ 41 gv [(Ty.nat n),(Ty.val gs),(Ty.val cs)]) (ho_cs:ChnU σ 42 22 108 cs n c us) (hd:d + (k + 1) = n) (hp:ExtPre n k r c) (hOn:GAddAt d) :
    FnL Try.prog 106 #[v0,v1,v2] σ [41,42] (fun v τ=>∃ (c2:Nat → Lev),True∧(OwnP τ 41 gv [(Ty.nat n),(Ty.val gs),(Ty.val cs)])∧(ChnU τ 42 22 108 cs n c2 us)∧(ExtP n k r c c2)):=by
 have hnn:=hp.wc.nn
 have hkn:=hp.lt
 have hgl:=hp.gl
 have hgn:=hp.gensN
 have hGl:((c k).gens ++ [r]).length ≤ 1000000:=by (rw [List.length_append,List.length_singleton];omega)
 refine fn_introL hlow Try.func106 rfl Try.ntmps106 (Nat.le_of_ble_eq_true rfl) (fun a0 F0 ok0 hargs=>?_)
 have p0:=pB (hargs 0 _ rfl) hv0
 have p1:=pB (hargs 1 _ rfl) hv1
 have p2:=pB (hargs 2 _ rfl) hv2
 have b1:=sl_le p2
 clear hargs;refine wp_seq ?_
 have o1:Own σ 42 108 1 cs n (List.map Ty.val us):=ChnU.row ho_cs
 have hul1:=ChnU.ul ho_cs
 refine gI a0 σ ok0 (gM p0 (gT (Ty.val gv) rfl (fun A B E G H d0=>rP (y_nilp (OwnP.k0 ho_gv E) (eI d0))) (gT (Ty.val (ptrAt gv 2)) rfl (fun A B E G H d0=>rP (ownp_field Try.fld95_2 Try.inf93 dE (OwnP.k0 ho_gv E) (eI d0))) (gS rfl (fun A B E G H d0=>rP (ownp_load Try.underlying93 rfl (OwnP.k0 ho_gv E) (eI d0) rfl)) (gM p1 (gT (Ty.val (cellPtr cs k)) rfl (fun A B E G H d0 d1=>rP (own_index1 (i:=((k:Nat):Int)) Try.underlying93 Try.inf108 (Own.k0 o1 E) (eI d0) (eI d1) oM oM)) (gS rfl (fun A B E G H d0=>rP (own_load Try.underlying108 rfl (Own.k0 o1 E) (eI d0) (lst_get Ty.val us undef k oM))) (gB 0 (gE ok0 fun a1 s1 ok1 D1=>?_)))))))));have o2:=OwnP.k0 ho_gv D1.stp;have o3:=Own.k0 o1 D1.stp;have o4:=ChnU.k0 ho_cs D1.stp;refine tn (wp_seq ?_)
 obtain ⟨ms1,rs1,hN1⟩:=o4
 obtain ⟨t1,e1,h1,o5,o6,o7,o8⟩:=ChnN.focus hN1 (i:=k) oM dE 43 44 45
 rw [← e1]
 have F2:=(F0.step0 D1.stp).step h1 dE
 have q5:At (Ty.val gv) t1 a1 (.tmp 0):=Ty.up _ (h1.le dE) (D1.k p0)
 have q6:At (Ty.nat k) t1 a1 (.tmp 1):=Ty.up _ (h1.le dE) (D1.k p1)
 have q7:At (Ty.lst Ty.int r) t1 a1 (.tmp 2):=Ty.up _ (h1.le dE) (D1.k p2)
 have q8:At (Ty.val (us.getD k undef)) t1 a1 (.tmp 6):=Ty.up _ (h1.le dE) (D1.m 7 rfl)
 have o9:=OwnP.keepL o2 (h1.toL (L:=[42]) (by simp)) dE dE
 obtain ⟨mq1,hmq1⟩:∃ x_,ms1 k = x_:=⟨_,rfl⟩
 obtain ⟨rq1,hrq1⟩:∃ x_,rs1 k = x_:=⟨_,rfl⟩
 rw [hmq1,hrq1] at o5
 rw [hmq1] at o6
 rw [hrq1] at o7
 have hmk1:∃ b,mq1 = Value.map (some b):=by obtain ⟨b_,_,_,e_,_⟩:=o6;exact ⟨b_,e_⟩
 refine gI a1 t1 ok1 (gM q8 (gM q8 (gT (Ty.val (us.getD k undef)) rfl (fun A B E G H d0=>rP (y_nilp (OwnP.k0 o5 E) (eI d0))) (gT (Ty.val (ptrAt (us.getD k undef) 2)) rfl (fun A B E G H d0=>rP (ownp_field Try.fld111_2 Try.inf24 dE (OwnP.k0 o5 E) (eI d0))) (gS rfl (fun A B E G H d0=>rP (ownp_load Try.underlying24 rfl (OwnP.k0 o5 E) (eI d0) rfl)) (gM q7 (gT (Ty.sl 1 1 [(Ty.lst Ty.int r)]) rfl (fun A B E G H d0=>rP (y_build1o Try.underlying24 Try.inf22 rfl (one_sl) (eI d0))) (gE2 ok1 fun a2 s2 ok2 D2=>?_))))))));have o10:=OwnP.k0 o9 D2.stp;have o11:=ChnR.k0 o8 D2.stp;have o12:=OwnP.k0 o5 D2.stp;have o13:=OwnM.k0 o6 D2.stp;have o14:=Own.k0 o7 D2.stp;have q14:=D2.m 6 rfl
 have b2:=sl_le q14
 refine tL ok2 (YldM.toL (m_append Try.underlying24 Try.inf22 dE rfl dE (al (R:=(Pr.own 45 22 1 (List.length (c k).gens) (List.map Ty.ints (c k).gens))) (D2.m 4 rfl) o14) q14 (by intro U hU;simp at hU;subst hU;exact one_sl) oM oM)) fun a3 s3 hs1 ok3 r1 sm1=>?_
 have o17:=ChnR.keepL o11 hs1 dE dE;have o18:=OwnP.kl o12 hs1
 obtain ⟨x1,hx1⟩:∃ x,a3.eval (.tmp 31) = x:=⟨_,rfl⟩
 have q19:At (Ty.val x1) s3 a3 (.tmp 31):=hx1
 have o15:=al2 (R:=(Pr.own 45 22 1 (List.length ((c k).gens ++ [r])) (List.map Ty.ints ((c k).gens ++ [r])))) hx1 (cvo (by simp) (by first | (rw [List.map_append];rfl) | simp) r1)
 clear r1
 refine tL (R:=(fun v τ=>Pr.has (Ty.pr (Ty.val (us.getD k undef))) τ v)) ok3 (Yld.toL (y_nilp o18 (kq hs1 sm1 24 (D2.m 0 rfl)))) fun a4 s4 hs2 ok4 r2 sm2=>?_
 have o21:=ChnR.keepL o17 hs2 dE dE;have o22:=OwnP.kl o18 hs2
 have q24:At (Ty.val (us.getD k undef)) s4 a4 (.tmp 32):=r2
 clear r2
 refine tL (R:=(fun v τ=>Pr.has (Ty.pr (Ty.val (ptrAt (us.getD k undef) 2))) τ v)) ok4 (Yld.toL (ownp_field Try.fld111_2 Try.inf24 dE o22 q24)) fun a5 s5 hs3 ok5 r3 sm3=>?_
 have o26:=ChnR.keepL o21 hs3 dE dE;have o29:=Own.kl (Own.kl o15 hs2) hs3
 have q29:At (Ty.val (ptrAt (us.getD k undef) 2)) s5 a5 (.tmp 33):=r3
 clear r3
 refine tailL0 (L:=[43]) (R:=(fun _ τ=>OwnP τ 43 (us.getD k undef) ([(Ty.nat k),(Ty.val mq1),(Ty.val rq1)].set 2 (Ty.val x1)))) rfl rfl (YldM.toL (m_storep Try.inf24 dE (OwnP.kl o22 hs3) q29 (Nat.le_of_ble_eq_true rfl) (kq hs3 sm3 31 (kq hs2 sm2 31 q19)) (one_val (Own.one o29)))) (fun v1 s6 hs4 r4=>?_)
 have q30:=kpL hs4 dE rfl (kq hs3 sm3 0 (kq hs2 sm2 0 (kq hs1 sm1 0 (D2.k q5))));have q31:=kpL hs4 dE rfl (kq hs3 sm3 1 (kq hs2 sm2 1 (kq hs1 sm1 1 (D2.k q6))));have q32:=kpL hs4 dE rfl (kq hs3 sm3 6 (kq hs2 sm2 6 (kq hs1 sm1 6 (D2.k q8))));have o32:=ChnR.keepL o26 hs4 dE dE
 have o30:OwnP s6 43 (us.getD k undef) [(Ty.nat k),(Ty.val mq1),(Ty.val x1)]:=r4
 clear r4;refine wpList_nil (tn (wp_seq ?_))
 refine gI a5 s6 ok5 (gM q32 (gT (Ty.val (us.getD k undef)) rfl (fun A B E G H d0=>rP (y_nilp (OwnP.k0 o30 E) (eI d0))) (gT (Ty.val (ptrAt (us.getD k undef) 1)) rfl (fun A B E G H d0=>rP (ownp_field Try.fld111_1 Try.inf109 dE (OwnP.k0 o30 E) (eI d0))) (gS rfl (fun A B E G H d0=>rP (ownp_load Try.underlying109 rfl (OwnP.k0 o30 E) (eI d0) rfl)) (gS rfl (fun A B E G H d0=>rP (y_call _ Try.func114 rfl rfl my1 (keysK_fn (mq1) _ _ (eI d0) (by first | assumption | omega)))) (gE2 ok5 fun a6 s7 ok6 D3=>?_))))));have o35:=OwnP.k0 (OwnP.kl (OwnP.kl (OwnP.kl (OwnP.kl o10 hs1) hs2) hs3) hs4) D3.stp;have o36:=ChnR.k0 o32 D3.stp;have o37:=OwnM.k0 (OwnM.kl (OwnM.kl (OwnM.kl (OwnM.kl o13 hs1) hs2) hs3) hs4) D3.stp;have o38:=Own.k0 (Own.kl o29 hs4) D3.stp;have o39:=OwnP.k0 o30 D3.stp
 refine tL ok6 (y_callL (L:=[41]) [(44,41)] [(41,44),(42,46)] #[a6.eval (.tmp 38)] rfl dE Try.func113 rfl rfl my1 (sortedK_fn (mq1) ((c k).orb) _ lW _ (uL (D3.m 4 rfl)) (OwnM.ren (cvm (by (rfl)) o37) (GW.ren_lend _ _ dE rfl)) (by first | assumption | exact hp.fin | exact hfn | omega))) fun a7 s8 hs5 ok7 r5 sm4=>?_
 have o45:=ChnR.keepL o36 hs5 dE dE
 obtain ⟨t2,⟨g1,x2,hT1,o40,o41,hp1,hp2⟩,B1⟩:=r5
 have q41:At (Ty.val x2) s8 a7 (.tmp 39):=Ty.up _ B1.le hT1
 have o42:OwnM Ty.ints kI s8 44 mq1 ((c k).orb):=OwnM.ren o40 (B1.ren dE rfl)
 have o43:Own s8 46 3 1 x2 (List.length (g1)) (List.map Ty.int (g1)):=Own.ren o41 (B1.ren dE rfl)
 refine tL ok7 (Yld.toL (y_as q41)) fun a8 s9 hs6 ok8 r6 sm5=>?_
 have o49:=ChnR.keepL o45 hs6 dE dE
 have q45:At (Ty.val x2) s9 a8 (.tmp 7):=r6
 clear r6;refine wpList_nil ?_
 have o54:OwnQ s9 46 3 x2 (List.length (g1)) (List.map Ty.int (g1)):=OwnQ.of (Own.kl o43 hs6) (by exact hp.ne hp2)
 have hB0:=hp.bfs hp1 hp2
 refine tn (wp_seq (wp_block ?_))
 refine loop (fun n1 a9 w1=>∃ (t3:GW) (f:(Int → Option (List Int))) (op:(List Int)) (qv:Value),t3.w = w1∧FromL [41,42] σ t3∧Ok 141 [] a9∧At (Ty.val qv) t3 a9 (.tmp 7)∧At (Ty.val gv) t3 a9 (.tmp 0)∧At (Ty.nat k) t3 a9 (.tmp 1)∧At (Ty.val (us.getD k undef)) t3 a9 (.tmp 6)∧OwnQ t3 46 3 qv (List.length op) (List.map Ty.int op)∧OwnM Ty.ints kI t3 44 mq1 f∧OwnP t3 41 gv [(Ty.nat n),(Ty.val gs),(Ty.val cs)]∧ChnR t3 42 22 108 cs n c us ms1 rs1 k∧Own t3 45 22 1 x1 (List.length ((c k).gens ++ [r])) (List.map Ty.ints ((c k).gens ++ [r]))∧OwnP t3 43 (us.getD k undef) [(Ty.nat k),(Ty.val mq1),(Ty.val x1)]∧(Bfs n k ((c k).gens ++ [r]) (c k).orb f op)∧n1 = op.length + noO n f) ((g1).length + noO n ((c k).orb)) ?_ ?_
 ·
  exact ⟨s9,(c k).orb,g1,x2,rfl,((((((((F2.step0 D2.stp).sl hs1).sl hs2).sl hs3).sl hs4).step0 D3.stp).sl hs5).sl hs6),ok8,q45,(kq hs6 sm5 0 (kq hs5 sm4 0 (D3.k q30))),(kq hs6 sm5 1 (kq hs5 sm4 1 (D3.k q31))),(kq hs6 sm5 6 (kq hs5 sm4 6 (D3.k q32))),o54,(OwnM.kl o42 hs6),(OwnP.kl (OwnP.kl o35 hs5) hs6),o49,(Own.kl (Own.kl o38 hs5) hs6),(OwnP.kl (OwnP.kl o39 hs5) hs6),hB0,rfl⟩
 ·
  rintro n2 a10 w2 ⟨t4,f,op,qv,rfl,F11,ok9,q46,q47,q48,q49,o55,o56,o57,o58,o59,o60,hB,rfl⟩
  have hBl:=hB.len
  refine wp_seq (wp_seq ?_)
  refine gI a10 t4 ok9 (gM q46 (gT (Ty.nat (List.length op)) rfl (fun A B E G H d0=>rP (q_len Try.underlying22 (OwnQ.k0 o55 E) (eI d0))) (gS rfl (fun A B E G H d0=>rP (y_gtr (eI d0) rfl)) (gE ok9 fun a11 s10 ok10 D4=>?_))));have F12:=F11.step0 D4.stp;have q50:=D4.k q46;have q51:=D4.k q47;have q52:=D4.k q48;have q53:=D4.k q49;have o61:=OwnQ.k0 o55 D4.stp;have o62:=OwnM.k0 o56 D4.stp;have o63:=OwnP.k0 o57 D4.stp;have o64:=ChnR.k0 o58 D4.stp;have o65:=Own.k0 o59 D4.stp;have o66:=OwnP.k0 o60 D4.stp;refine tn ?_
  refine cond_p (p:=((0:Int) < (((List.length op):Nat):Int))) (D4.m 2 rfl) (fun c1=>?_) (fun c1=>?_)
  ·
   have hBf:=hB.first oM
   refine wp_skip (tn (wp_block (wp_seq ?_)))
   refine gI a11 s10 ok10 (gM q50 (gT (Ty.val (qPtr qv)) rfl (fun A B E G H d0=>rP (q_index Try.underlying22 Try.inf3 (OwnQ.k0 o61 E) (eI d0) rfl oM)) (gT (Ty.int (op.getD 0 0)) rfl (fun A B E G H d0=>rP (q_load Try.underlying3 rfl (OwnQ.k0 o61 E) (eI d0) (lst_get Ty.int op 0 0 oM))) (gB 0 (gE ok10 fun a12 s11 ok11 D5=>?_)))));have o67:=OwnQ.k0 o61 D5.stp;have o68:=OwnM.k0 o62 D5.stp;have o69:=OwnP.k0 o63 D5.stp;have o70:=ChnR.k0 o64 D5.stp;have o71:=Own.k0 o65 D5.stp;have o72:=OwnP.k0 o66 D5.stp;refine tn (wp_seq ?_)
   refine gI a12 s11 ok11 (gM (D5.k q50) (gT (Ty.val (qDrop qv)) rfl (fun A B E G H d0=>rP (q_drop1 Try.underlying22 Try.inf3 (OwnQ.k0 o67 E) (eI d0) rfl oM)) (gE2 ok11 fun a13 s12 ok12 D6=>?_)));have o73:=OwnQ.k0 o67 D6.stp;have o74:=OwnM.k0 o68 D6.stp;have o75:=OwnP.k0 o69 D6.stp;have o76:=ChnR.k0 o70 D6.stp;have o77:=Own.k0 o71 D6.stp;have o78:=OwnP.k0 o72 D6.stp
   refine tL ok12 (Yld.toL (y_as (D6.m 1 rfl))) fun a14 s13 hs7 ok13 r7 sm6=>?_
   have q68:=kq hs7 sm6 6 (D6.k (D5.k q53));have o79:=OwnQ.keepL o73 hs7 dE dE;have o82:=ChnR.keepL o76 hs7 dE dE;have o83:=Own.kl o77 hs7;have o84:=OwnP.kl o78 hs7
   have q70:At (Ty.val (qDrop qv)) s13 a14 (.tmp 7):=r7
   clear r7;refine wpList_nil ?_
   have o85:OwnQ s13 46 3 (qDrop qv) (List.length (op.drop 1)) (List.map Ty.int (op.drop 1)):=cvq (by simp) (by rw [List.map_drop]) (OwnQ.drop o79 oM)
   refine tn (wp_seq ?_)
   refine gI a14 s13 ok13 (gM q68 (gT (Ty.val (us.getD k undef)) rfl (fun A B E G H d0=>rP (y_nilp (OwnP.k0 o84 E) (eI d0))) (gT (Ty.val (ptrAt (us.getD k undef) 2)) rfl (fun A B E G H d0=>rP (ownp_field Try.fld111_2 Try.inf24 dE (OwnP.k0 o84 E) (eI d0))) (gS rfl (fun A B E G H d0=>rP (ownp_load Try.underlying24 rfl (OwnP.k0 o84 E) (eI d0) rfl)) (gT (Ty.nat (List.length ((c k).gens ++ [r]))) rfl (fun A B E G H d0=>rP (own_len Try.underlying24 (al (R:=(Pr.own 45 22 1 (List.length ((c k).gens ++ [r])) (List.map Ty.ints ((c k).gens ++ [r])))) (eI d0) (Own.k0 o83 E)))) (gT (Ty.int (0:Int)) rfl (fun A B E G H=>rP (y_move rfl)) (gE ok13 fun a15 s14 ok14 D7=>?_)))))));have o86:=OwnM.k0 (OwnM.kl o74 hs7) D7.stp;have o87:=OwnP.k0 (OwnP.kl o75 hs7) D7.stp;have o88:=ChnR.k0 o82 D7.stp;have o89:=Own.k0 o83 D7.stp;have o90:=OwnP.k0 o84 D7.stp;have o91:=OwnQ.k0 o85 D7.stp
   have q76:At (Ty.val x1) s14 a15 (.tmp 51):=D7.done 3
   refine tn (wp_block ?_)
   refine loop (fun n3 a16 w3=>∃ (t5:GW) (m:Nat) (f2:(Int → Option (List Int))) (op2:(List Int)) (qw:Value),t5.w = w3∧FromL [41,42] σ t5∧Ok 141 [] a16∧At (Ty.nat m) t5 a16 (.tmp 53)∧At (Ty.val qw) t5 a16 (.tmp 7)∧At (Ty.val gv) t5 a16 (.tmp 0)∧At (Ty.nat k) t5 a16 (.tmp 1)∧At (Ty.val (us.getD k undef)) t5 a16 (.tmp 6)∧At (Ty.int (op.getD 0 0)) t5 a16 (.tmp 8)∧At (Ty.val x1) t5 a16 (.tmp 51)∧At (Ty.nat (List.length ((c k).gens ++ [r]))) t5 a16 (.tmp 52)∧OwnQ t5 46 3 qw (List.length op2) (List.map Ty.int op2)∧OwnM Ty.ints kI t5 44 mq1 f2∧OwnP t5 41 gv [(Ty.nat n),(Ty.val gs),(Ty.val cs)]∧ChnR t5 42 22 108 cs n c us ms1 rs1 k∧Own t5 45 22 1 x1 (List.length ((c k).gens ++ [r])) (List.map Ty.ints ((c k).gens ++ [r]))∧OwnP t5 43 (us.getD k undef) [(Ty.nat k),(Ty.val mq1),(Ty.val x1)]∧(m ≤ ((c k).gens ++ [r]).length)∧(BfsP n k ((c k).gens ++ [r]) (c k).orb (op.length + noO n f) (op.getD 0 0) m f2 op2)∧n3 = ((c k).gens ++ [r]).length - m) (((c k).gens ++ [r]).length - (0)) ?_ ?_
   ·
    exact ⟨s14,0,f,(op.drop 1),(qDrop qv),rfl,((((F12.step0 D5.stp).step0 D6.stp).sl hs7).step0 D7.stp),ok14,(cJ (D7.m 5 rfl)),(D7.k q70),(D7.k (kq hs7 sm6 0 (D6.k (D5.k q51)))),(D7.k (kq hs7 sm6 1 (D6.k (D5.k q52)))),(D7.k q68),(D7.k (kq hs7 sm6 8 (D6.k (D5.m 3 rfl)))),q76,(D7.m 4 rfl),(cvq (by (simp)) (by (simp)) o91),(cvm (by (rfl)) o86),o87,o88,o89,o90,by omega,hBf,rfl⟩
   ·
    rintro n4 a17 w4 ⟨t6,m,f2,op2,qw,rfl,F17,ok15,q79,q80,q81,q82,q83,q84,q85,q86,o92,o93,o94,o95,o96,o97,hm,hI,rfl⟩
    have hIl_:=hI.len
    refine wp_seq ?_
    refine gI a17 t6 ok15 (gS rfl (fun A B E G H=>rP (y_lss (kp (H 53 rfl) E q79) (kp (H 52 rfl) E q86))) (gE ok15 fun a18 s15 ok16 D8=>?_));have F18:=F17.step0 D8.stp;have q87:=D8.k q79;have q88:=D8.k q80;have q89:=D8.k q81;have q90:=D8.k q82;have q91:=D8.k q83;have q93:=D8.k q85;have o98:=OwnQ.k0 o92 D8.stp;have o99:=OwnM.k0 o93 D8.stp;have o100:=OwnP.k0 o94 D8.stp;have o101:=ChnR.k0 o95 D8.stp;have o102:=Own.k0 o96 D8.stp;have o103:=OwnP.k0 o97 D8.stp;refine tn (wp_seq ?_)
    refine cond_p (p:=(((m:Nat):Int) < (((List.length ((c k).gens ++ [r])):Nat):Int))) (D8.m 0 rfl) (fun c2=>?_) (fun c2=>?_)
    ·
     obtain ⟨hg1,hg2,hg3,hg4,hg5,hg6⟩:=hI.go hkn hgn oM
     refine wp_skip (tn (wp_seq (wp_block (wp_seq ?_))))
     refine gI a18 s15 ok16 (gT (Ty.val (cellPtr x1 m)) rfl (fun A B E G H=>rP (own_index1 (i:=((m:Nat):Int)) Try.underlying24 Try.inf22 (Own.k0 o102 E) (kp (H 51 rfl) E q93) (kp (H 53 rfl) E q87) oM oM)) (gS rfl (fun A B E G H d0=>rP (own_load Try.underlying22 rfl (Own.k0 o102 E) (eI d0) (lst_get Ty.ints ((c k).gens ++ [r]) [] m oM))) (gB 0 (gE ok16 fun a19 s16 ok17 D9=>?_))));have q100:=D9.k q91;have q101:=D9.k (D8.k q84);have o104:=OwnQ.k0 o98 D9.stp;have o105:=OwnM.k0 o99 D9.stp;have o106:=OwnP.k0 o100 D9.stp;have o107:=ChnR.k0 o101 D9.stp;have o108:=Own.k0 o102 D9.stp;have o109:=OwnP.k0 o103 D9.stp;have q104:=D9.m 2 rfl;refine tn (wp_seq ?_)
     refine gI a19 s16 ok17 (gM q100 (gT (Ty.val (us.getD k undef)) rfl (fun A B E G H d0=>rP (y_nilp (OwnP.k0 o109 E) (eI d0))) (gT (Ty.val (ptrAt (us.getD k undef) 1)) rfl (fun A B E G H d0=>rP (ownp_field Try.fld111_1 Try.inf109 dE (OwnP.k0 o109 E) (eI d0))) (gS rfl (fun A B E G H d0=>rP (ownp_load Try.underlying109 rfl (OwnP.k0 o109 E) (eI d0) rfl)) (gM q104 (gM q101 (gT (Ty.ref [(Ty.int ((((c k).gens ++ [r]).getD m []).getD ((op.getD 0 0)).toNat 0))]) rfl (fun A B E G H d0 d1=>rP (y_index1 Try.underlying22 Try.inf3 (eI d0) (eI d1) oM (lst_get Ty.int (((c k).gens ++ [r]).getD m []) 0 ((op.getD 0 0)).toNat oM))) (gS rfl (fun A B E G H d0=>rP (y_load Try.underlying3 rfl (eI d0) rfl)) (gT (Ty.tup2 (Ty.lst Ty.int ((f2 ((((c k).gens ++ [r]).getD m []).getD ((op.getD 0 0)).toNat 0)).getD [])) (Ty.bool (Option.isSome (f2 ((((c k).gens ++ [r]).getD m []).getD ((op.getD 0 0)).toNat 0))))) rfl (fun A B E G H d0 d1=>rP (y_lookup2 (i:=((((c k).gens ++ [r]).getD m []).getD ((op.getD 0 0)).toNat 0)) (z:=[]) Try.underlying109 (keyInt Try.underlying3) Try.inf22 (fun _=>sl_nil) (OwnM.k0 o105 E) (eI d0) (eI d1))) (gS rfl (fun A B E G H d0=>rP (y_move (eI d0))) (gT (Ty.lst Ty.int ((f2 ((((c k).gens ++ [r]).getD m []).getD ((op.getD 0 0)).toNat 0)).getD [])) rfl (fun A B E G H d0=>rP (y_ext2_0 (eI d0))) (gT (Ty.bool (Option.isSome (f2 ((((c k).gens ++ [r]).getD m []).getD ((op.getD 0 0)).toNat 0)))) rfl (fun A B E G H d0 d1=>rP (y_ext2_1 (eI d0))) (gB 0 (gB 0 (gE ok17 fun a20 s17 ok18 D10=>?_)))))))))))))));have o110:=OwnQ.k0 o104 D10.stp;have o111:=OwnM.k0 o105 D10.stp;have o112:=OwnP.k0 o106 D10.stp;have o113:=ChnR.k0 o107 D10.stp;have o114:=Own.k0 o108 D10.stp;have o115:=OwnP.k0 o109 D10.stp;refine tn (wp_seq ?_)
     refine gI a20 s17 ok18 (gM (D10.m 13 rfl) (gS rfl (fun A B E G H d0=>rP (y_not (eI d0))) (gE ok18 fun a21 s18 ok19 D11=>?_)));have F21:=((F18.step0 D9.stp).step0 D10.stp).step0 D11.stp;have q115:=D11.k (D10.k (D9.k q87));have q116:=D11.k (D10.k (D9.k q88));have q117:=D11.k (D10.k (D9.k q89));have q118:=D11.k (D10.k (D9.k q90));have q119:=D11.k (D10.k q100);have q120:=D11.k (D10.k q101);have q121:=D11.k (D10.k (D9.k q93));have q122:=D11.k (D10.k (D9.k (D8.k q86)));have q123:=D11.k (D10.k q104);have o116:=OwnQ.k0 o110 D11.stp;have o117:=OwnM.k0 o111 D11.stp;have o118:=OwnP.k0 o112 D11.stp;have o119:=ChnR.k0 o113 D11.stp;have o120:=Own.k0 o114 D11.stp;have o121:=OwnP.k0 o115 D11.stp;refine tn ?_
     refine cond_t (D11.m 1 rfl) (fun c3=>?_) (fun c3=>?_)
     ·
      have ho:f2 ((((c k).gens ++ [r]).getD m []).getD (op.getD 0 0).toNat 0) = none:=(by cases h_:f2 ((((c k).gens ++ [r]).getD m []).getD (op.getD 0 0).toNat 0) <;> simp_all)
      refine wp_seq ?_
      refine gI a21 s18 ok19 (gM q119 (gT (Ty.val (us.getD k undef)) rfl (fun A B E G H d0=>rP (y_nilp (OwnP.k0 o121 E) (eI d0))) (gT (Ty.val (ptrAt (us.getD k undef) 1)) rfl (fun A B E G H d0=>rP (ownp_field Try.fld111_1 Try.inf109 dE (OwnP.k0 o121 E) (eI d0))) (gS rfl (fun A B E G H d0=>rP (ownp_load Try.underlying109 rfl (OwnP.k0 o121 E) (eI d0) rfl)) (gM q123 (gM q120 (gT (Ty.ref [(Ty.int ((((c k).gens ++ [r]).getD m []).getD ((op.getD 0 0)).toNat 0))]) rfl (fun A B E G H d0 d1=>rP (y_index1 Try.underlying22 Try.inf3 (eI d0) (eI d1) oM (lst_get Ty.int (((c k).gens ++ [r]).getD m []) 0 ((op.getD 0 0)).toNat oM))) (gS rfl (fun A B E G H d0=>rP (y_load Try.underlying3 rfl (eI d0) rfl)) (gM q123 (gM q119 (gT (Ty.val (us.getD k undef)) rfl (fun A B E G H d0=>rP (y_nilp (OwnP.k0 o121 E) (eI d0))) (gT (Ty.val (ptrAt (us.getD k undef) 1)) rfl (fun A B E G H d0=>rP (ownp_field Try.fld111_1 Try.inf109 dE (OwnP.k0 o121 E) (eI d0))) (gS rfl (fun A B E G H d0=>rP (ownp_load Try.underlying109 rfl (OwnP.k0 o121 E) (eI d0) rfl)) (gM q120 (gT (Ty.lst Ty.int ((f2 (op.getD 0 0)).getD [])) rfl (fun A B E G H d0 d1=>rP (y_lookup (i:=(op.getD 0 0)) (z:=[]) Try.underlying109 (keyInt Try.underlying3) Try.inf22 (fun _=>sl_nil) (OwnM.k0 o117 E) (eI d0) (eI d1))) (gS rfl (fun A B E G H d0 d1=>rP (y_call _ Try.func64 rfl rfl my2 (product_fn ((((c k).gens ++ [r]).getD m [])) (((f2 (op.getD 0 0)).getD [])) _ _ _ (eI d0) (eI d1) (by first | assumption | omega) (by first | assumption | omega) (by first | assumption | omega)))) ?_))))))))))))))))
      refine gE2 ok19 fun a22 s19 ok20 D12=>?_;have o122:=OwnQ.k0 o116 D12.stp;have o123:=OwnM.k0 o117 D12.stp;have o124:=OwnP.k0 o118 D12.stp;have o125:=ChnR.k0 o119 D12.stp;have o126:=Own.k0 o120 D12.stp;have o127:=OwnP.k0 o121 D12.stp;have q136:=D12.m 15 rfl
      have b3:=sl_le q136
      refine tailL0 (L:=[44]) (R:=(fun _ τ=>OwnM Ty.ints kI τ 44 mq1 (fun x_=>if x_ = ((((c k).gens ++ [r]).getD m []).getD ((op.getD 0 0)).toNat 0) then some (byL ((((c k).gens ++ [r]).getD m [])) (((f2 (op.getD 0 0)).getD []))) else f2 x_))) rfl rfl (YldM.toL (m_mapset (i:=((((c k).gens ++ [r]).getD m []).getD ((op.getD 0 0)).toNat 0)) Try.underlying109 (keyInt Try.underlying3) dE o123 (D12.m 3 rfl) (D12.m 7 rfl) q136)) (fun v2 s20 hs8 r8=>?_)
      have q137:=kpL hs8 dE rfl (D12.k q115);have q138:=kpL hs8 dE rfl (D12.k q116);have q139:=kpL hs8 dE rfl (D12.k q117);have q140:=kpL hs8 dE rfl (D12.k q118);have q141:=kpL hs8 dE rfl (D12.k q119);have q142:=kpL hs8 dE rfl (D12.k q120);have q143:=kpL hs8 dE rfl (D12.k q121);have q144:=kpL hs8 dE rfl (D12.k q122);have q145:=kpL hs8 dE rfl (D12.k q123);have o129:=OwnQ.keepL o122 hs8 dE dE;have o131:=ChnR.keepL o125 hs8 dE dE
      have o128:OwnM Ty.ints kI s20 44 mq1 (fun x_=>if x_ = ((((c k).gens ++ [r]).getD m []).getD ((op.getD 0 0)).toNat 0) then some (byL ((((c k).gens ++ [r]).getD m [])) (((f2 (op.getD 0 0)).getD []))) else f2 x_):=r8
      clear r8;refine wpList_nil (tn ?_)
      refine gI a22 s20 ok20 (gM q138 (gM q145 (gM q142 (gT (Ty.ref [(Ty.int ((((c k).gens ++ [r]).getD m []).getD ((op.getD 0 0)).toNat 0))]) rfl (fun A B E G H d0 d1=>rP (y_index1 Try.underlying22 Try.inf3 (eI d0) (eI d1) oM (lst_get Ty.int (((c k).gens ++ [r]).getD m []) 0 ((op.getD 0 0)).toNat oM))) (gS rfl (fun A B E G H d0=>rP (y_load Try.underlying3 rfl (eI d0) rfl)) (gT (Ty.sl 1 1 [(Ty.int ((((c k).gens ++ [r]).getD m []).getD ((op.getD 0 0)).toNat 0))]) rfl (fun A B E G H d0=>rP (y_build1o Try.underlying22 Try.inf3 rfl (one_val rfl) (eI d0))) (gE2 ok20 fun a23 s21 ok21 D13=>?_)))))));have o134:=OwnQ.k0 o129 D13.stp;have o135:=OwnP.k0 (OwnP.kl o124 hs8) D13.stp;have o136:=ChnR.k0 o131 D13.stp;have o137:=Own.k0 (Own.kl o126 hs8) D13.stp;have o138:=OwnP.k0 (OwnP.kl o127 hs8) D13.stp;have o139:=OwnM.k0 o128 D13.stp;have q156:=D13.m 5 rfl
      have b4:=sl_le q156
      refine tL (R:=(fun v τ=>OwnQ τ 46 3 v ((List.length op2) + 1) ((List.map Ty.int op2) ++ [(Ty.int ((((c k).gens ++ [r]).getD m []).getD ((op.getD 0 0)).toNat 0))]))) ok21 (YldM.toL (m_appendq Try.underlying22 Try.inf3 dE rfl (al (R:=(Pr.ownq 46 3 (List.length op2) (List.map Ty.int op2))) (D13.m 0 rfl) o134) q156 (one_val rfl) oM oM)) fun a24 s22 hs9 ok22 r9 sm7=>?_
      have q158:=kq hs9 sm7 7 (D13.k q138);have o142:=ChnR.keepL o136 hs9 dE dE
      obtain ⟨x3,hx2⟩:∃ x,a24.eval (.tmp 93) = x:=⟨_,rfl⟩
      have q165:At (Ty.val x3) s22 a24 (.tmp 93):=hx2
      have o140:OwnQ s22 46 3 x3 (List.length (op2 ++ [((((c k).gens ++ [r]).getD m []).getD ((op.getD 0 0)).toNat 0)])) (List.map Ty.int (op2 ++ [((((c k).gens ++ [r]).getD m []).getD ((op.getD 0 0)).toNat 0)])):=al2 (R:=(Pr.ownq 46 3 (List.length (op2 ++ [((((c k).gens ++ [r]).getD m []).getD ((op.getD 0 0)).toNat 0)])) (List.map Ty.int (op2 ++ [((((c k).gens ++ [r]).getD m []).getD ((op.getD 0 0)).toNat 0)])))) hx2 (cvq (by simp) (by simp) r9)
      clear r9
      refine tL ok22 (Yld.toL (y_as q165)) fun a25 s23 hs10 ok23 r10 sm8=>?_
      have o147:=ChnR.keepL o142 hs10 dE dE;have o151:=OwnQ.keepL o140 hs10 dE dE
      have q173:At (Ty.val x3) s23 a25 (.tmp 7):=r10
      clear r10;refine wpList_nil (bn (tn ?_))
      refine gI a25 s23 ok23 (gT (Ty.nat (m + 1)) rfl (fun A B E G H=>rP ((y_add (kp (H 53 rfl) E (kq hs10 sm8 53 (kq hs9 sm7 53 (D13.k q137)))) rfl wX).mono (fun τ _ h=>cN (σ:=τ) h))) (gS rfl (fun A B E G H d0=>rP (y_move (eI d0))) (gE ok23 fun a26 s24 ok24 D14=>?_)));have o152:=OwnP.k0 (OwnP.kl (OwnP.kl o135 hs9) hs10) D14.stp;have o153:=ChnR.k0 o147 D14.stp;have o154:=Own.k0 (Own.kl (Own.kl o137 hs9) hs10) D14.stp;have o155:=OwnP.k0 (OwnP.kl (OwnP.kl o138 hs9) hs10) D14.stp;have o156:=OwnM.k0 (OwnM.kl (OwnM.kl o139 hs9) hs10) D14.stp;have o157:=OwnQ.k0 o151 D14.stp
      exact tn ⟨((c k).gens ++ [r]).length - ((m+1)),by omega,s24,(m+1),(fun q=>if q = ((((c k).gens ++ [r]).getD m []).getD (op.getD 0 0).toNat 0) then some (byL (((c k).gens ++ [r]).getD m []) ((f2 (op.getD 0 0)).getD [])) else f2 q),(op2 ++ [((((c k).gens ++ [r]).getD m []).getD (op.getD 0 0).toNat 0)]),x3,rfl,((((((F21.step0 D12.stp).sl hs8).step0 D13.stp).sl hs9).sl hs10).step0 D14.stp),ok24,(cJ (D14.m 1 rfl)),(D14.k q173),(D14.k (kq hs10 sm8 0 (kq hs9 sm7 0 (D13.k q139)))),(D14.k (kq hs10 sm8 1 (kq hs9 sm7 1 (D13.k q140)))),(D14.k (kq hs10 sm8 6 (kq hs9 sm7 6 (D13.k q141)))),(D14.k (kq hs10 sm8 8 (kq hs9 sm7 8 (D13.k q142)))),(D14.k (kq hs10 sm8 51 (kq hs9 sm7 51 (D13.k q143)))),(D14.k (kq hs10 sm8 52 (kq hs9 sm7 52 (D13.k q144)))),(cvq (by (simp)) (by (simp)) o157),(cvm (by (rfl)) o156),o152,o153,o154,o155,by omega,hI.new2 hkn hgn oM ho,rfl⟩
     ·
      have ho:(f2 ((((c k).gens ++ [r]).getD m []).getD (op.getD 0 0).toNat 0)).isSome = true:=(by cases h_:f2 ((((c k).gens ++ [r]).getD m []).getD (op.getD 0 0).toNat 0) <;> simp_all)
      refine wp_skip (bn (tn ?_))
      refine gI a21 s18 ok19 (gT (Ty.nat (m + 1)) rfl (fun A B E G H=>rP ((y_add (kp (H 53 rfl) E q115) rfl wX).mono (fun τ _ h=>cN (σ:=τ) h))) (gS rfl (fun A B E G H d0=>rP (y_move (eI d0))) (gE ok19 fun a27 s25 ok25 D15=>?_)));have o158:=OwnQ.k0 o116 D15.stp;have o159:=OwnM.k0 o117 D15.stp;have o160:=OwnP.k0 o118 D15.stp;have o161:=ChnR.k0 o119 D15.stp;have o162:=Own.k0 o120 D15.stp;have o163:=OwnP.k0 o121 D15.stp
      exact tn ⟨((c k).gens ++ [r]).length - ((m+1)),by omega,s25,(m+1),f2,op2,qw,rfl,(F21.step0 D15.stp),ok25,(cJ (D15.m 1 rfl)),(D15.k q116),(D15.k q117),(D15.k q118),(D15.k q119),(D15.k q120),(D15.k q121),(D15.k q122),o158,o159,o160,o161,o162,o163,by omega,hI.old ho,rfl⟩
    ·
     have em:m = ((c k).gens ++ [r]).length:=oM;have hB2:Bfs n k ((c k).gens ++ [r]) (c k).orb f2 op2:=BfsP.done (em ▸ hI) hBl;have hIl:=hI.len
     refine wp_exit (tx (tx (bx (bn ?_))))
     exact tn ⟨(op2).length + noO n (f2),by omega,s15,f2,op2,qw,rfl,F18,ok16,q88,q89,q90,q91,(cvq (by (simp)) (by (simp)) o98),(cvm (by (rfl)) o99),o100,o101,o102,o103,hB2,rfl⟩
  ·
   have hop0:op = []:=List.eq_nil_of_length_eq_zero oM;have hBe:Bfs n k ((c k).gens ++ [r]) (c k).orb f []:=hop0 ▸ hB;have hfn:=hBe.fin hkn hnn.2
   refine wp_exit (tx (tx (bx (tn (wp_seq ?_)))))
   refine gI a11 s10 ok10 (gM q53 (gT (Ty.val (us.getD k undef)) rfl (fun A B E G H d0=>rP (y_nilp (OwnP.k0 o66 E) (eI d0))) (gT (Ty.val (ptrAt (us.getD k undef) 1)) rfl (fun A B E G H d0=>rP (ownp_field Try.fld111_1 Try.inf109 dE (OwnP.k0 o66 E) (eI d0))) (gS rfl (fun A B E G H d0=>rP (ownp_load Try.underlying109 rfl (OwnP.k0 o66 E) (eI d0) rfl)) (gS rfl (fun A B E G H d0=>rP (y_call _ Try.func114 rfl rfl my1 (keysK_fn (mq1) _ _ (eI d0) (by first | assumption | omega)))) (gE2 ok10 fun a28 s26 ok26 D16=>?_))))));have o164:=OwnQ.k0 o61 D16.stp;have o165:=OwnM.k0 o62 D16.stp;have o166:=OwnP.k0 o63 D16.stp;have o167:=ChnR.k0 o64 D16.stp;have o168:=Own.k0 o65 D16.stp;have o169:=OwnP.k0 o66 D16.stp
   refine tL ok26 (y_callL (L:=[41]) [(44,41)] [(41,44),(42,47)] #[a28.eval (.tmp 99)] rfl dE Try.func113 rfl rfl my1 (sortedK_fn (mq1) (f) _ lW _ (uL (D16.m 4 rfl)) (OwnM.ren o165 (GW.ren_lend _ _ dE rfl)) (by first | assumption | exact hp.fin | exact hfn | omega))) fun a29 s27 hs11 ok27 r11 sm9=>?_
   have o174:=OwnQ.keepL o164 hs11 dE dE;have o176:=ChnR.keepL o167 hs11 dE dE
   obtain ⟨t7,⟨g2,x4,hT2,o170,o171,hp3,hp4⟩,B2⟩:=r11
   have q197:At (Ty.val x4) s27 a29 (.tmp 100):=Ty.up _ B2.le hT2
   have o172:OwnM Ty.ints kI s27 44 mq1 f:=OwnM.ren o170 (B2.ren dE rfl)
   have o173:Own s27 47 3 1 x4 (List.length (g2)) (List.map Ty.int (g2)):=Own.ren o171 (B2.ren dE rfl)
   refine tL (R:=(fun v τ=>Pr.has (Ty.pr (Ty.nat (List.length (g2)))) τ v)) ok27 (Yld.toL (own_len Try.underlying22 (al (R:=(Pr.own 47 3 1 (List.length (g2)) (List.map Ty.int (g2)))) q197 o173))) fun a30 s28 hs12 ok28 r12 sm10=>?_
   have o179:=OwnQ.keepL o174 hs12 dE dE;have o181:=ChnR.keepL o176 hs12 dE dE
   have q202:At (Ty.nat (List.length (g2))) s28 a30 (.tmp 101):=r12
   clear r12
   refine tL (R:=(fun v τ=>Pr.has (Ty.pr (Ty.int (0:Int))) τ v)) ok28 (Yld.toL (y_move rfl)) fun a31 s29 hs13 ok29 r13 sm11=>?_
   have o186:=OwnQ.keepL o179 hs13 dE dE;have o188:=ChnR.keepL o181 hs13 dE dE
   have q208:At (Ty.int (0:Int)) s29 a31 (.tmp 102):=r13
   clear r13;refine wpList_nil ?_
   obtain ⟨t8,e2,h2,o193⟩:=ChnR.unfocus o188 (OwnP.kl (OwnP.kl (OwnP.kl o169 hs11) hs12) hs13) (OwnM.kl (OwnM.kl o172 hs12) hs13) (Own.kl (Own.kl (Own.kl o168 hs11) hs12) hs13) (by first | rfl | simp) (by first | rfl | simp) dE dE dE dE dE
   rw [← e2]
   have F33:=((((F12.step0 D16.stp).sl hs11).sl hs12).sl hs13).stepL h2 dE
   have q209:At (Ty.val gv) t8 a31 (.tmp 0):=Ty.up _ (h2.le dE) (kq hs13 sm11 0 (kq hs12 sm10 0 (kq hs11 sm9 0 (D16.k q51))))
   have q210:At (Ty.nat k) t8 a31 (.tmp 1):=Ty.up _ (h2.le dE) (kq hs13 sm11 1 (kq hs12 sm10 1 (kq hs11 sm9 1 (D16.k q52))))
   have q211:At (Ty.val (us.getD k undef)) t8 a31 (.tmp 6):=Ty.up _ (h2.le dE) (kq hs13 sm11 6 (kq hs12 sm10 6 (kq hs11 sm9 6 (D16.k q53))))
   have q212:At (Ty.val x4) t8 a31 (.tmp 100):=Ty.up _ (h2.le dE) (kq hs13 sm11 100 (kq hs12 sm10 100 q197))
   have q213:At (Ty.nat (List.length (g2))) t8 a31 (.tmp 101):=Ty.up _ (h2.le dE) (kq hs13 sm11 101 q202)
   have q214:At (Ty.int (0:Int)) t8 a31 (.tmp 102):=Ty.up _ (h2.le dE) q208
   have o194:=OwnQ.keepL o186 h2 dE dE;have o195:=OwnP.keepL (OwnP.kl (OwnP.kl (OwnP.kl o166 hs11) hs12) hs13) h2 dE dE;have o196:=Own.keepL (Own.kl (Own.kl o173 hs12) hs13) h2 dE dE
   have o197:ChnU t8 42 22 108 cs n (upd c k ⟨f,((c k).gens ++ [r])⟩) us:=o193
   obtain ⟨c1,hc1⟩:∃ c1,c1 = (upd c k ⟨f,((c k).gens ++ [r])⟩):=⟨_,rfl⟩
   have o198:ChnU t8 42 22 108 cs n c1 us:=by rw [hc1];exact o197
   have hC:ExtC n k r c c1 g2:=by rw [hc1];exact Bfs.ext hp hBe hp4
   have hD0:=ExtC.start hp hC
   have hg2l:g2.length ≤ n:=by (have h_:=keys_len (n:=n) (f:=f) (K:=g2) hp3 (fun p h=>(hp4 p).1 h) (fun p t e=>by (obtain ⟨a1,_,a3,_⟩:=hBe.pts p t e;have h5_:=a1.at hkn;rw [a3] at h5_;exact h5_));omega)
   have hcg:(c1 k).gens.length = (c k).gens.length + 1:=by rw [hC.gens];simp
   refine tn (wp_block ?_)
   refine loop (fun n5 a32 w5=>∃ (t9:GW) (i:Nat) (d1:(Nat → Lev)),t9.w = w5∧FromL [41,42] σ t9∧Ok 141 [] a32∧At (Ty.nat i) t9 a32 (.tmp 102)∧At (Ty.val gv) t9 a32 (.tmp 0)∧At (Ty.nat k) t9 a32 (.tmp 1)∧At (Ty.val (us.getD k undef)) t9 a32 (.tmp 6)∧At (Ty.val x4) t9 a32 (.tmp 100)∧At (Ty.nat (List.length (g2))) t9 a32 (.tmp 101)∧ChnU t9 42 22 108 cs n d1 us∧OwnP t9 41 gv [(Ty.nat n),(Ty.val gs),(Ty.val cs)]∧Own t9 47 3 1 x4 (List.length (g2)) (List.map Ty.int (g2))∧(i ≤ g2.length)∧(ExtI n k c1 g2 i 0 d1)∧n5 = g2.length - i) (g2.length - (0)) ?_ ?_
   ·
    exact ⟨t8,0,c1,rfl,F33,ok29,(cJ q214),q209,q210,q211,q212,q213,(cvch (by (rfl)) o198),o195,o196,by omega,hD0,rfl⟩
   ·
    rintro n6 a33 w6 ⟨t10,i,d1,rfl,F34,ok30,q215,q216,q217,q218,q219,q220,o199,o200,o201,hi,hD,rfl⟩
    refine wp_seq ?_
    refine gI a33 t10 ok30 (gS rfl (fun A B E G H=>rP (y_lss (kp (H 102 rfl) E q215) (kp (H 101 rfl) E q220))) (gE ok30 fun a34 s30 ok31 D17=>?_));have F35:=F34.step0 D17.stp;have q221:=D17.k q215;have q225:=D17.k q219;have o202:=ChnU.k0 o199 D17.stp;have o203:=OwnP.k0 o200 D17.stp;have o204:=Own.k0 o201 D17.stp;refine tn (wp_seq ?_)
    refine cond_p (p:=(((i:Nat):Int) < (((List.length (g2)):Nat):Int))) (D17.m 0 rfl) (fun c4=>?_) (fun c4=>?_)
    ·
     refine wp_skip (tn (wp_seq (wp_block (wp_seq ?_))))
     refine gI a34 s30 ok31 (gT (Ty.val (cellPtr x4 i)) rfl (fun A B E G H=>rP (own_index1 (i:=((i:Nat):Int)) Try.underlying22 Try.inf3 (Own.k0 o204 E) (kp (H 100 rfl) E q225) (kp (H 102 rfl) E q221) oM oM)) (gS rfl (fun A B E G H d0=>rP (own_load Try.underlying3 rfl (Own.k0 o204 E) (eI d0) (lst_get Ty.int (g2) 0 i oM))) (gB 0 (gE ok31 fun a35 s31 ok32 D18=>?_))));have o205:=ChnU.k0 o202 D18.stp;have o206:=OwnP.k0 o203 D18.stp;have o207:=Own.k0 o204 D18.stp;refine tn (wp_seq ?_)
     obtain ⟨ms2,rs2,hN2⟩:=o205
     obtain ⟨t11,e3,h3,o208,o209,o210,o211⟩:=ChnN.focus hN2 (i:=k) oM dE 43 44 45
     rw [← e3]
     have F37:=(F35.step0 D18.stp).step h3 dE
     have q235:At (Ty.nat i) t11 a35 (.tmp 102):=Ty.up _ (h3.le dE) (D18.k q221)
     have q236:At (Ty.val gv) t11 a35 (.tmp 0):=Ty.up _ (h3.le dE) (D18.k (D17.k q216))
     have q237:At (Ty.nat k) t11 a35 (.tmp 1):=Ty.up _ (h3.le dE) (D18.k (D17.k q217))
     have q238:At (Ty.val (us.getD k undef)) t11 a35 (.tmp 6):=Ty.up _ (h3.le dE) (D18.k (D17.k q218))
     have q239:At (Ty.val x4) t11 a35 (.tmp 100):=Ty.up _ (h3.le dE) (D18.k q225)
     have q240:At (Ty.nat (List.length (g2))) t11 a35 (.tmp 101):=Ty.up _ (h3.le dE) (D18.k (D17.k q220))
     have q241:At (Ty.int ((g2).getD i 0)) t11 a35 (.tmp 14):=Ty.up _ (h3.le dE) (D18.m 2 rfl)
     have o212:=OwnP.keepL o206 (h3.toL (L:=[42]) (by simp)) dE dE;have o213:=Own.keepL o207 (h3.toL (L:=[42]) (by simp)) dE dE
     obtain ⟨mq2,hmq2⟩:∃ x_,ms2 k = x_:=⟨_,rfl⟩
     obtain ⟨rq2,hrq2⟩:∃ x_,rs2 k = x_:=⟨_,rfl⟩
     rw [hmq2,hrq2] at o208
     rw [hmq2] at o209
     rw [hrq2] at o210
     have hmk2:∃ b,mq2 = Value.map (some b):=by obtain ⟨b_,_,_,e_,_⟩:=o209;exact ⟨b_,e_⟩
     have o214:OwnM Ty.ints kI t11 44 mq2 (c1 k).orb:=by have h_:=o209;rw [hD.same k oM] at h_;exact h_
     have o215:Own t11 45 22 1 rq2 (List.length (c1 k).gens) (List.map Ty.ints (c1 k).gens):=by have h_:=o210;rw [hD.same k oM] at h_;exact h_
     refine gI a35 t11 ok32 (gM q238 (gT (Ty.val (us.getD k undef)) rfl (fun A B E G H d0=>rP (y_nilp (OwnP.k0 o208 E) (eI d0))) (gT (Ty.val (ptrAt (us.getD k undef) 2)) rfl (fun A B E G H d0=>rP (ownp_field Try.fld111_2 Try.inf24 dE (OwnP.k0 o208 E) (eI d0))) (gS rfl (fun A B E G H d0=>rP (ownp_load Try.underlying24 rfl (OwnP.k0 o208 E) (eI d0) rfl)) (gE2 ok32 fun a36 s32 ok33 D19=>?_)))));have o216:=OwnP.k0 o212 D19.stp;have o217:=Own.k0 o213 D19.stp;have o218:=ChnR.k0 o211 D19.stp;have o219:=OwnP.k0 o208 D19.stp;have o220:=OwnM.k0 o214 D19.stp;have o221:=Own.k0 o215 D19.stp
     refine tL ok33 (y_callL (L:=[40]) [(45,40)] [(40,45),(41,48)] #[a36.eval (.tmp 109)] rfl dE Try.func115 rfl rfl my1 (cloneRO_fn (rq2) ((c1 k).gens) _ lW _ (uL (D19.m 3 rfl)) (Own.ren (cvo (by (simp)) (by (simp)) o221) (GW.ren_lend _ _ dE rfl)) (by first | assumption | omega) (by first | assumption | omega))) fun a37 s33 hs14 ok34 r14 sm12=>?_
     have o228:=ChnR.keepL o218 hs14 dE dE
     obtain ⟨t12,⟨x5,hT3,o222,o223⟩,B3⟩:=r14
     have q257:At (Ty.val x5) s33 a37 (.tmp 110):=Ty.up _ B3.le hT3
     have o224:Own s33 45 22 1 rq2 (List.length ((c1 k).gens)) (List.map Ty.ints ((c1 k).gens)):=Own.ren o222 (B3.ren dE rfl)
     have o225:Own s33 48 22 1 x5 (List.length ((c1 k).gens)) (List.map Ty.ints ((c1 k).gens)):=Own.ren o223 (B3.ren dE rfl)
     refine tL (R:=(fun v τ=>Pr.has (Ty.pr (Ty.nat (List.length ((c1 k).gens)))) τ v)) ok34 (Yld.toL (own_len Try.underlying24 (al (R:=(Pr.own 48 22 1 (List.length ((c1 k).gens)) (List.map Ty.ints ((c1 k).gens)))) q257 o225))) fun a38 s34 hs15 ok35 r15 sm13=>?_
     have o233:=ChnR.keepL o228 hs15 dE dE
     have q266:At (Ty.nat (List.length ((c1 k).gens))) s34 a38 (.tmp 111):=r15
     clear r15
     refine tL (R:=(fun v τ=>Pr.has (Ty.pr (Ty.int (0:Int))) τ v)) ok35 (Yld.toL (y_move rfl)) fun a39 s35 hs16 ok36 r16 sm14=>?_
     have o240:=ChnR.keepL o233 hs16 dE dE
     have q276:At (Ty.int (0:Int)) s35 a39 (.tmp 112):=r16
     clear r16;refine wpList_nil ?_
     obtain ⟨t13,e4,h4,o245⟩:=ChnR.unfocus o240 (OwnP.kl (OwnP.kl (OwnP.kl o219 hs14) hs15) hs16) (OwnM.kl (OwnM.kl (OwnM.kl o220 hs14) hs15) hs16) (Own.kl (Own.kl o224 hs15) hs16) (by first | rfl | simp) (by first | rfl | simp) dE dE dE dE dE
     rw [← e4]
     have F42:=((((F37.step0 D19.stp).sl hs14).sl hs15).sl hs16).stepL h4 dE
     have q277:At (Ty.nat i) t13 a39 (.tmp 102):=Ty.up _ (h4.le dE) (kq hs16 sm14 102 (kq hs15 sm13 102 (kq hs14 sm12 102 (D19.k q235))))
     have q278:At (Ty.val gv) t13 a39 (.tmp 0):=Ty.up _ (h4.le dE) (kq hs16 sm14 0 (kq hs15 sm13 0 (kq hs14 sm12 0 (D19.k q236))))
     have q279:At (Ty.nat k) t13 a39 (.tmp 1):=Ty.up _ (h4.le dE) (kq hs16 sm14 1 (kq hs15 sm13 1 (kq hs14 sm12 1 (D19.k q237))))
     have q280:At (Ty.val (us.getD k undef)) t13 a39 (.tmp 6):=Ty.up _ (h4.le dE) (kq hs16 sm14 6 (kq hs15 sm13 6 (kq hs14 sm12 6 (D19.k q238))))
     have q281:At (Ty.val x4) t13 a39 (.tmp 100):=Ty.up _ (h4.le dE) (kq hs16 sm14 100 (kq hs15 sm13 100 (kq hs14 sm12 100 (D19.k q239))))
     have q282:At (Ty.nat (List.length (g2))) t13 a39 (.tmp 101):=Ty.up _ (h4.le dE) (kq hs16 sm14 101 (kq hs15 sm13 101 (kq hs14 sm12 101 (D19.k q240))))
     have q283:At (Ty.int ((g2).getD i 0)) t13 a39 (.tmp 14):=Ty.up _ (h4.le dE) (kq hs16 sm14 14 (kq hs15 sm13 14 (kq hs14 sm12 14 (D19.k q241))))
     have q284:At (Ty.val x5) t13 a39 (.tmp 110):=Ty.up _ (h4.le dE) (kq hs16 sm14 110 (kq hs15 sm13 110 q257))
     have q285:At (Ty.nat (List.length ((c1 k).gens))) t13 a39 (.tmp 111):=Ty.up _ (h4.le dE) (kq hs16 sm14 111 q266)
     have q286:At (Ty.int (0:Int)) t13 a39 (.tmp 112):=Ty.up _ (h4.le dE) q276
     have o246:=OwnP.keepL (OwnP.kl (OwnP.kl (OwnP.kl o216 hs14) hs15) hs16) h4 dE dE;have o247:=Own.keepL (Own.kl (Own.kl (Own.kl o217 hs14) hs15) hs16) h4 dE dE;have o248:=Own.keepL (Own.kl (Own.kl o225 hs15) hs16) h4 dE dE
     have o249:ChnU t13 42 22 108 cs n d1 us:=cvch (by exact upd_back (hD.same k oM)) o245
     refine tn (wp_block ?_)
     refine loop (fun n7 a40 w7=>∃ (t14:GW) (j:Nat) (d2:(Nat → Lev)),t14.w = w7∧FromL [41,42] σ t14∧Ok 141 [] a40∧At (Ty.nat j) t14 a40 (.tmp 112)∧At (Ty.nat i) t14 a40 (.tmp 102)∧At (Ty.val gv) t14 a40 (.tmp 0)∧At (Ty.nat k) t14 a40 (.tmp 1)∧At (Ty.val (us.getD k undef)) t14 a40 (.tmp 6)∧At (Ty.val x4) t14 a40 (.tmp 100)∧At (Ty.nat (List.length (g2))) t14 a40 (.tmp 101)∧At (Ty.int ((g2).getD i 0)) t14 a40 (.tmp 14)∧At (Ty.val x5) t14 a40 (.tmp 110)∧At (Ty.nat (List.length ((c1 k).gens))) t14 a40 (.tmp 111)∧ChnU t14 42 22 108 cs n d2 us∧OwnP t14 41 gv [(Ty.nat n),(Ty.val gs),(Ty.val cs)]∧Own t14 47 3 1 x4 (List.length (g2)) (List.map Ty.int (g2))∧Own t14 48 22 1 x5 (List.length ((c1 k).gens)) (List.map Ty.ints ((c1 k).gens))∧(j ≤ (c1 k).gens.length)∧(ExtI n k c1 g2 i j d2)∧n7 = (c1 k).gens.length - j) ((c1 k).gens.length - (0)) ?_ ?_
     ·
      exact ⟨t13,0,d1,rfl,F42,ok36,(cJ q286),q277,q278,q279,q280,q281,q282,q283,q284,q285,(cvch (by (rfl)) o249),o246,o247,o248,by omega,hD,rfl⟩
     ·
      rintro n8 a41 w8 ⟨t15,j,d2,rfl,F43,ok37,q287,q288,q289,q290,q291,q292,q293,q294,q295,q296,o250,o251,o252,o253,hj,hD2,rfl⟩
      refine wp_seq ?_
      refine gI a41 t15 ok37 (gS rfl (fun A B E G H=>rP (y_lss (kp (H 112 rfl) E q287) (kp (H 111 rfl) E q296))) (gE ok37 fun a42 s36 ok38 D20=>?_));have F44:=F43.step0 D20.stp;have q297:=D20.k q287;have q298:=D20.k q288;have q299:=D20.k q289;have q300:=D20.k q290;have q301:=D20.k q291;have q302:=D20.k q292;have q303:=D20.k q293;have q305:=D20.k q295;have o254:=ChnU.k0 o250 D20.stp;have o255:=OwnP.k0 o251 D20.stp;have o256:=Own.k0 o252 D20.stp;have o257:=Own.k0 o253 D20.stp;refine tn (wp_seq ?_)
      refine cond_p (p:=(((j:Nat):Int) < (((List.length ((c1 k).gens)):Nat):Int))) (D20.m 0 rfl) (fun c5=>?_) (fun c5=>?_)
      ·
       obtain ⟨hg1,hg2,hg3,hg4,hg5,hg6,hg7,hg8,hg9,hg10,hg11,hg12⟩:=hC.go hkn (i:=i) (j:=j) oM oM;have hAP:=ExtI.pre hp hC hD2 oM oM
       refine wp_skip (tn (wp_seq (wp_block (wp_seq ?_))))
       refine gI a42 s36 ok38 (gT (Ty.val (cellPtr x5 j)) rfl (fun A B E G H=>rP (own_index1 (i:=((j:Nat):Int)) Try.underlying24 Try.inf22 (Own.k0 o257 E) (kp (H 110 rfl) E q305) (kp (H 112 rfl) E q297) oM oM)) (gS rfl (fun A B E G H d0=>rP (own_load Try.underlying22 rfl (Own.k0 o257 E) (eI d0) (lst_get Ty.ints ((c1 k).gens) [] j oM))) (gB 0 (gE ok38 fun a43 s37 ok39 D21=>?_))));have q310:=D21.k q299;have q311:=D21.k q300;have q312:=D21.k q301;have q315:=D21.k (D20.k q294);have o258:=ChnU.k0 o254 D21.stp;have o259:=OwnP.k0 o255 D21.stp;have o260:=Own.k0 o256 D21.stp;have o261:=Own.k0 o257 D21.stp;have q318:=D21.m 2 rfl;refine tn ?_
       obtain ⟨ms3,rs3,hN3⟩:=o258
       have o262:ChnU s37 42 22 108 cs n d2 us:=⟨ms3,rs3,hN3⟩
       have hl1:=hN3.lev k oM
       obtain ⟨mq3,hmq3⟩:∃ x_,ms3 k = x_:=⟨_,rfl⟩
       obtain ⟨rq3,hrq3⟩:∃ x_,rs3 k = x_:=⟨_,rfl⟩
       rw [hD2.same k oM] at hl1
       have o263:OwnP s37 42 (us.getD k undef) [(Ty.nat k),(Ty.val mq3),(Ty.val rq3)]:=by have h_:=hl1.p;simp only [hmq3,hrq3] at h_;exact h_
       have o264:OwnM Ty.ints kI s37 42 mq3 (c1 k).orb:=by have h_:=hl1.m;simp only [hmq3,hrq3] at h_;exact h_
       refine gI a43 s37 ok39 (gM q310 (gM q311 (gT (Ty.nat (k + 1)) rfl (fun A B E G H d0=>rP ((y_add (eI d0) rfl wX).mono (fun τ _ h=>cN (σ:=τ) h))) (gM q312 (gT (Ty.val (us.getD k undef)) rfl (fun A B E G H d0=>rP (y_nilp (OwnP.k0 o263 E) (eI d0))) (gT (Ty.val (ptrAt (us.getD k undef) 1)) rfl (fun A B E G H d0=>rP (ownp_field Try.fld111_1 Try.inf109 dE (OwnP.k0 o263 E) (eI d0))) (gS rfl (fun A B E G H d0=>rP (ownp_load Try.underlying109 rfl (OwnP.k0 o263 E) (eI d0) rfl)) (gM q318 (gM q315 (gT (Ty.ref [(Ty.int ((((c1 k).gens).getD j []).getD (((g2).getD i 0)).toNat 0))]) rfl (fun A B E G H d0 d1=>rP (y_index1 Try.underlying22 Try.inf3 (eI d0) (eI d1) oM (lst_get Ty.int (((c1 k).gens).getD j []) 0 (((g2).getD i 0)).toNat oM))) (gS rfl (fun A B E G H d0=>rP (y_load Try.underlying3 rfl (eI d0) rfl)) (gT (Ty.lst Ty.int (((c1 k).orb ((((c1 k).gens).getD j []).getD (((g2).getD i 0)).toNat 0)).getD [])) rfl (fun A B E G H d0 d1=>rP (y_lookup (i:=((((c1 k).gens).getD j []).getD (((g2).getD i 0)).toNat 0)) (z:=[]) Try.underlying109 (keyInt Try.underlying3) Try.inf22 (fun _=>sl_nil) (OwnM.k0 o264 E) (eI d0) (eI d1))) (gS rfl (fun A B E G H d0=>rP (y_call _ Try.func65 rfl rfl my1 (inverse_fn ((((c1 k).orb ((((c1 k).gens).getD j []).getD (((g2).getD i 0)).toNat 0)).getD [])) _ _ (eI d0) (by assumption)))) (gM q318 (gM q312 (gT (Ty.val (us.getD k undef)) rfl (fun A B E G H d0=>rP (y_nilp (OwnP.k0 o263 E) (eI d0))) ?_))))))))))))))))
       refine gT (Ty.val (ptrAt (us.getD k undef) 1)) rfl (fun A B E G H d0=>rP (ownp_field Try.fld111_1 Try.inf109 dE (OwnP.k0 o263 E) (eI d0))) (gS rfl (fun A B E G H d0=>rP (ownp_load Try.underlying109 rfl (OwnP.k0 o263 E) (eI d0) rfl)) (gM q315 (gT (Ty.lst Ty.int (((c1 k).orb ((g2).getD i 0)).getD [])) rfl (fun A B E G H d0 d1=>rP (y_lookup (i:=((g2).getD i 0)) (z:=[]) Try.underlying109 (keyInt Try.underlying3) Try.inf22 (fun _=>sl_nil) (OwnM.k0 o264 E) (eI d0) (eI d1))) (gS rfl (fun A B E G H d0 d1 d2=>rP (y_call _ Try.func64 rfl rfl my2 (product_fn ((((c1 k).gens).getD j [])) ((((c1 k).orb ((g2).getD i 0)).getD [])) _ _ _ (eI d0) (eI d1) (by first | assumption | omega) (by first | assumption | omega) (by first | assumption | omega)))) (gS rfl (fun A B E G H d0 d1 d2=>rP (y_call _ Try.func64 rfl rfl my2 (product_fn ((undoL ((((c1 k).orb ((((c1 k).gens).getD j []).getD (((g2).getD i 0)).toNat 0)).getD [])))) ((byL ((((c1 k).gens).getD j [])) ((((c1 k).orb ((g2).getD i 0)).getD [])))) _ _ _ (eI d0) (eI d1) (by first | assumption | omega) (by first | assumption | omega) (by first | assumption | omega)))) (gE2 ok39 fun a44 s38 ok40 D22=>?_))))));have o265:=ChnU.k0 o262 D22.stp;have o266:=OwnP.k0 o259 D22.stp;have o267:=Own.k0 o260 D22.stp;have o268:=Own.k0 o261 D22.stp;have o269:=OwnP.k0 o263 D22.stp;have o270:=OwnM.k0 o264 D22.stp;have q331:=D22.m 21 rfl
       have b5:=sl_le q331
       refine tL ok40 (y_callL (L:=[41,42]) [(41,41),(42,42)] [(41,41),(42,42)] #[a44.eval (.tmp 116),a44.eval (.tmp 118),a44.eval (.tmp 137)] rfl dE Try.func92 rfl rfl my3 (hOn (gv) (gs) (cs) (us) (n) ((k + 1)) (d2) ((byL ((undoL ((((c1 k).orb ((((c1 k).gens).getD j []).getD (((g2).getD i 0)).toNat 0)).getD [])))) ((byL ((((c1 k).gens).getD j [])) ((((c1 k).orb ((g2).getD i 0)).getD [])))))) _ lW _ _ _ (uL (D22.m 0 rfl)) (uL (cvi (σ:=s38) (by first | omega | assumption | exact hAP | exact hp.wc | exact hp.le | exact hp.row | exact hp.fx) (D22.m 2 rfl))) (uL q331) (OwnP.ren o266 (GW.ren_lend _ _ dE rfl)) (ChnU.ren (cvch (by (rfl)) o265) (GW.ren_lend _ _ dE rfl)) (by first | omega | assumption | exact hAP | exact hp.wc | exact hp.le | exact hp.row | exact hp.fx) (by first | omega | assumption | exact hAP | exact hp.wc | exact hp.le | exact hp.row | exact hp.fx))) fun a45 s39 hs17 ok41 r17 sm15=>?_
       obtain ⟨t16,⟨g3,hT4,o271,o272,hp5⟩,B4⟩:=r17
       have o273:OwnP s39 41 gv [(Ty.nat n),(Ty.val gs),(Ty.val cs)]:=OwnP.ren o271 (B4.ren dE rfl)
       have o274:ChnU s39 42 22 108 cs n (g3) us:=ChnU.ren o272 (B4.ren dE rfl)
       refine wpList_nil (bn (tn ?_))
       refine gI a45 s39 ok41 (gT (Ty.nat (j + 1)) rfl (fun A B E G H=>rP ((y_add (kp (H 112 rfl) E (kq hs17 sm15 112 (D22.k (D21.k q297)))) rfl wX).mono (fun τ _ h=>cN (σ:=τ) h))) (gS rfl (fun A B E G H d0=>rP (y_move (eI d0))) (gE ok41 fun a46 s40 ok42 D23=>?_)));have o277:=Own.k0 (Own.kl o267 hs17) D23.stp;have o278:=Own.k0 (Own.kl o268 hs17) D23.stp;have o279:=OwnP.k0 o273 D23.stp;have o280:=ChnU.k0 o274 D23.stp
       exact tn ⟨(c1 k).gens.length - ((j+1)),by omega,s40,(j+1),g3,rfl,((((F44.step0 D21.stp).step0 D22.stp).sl hs17).step0 D23.stp),ok42,(cJ (D23.m 1 rfl)),(D23.k (kq hs17 sm15 102 (D22.k (D21.k q298)))),(D23.k (kq hs17 sm15 0 (D22.k q310))),(D23.k (kq hs17 sm15 1 (D22.k q311))),(D23.k (kq hs17 sm15 6 (D22.k q312))),(D23.k (kq hs17 sm15 100 (D22.k (D21.k q302)))),(D23.k (kq hs17 sm15 101 (D22.k (D21.k q303)))),(D23.k (kq hs17 sm15 14 (D22.k q315))),(D23.k (kq hs17 sm15 110 (D22.k (D21.k q305)))),(D23.k (kq hs17 sm15 111 (D22.k (D21.k (D20.k q296))))),o280,o279,o277,o278,by omega,ExtI.step hC hkn oM oM hD2 hp5,rfl⟩
      ·
       have ej:j = (c1 k).gens.length:=oM;have hD3:=ExtI.next (ej ▸ hD2)
       refine wp_exit (tx (tx (bx (bn (tn ?_)))))
       refine gI a42 s36 ok38 (gT (Ty.nat (i + 1)) rfl (fun A B E G H=>rP ((y_add (kp (H 102 rfl) E q298) rfl wX).mono (fun τ _ h=>cN (σ:=τ) h))) (gS rfl (fun A B E G H d0=>rP (y_move (eI d0))) (gE ok38 fun a47 s41 ok43 D24=>?_)));have o281:=ChnU.k0 o254 D24.stp;have o282:=OwnP.k0 o255 D24.stp;have o283:=Own.k0 o256 D24.stp;have o284:=Own.k0 o257 D24.stp
       exact tn ⟨g2.length - ((i+1)),by omega,s41,(i+1),d2,rfl,(F44.step0 D24.stp),ok43,(cJ (D24.m 1 rfl)),(D24.k q299),(D24.k q300),(D24.k q301),(D24.k q302),(D24.k q303),(cvch (by (rfl)) o281),o282,o283,by omega,hD3,rfl⟩
    ·
     have ei:i = g2.length:=oM;have hEx:=ExtI.done hp hC (m:=0) (ei ▸ hD)
     refine wp_exit (tx (tx (bx ?_)))
     exact nL0 rfl ok31 F35 ⟨d1,trivial,o203,(cvch (by (rfl)) o202),(by exact hEx)⟩
set_option maxHeartbeats 4000000 in
set_option maxRecDepth 100000 in
theorem gAdd_fn:∀ (d:Nat),GAddAt d:=by
 intro d
 induction d using Nat.strongRecOn with
 | _ d ih =>
 intro gv gs cs us n k c r σ hlow v0 v1 v2 hv0 hv1 hv2 ho_gv ho_cs hd hp
 have hnn:=hp.wc.nn
 have hkn:=hp.le
 have hw1:=hp.wc
 have hr1:=hp.row
 have hf1:=hp.fx
 obtain ⟨tq,htq⟩:∃ tq,tq = sftL n c k r:=⟨_,rfl⟩
 have hS:Sifted n k r c tq.1 tq.2:=⟨htq.symm⟩
 obtain ⟨ha1,ha2,ha3,ha4,ha5,_⟩:=hS.spec hp
 refine fn_introL hlow Try.func92 rfl Try.ntmps92 (Nat.le_of_ble_eq_true rfl) (fun a0 F0 ok0 hargs=>?_)
 have p0:=pB (hargs 0 _ rfl) hv0
 have p1:=pB (hargs 1 _ rfl) hv1
 have p2:=pB (hargs 2 _ rfl) hv2
 have b1:=sl_le p2
 clear hargs;refine wp_seq ?_
 refine gI a0 σ ok0 (gM p0 (gM p1 (gM p2 (gE2 ok0 fun a1 s1 ok1 D1=>?_))));have o1:=OwnP.k0 ho_gv D1.stp;have o2:=ChnU.k0 ho_cs D1.stp
 refine tL ok1 (y_callL (L:=[41,42]) [(41,41),(42,42)] [(41,41),(42,42)] #[a1.eval (.tmp 10),a1.eval (.tmp 11),a1.eval (.tmp 12)] rfl dE Try.func77 rfl rfl my3 (sift_fn (gv) (gs) (cs) (us) (n) (k) (c) (r) _ lW _ _ _ (uL (D1.m 0 rfl)) (uL (D1.m 1 rfl)) (uL (D1.m 2 rfl)) (OwnP.ren o1 (GW.ren_lend _ _ dE rfl)) (ChnU.ren o2 (GW.ren_lend _ _ dE rfl)) oX oX oX oX)) fun a2 s2 hs1 ok2 r1 sm1=>?_
 obtain ⟨t1,⟨hT1,o3,o4⟩,B1⟩:=r1
 have q8:At (Ty.tup2 (Ty.nat (sftL n c k r).1) (Ty.lst Ty.int (sftL n c k r).2)) s2 a2 (.tmp 13):=Ty.up _ B1.le hT1
 have o5:OwnP s2 41 gv [(Ty.nat n),(Ty.val gs),(Ty.val cs)]:=OwnP.ren o3 (B1.ren dE rfl)
 have o6:ChnU s2 42 22 108 cs n c us:=ChnU.ren o4 (B1.ren dE rfl)
 refine tL ok2 (Yld.toL (y_mv q8)) fun a3 s3 hs2 ok3 r2 sm2=>?_
 have q11:At (Ty.tup2 (Ty.nat (sftL n c k r).1) (Ty.lst Ty.int (sftL n c k r).2)) s3 a3 (.tmp 9):=r2
 clear r2
 refine tL (R:=(fun v τ=>Pr.has (Ty.pr (Ty.nat (sftL n c k r).1)) τ v)) ok3 (Yld.toL (y_ext2_0 q11)) fun a4 s4 hs3 ok4 r3 sm3=>?_
 have q15:At (Ty.nat (sftL n c k r).1) s4 a4 (.tmp 14):=r3
 clear r3
 refine tL (R:=(fun v τ=>Pr.has (Ty.pr (Ty.lst Ty.int (sftL n c k r).2)) τ v)) ok4 (Yld.toL (y_ext2_1 (kq hs3 sm3 9 q11))) fun a5 s5 hs4 ok5 r4 sm4=>?_
 have q19:At (Ty.lst Ty.int (sftL n c k r).2) s5 a5 (.tmp 15):=r4
 clear r4
 refine tL ok5 (Yld.toL (y_as (kq hs4 sm4 14 q15))) fun a6 s6 hs5 ok6 r5 sm5=>?_
 have q23:At (Ty.nat (sftL n c k r).1) s6 a6 (.tmp 6):=r5
 clear r5
 refine tL ok6 (Yld.toL (y_as (kq hs5 sm5 15 q19))) fun a7 s7 hs6 ok7 r6 sm6=>?_
 have q24:=kq hs6 sm6 0 (kq hs5 sm5 0 (kq hs4 sm4 0 (kq hs3 sm3 0 (kq hs2 sm2 0 (kq hs1 sm1 0 (D1.k p0))))));have o15:=OwnP.kl (OwnP.kl (OwnP.kl (OwnP.kl (OwnP.kl o5 hs2) hs3) hs4) hs5) hs6
 have q27:At (Ty.lst Ty.int (sftL n c k r).2) s7 a7 (.tmp 7):=r6
 clear r6;refine wpList_nil ?_
 have q28:At (Ty.nat tq.1) s7 a7 (.tmp 6):=(cvi (by (rw [htq])) (kq hs6 sm6 6 q23))
 have q29:At (Ty.lst Ty.int tq.2) s7 a7 (.tmp 7):=(cvt (by (rw [htq])) q27)
 refine tn (wp_seq (wp_seq ?_))
 refine gI a7 s7 ok7 (gM q28 (gM q24 (gT (Ty.val gv) rfl (fun A B E G H d0=>rP (y_nilp (OwnP.k0 o15 E) (eI d0))) (gT (Ty.val (ptrAt gv 0)) rfl (fun A B E G H d0=>rP (ownp_field Try.fld95_0 Try.inf3 dE (OwnP.k0 o15 E) (eI d0))) (gS rfl (fun A B E G H d0=>rP (ownp_load Try.underlying3 rfl (OwnP.k0 o15 E) (eI d0) rfl)) (gS rfl (fun A B E G H d0 d1=>rP (y_eql (eI d0) (eI d1))) (gE ok7 fun a8 s8 ok8 D2=>?_)))))));have F8:=(((((((F0.step0 D1.stp).sl hs1).sl hs2).sl hs3).sl hs4).sl hs5).sl hs6).step0 D2.stp;have o17:=OwnP.k0 o15 D2.stp;have o18:=ChnU.k0 (ChnU.kl (ChnU.kl (ChnU.kl (ChnU.kl (ChnU.kl o6 hs2) hs3) hs4) hs5) hs6) D2.stp;refine tn ?_
 refine cond_p (p:=(((tq.1:Nat):Int) = ((n:Nat):Int))) (D2.m 5 rfl) (fun c1=>?_) (fun c1=>?_)
 ·
  have hT:=hp.full hS oM
  refine wp_ret (tr ?_)
  exact retL0 rfl ok8 F8 ⟨c,trivial,o17,(cvch (by (rfl)) o18),(by exact hT)⟩
 ·
  have hTn:tq.1 < n:=oM
  refine wp_skip (tn (wp_seq ?_))
  refine gI a8 s8 ok8 (gM (D2.k (kq hs6 sm6 1 (kq hs5 sm5 1 (kq hs4 sm4 1 (kq hs3 sm3 1 (kq hs2 sm2 1 (kq hs1 sm1 1 (D1.k p1)))))))) (gB 0 (gE ok8 fun a9 s9 ok9 D3=>?_)));have o19:=OwnP.k0 o17 D3.stp;have o20:=ChnU.k0 o18 D3.stp;refine tn (wp_block ?_)
  refine loop (fun n1 a10 w1=>∃ (t2:GW) (i:Nat) (d1:(Nat → Lev)),t2.w = w1∧FromL [41,42] σ t2∧Ok 32 [] a10∧At (Ty.nat i) t2 a10 (.tmp 8)∧At (Ty.val gv) t2 a10 (.tmp 0)∧At (Ty.nat tq.1) t2 a10 (.tmp 6)∧At (Ty.lst Ty.int tq.2) t2 a10 (.tmp 7)∧ChnU t2 42 22 108 cs n d1 us∧OwnP t2 41 gv [(Ty.nat n),(Ty.val gs),(Ty.val cs)]∧(k ≤ i)∧(i ≤ tq.1 + 1)∧(AddL n k tq.2 c i d1)∧n1 = tq.1 + 1 - i) (tq.1 + 1 - (k)) ?_ ?_
  ·
   exact ⟨s9,k,c,rfl,(F8.step0 D3.stp),ok9,(cJ (D3.m 1 rfl)),(D3.k (D2.k q24)),(D3.k (D2.k q28)),(D3.k (D2.k q29)),(cvch (by (rfl)) o20),o19,by omega,by omega,.inl ⟨rfl,rfl⟩,rfl⟩
  ·
   rintro n2 a11 w2 ⟨t3,i,d1,rfl,F10,ok10,q39,q40,q41,q42,o21,o22,hki,hit,hL,rfl⟩
   refine wp_seq (wp_seq ?_)
   refine gI a11 t3 ok10 (gM q39 (gM q41 (gS rfl (fun A B E G H d0 d1=>rP (y_leq (eI d0) (eI d1))) (gE ok10 fun a12 s10 ok11 D4=>?_))));have F11:=F10.step0 D4.stp;have q43:=D4.k q39;have q44:=D4.k q40;have q46:=D4.k q42;have o23:=ChnU.k0 o21 D4.stp;have o24:=OwnP.k0 o22 D4.stp;refine tn ?_
   refine cond_p (p:=(((i:Nat):Int) ≤ ((tq.1:Nat):Int))) (D4.m 2 rfl) (fun c2=>?_) (fun c2=>?_)
   ·
    have hXP:=hL.pre hp hS hTn oM
    refine wp_skip (tn (wp_seq (wp_block ?_)))
    refine gI a12 s10 ok11 (gM q44 (gM q43 (gM q46 (gE2 ok11 fun a13 s11 ok12 D5=>?_))));have o25:=ChnU.k0 o23 D5.stp;have o26:=OwnP.k0 o24 D5.stp
    refine tL ok12 (y_callL (L:=[41,42]) [(41,41),(42,42)] [(41,41),(42,42)] #[a13.eval (.tmp 28),a13.eval (.tmp 29),a13.eval (.tmp 30)] rfl dE Try.func106 rfl rfl my3 (gExt_fn ((n - (i + 1))) (gv) (gs) (cs) (us) (n) (i) (d1) (tq.2) _ lW _ _ _ (uL (D5.m 0 rfl)) (uL (cvi (σ:=s11) (by first | omega | assumption | exact hp.fin | exact hfn | exact hXP | exact ih _ oM) (D5.m 1 rfl))) (uL (D5.m 2 rfl)) (OwnP.ren o26 (GW.ren_lend _ _ dE rfl)) (ChnU.ren (cvch (by (rfl)) o25) (GW.ren_lend _ _ dE rfl)) (by first | omega | assumption | exact hp.fin | exact hfn | exact hXP | exact ih _ oM) (by first | omega | assumption | exact hp.fin | exact hfn | exact hXP | exact ih _ oM) (by first | omega | assumption | exact hp.fin | exact hfn | exact hXP | exact ih _ oM))) fun a14 s12 hs7 ok13 r7 sm7=>?_
    obtain ⟨t4,⟨g1,hT2,o27,o28,hp1⟩,B2⟩:=r7
    have o29:OwnP s12 41 gv [(Ty.nat n),(Ty.val gs),(Ty.val cs)]:=OwnP.ren o27 (B2.ren dE rfl)
    have o30:ChnU s12 42 22 108 cs n (g1) us:=ChnU.ren o28 (B2.ren dE rfl)
    refine wpList_nil (bn (tn ?_))
    refine gI a14 s12 ok13 (gM (kq hs7 sm7 8 (D5.k q43)) (gT (Ty.nat (i + 1)) rfl (fun A B E G H d0=>rP ((y_add (eI d0) rfl wX).mono (fun τ _ h=>cN (σ:=τ) h))) (gB 0 (gE ok13 fun a15 s13 ok14 D6=>?_))));have o31:=OwnP.k0 o29 D6.stp;have o32:=ChnU.k0 o30 D6.stp
    exact tn ⟨tq.1 + 1 - ((i + 1)),by omega,s13,(i + 1),g1,rfl,(((F11.step0 D5.stp).sl hs7).step0 D6.stp),ok14,(cJ (D6.m 2 rfl)),(D6.k (kq hs7 sm7 0 (D5.k q44))),(D6.k (kq hs7 sm7 6 (D5.k (D4.k q41)))),(D6.k (kq hs7 sm7 7 (D5.k q46))),o32,o31,by omega,by omega,hL.step hp hS hTn oM hp1,rfl⟩
   ·
    have ei:i = tq.1 + 1:=oM;have hAd:=AddL.done hp hS hTn (ei ▸ hL)
    refine wp_exit (tx (tx (bx ?_)))
    exact nL0 rfl ok11 F11 ⟨d1,trivial,o24,(cvch (by (rfl)) o23),(by exact hAd)⟩
theorem Try.inf95:Info Try.prog 95 (.agg #[.int .i64 0,.slice none 0 0,.slice none 0 0]) 3 56:=by unfold Info;kernel_rfl
theorem Try.inf111:Info Try.prog 111 (.agg #[.int .i64 0,.map none,.slice none 0 0]) 3 40:=by unfold Info;kernel_rfl
theorem Try.fld95_1:fieldOf Try.prog 95 1 = some (24,1):=by kernel_rfl
set_option maxHeartbeats 4000000 in
set_option maxRecDepth 100000 in
theorem gOf_fn (n:Nat) (gens:List (List Int)) (σ:GW) (hlow:Low [] σ) (v0 v1:Value) (hv0:Ty.has (Ty.nat n) σ v0) (hv1:Ty.has (Ty.lst Ty.ints gens) σ v1)  (hn:1 ≤ n∧n ≤ 12) (hg:∀ x ∈ gens,RowN n x) (hl:gens.length ≤ 1000000) :
    FnL Try.prog 63 #[v0,v1] σ [] (fun v τ=>∃ (c:(Nat → Lev)),∃ (us:(List Value)),∃ (x:Value),∃ (cs:Value),∃ (gs:Value),(Ty.has (Ty.val x) τ v)∧(OwnP τ 41 x [(Ty.nat n),(Ty.val gs),(Ty.val cs)])∧(ChnU τ 42 22 108 cs n c us)∧(Own τ 43 22 1 gs (List.length gens) (List.map Ty.ints gens))∧(ChnOf n gens c)):=by
 refine fn_introL hlow Try.func63 rfl Try.ntmps63 (Nat.le_of_ble_eq_true rfl) (fun a0 F0 ok0 hargs=>?_)
 have p0:=pB (hargs 0 _ rfl) hv0
 have p1:=pB (hargs 1 _ rfl) hv1
 have b1:=sl_le p1
 clear hargs;refine wp_seq ?_
 refine gI a0 σ ok0 (gC (Ty.val (Value.pointer none)) (gE ok0 fun a1 s1 ok1 D1=>?_));have q1:=D1.k p0;refine tn (wp_seq ?_)
 refine gI a1 s1 ok1 (gM q1 (gT (Ty.agg [(Ty.nat n),(Ty.val (Value.slice none 0 0)),(Ty.val (Value.slice none 0 0))]) rfl (fun A B E G H d0=>rP (y_bld [(0,(.tmp 11),(Ty.nat n))] [(Ty.int (0:Int)),(Ty.val (Value.slice none 0 0)),(Ty.val (Value.slice none 0 0))] (l:=[(0,1),(1,1),(2,1)]) rfl Try.inf95 rfl (alloc_vals (vs:=[.int .i64 0,.slice none 0 0,.slice none 0 0]) rfl) rfl (by intro p hp;simp only [List.mem_cons,List.not_mem_nil,or_false] at hp;rcases hp with rfl;exact ⟨one_val rfl,(eI d0)⟩))) (gR (Pr.ownp 41 [(Ty.nat n),(Ty.val (Value.slice none 0 0)),(Ty.val (Value.slice none 0 0))]) rfl (by intro A B E G H d0;exact rP (y_boxo 41 (eI d0))) (gE2 ok1 fun a2 s2 ok2 D2=>?_))))
 obtain ⟨x1,hx1⟩:∃ x,a2.eval (.tmp 13) = x:=⟨_,rfl⟩
 have q5:At (Ty.val x1) s2 a2 (.tmp 13):=hx1
 have o1:=al2 (R:=(Pr.ownp 41 [(Ty.nat n),(Ty.val (Value.slice none 0 0)),(Ty.val (Value.slice none 0 0))])) hx1 (D2.done 2 dE)
 refine tL ok2 (Yld.toL (y_as q5)) fun a3 s3 hs1 ok3 r1 sm1=>?_
 have q6:=kq hs1 sm1 0 (D2.k q1)
 have q8:At (Ty.val x1) s3 a3 (.tmp 5):=r1
 clear r1;refine wpList_nil (tn (wp_seq (wp_seq ?_)))
 have o3:LevsU s3 42 22 ([]:List Value) 0 (chn0 n):=LevsU.nil
 refine gI a3 s3 ok3 (gM q6 (gT (Ty.int (0:Int)) rfl (fun A B E G H=>rP (y_move rfl)) (gE ok3 fun a4 s4 ok4 D3=>?_)));have o4:=OwnP.k0 (OwnP.kl o1 hs1) D3.stp;have o5:=LevsU.k0 o3 D3.stp;refine tn (wp_block ?_)
 have o6:Own s4 44 108 1 (Value.slice none 0 0) 0 (List.map Ty.val ([]:List Value)):=Own.nil _ _ _ _
 refine loop (fun n1 a5 w1=>∃ (t1:GW) (b:Nat) (us:(List Value)) (cv:Value),t1.w = w1∧FromL [] σ t1∧Ok 62 [] a5∧At (Ty.nat b) t1 a5 (.tmp 15)∧At (Ty.nat n) t1 a5 (.tmp 0)∧At (Ty.lst Ty.ints gens) t1 a5 (.tmp 1)∧At (Ty.val x1) t1 a5 (.tmp 5)∧At (Ty.nat n) t1 a5 (.tmp 14)∧OwnP t1 41 x1 [(Ty.nat n),(Ty.val (Value.slice none 0 0)),(Ty.val cv)]∧Own t1 44 108 1 cv (List.length us) (List.map Ty.val us)∧LevsU t1 42 22 us b (chn0 n)∧(b ≤ n)∧(us.length = b)∧n1 = n - b) (n - (0)) ?_ ?_
 ·
  exact ⟨s4,0,([]:List Value),(Value.slice none 0 0),rfl,((((F0.step0 D1.stp).step0 D2.stp).sl hs1).step0 D3.stp),ok4,(cJ (D3.m 1 rfl)),(D3.k q6),(D3.k (kq hs1 sm1 1 (D2.k (D1.k p1)))),(D3.k q8),(D3.m 0 rfl),o4,(cvo (by (simp)) (by (simp)) o6),(cvlv (by (first | rfl | simp)) (by (first | rfl | omega)) o5),by omega,rfl,rfl⟩
 ·
  rintro n2 a6 w2 ⟨t2,b,us,cv,rfl,F5,ok5,q14,q15,q16,q17,q18,o7,o8,o9,hb,hul,rfl⟩
  refine wp_seq ?_
  refine gI a6 t2 ok5 (gS rfl (fun A B E G H=>rP (y_lss (kp (H 15 rfl) E q14) (kp (H 14 rfl) E q18))) (gE ok5 fun a7 s5 ok6 D4=>?_));have F6:=F5.step0 D4.stp;have q19:=D4.k q14;have q20:=D4.k q15;have q21:=D4.k q16;have q22:=D4.k q17;have q23:=D4.k q18;have o10:=OwnP.k0 o7 D4.stp;have o11:=Own.k0 o8 D4.stp;have o12:=LevsU.k0 o9 D4.stp;have q24:=D4.m 0 rfl;refine tn (wp_seq ?_)
  refine cond_p (p:=(((b:Nat):Int) < ((n:Nat):Int))) q24 (fun c1=>?_) (fun c1=>?_)
  ·
   refine wp_skip (tn (wp_seq (wp_block (wp_seq ?_))))
   refine gI a7 s5 ok6 (gM q19 (gB 0 (gE ok6 fun a8 s6 ok7 D5=>?_)));have q26:=D5.k q20;have o13:=OwnP.k0 o10 D5.stp;have o14:=Own.k0 o11 D5.stp;have o15:=LevsU.k0 o12 D5.stp;refine tn (wp_seq ?_)
   refine gI a8 s6 ok7 (gM q26 (gS rfl (fun A B E G H d0=>rP (y_call _ Try.func74 rfl rfl my1 (rounds_fn (n) _ _ (eI d0) oM))) (gS rfl (fun A B E G H d0=>rP (y_move (eI d0))) (gT (Ty.lst Ty.int (roundsL n)) rfl (fun A B E G H d0=>rP (y_ext2_0 (eI d0))) (gT (Ty.int (0:Int)) rfl (fun A B E G H d0 d1=>rP (y_ext2_1 (eI d0))) (gB 0 (gB 0 (gE ok7 fun a9 s7 ok8 D6=>?_))))))));have q34:=D6.k (D5.k q22);have q36:=D6.k (D5.m 1 rfl);have o16:=OwnP.k0 o13 D6.stp;have o17:=Own.k0 o14 D6.stp;have o18:=LevsU.k0 o15 D6.stp;refine tn ?_
   refine gI a9 s7 ok8 (gM q34 (gM q34 (gT (Ty.val x1) rfl (fun A B E G H d0=>rP (y_nilp (OwnP.k0 o16 E) (eI d0))) (gT (Ty.val (ptrAt x1 2)) rfl (fun A B E G H d0=>rP (ownp_field Try.fld95_2 Try.inf93 dE (OwnP.k0 o16 E) (eI d0))) (gS rfl (fun A B E G H d0=>rP (ownp_load Try.underlying93 rfl (OwnP.k0 o16 E) (eI d0) rfl)) (gM q36 (gR (Pr.ownm Ty.ints kI 46 (fun _=>none:Int → Option (List Int))) rfl (by intro A B E G H;exact rP (y_makemap 46)) (gM q36 (gM (D6.m 5 rfl) (gE2 ok8 fun a10 s8 ok9 D7=>?_))))))))));have o19:=OwnP.k0 o16 D7.stp;have o20:=Own.k0 o17 D7.stp;have o21:=LevsU.k0 o18 D7.stp
   have q43:At (Ty.val x1) s8 a10 (.tmp 23):=D7.done 0 dE
   obtain ⟨x2,hx2⟩:∃ x,a10.eval (.tmp 29) = x:=⟨_,rfl⟩
   have q46:At (Ty.val x2) s8 a10 (.tmp 29):=hx2
   have o22:=al2 (R:=(Pr.ownm Ty.ints kI 46 (fun _=>none:Int → Option (List Int)))) hx2 (D7.done 6 dE)
   refine tailL0 (L:=[46]) (R:=(fun _ τ=>OwnM Ty.ints kI τ 46 x2 (fun x_=>if x_ = ((b:Nat):Int) then some (roundsL n) else (fun _=>none:Int → Option (List Int)) x_))) rfl rfl (YldM.toL (m_mapins (i:=((b:Nat):Int)) Try.underlying109 (keyInt Try.underlying3) dE o22 q46 (D7.m 7 rfl) (D7.m 8 rfl))) (fun v1 s9 hs2 r2=>?_)
   have q49:=kpL hs2 dE rfl (D7.k (D6.k (D5.k q19)));have q50:=kpL hs2 dE rfl (D7.k (D6.k q26));have q51:=kpL hs2 dE rfl (D7.k (D6.k (D5.k q21)));have q52:=kpL hs2 dE rfl (D7.k q34);have q53:=kpL hs2 dE rfl (D7.k (D6.k (D5.k q23)));have q54:=kpL hs2 dE rfl q43;have q55:=kpL hs2 dE rfl (D7.m 4 rfl);have q56:=kpL hs2 dE rfl (D7.m 5 rfl);have q57:=kpL hs2 dE rfl q46;have o26:=LevsU.keepL o21 hs2 dE dE
   have o23:OwnM Ty.ints kI s9 46 x2 (fun x_=>if x_ = ((b:Nat):Int) then some (roundsL n) else (fun _=>none:Int → Option (List Int)) x_):=r2
   clear r2
   refine tL ok9 (Yld.toL (y_mv q57)) fun a11 s10 hs3 ok10 r3 sm2=>?_
   have o29:=LevsU.keepL o26 hs3 dE dE;have o30:=OwnM.kl o23 hs3
   have q67:At (Ty.val x2) s10 a11 (.tmp 32):=r3
   clear r3
   refine tL (R:=(fun v τ=>Pr.has (Ty.pr (Ty.agg [(Ty.nat b),(Ty.val x2),(Ty.val (Value.slice none 0 0))])) τ v)) ok10 (Yld.toL (y_bld [(0,(.tmp 28),(Ty.nat b)),(1,(.tmp 32),(Ty.val x2))] [(Ty.int (0:Int)),(Ty.val (Value.map none)),(Ty.val (Value.slice none 0 0))] (l:=[(0,1),(1,1),(2,1)]) rfl Try.inf111 rfl (alloc_vals (vs:=[.int .i64 0,.map none,.slice none 0 0]) rfl) rfl (by intro p hp;simp only [List.mem_cons,List.not_mem_nil,or_false] at hp;rcases hp with rfl | rfl;exact ⟨one_val rfl,(kq hs3 sm2 28 q56)⟩;exact ⟨one_val (OwnM.one o30),q67⟩))) fun a12 s11 hs4 ok11 r4 sm3=>?_
   have o33:=LevsU.keepL o29 hs4 dE dE
   have q75:At (Ty.agg [(Ty.nat b),(Ty.val x2),(Ty.val (Value.slice none 0 0))]) s11 a12 (.tmp 33):=r4
   clear r4
   refine tL (R:=(fun v τ=>Pr.has (Pr.ownp 45 [(Ty.nat b),(Ty.val x2),(Ty.val (Value.slice none 0 0))]) τ v)) ok11 (Yld.toL (y_boxo 45 q75)) fun a13 s12 hs5 ok12 r5 sm4=>?_
   have o38:=LevsU.keepL o33 hs5 dE dE
   obtain ⟨x3,hx3⟩:∃ x,a13.eval (.tmp 34) = x:=⟨_,rfl⟩
   have q83:At (Ty.val x3) s12 a13 (.tmp 34):=hx3
   have o35:=al2 (R:=(Pr.ownp 45 [(Ty.nat b),(Ty.val x2),(Ty.val (Value.slice none 0 0))])) hx3 r5
   clear r5
   refine tL (R:=(fun v τ=>Pr.has (Ty.pr (Ty.sl 1 1 [(Ty.val x3)])) τ v)) ok12 (Yld.toL (y_build1o Try.underlying93 Try.inf108 rfl (one_val (OwnP.one o35)) q83)) fun a14 s13 hs6 ok13 r6 sm5=>?_
   have o42:=LevsU.keepL o38 hs6 dE dE;have o44:=OwnP.kl o35 hs6
   have q91:At (Ty.sl 1 1 [(Ty.val x3)]) s13 a14 (.tmp 35):=r6
   clear r6
   refine tL ok13 (YldM.toL (m_append Try.underlying93 Try.inf108 dE rfl dE (al (R:=(Pr.own 44 108 1 (List.length us) (List.map Ty.val us))) (kq hs6 sm5 27 (kq hs5 sm4 27 (kq hs4 sm3 27 (kq hs3 sm2 27 q55)))) (Own.kl (Own.kl (Own.kl (Own.kl (Own.kl o20 hs2) hs3) hs4) hs5) hs6)) q91 (by intro U hU;simp at hU;subst hU;exact one_val (OwnP.one o44)) oM oM)) fun a15 s14 hs7 ok14 r7 sm6=>?_
   have o46:=OwnP.kl (OwnP.kl (OwnP.kl (OwnP.kl (OwnP.kl (OwnP.kl o19 hs2) hs3) hs4) hs5) hs6) hs7;have o47:=LevsU.keepL o42 hs7 dE dE
   obtain ⟨x4,hx4⟩:∃ x,a15.eval (.tmp 36) = x:=⟨_,rfl⟩
   have q98:At (Ty.val x4) s14 a15 (.tmp 36):=hx4
   have o45:=al2 (R:=(Pr.own 44 108 1 (List.length (us ++ [x3])) (List.map Ty.val (us ++ [x3])))) hx4 (cvo (by simp) (by first | (rw [List.map_append];rfl) | simp) r7)
   clear r7
   refine tL (R:=(fun v τ=>Pr.has (Ty.pr (Ty.val x1)) τ v)) ok14 (Yld.toL (y_nilp o46 (kq hs7 sm6 23 (kq hs6 sm5 23 (kq hs5 sm4 23 (kq hs4 sm3 23 (kq hs3 sm2 23 q54))))))) fun a16 s15 hs8 ok15 r8 sm7=>?_
   have o50:=OwnP.kl o46 hs8;have o51:=LevsU.keepL o47 hs8 dE dE
   have q105:At (Ty.val x1) s15 a16 (.tmp 37):=r8
   clear r8
   refine tL (R:=(fun v τ=>Pr.has (Ty.pr (Ty.val (ptrAt x1 2))) τ v)) ok15 (Yld.toL (ownp_field Try.fld95_2 Try.inf93 dE o50 q105)) fun a17 s16 hs9 ok16 r9 sm8=>?_
   have o56:=LevsU.keepL o51 hs9 dE dE;have o59:=Own.kl (Own.kl o45 hs8) hs9
   have q112:At (Ty.val (ptrAt x1 2)) s16 a17 (.tmp 38):=r9
   clear r9
   refine tailL0 (L:=[41]) (R:=(fun _ τ=>OwnP τ 41 x1 ([(Ty.nat n),(Ty.val (Value.slice none 0 0)),(Ty.val cv)].set 2 (Ty.val x4)))) rfl rfl (YldM.toL (m_storep Try.inf93 dE (OwnP.kl o50 hs9) q112 (Nat.le_of_ble_eq_true rfl) (kq hs9 sm8 36 (kq hs8 sm7 36 q98)) (one_val (Own.one o59)))) (fun v2 s17 hs10 r10=>?_)
   have q113:=kpL hs10 dE rfl (kq hs9 sm8 15 (kq hs8 sm7 15 (kq hs7 sm6 15 (kq hs6 sm5 15 (kq hs5 sm4 15 (kq hs4 sm3 15 (kq hs3 sm2 15 q49)))))));have q114:=kpL hs10 dE rfl (kq hs9 sm8 0 (kq hs8 sm7 0 (kq hs7 sm6 0 (kq hs6 sm5 0 (kq hs5 sm4 0 (kq hs4 sm3 0 (kq hs3 sm2 0 q50)))))));have q115:=kpL hs10 dE rfl (kq hs9 sm8 1 (kq hs8 sm7 1 (kq hs7 sm6 1 (kq hs6 sm5 1 (kq hs5 sm4 1 (kq hs4 sm3 1 (kq hs3 sm2 1 q51)))))));have q116:=kpL hs10 dE rfl (kq hs9 sm8 5 (kq hs8 sm7 5 (kq hs7 sm6 5 (kq hs6 sm5 5 (kq hs5 sm4 5 (kq hs4 sm3 5 (kq hs3 sm2 5 q52)))))));have q117:=kpL hs10 dE rfl (kq hs9 sm8 14 (kq hs8 sm7 14 (kq hs7 sm6 14 (kq hs6 sm5 14 (kq hs5 sm4 14 (kq hs4 sm3 14 (kq hs3 sm2 14 q53)))))));have o61:=LevsU.keepL o56 hs10 dE dE
   have o60:OwnP s17 41 x1 [(Ty.nat n),(Ty.val (Value.slice none 0 0)),(Ty.val x4)]:=r10
   clear r10;refine wpList_nil ?_
   obtain ⟨t3,e1,h1,o65⟩:=LevsU.snoc o61 (OwnP.kl (OwnP.kl (OwnP.kl (OwnP.kl o44 hs7) hs8) hs9) hs10) (OwnM.kl (OwnM.kl (OwnM.kl (OwnM.kl (OwnM.kl (OwnM.kl (OwnM.kl o30 hs4) hs5) hs6) hs7) hs8) hs9) hs10) dE dE dE
   rw [← e1]
   have F19:=((((((((((((F6.step0 D5.stp).step0 D6.stp).step0 D7.stp).sl hs2).sl hs3).sl hs4).sl hs5).sl hs6).sl hs7).sl hs8).sl hs9).sl hs10).stepL h1 dE
   have q119:At (Ty.nat b) t3 a17 (.tmp 15):=Ty.up _ (h1.le dE) q113
   have q120:At (Ty.nat n) t3 a17 (.tmp 0):=Ty.up _ (h1.le dE) q114
   have q121:At (Ty.lst Ty.ints gens) t3 a17 (.tmp 1):=Ty.up _ (h1.le dE) q115
   have q122:At (Ty.val x1) t3 a17 (.tmp 5):=Ty.up _ (h1.le dE) q116
   have q123:At (Ty.nat n) t3 a17 (.tmp 14):=Ty.up _ (h1.le dE) q117
   have o66:=Own.keepL (Own.kl o59 hs10) h1 dE dE;have o67:=OwnP.keepL o60 h1 dE dE
   have o68:LevsU t3 42 22 (us ++ [x3]) (b + 1) (chn0 n):=by have h_:=o65;rw [chn0_lev oM] at h_;exact h_
   refine bn (tn ?_)
   refine gI a17 t3 ok16 (gT (Ty.nat (b + 1)) rfl (fun A B E G H=>rP ((y_add (kp (H 15 rfl) E q119) rfl wX).mono (fun τ _ h=>cN (σ:=τ) h))) (gS rfl (fun A B E G H d0=>rP (y_move (eI d0))) (gE ok16 fun a18 s18 ok17 D8=>?_)));have o69:=Own.k0 o66 D8.stp;have o70:=OwnP.k0 o67 D8.stp;have o71:=LevsU.k0 o68 D8.stp
   exact tn ⟨n - ((b+1)),by omega,s18,(b+1),(us ++ [x3]),x4,rfl,(F19.step0 D8.stp),ok17,(cJ (D8.m 1 rfl)),(D8.k q120),(D8.k q121),(D8.k q122),(D8.k q123),o70,(cvo (by (simp)) (by (simp)) o69),(cvlv (by (first | rfl | simp)) (by (first | rfl | omega)) o71),by omega,by (rw [List.length_append,List.length_singleton];omega),rfl⟩
  ·
   refine wp_exit (tx (tx (bx (tn (wp_seq (wp_seq ?_))))))
   have o72:Own s5 44 108 1 cv n (List.map Ty.val us):=cvo oM rfl o11
   have o73:LevsU s5 42 22 us n (chn0 n):=by have h_:=o12;rw [show b = n by omega] at h_;exact h_
   obtain ⟨t4,e2,h2,o74⟩:=LevsU.chain (e2:=108) o73 o72 dE dE
   rw [← e2]
   have F21:=F6.step h2 dE
   have q129:At (Ty.nat b) t4 a7 (.tmp 15):=Ty.up _ (h2.le dE) q19
   have q130:At (Ty.nat n) t4 a7 (.tmp 0):=Ty.up _ (h2.le dE) q20
   have q131:At (Ty.lst Ty.ints gens) t4 a7 (.tmp 1):=Ty.up _ (h2.le dE) q21
   have q132:At (Ty.val x1) t4 a7 (.tmp 5):=Ty.up _ (h2.le dE) q22
   have q133:At (Ty.nat n) t4 a7 (.tmp 14):=Ty.up _ (h2.le dE) q23
   have q134:At (Ty.bool (decide (((b:Nat):Int) < ((n:Nat):Int)))) t4 a7 (.tmp 16):=Ty.up _ (h2.le dE) q24
   have o75:=OwnP.keepL o10 (h2.toL (L:=[44]) (by simp)) dE dE
   refine gI a7 t4 ok6 (gM q131 (gS rfl (fun A B E G H d0=>rP (y_len Try.underlying24 (eI d0))) (gT (Ty.int (0:Int)) rfl (fun A B E G H=>rP (y_move rfl)) (gE ok6 fun a19 s19 ok18 D9=>?_))));have o76:=OwnP.k0 o75 D9.stp;have o77:=ChnU.k0 o74 D9.stp;refine tn (wp_block ?_)
   have o78:Own s19 43 22 1 (Value.slice none 0 0) 0 (List.map Ty.ints ([]:List (List Int))):=Own.nil _ _ _ _
   refine loop (fun n3 a20 w3=>∃ (t5:GW) (i:Nat) (c:(Nat → Lev)) (gs:Value),t5.w = w3∧FromL [] σ t5∧Ok 62 [] a20∧At (Ty.nat i) t5 a20 (.tmp 42)∧At (Ty.val x1) t5 a20 (.tmp 5)∧At (Ty.lst Ty.ints gens) t5 a20 (.tmp 40)∧At (Ty.nat (List.length gens)) t5 a20 (.tmp 41)∧OwnP t5 41 x1 [(Ty.nat n),(Ty.val gs),(Ty.val cv)]∧Own t5 43 22 1 gs (List.length (gens.take i)) (List.map Ty.ints (gens.take i))∧ChnU t5 42 22 108 cv n c us∧(i ≤ gens.length)∧(ChnOf n (gens.take i) c)∧n3 = gens.length - i) (gens.length - (0)) ?_ ?_
   ·
    exact ⟨s19,0,(chn0 n),(Value.slice none 0 0),rfl,(F21.step0 D9.stp),ok18,(cJ (D9.m 2 rfl)),(D9.k q132),(D9.m 0 rfl),(D9.m 1 rfl),o76,(cvo (by (simp)) (by (simp)) o78),(cvch (by (rfl)) o77),by omega,chn0_of hn,rfl⟩
   ·
    rintro n4 a21 w4 ⟨t6,i,c,gs,rfl,F23,ok19,q139,q140,q141,q142,o79,o80,o81,hi,hC,rfl⟩
    have hlt:=List.length_take_le i gens
    refine wp_seq ?_
    refine gI a21 t6 ok19 (gS rfl (fun A B E G H=>rP (y_lss (kp (H 42 rfl) E q139) (kp (H 41 rfl) E q142))) (gE ok19 fun a22 s20 ok20 D10=>?_));have F24:=F23.step0 D10.stp;have q143:=D10.k q139;have q144:=D10.k q140;have q145:=D10.k q141;have o82:=OwnP.k0 o79 D10.stp;have o83:=Own.k0 o80 D10.stp;have o84:=ChnU.k0 o81 D10.stp;refine tn (wp_seq ?_)
    refine cond_p (p:=(((i:Nat):Int) < (((List.length gens):Nat):Int))) (D10.m 0 rfl) (fun c2=>?_) (fun c2=>?_)
    ·
     have hxi:RowN n (gens.getD i []):=hg _ (mem_atD [] oM);have hxl:=hxi.len;have hAP:=hC.pre hxi;have hgt:∀ x ∈ gens.take i,RowN n x:=fun x hx=>hg x (List.mem_of_mem_take hx)
     refine wp_skip (tn (wp_seq (wp_block (wp_seq ?_))))
     refine gI a22 s20 ok20 (gT (Ty.ref [(Ty.lst Ty.int (gens.getD i []))]) rfl (fun A B E G H=>rP (y_index1 Try.underlying24 Try.inf22 (kp (H 40 rfl) E q145) (kp (H 42 rfl) E q143) oM (lst_get Ty.ints gens [] i oM))) (gS rfl (fun A B E G H d0=>rP (y_load Try.underlying22 rfl (eI d0) rfl)) (gB 0 (gE ok20 fun a23 s21 ok21 D11=>?_))));have q149:=D11.k q144;have o85:=OwnP.k0 o82 D11.stp;have o86:=Own.k0 o83 D11.stp;have o87:=ChnU.k0 o84 D11.stp;have q152:=D11.m 2 rfl;refine tn (wp_seq ?_)
     refine reg3 (a:=a23) (σ:=s21) rfl 9 8 54 [43] dE (Pr.own 43 22 1 ((List.length (gens.take i)) + 1) ((List.map Ty.ints (gens.take i)) ++ [(Ty.lst Ty.int ((gens.getD i [])))])) (fun i_=>List.getD [(Ty.val x1),(Ty.val x1),(Ty.val x1),(Ty.val (ptrAt x1 1)),(Ty.val gs),(Ty.lst Ty.int (gens.getD i [])),(Ty.lst Ty.int ((gens.getD i []))),(Ty.sl 1 1 [(Ty.lst Ty.int ((gens.getD i [])))]),Ty.any] i_ Ty.any) ok21 rfl dE rfl dE rfl (fun _ _=>trivial) rfl ⟨?_,?_,?_,?_,?_,?_,?_,?_,?_,trivial⟩ ?_
     · refine obR3 dE ?_
       intro A B E G H
       exact rP (y_move (kpL E dE (H 5 rfl) q149))
     · refine obR3 dE ?_
       intro A B E G H
       exact rP (y_move (kpL E dE (H 5 rfl) q149))
     · refine obR3 dE ?_
       intro A B E G H d0
       have e1:At (Ty.val x1) B A (.tmp 47):=d0 rfl
       exact rP (y_nilp (OwnP.keepL o85 E dE dE) e1)
     · refine obR3 dE ?_
       intro A B E G H d0
       have e2:At (Ty.val x1) B A (.tmp 48):=d0 rfl
       exact rP (ownp_field Try.fld95_1 Try.inf24 dE (OwnP.keepL o85 E dE dE) e2)
     · refine obR3 dE ?_
       intro A B E G H d0
       have e3:At (Ty.val (ptrAt x1 1)) B A (.tmp 49):=d0 rfl
       exact rP (ownp_load Try.underlying24 rfl (OwnP.keepL o85 E dE dE) e3 rfl)
     · refine obR3 dE ?_
       intro A B E G H
       exact rP (y_move (kpL E dE (H 10 rfl) q152))
     · refine obR3 dE ?_
       intro A B E G H d0
       have e5:At (Ty.lst Ty.int (gens.getD i [])) B A (.tmp 51):=d0 rfl
       exact rP (y_call _ Try.func101 rfl rfl my1 (cloneS_fn ((gens.getD i [])) _ _ e5 oM))
     · refine obR3 dE ?_
       intro A B E G H d0
       have e6:At (Ty.lst Ty.int ((gens.getD i []))) B A (.tmp 52):=d0 rfl
       exact rP (y_build1o Try.underlying24 Try.inf22 rfl (one_sl) e6)
     · refine obR3w rfl ?_
       intro A B E G H d0 d1 d2
       have e4:At (Ty.val gs) B A (.tmp 50):=d0 rfl
       have e7:At (Ty.sl 1 1 [(Ty.lst Ty.int ((gens.getD i [])))]) B A (.tmp 53):=d1 rfl
       exact YldM.toL (m_append Try.underlying24 Try.inf22 dE rfl dE (al (R:=(Pr.own 43 22 1 (List.length (gens.take i)) (List.map Ty.ints (gens.take i)))) e4 (Own.k0 o86 E)) e7 (by intro U hU;simp at hU;subst hU;exact one_sl) oM oM)
     intro a24 s22 D12;have ok22:=D12.ok;have F26:=(F24.step0 D11.stp).stepL D12.stp dE
     have q153:At (Ty.nat i) s22 a24 (.tmp 42):=D12.kt dE (D11.k q143) rfl
     have q154:At (Ty.val x1) s22 a24 (.tmp 5):=D12.kt dE q149 rfl
     have q155:At (Ty.lst Ty.ints gens) s22 a24 (.tmp 40):=D12.kt dE (D11.k q145) rfl
     have q156:At (Ty.nat (List.length gens)) s22 a24 (.tmp 41):=D12.kt dE (D11.k (D10.k q142)) rfl
     have q157:At (Ty.lst Ty.int (gens.getD i [])) s22 a24 (.tmp 10):=D12.kt dE q152 rfl
     have o89:=OwnP.keepL o85 D12.stp dE dE;have o90:=ChnU.keepL o87 D12.stp dE dE
     have q158:At (Ty.val x1) s22 a24 (.tmp 46):=D12.done 0 dE
     obtain ⟨x5,hx5⟩:∃ x,a24.eval (.tmp 54) = x:=⟨_,rfl⟩
     have q159:At (Ty.val x5) s22 a24 (.tmp 54):=hx5
     have o88:=al2 (R:=(Pr.own 43 22 1 (List.length ((gens.take i) ++ [((gens.getD i []))])) (List.map Ty.ints ((gens.take i) ++ [((gens.getD i []))])))) hx5 (cvo (by simp) (by first | (rw [List.map_append];rfl) | simp) D12.donep)
     refine tL (R:=(fun v τ=>Pr.has (Ty.pr (Ty.val x1)) τ v)) ok22 (Yld.toL (y_nilp o89 q158)) fun a25 s23 hs11 ok23 r11 sm9=>?_
     have o91:=OwnP.kl o89 hs11
     have q166:At (Ty.val x1) s23 a25 (.tmp 55):=r11
     clear r11
     refine tL (R:=(fun v τ=>Pr.has (Ty.pr (Ty.val (ptrAt x1 1))) τ v)) ok23 (Yld.toL (ownp_field Try.fld95_1 Try.inf24 dE o91 q166)) fun a26 s24 hs12 ok24 r12 sm10=>?_
     have o96:=Own.kl (Own.kl o88 hs11) hs12
     have q173:At (Ty.val (ptrAt x1 1)) s24 a26 (.tmp 56):=r12
     clear r12
     refine tailL0 (L:=[41]) (R:=(fun _ τ=>OwnP τ 41 x1 ([(Ty.nat n),(Ty.val gs),(Ty.val cv)].set 1 (Ty.val x5)))) rfl rfl (YldM.toL (m_storep Try.inf24 dE (OwnP.kl o91 hs12) q173 (Nat.le_of_ble_eq_true rfl) (kq hs12 sm10 54 (kq hs11 sm9 54 q159)) (one_val (Own.one o96)))) (fun v3 s25 hs13 r13=>?_)
     have q174:=kpL hs13 dE rfl (kq hs12 sm10 42 (kq hs11 sm9 42 q153));have q175:=kpL hs13 dE rfl (kq hs12 sm10 5 (kq hs11 sm9 5 q154));have q176:=kpL hs13 dE rfl (kq hs12 sm10 40 (kq hs11 sm9 40 q155));have q177:=kpL hs13 dE rfl (kq hs12 sm10 41 (kq hs11 sm9 41 q156));have q178:=kpL hs13 dE rfl (kq hs12 sm10 10 (kq hs11 sm9 10 q157))
     have o97:OwnP s25 41 x1 [(Ty.nat n),(Ty.val x5),(Ty.val cv)]:=r13
     clear r13;refine wpList_nil (tn ?_)
     refine gI a26 s25 ok24 (gM q175 (gM q178 (gE2 ok24 fun a27 s26 ok25 D13=>?_)));have o100:=ChnU.k0 (ChnU.kl (ChnU.kl (ChnU.kl o90 hs11) hs12) hs13) D13.stp;have o101:=Own.k0 (Own.kl o96 hs13) D13.stp;have o102:=OwnP.k0 o97 D13.stp
     have q184:At (Ty.val x1) s26 a27 (.tmp 57):=D13.done 0 dE
     refine tL ok25 (y_callL (L:=[41,42]) [(41,41),(42,42)] [(41,41),(42,42)] #[a27.eval (.tmp 57),a27.eval ((Operand.const (Value.int IntKind.i64 0))),a27.eval (.tmp 58)] rfl dE Try.func92 rfl rfl my3 (gAdd_fn ((n - (0))) (x1) (x5) (cv) (us) (n) (0) (c) ((gens.getD i [])) _ lW _ _ _ (uL q184) (uL (cvi (σ:=s26) (by first | omega | assumption | exact hAP | exact hp.wc | exact hp.le | exact hp.row | exact hp.fx) rfl)) (uL (D13.m 1 rfl)) (OwnP.ren o102 (GW.ren_lend _ _ dE rfl)) (ChnU.ren o100 (GW.ren_lend _ _ dE rfl)) (by first | omega | assumption | exact hAP | exact hp.wc | exact hp.le | exact hp.row | exact hp.fx) (by first | omega | assumption | exact hAP | exact hp.wc | exact hp.le | exact hp.row | exact hp.fx))) fun a28 s27 hs14 ok26 r14 sm11=>?_
     obtain ⟨t7,⟨g1,hT1,o103,o104,hp1⟩,B1⟩:=r14
     have o105:OwnP s27 41 x1 [(Ty.nat n),(Ty.val x5),(Ty.val cv)]:=OwnP.ren o103 (B1.ren dE rfl)
     have o106:ChnU s27 42 22 108 cv n (g1) us:=ChnU.ren o104 (B1.ren dE rfl)
     refine wpList_nil ?_
     have hC2:=hC.add hgt hxi hp1
     rw [← take_snoc gens [] i oM] at hC2
     refine bn (tn ?_)
     refine gI a28 s27 ok26 (gT (Ty.nat (i + 1)) rfl (fun A B E G H=>rP ((y_add (kp (H 42 rfl) E (kq hs14 sm11 42 (D13.k q174))) rfl wX).mono (fun τ _ h=>cN (σ:=τ) h))) (gS rfl (fun A B E G H d0=>rP (y_move (eI d0))) (gE ok26 fun a29 s28 ok27 D14=>?_)));have o108:=Own.k0 (Own.kl o101 hs14) D14.stp;have o109:=OwnP.k0 o105 D14.stp;have o110:=ChnU.k0 o106 D14.stp
     exact tn ⟨gens.length - ((i+1)),by omega,s28,(i+1),g1,x5,rfl,((((((F26.sl hs11).sl hs12).sl hs13).step0 D13.stp).sl hs14).step0 D14.stp),ok27,(cJ (D14.m 1 rfl)),(D14.k (kq hs14 sm11 5 (D13.k q175))),(D14.k (kq hs14 sm11 40 (D13.k q176))),(D14.k (kq hs14 sm11 41 (D13.k q177))),o109,(cvo (by (rw [take_snoc gens [] i oM])) (by (rw [take_snoc gens [] i oM])) o108),o110,by omega,hC2,rfl⟩
    ·
     have ei:i = gens.length:=oM;have hC3:ChnOf n gens c:=(by have h_:=hC;rw [ei,List.take_length] at h_;exact h_)
     refine wp_exit (tx (tx (bx (tn (wp_seq ?_)))))
     refine gI a22 s20 ok20 (gM q144 (gB 0 (gE ok20 fun a30 s29 ok28 D15=>?_)));have o111:=OwnP.k0 o82 D15.stp;have o112:=Own.k0 o83 D15.stp;have o113:=ChnU.k0 o84 D15.stp
     have q195:At (Ty.val x1) s29 a30 (.tmp 4):=D15.done 1
     refine tn (wp_ret ?_)
     exact retL1 rfl ok28 (F24.step0 D15.stp) ⟨c,us,x1,cv,gs,q195,o111,o113,(cvo (by (rw [ei,List.take_length])) (by (rw [ei,List.take_length])) o112),(by exact hC3)⟩
set_option maxHeartbeats 4000000 in
set_option maxRecDepth 100000 in
theorem gMakeE_fn (n:Int) (gens:List (List Int)) (σ:GW)  (v0 v1:Value) (hv0:Ty.has (Ty.int n) σ v0) (hv1:Ty.has (Ty.lst Ty.ints gens) σ v1)  (hbad:gensMay n gens ≠ 0) :
    FnC Try.prog 17 #[v0,v1] σ (Ty.tup2 (Ty.val (Value.pointer none)) (Ty.int (gensMay n gens))):=by
 refine fn_intro0 Try.func17 rfl Try.ntmps17 (Nat.le_of_ble_eq_true rfl) (fun s0 a0 hle F0 ok0 hargs=>?_)
 have p0:=pA hle (hargs 0 _ rfl) hv0
 have p1:=pA hle (hargs 1 _ rfl) hv1
 have b1:=sl_le p1
 clear hargs;refine wp_seq ?_
 refine gI a0 s0 ok0 (gC (Ty.val (Value.pointer none)) (gC (Ty.int (0:Int)) (gE ok0 fun a1 s1 ok1 D1=>?_)));refine tn (wp_seq (wp_seq ?_))
 refine gI a1 s1 ok1 (gM (D1.k p0) (gM (D1.k p1) (gS rfl (fun A B E G H d0 d1=>rP (y_call _ Try.func41 rfl rfl my2 (gCheck_fn (n) (gens) _ _ _ (eI d0) (eI d1) ))) (gB 0 (gE ok1 fun a2 s2 ok2 D2=>?_)))));have q5:=D2.m 3 rfl;refine tn (wp_seq ?_)
 refine gI a2 s2 ok2 (gM q5 (gS rfl (fun A B E G H d0=>rP (y_neq (eI d0) rfl)) (gE ok2 fun a3 s3 ok3 D3=>?_)));refine tn ?_
 refine cond_p (p:=((gensMay n (gens)) ≠ (0:Int))) (D3.m 1 rfl) (fun c1=>?_) (fun c1=>?_)
 ·
  refine wp_seq ?_
  refine gI a3 s3 ok3 (gM (D3.k q5) (gC (Ty.val (Value.pointer none)) (gB 0 (gE ok3 fun a4 s4 ok4 D4=>?_))));refine tn (wp_ret (tr ?_))
  exact retL2 rfl ok4 ((((F0.step0 D1.stp).step0 D2.stp).step0 D3.stp).step0 D4.stp) (hasT2 (D4.m 1 rfl) (cJ (D4.m 2 rfl)))
 ·
  exfalso
  exact c1 hbad
end Go.Proofs.Ytkjifbgofckfeaa
