/- The functions that the law ColourSays reaches, each by its contract. Part 12. -/
import Derived.Test.YtkjifbgofckfeaaColourSaysW11
namespace Go.Proofs.Ytkjifbgofckfeaa
open Go.KL
set_option maxHeartbeats 4000000 in
set_option maxRecDepth 100000 in
theorem csD_fn (n:Nat) (gens:List (List Int)) (colours:Int) (many:List Int) (σ:GW)  (v0 v1 v2 v3:Value) (hv0:Ty.has (Ty.nat n) σ v0) (hv1:Ty.has (Ty.lst Ty.ints gens) σ v1) (hv2:Ty.has (Ty.int colours) σ v2) (hv3:Ty.has (Ty.lst Ty.int many) σ v3)  (hG0:gensMay (n:Int) gens = 0) (hL7:szTo n (fun y=>y ∈ gens) n ≤ 720) :
    FnC Try.prog 10 #[v0,v1,v2,v3] σ (Ty.bool true):=by
 obtain ⟨hn,hGl,hG⟩:=may_nat hG0
 have hGl3:gens.length ≤ 1000:=oM
 have hsb:=szTo_bd (n:=n) (S:=fun y=>y ∈ gens) (k:=n) hn.2
 have hL:szTo n (fun y=>y ∈ gens) n ≤ 5040:=oM
 refine fn_intro0 Try.func10 rfl Try.ntmps10 (Nat.le_of_ble_eq_true rfl) (fun s0 a0 hle F0 ok0 hargs=>?_)
 have p0:=pA hle (hargs 0 _ rfl) hv0
 have p1:=pA hle (hargs 1 _ rfl) hv1
 have b1:=sl_le p1
 have p2:=pA hle (hargs 2 _ rfl) hv2
 have p3:=pA hle (hargs 3 _ rfl) hv3
 have b2:=sl_le p3
 clear hargs;refine wp_seq ?_
 refine gI a0 s0 ok0 (gC (Ty.bool false) (gE ok0 fun a1 s1 ok1 D1=>?_));have q1:=D1.k p0;have q2:=D1.k p1;refine tn (wp_seq ?_)
 refine gI a1 s1 ok1 (gM q1 (gM q2 (gS rfl (fun A B G H I d0 d1=>rP (y_call _ Try.func24 rfl rfl my2 (rGensMay_fn (((n:Nat):Int)) (gens) _ _ _ (cvi (σ:=B) oM (ef d0 rfl)) (eI d1) ))) (gB 0 (gE ok1 fun a2 s2 ok2 D2=>?_)))))
 have q10:At (Ty.int (0:Int)) s2 a2 (.tmp 9):=(cvi (by (rw [hG0])) (D2.m 3 rfl))
 refine tn (wp_seq ?_)
 refine gI a2 s2 ok2 (gC (Ty.int (0:Int)) (gE ok2 fun a3 s3 ok3 D3=>?_));have q15:=D3.k q10;refine tn (wp_seq (wp_seq ?_))
 refine gI a3 s3 ok3 (gM q15 (gT (Ty.bool true) rfl (fun A B G H I d0=>rP ((y_eql (eI d0) rfl).mono (fun τ _ h=>cvb (σ:=τ) dE h))) (gE ok3 fun a4 s4 ok4 D4=>?_)));have q16:=D4.k (D3.k (D2.k q1));have q17:=D4.k (D3.k (D2.k q2));refine tn ?_
 refine cond_t (D4.m 1 rfl) (fun _=>?_) (fun c1=>(by cases c1))
 refine wp_seq ?_
 refine gI a4 s4 ok4 (gM q16 (gM q17 (gS rfl (fun A B G H I d0 d1=>rP (y_call _ Try.func20 rfl rfl my2 (rSizes_fn (n) (gens) _ _ _ (eI d0) (eI d1) (by first | omega | assumption | exact hst1) (by first | omega | assumption | exact hst1) (by first | omega | assumption | exact hst1)))) (gB 0 (gE ok4 fun a5 s5 ok5 D5=>?_)))));have q27:=D5.m 3 rfl;refine tn (wp_seq (wp_seq ?_))
 refine gI a5 s5 ok5 (gM q27 (gS rfl (fun A B G H I d0=>rP (y_gtr (eI d0) rfl)) (gS rfl (fun A B G H I d0=>rP (y_move (eI d0))) (gS rfl (fun A B G H I d0=>gu H (eI d0) fun hg=>y_move (kp (I 10 rfl) G q27)) (gS rfl (fun A B G H I d0 d1=>gu H (eI d1) fun hg=>y_lss ((ef d0 rfl).1 hg) rfl) (gS rfl (fun A B G H I d0 d1=>rP (y_pick_and (eI d0) (eI d1) rfl)) (gE ok5 fun a6 s6 ok6 D6=>?_)))))));refine tn ?_
 refine cond_t (D6.m 5 rfl) (fun c2=>?_) (fun c2=>?_)
 ·
  exfalso
  (simp only [Bool.and_eq_true,decide_eq_true_eq] at c2;omega)
 ·
  refine wp_skip (tn (wp_seq ?_))
  refine gI a6 s6 ok6 (gM (D6.k q27) (gS rfl (fun A B G H I d0=>rP (y_gtr (eI d0) rfl)) (gE ok6 fun a7 s7 ok7 D7=>?_)));have q35:=D7.k (D6.k (D5.k q16));have q36:=D7.k (D6.k (D5.k q17));refine tn ?_
  refine cond_p (p:=((5040:Int) < (((szTo n (fun y=>y ∈ gens) n):Nat):Int))) (D7.m 1 rfl) (fun c3=>?_) (fun c3=>?_)
  ·
   exfalso
   omega
  ·
   refine wp_skip (tn (wp_seq ?_))
   refine gI a7 s7 ok7 (gM q35 (gM q36 (gE2 ok7 fun a8 s8 ok8 D8=>?_)))
   refine tL ok8 (y_callL (L:=[]) [] [] _ rfl dE Try.func48 rfl rfl my2 (cKindsC_fn (n) (gens) _ lW _ _ (uL (D8.m 0 rfl)) (uL (D8.m 1 rfl))  (by first | omega | assumption | exact hKP.srt) (by first | omega | assumption | exact hKP.srt))) fun a9 s9 hs1 ok9 r1 sm1=>?_
   obtain ⟨t1,⟨g1,hT1,hp1⟩,B1⟩:=r1
   have q53:At (Ty.tup2 (Ty.lstc 2 kndC (g1)) (Ty.int (0:Int))) s9 a9 (.tmp 36):=Ty.up _ B1.le hT1
   refine tL ok9 (Yld.toL (y_mv q53)) fun a10 s10 hs2 ok10 r2 sm2=>?_
   have q59:At (Ty.tup2 (Ty.lstc 2 kndC (g1)) (Ty.int (0:Int))) s10 a10 (.tmp 33):=r2
   clear r2
   refine tL (R:=(fun v τ=>Pr.has (Ty.pr (Ty.lstc 2 kndC (g1))) τ v)) ok10 (Yld.toL (y_ext2_0 q59)) fun a11 s11 hs3 ok11 r3 sm3=>?_
   have q66:At (Ty.lstc 2 kndC (g1)) s11 a11 (.tmp 37):=r3
   clear r3
   refine tL (R:=(fun v τ=>Pr.has (Ty.pr (Ty.int (0:Int))) τ v)) ok11 (Yld.toL (y_ext2_1 (kq hs3 sm3 33 q59))) fun a12 s12 hs4 ok12 r4 sm4=>?_
   have q73:At (Ty.int (0:Int)) s12 a12 (.tmp 38):=r4
   clear r4
   refine tL ok12 (Yld.toL (y_as (kq hs4 sm4 37 q66))) fun a13 s13 hs5 ok13 r5 sm5=>?_
   have q80:At (Ty.lstc 2 kndC (g1)) s13 a13 (.tmp 11):=r5
   clear r5
   refine tL ok13 (Yld.toL (y_as (kq hs5 sm5 38 q73))) fun a14 s14 hs6 ok14 r6 sm6=>?_
   have q87:At (Ty.int (0:Int)) s14 a14 (.tmp 12):=r6
   clear r6;refine wpList_nil (tn (wp_seq ?_))
   refine gI a14 s14 ok14 (gC (Ty.val (Value.slice none 0 0)) (gE ok14 fun a15 s15 ok15 D9=>?_));have q92:=D9.k (kq hs6 sm6 9 (kq hs5 sm5 9 (kq hs4 sm4 9 (kq hs3 sm3 9 (kq hs2 sm2 9 (kq hs1 sm1 9 (D8.k (D7.k (D6.k (D5.k (D4.k q15)))))))))));refine tn (wp_seq (wp_seq ?_))
   refine gI a15 s15 ok15 (gM q92 (gT (Ty.bool true) rfl (fun A B G H I d0=>rP ((y_eql (eI d0) rfl).mono (fun τ _ h=>cvb (σ:=τ) dE h))) (gE ok15 fun a16 s16 ok16 D10=>?_)));have q96:=D10.k (D9.k (kq hs6 sm6 0 (kq hs5 sm5 0 (kq hs4 sm4 0 (kq hs3 sm3 0 (kq hs2 sm2 0 (kq hs1 sm1 0 (D8.k q35))))))));have q97:=D10.k (D9.k (kq hs6 sm6 1 (kq hs5 sm5 1 (kq hs4 sm4 1 (kq hs3 sm3 1 (kq hs2 sm2 1 (kq hs1 sm1 1 (D8.k q36))))))));refine tn ?_
   refine cond_t (D10.m 1 rfl) (fun _=>?_) (fun c4=>(by cases c4))
   refine gI a16 s16 ok16 (gM q96 (gM q97 (gE2 ok16 fun a17 s17 ok17 D11=>?_)))
   refine tL ok17 (y_callL (L:=[]) [] [] #[a17.eval (.tmp 42),a17.eval (.tmp 43),a17.eval ((Operand.const (Value.int IntKind.i64 5040)))] rfl dE Try.func19 rfl rfl my3 (rClosed_fn (n) (gens) (5040) _ lW _ _ _ (uL (D11.m 0 rfl)) (uL (D11.m 1 rfl)) (uL (cvi (σ:=s17) oX rfl))  oX oX oX oX)) fun a18 s18 hs7 ok18 r7 sm7=>?_
   obtain ⟨t2,⟨g2,g3,hT2,hp2⟩,B2⟩:=r7
   have q123:At (Ty.tup2 (Ty.lst Ty.ints (g2)) (Ty.lst Ty.ints (g3))) s18 a18 (.tmp 44):=Ty.up _ B2.le hT2
   refine tL ok18 (Yld.toL (y_mv q123)) fun a19 s19 hs8 ok19 r8 sm8=>?_
   have q132:At (Ty.tup2 (Ty.lst Ty.ints (g2)) (Ty.lst Ty.ints (g3))) s19 a19 (.tmp 41):=r8
   clear r8
   refine tL (R:=(fun v τ=>Pr.has (Ty.pr (Ty.lst Ty.ints (g2))) τ v)) ok19 (Yld.toL (y_ext2_0 q132)) fun a20 s20 hs9 ok20 r9 sm9=>?_
   have q142:At (Ty.lst Ty.ints (g2)) s20 a20 (.tmp 45):=r9
   clear r9
   refine tL (R:=(fun v τ=>Pr.has (Ty.pr (Ty.lst Ty.ints (g3))) τ v)) ok20 (Yld.toL (y_ext2_1 (kq hs9 sm9 41 q132))) fun a21 s21 hs10 ok21 r10 sm10=>?_
   have q150:=kq hs10 sm10 13 (kq hs9 sm9 13 (kq hs8 sm8 13 (kq hs7 sm7 13 (D11.k (D10.k (D9.m 0 rfl))))))
   have q152:At (Ty.lst Ty.ints (g3)) s21 a21 (.tmp 46):=r10
   clear r10
   refine tL ok21 (Yld.toL (y_as (kq hs10 sm10 45 q142))) fun a22 s22 hs11 ok22 r11 sm11=>?_
   have q160:At (Ty.lst Ty.ints (g2)) s22 a22 (.tmp 13):=r11
   clear r11;refine wpList_nil (tn (wp_seq (wp_seq ?_)))
   obtain ⟨E,hE,hKP⟩:=hp1
   have hRC:g2.Nodup∧(∀ x,x ∈ g2 ↔ Cl n (fun y=>y ∈ gens) x)∧g2.length ≤ 5040:=(by rcases hp2 with ⟨_,L,h1,h2,h3⟩ | h;(have h_:=nd_sub h1 (fun x hx=>(hE.mem x).2 (h2 x hx));have h2_:=hE.len;omega);exact ⟨h.1,h.2.1,h.2.2.1⟩)
   obtain ⟨hRn,hRm,hRl⟩:=hRC
   have hRr:∀ x ∈ g2,RowN n x:=fun x hx=>((hRm x).1 hx).row hn hG
   have hRp:E.Perm g2:=elts_perm hE.nd hRn (fun x=>(hE.mem x).trans (hRm x).symm)
   have hR0:0 < g2.length:=List.length_pos_of_mem ((hRm _).2 .one)
   have hRi:∀ x ∈ g2,IsRow x:=fun x hx=>(hRr x hx).row
   have hKl:=hKP.len
   rw [List.length_map,hE.len] at hKl
   refine gI a22 s22 ok22 (gE2 ok22 fun a23 s23 ok23 D12=>?_)
   refine tL ok23 (Yld.toL (y_mv (D12.k (kq hs11 sm11 12 (kq hs10 sm10 12 (kq hs9 sm9 12 (kq hs8 sm8 12 (kq hs7 sm7 12 (D11.k (D10.k (D9.k q87))))))))))) fun a24 s24 hs12 ok24 r12 sm12=>?_
   have q173:=kq hs12 sm12 9 (D12.k (kq hs11 sm11 9 (kq hs10 sm10 9 (kq hs9 sm9 9 (kq hs8 sm8 9 (kq hs7 sm7 9 (D11.k (D10.k q92))))))))
   have q176:At (Ty.int (0:Int)) s24 a24 (.tmp 47):=r12
   clear r12
   refine tL ok24 (Yld.toL (y_mv q173)) fun a25 s25 hs13 ok25 r13 sm13=>?_
   have q185:At (Ty.int (0:Int)) s25 a25 (.tmp 48):=r13
   clear r13
   refine tL (R:=(fun v τ=>Pr.has (Ty.pr (Ty.bool false)) τ v)) ok25 (Yld.toL ((y_neq (kq hs13 sm13 47 q176) q185).mono (fun τ _ h=>cvb (σ:=τ) dE h))) fun a26 s26 hs14 ok26 r14 sm14=>?_
   have q193:At (Ty.bool false) s26 a26 (.tmp 49):=r14
   clear r14
   refine tL ok26 (Yld.toL (y_mv q193)) fun a27 s27 hs15 ok27 r15 sm15=>?_
   have q198:=kq hs15 sm15 9 (kq hs14 sm14 9 (kq hs13 sm13 9 q173))
   have q201:At (Ty.bool false) s27 a27 (.tmp 50):=r15
   clear r15
   refine tD (T:=(Ty.int (0:Int))) ok27 q201 (y_move q198) fun a28 s28 hs16 ok28 r16 sm16=>?_
   have q209:=kq hs16 sm16 50 q201
   have q210:At (Ty.int (0:Int)) s28 a28 (.tmp 51):=r16
   clear r16
   refine tD (T:=(Ty.bool true)) ok28 q209 ((y_eql q210 rfl).mono (fun τ _ h=>cvb (σ:=τ) dE h)) fun a29 s29 hs17 ok29 r17 sm17=>?_
   have q218:=kq hs17 sm17 50 q209
   have q219:At (Ty.bool true) s29 a29 (.tmp 52):=r17
   clear r17
   refine tD (T:=(Ty.bool true)) ok29 q218 (y_move q219) fun a30 s30 hs18 ok30 r18 sm18=>?_
   have q225:=kq hs18 sm18 11 (kq hs17 sm17 11 (kq hs16 sm16 11 (kq hs15 sm15 11 (kq hs14 sm14 11 (kq hs13 sm13 11 (kq hs12 sm12 11 (D12.k (kq hs11 sm11 11 (kq hs10 sm10 11 (kq hs9 sm9 11 (kq hs8 sm8 11 (kq hs7 sm7 11 (D11.k (D10.k (D9.k (kq hs6 sm6 11 q80))))))))))))))))
   have q228:At (Ty.bool true) s30 a30 (.tmp 53):=r18
   clear r18
   refine tD (T:=(Ty.lstc 2 kndC (g1))) ok30 q228 (y_move q225) fun a31 s31 hs19 ok31 r19 sm19=>?_
   have q235:=kq hs19 sm19 13 (kq hs18 sm18 13 (kq hs17 sm17 13 (kq hs16 sm16 13 (kq hs15 sm15 13 (kq hs14 sm14 13 (kq hs13 sm13 13 (kq hs12 sm12 13 (D12.k q160))))))));have q237:=kq hs19 sm19 53 q228
   have q238:At (Ty.lstc 2 kndC (g1)) s31 a31 (.tmp 54):=r19
   clear r19
   refine tD (T:=(Ty.lst Ty.ints (g2))) ok31 q237 (y_move q235) fun a32 s32 hs20 ok32 r20 sm20=>?_
   have q247:=kq hs20 sm20 53 q237
   have q249:At (Ty.lst Ty.ints (g2)) s32 a32 (.tmp 55):=r20
   clear r20
   refine tailDo (L:=[]) (R:=(fun v τ'=>∃ τ,(fun v τ=>∃ (K:(List Knd)),(Ty.has (Ty.lstc 2 kndC K) τ v)∧(KindP (((g2)).map lensL) K)) v τ∧Back [] τ τ')) ok32 rfl rfl dE q247 rfl rfl dE (y_callL (L:=[]) [] [] _ rfl dE Try.func50 rfl rfl my1 (rKinds_fn ((g2)) _ lW _ (uL q249)  oX oX)) (fun a33 s33 hs21 ok33 r21 sm21=>?_)
   have q258:=kq hs21 sm21 53 q247
   obtain ⟨t3,⟨g4,hT3,hp3⟩,B3⟩:=r21
   have q260:At (Ty.lstc 2 kndC (g4)) s33 a33 (.tmp 56):=Ty.up _ B3.le hT3
   refine tD (T:=(Ty.bool true)) ok33 q258 (y_call _ Try.func49 rfl rfl my2 (sameK2_fn ((g1)) ((g4)) _ _ _ (kq hs21 sm21 54 (kq hs20 sm20 54 q238)) q260 (by first | omega | assumption | exact KindP.one hp3 hKP (hRp.symm.map lensL)) (by first | omega | assumption | exact KindP.one hp3 hKP (hRp.symm.map lensL)))) fun a34 s34 hs22 ok34 r22 sm22=>?_
   have q269:=kq hs22 sm22 53 q258
   have q270:At (Ty.bool true) s34 a34 (.tmp 57):=r22
   clear r22
   refine tD (T:=(Ty.bool (!true))) ok34 q269 (y_not q270) fun a35 s35 hs23 ok35 r23 sm23=>?_
   have q278:=kq hs23 sm23 50 (kq hs22 sm22 50 (kq hs21 sm21 50 (kq hs20 sm20 50 (kq hs19 sm19 50 (kq hs18 sm18 50 q218)))))
   have q280:At (Ty.bool (!true)) s35 a35 (.tmp 58):=r23
   clear r23
   refine tD (T:=(Ty.bool (!true))) ok35 q278 (y_pickT (kq hs23 sm23 53 q269) q280) fun a36 s36 hs24 ok36 r24 sm24=>?_
   have q289:At (Ty.bool (!true)) s36 a36 (.tmp 59):=r24
   clear r24
   refine tL (R:=(fun v τ=>Pr.has (Ty.pr (Ty.bool (!true))) τ v)) ok36 (Yld.toL (y_pickF (kq hs24 sm24 50 q278) q289)) fun a37 s37 hs25 ok37 r25 sm25=>?_
   have q297:At (Ty.bool (!true)) s37 a37 (.tmp 60):=r25
   clear r25
   refine tL ok37 (Yld.toL (y_mv q297)) fun a38 s38 hs26 ok38 r26 sm26=>?_
   have q302:=kq hs26 sm26 9 (kq hs25 sm25 9 (kq hs24 sm24 9 (kq hs23 sm23 9 (kq hs22 sm22 9 (kq hs21 sm21 9 (kq hs20 sm20 9 (kq hs19 sm19 9 (kq hs18 sm18 9 (kq hs17 sm17 9 (kq hs16 sm16 9 q198))))))))))
   have q305:At (Ty.bool (!true)) s38 a38 (.tmp 61):=r26
   clear r26
   rcases Bool.eq_false_or_eq_true (!true) with hg1 | hg1
   · (simp at hg1)
   ·
    have q306:At (Ty.bool false) s38 a38 (.tmp 61):=cvb hg1 q305
    refine tD (T:=(Ty.int (0:Int))) ok38 q306 (y_move q302) fun a39 s39 hs27 ok39 r27 sm27=>?_
    have q314:=kq hs27 sm27 61 q306
    have q315:At (Ty.int (0:Int)) s39 a39 (.tmp 62):=r27
    clear r27
    refine tD (T:=(Ty.bool false)) ok39 q314 ((y_neq q315 rfl).mono (fun τ _ h=>cvb (σ:=τ) dE h)) fun a40 s40 hs28 ok40 r28 sm28=>?_
    have q323:=kq hs28 sm28 61 q314
    have q324:At (Ty.bool false) s40 a40 (.tmp 63):=r28
    clear r28
    refine tD (T:=(Ty.bool false)) ok40 q323 (y_move q324) fun a41 s41 hs29 ok41 r29 sm29=>?_
    have q330:=kq hs29 sm29 11 (kq hs28 sm28 11 (kq hs27 sm27 11 (kq hs26 sm26 11 (kq hs25 sm25 11 (kq hs24 sm24 11 (kq hs23 sm23 11 (kq hs22 sm22 11 (kq hs21 sm21 11 (kq hs20 sm20 11 (kq hs19 sm19 11 q225))))))))))
    have q333:At (Ty.bool false) s41 a41 (.tmp 64):=r29
    clear r29
    refine tailSkip ok41 rfl rfl dE q333 rfl rfl dE (fun a42 ok42 q334 sm30=>?_)
    have q335:At (Ty.nat n) s41 a42 (.tmp 0):=kp (sm30 0 dE) (Stp.refl _ _) (kq hs29 sm29 0 (kq hs28 sm28 0 (kq hs27 sm27 0 (kq hs26 sm26 0 (kq hs25 sm25 0 (kq hs24 sm24 0 (kq hs23 sm23 0 (kq hs22 sm22 0 (kq hs21 sm21 0 (kq hs20 sm20 0 (kq hs19 sm19 0 (kq hs18 sm18 0 (kq hs17 sm17 0 (kq hs16 sm16 0 (kq hs15 sm15 0 (kq hs14 sm14 0 (kq hs13 sm13 0 (kq hs12 sm12 0 (D12.k (kq hs11 sm11 0 (kq hs10 sm10 0 (kq hs9 sm9 0 (kq hs8 sm8 0 (kq hs7 sm7 0 (D11.k q96)))))))))))))))))))))))))
    have q336:At (Ty.lst Ty.ints gens) s41 a42 (.tmp 1):=kp (sm30 1 dE) (Stp.refl _ _) (kq hs29 sm29 1 (kq hs28 sm28 1 (kq hs27 sm27 1 (kq hs26 sm26 1 (kq hs25 sm25 1 (kq hs24 sm24 1 (kq hs23 sm23 1 (kq hs22 sm22 1 (kq hs21 sm21 1 (kq hs20 sm20 1 (kq hs19 sm19 1 (kq hs18 sm18 1 (kq hs17 sm17 1 (kq hs16 sm16 1 (kq hs15 sm15 1 (kq hs14 sm14 1 (kq hs13 sm13 1 (kq hs12 sm12 1 (D12.k (kq hs11 sm11 1 (kq hs10 sm10 1 (kq hs9 sm9 1 (kq hs8 sm8 1 (kq hs7 sm7 1 (D11.k q97)))))))))))))))))))))))))
    have q337:At (Ty.int colours) s41 a42 (.tmp 2):=kp (sm30 2 dE) (Stp.refl _ _) (kq hs29 sm29 2 (kq hs28 sm28 2 (kq hs27 sm27 2 (kq hs26 sm26 2 (kq hs25 sm25 2 (kq hs24 sm24 2 (kq hs23 sm23 2 (kq hs22 sm22 2 (kq hs21 sm21 2 (kq hs20 sm20 2 (kq hs19 sm19 2 (kq hs18 sm18 2 (kq hs17 sm17 2 (kq hs16 sm16 2 (kq hs15 sm15 2 (kq hs14 sm14 2 (kq hs13 sm13 2 (kq hs12 sm12 2 (D12.k (kq hs11 sm11 2 (kq hs10 sm10 2 (kq hs9 sm9 2 (kq hs8 sm8 2 (kq hs7 sm7 2 (D11.k (D10.k (D9.k (kq hs6 sm6 2 (kq hs5 sm5 2 (kq hs4 sm4 2 (kq hs3 sm3 2 (kq hs2 sm2 2 (kq hs1 sm1 2 (D8.k (D7.k (D6.k (D5.k (D4.k (D3.k (D2.k (D1.k p2)))))))))))))))))))))))))))))))))))))))))
    have q338:At (Ty.lst Ty.int many) s41 a42 (.tmp 3):=kp (sm30 3 dE) (Stp.refl _ _) (kq hs29 sm29 3 (kq hs28 sm28 3 (kq hs27 sm27 3 (kq hs26 sm26 3 (kq hs25 sm25 3 (kq hs24 sm24 3 (kq hs23 sm23 3 (kq hs22 sm22 3 (kq hs21 sm21 3 (kq hs20 sm20 3 (kq hs19 sm19 3 (kq hs18 sm18 3 (kq hs17 sm17 3 (kq hs16 sm16 3 (kq hs15 sm15 3 (kq hs14 sm14 3 (kq hs13 sm13 3 (kq hs12 sm12 3 (D12.k (kq hs11 sm11 3 (kq hs10 sm10 3 (kq hs9 sm9 3 (kq hs8 sm8 3 (kq hs7 sm7 3 (D11.k (D10.k (D9.k (kq hs6 sm6 3 (kq hs5 sm5 3 (kq hs4 sm4 3 (kq hs3 sm3 3 (kq hs2 sm2 3 (kq hs1 sm1 3 (D8.k (D7.k (D6.k (D5.k (D4.k (D3.k (D2.k (D1.k p3)))))))))))))))))))))))))))))))))))))))))
    have q339:At (Ty.int (0:Int)) s41 a42 (.tmp 9):=kp (sm30 9 dE) (Stp.refl _ _) (kq hs29 sm29 9 (kq hs28 sm28 9 (kq hs27 sm27 9 q302)))
    have q340:At (Ty.lst Ty.ints (g2)) s41 a42 (.tmp 13):=kp (sm30 13 dE) (Stp.refl _ _) (kq hs29 sm29 13 (kq hs28 sm28 13 (kq hs27 sm27 13 (kq hs26 sm26 13 (kq hs25 sm25 13 (kq hs24 sm24 13 (kq hs23 sm23 13 (kq hs22 sm22 13 (kq hs21 sm21 13 (kq hs20 sm20 13 q235))))))))))
    have q341:At (Ty.bool false) s41 a42 (.tmp 61):=kp (sm30 61 dE) (Stp.refl _ _) (kq hs29 sm29 61 q323)
    have q342:At (Ty.bool false) s41 a42 (.tmp 64):=kp (sm30 64 dE) (Stp.refl _ _) q333
    refine tailSkip ok42 rfl rfl dE q342 rfl rfl dE (fun a43 ok43 q343 sm31=>?_)
    have q344:At (Ty.nat n) s41 a43 (.tmp 0):=kp (sm31 0 dE) (Stp.refl _ _) q335
    have q345:At (Ty.lst Ty.ints gens) s41 a43 (.tmp 1):=kp (sm31 1 dE) (Stp.refl _ _) q336
    have q346:At (Ty.int colours) s41 a43 (.tmp 2):=kp (sm31 2 dE) (Stp.refl _ _) q337
    have q347:At (Ty.lst Ty.int many) s41 a43 (.tmp 3):=kp (sm31 3 dE) (Stp.refl _ _) q338
    have q348:At (Ty.int (0:Int)) s41 a43 (.tmp 9):=kp (sm31 9 dE) (Stp.refl _ _) q339
    have q349:At (Ty.lst Ty.ints (g2)) s41 a43 (.tmp 13):=kp (sm31 13 dE) (Stp.refl _ _) q340
    have q350:At (Ty.bool false) s41 a43 (.tmp 61):=kp (sm31 61 dE) (Stp.refl _ _) q341
    have q351:At (Ty.bool false) s41 a43 (.tmp 64):=kp (sm31 64 dE) (Stp.refl _ _) q342
    refine tailSkip ok43 rfl rfl dE q351 rfl rfl dE (fun a44 ok44 q352 sm32=>?_)
    have q353:At (Ty.nat n) s41 a44 (.tmp 0):=kp (sm32 0 dE) (Stp.refl _ _) q344
    have q354:At (Ty.lst Ty.ints gens) s41 a44 (.tmp 1):=kp (sm32 1 dE) (Stp.refl _ _) q345
    have q355:At (Ty.int colours) s41 a44 (.tmp 2):=kp (sm32 2 dE) (Stp.refl _ _) q346
    have q356:At (Ty.lst Ty.int many) s41 a44 (.tmp 3):=kp (sm32 3 dE) (Stp.refl _ _) q347
    have q357:At (Ty.int (0:Int)) s41 a44 (.tmp 9):=kp (sm32 9 dE) (Stp.refl _ _) q348
    have q358:At (Ty.lst Ty.ints (g2)) s41 a44 (.tmp 13):=kp (sm32 13 dE) (Stp.refl _ _) q349
    have q359:At (Ty.bool false) s41 a44 (.tmp 61):=kp (sm32 61 dE) (Stp.refl _ _) q350
    have q360:At (Ty.bool false) s41 a44 (.tmp 64):=kp (sm32 64 dE) (Stp.refl _ _) q351
    refine tD (T:=(Ty.bool false)) ok44 q359 (y_pickF q360 rfl) fun a45 s42 hs30 ok45 r30 sm33=>?_
    have q368:At (Ty.bool false) s42 a45 (.tmp 68):=r30
    clear r30
    refine tL (R:=(fun v τ=>Pr.has (Ty.pr (Ty.bool false)) τ v)) ok45 (Yld.toL (y_pickF (kq hs30 sm33 61 q359) q368)) fun a46 s43 hs31 ok46 r31 sm34=>?_
    have q369:=kq hs31 sm34 0 (kq hs30 sm33 0 q353);have q370:=kq hs31 sm34 1 (kq hs30 sm33 1 q354);have q371:=kq hs31 sm34 2 (kq hs30 sm33 2 q355)
    have q375:At (Ty.bool false) s43 a46 (.tmp 69):=r31
    clear r31;refine wpList_nil (tn ?_)
    refine cond_t q375 (fun c5=>(by cases c5)) (fun _=>?_)
    refine wp_skip (tn (wp_seq ?_))
    refine gI a46 s43 ok46 (gM q369 (gM q370 (gM q371 (gE2 ok46 fun a47 s44 ok47 D13=>?_))))
    refine tL ok47 (y_callL (L:=[]) [] [] _ rfl dE Try.func51 rfl rfl my3 (count_fn (((n:Nat):Int)) (gens) (colours) _ lW _ _ _ (uL (cvi (σ:=s44) oX (D13.m 0 rfl))) (uL (D13.m 1 rfl)) (uL (D13.m 2 rfl))  )) fun a48 s45 hs32 ok48 r32 sm35=>?_
    obtain ⟨t4,⟨g5,g6,hT4,hp4⟩,B4⟩:=r32
    have q391:At (Ty.tup2 (Ty.nat (g5)) (Ty.int (g6))) s45 a48 (.tmp 74):=Ty.up _ B4.le hT4
    refine tL ok48 (Yld.toL (y_mv q391)) fun a49 s46 hs33 ok49 r33 sm36=>?_
    have q398:At (Ty.tup2 (Ty.nat (g5)) (Ty.int (g6))) s46 a49 (.tmp 70):=r33
    clear r33
    refine tL (R:=(fun v τ=>Pr.has (Ty.pr (Ty.nat (g5))) τ v)) ok49 (Yld.toL (y_ext2_0 q398)) fun a50 s47 hs34 ok50 r34 sm37=>?_
    have q406:At (Ty.nat (g5)) s47 a50 (.tmp 75):=r34
    clear r34
    refine tL (R:=(fun v τ=>Pr.has (Ty.pr (Ty.int (g6))) τ v)) ok50 (Yld.toL (y_ext2_1 (kq hs34 sm37 70 q398))) fun a51 s48 hs35 ok51 r35 sm38=>?_
    have q414:At (Ty.int (g6)) s48 a51 (.tmp 76):=r35
    clear r35
    refine tL ok51 (Yld.toL (y_as (kq hs35 sm38 75 q406))) fun a52 s49 hs36 ok52 r36 sm39=>?_
    have q422:At (Ty.nat (g5)) s49 a52 (.tmp 14):=r36
    clear r36
    refine tL ok52 (Yld.toL (y_as (kq hs36 sm39 76 q414))) fun a53 s50 hs37 ok53 r37 sm40=>?_
    have q423:=kq hs37 sm40 0 (kq hs36 sm39 0 (kq hs35 sm38 0 (kq hs34 sm37 0 (kq hs33 sm36 0 (kq hs32 sm35 0 (D13.k q369))))));have q424:=kq hs37 sm40 1 (kq hs36 sm39 1 (kq hs35 sm38 1 (kq hs34 sm37 1 (kq hs33 sm36 1 (kq hs32 sm35 1 (D13.k q370))))));have q425:=kq hs37 sm40 2 (kq hs36 sm39 2 (kq hs35 sm38 2 (kq hs34 sm37 2 (kq hs33 sm36 2 (kq hs32 sm35 2 (D13.k q371))))))
    have q430:At (Ty.int (g6)) s50 a53 (.tmp 12):=r37
    clear r37;refine wpList_nil (tn (wp_seq ?_))
    refine gI a53 s50 ok53 (gM q423 (gM q424 (gM q425 (gE2 ok53 fun a54 s51 ok54 D14=>?_))))
    refine tL ok54 (y_callL (L:=[]) [] [] _ rfl dE Try.func52 rfl rfl my3 (rcount_fn (((n:Nat):Int)) (gens) (colours) _ lW _ _ _ (uL (cvi (σ:=s51) oX (D14.m 0 rfl))) (uL (D14.m 1 rfl)) (uL (D14.m 2 rfl))  )) fun a55 s52 hs38 ok55 r38 sm41=>?_
    obtain ⟨t5,⟨g7,g8,hT5,hp5⟩,B5⟩:=r38
    have q450:At (Ty.tup2 (Ty.nat (g7)) (Ty.int (g8))) s52 a55 (.tmp 81):=Ty.up _ B5.le hT5
    refine tL ok55 (Yld.toL (y_mv q450)) fun a56 s53 hs39 ok56 r39 sm42=>?_
    have q459:At (Ty.tup2 (Ty.nat (g7)) (Ty.int (g8))) s53 a56 (.tmp 77):=r39
    clear r39
    refine tL (R:=(fun v τ=>Pr.has (Ty.pr (Ty.nat (g7))) τ v)) ok56 (Yld.toL (y_ext2_0 q459)) fun a57 s54 hs40 ok57 r40 sm43=>?_
    have q469:At (Ty.nat (g7)) s54 a57 (.tmp 82):=r40
    clear r40
    refine tL (R:=(fun v τ=>Pr.has (Ty.pr (Ty.int (g8))) τ v)) ok57 (Yld.toL (y_ext2_1 (kq hs40 sm43 77 q459))) fun a58 s55 hs41 ok58 r41 sm44=>?_
    have q479:At (Ty.int (g8)) s55 a58 (.tmp 83):=r41
    clear r41
    refine tL ok58 (Yld.toL (y_as (kq hs41 sm44 82 q469))) fun a59 s56 hs42 ok59 r42 sm45=>?_
    have q489:At (Ty.nat (g7)) s56 a59 (.tmp 15):=r42
    clear r42
    refine tL ok59 (Yld.toL (y_as (kq hs42 sm45 83 q479))) fun a60 s57 hs43 ok60 r43 sm46=>?_
    have q499:At (Ty.int (g8)) s57 a60 (.tmp 16):=r43
    clear r43;refine wpList_nil (tn (wp_seq (wp_seq ?_)))
    have hcc:=hp4.one hp5
    refine gI a60 s57 ok60 (gM (kq hs43 sm46 12 (kq hs42 sm45 12 (kq hs41 sm44 12 (kq hs40 sm43 12 (kq hs39 sm42 12 (kq hs38 sm41 12 (D14.k q430))))))) (gM q499 (gS rfl (fun A B G H I d0 d1=>rP (y_neq (eI d0) (eI d1))) (gS rfl (fun A B G H I d0=>rP (y_move (eI d0))) (gS rfl (fun A B G H I d0=>gu H (eI d0) fun hg=>y_move (kp (I 14 rfl) G (kq hs43 sm46 14 (kq hs42 sm45 14 (kq hs41 sm44 14 (kq hs40 sm43 14 (kq hs39 sm42 14 (kq hs38 sm41 14 (D14.k (kq hs37 sm40 14 q422)))))))))) (gS rfl (fun A B G H I d0=>gu H (eI d0) fun hg=>y_move (kp (I 15 rfl) G (kq hs43 sm46 15 q489))) (gS rfl (fun A B G H I d0 d1 d2=>gu H (eI d2) fun hg=>y_neq ((ef d0 rfl).1 hg) ((ef d1 rfl).1 hg)) (gS rfl (fun A B G H I d0 d1=>rP (y_pick_or (eI d0) rfl (eI d1))) (gE ok60 fun a61 s58 ok61 D15=>?_)))))))));refine tn ?_
    refine cond_t (D15.m 7 rfl) (fun c6=>?_) (fun c6=>?_)
    ·
     exfalso
     (simp [hcc.1,hcc.2] at c6)
    ·
     obtain ⟨d1,d2⟩:=Bool.or_eq_false_iff.mp c6
     replace d1:=of_decide_eq_false d1
     replace d2:=of_decide_eq_false d2
     refine wp_skip (tn (wp_seq ?_))
     have hF:FOk (n:Int) gens g2 (0:Int):=FOk.ok hG0 hL hRn hRm hRl
     refine gI a61 s58 ok61 (gE2 ok61 fun a62 s59 ok62 D16=>?_);have q507:=D16.k (D15.k (kq hs43 sm46 0 (kq hs42 sm45 0 (kq hs41 sm44 0 (kq hs40 sm43 0 (kq hs39 sm42 0 (kq hs38 sm41 0 (D14.k q423))))))))
     refine tL ok62 (Yld.toL (y_mv q507)) fun a63 s60 hs44 ok63 r44 sm47=>?_
     have q514:=kq hs44 sm47 1 (D16.k (D15.k (kq hs43 sm46 1 (kq hs42 sm45 1 (kq hs41 sm44 1 (kq hs40 sm43 1 (kq hs39 sm42 1 (kq hs38 sm41 1 (D14.k q424)))))))))
     have q519:At (Ty.nat n) s60 a63 (.tmp 92):=r44
     clear r44
     refine tL ok63 (Yld.toL (y_mv q514)) fun a64 s61 hs45 ok64 r45 sm48=>?_
     have q527:At (Ty.lst Ty.ints gens) s61 a64 (.tmp 93):=r45
     clear r45
     refine tL ok64 (Yld.toL (y_mv (kq hs45 sm48 2 (kq hs44 sm47 2 (D16.k (D15.k (kq hs43 sm46 2 (kq hs42 sm45 2 (kq hs41 sm44 2 (kq hs40 sm43 2 (kq hs39 sm42 2 (kq hs38 sm41 2 (D14.k q425))))))))))))) fun a65 s62 hs46 ok65 r46 sm49=>?_
     have q532:=kq hs46 sm49 13 (kq hs45 sm48 13 (kq hs44 sm47 13 (D16.k (D15.k (kq hs43 sm46 13 (kq hs42 sm45 13 (kq hs41 sm44 13 (kq hs40 sm43 13 (kq hs39 sm42 13 (kq hs38 sm41 13 (D14.k (kq hs37 sm40 13 (kq hs36 sm39 13 (kq hs35 sm38 13 (kq hs34 sm37 13 (kq hs33 sm36 13 (kq hs32 sm35 13 (D13.k (kq hs31 sm34 13 (kq hs30 sm33 13 q358))))))))))))))))))))
     have q535:At (Ty.int colours) s62 a65 (.tmp 94):=r46
     clear r46
     refine tL ok65 (Yld.toL (y_mv q532)) fun a66 s63 hs47 ok66 r47 sm50=>?_
     have q539:=kq hs47 sm50 9 (kq hs46 sm49 9 (kq hs45 sm48 9 (kq hs44 sm47 9 (D16.k (D15.k (kq hs43 sm46 9 (kq hs42 sm45 9 (kq hs41 sm44 9 (kq hs40 sm43 9 (kq hs39 sm42 9 (kq hs38 sm41 9 (D14.k (kq hs37 sm40 9 (kq hs36 sm39 9 (kq hs35 sm38 9 (kq hs34 sm37 9 (kq hs33 sm36 9 (kq hs32 sm35 9 (D13.k (kq hs31 sm34 9 (kq hs30 sm33 9 q357)))))))))))))))))))))
     have q544:At (Ty.lst Ty.ints (g2)) s63 a66 (.tmp 95):=r47
     clear r47
     refine tL ok66 (Yld.toL (y_mv q539)) fun a67 s64 hs48 ok67 r48 sm51=>?_
     have q554:At (Ty.int (0:Int)) s64 a67 (.tmp 96):=r48
     clear r48
     refine tL (R:=(fun v τ=>Pr.has (Ty.pr (Ty.bool true)) τ v)) ok67 (Yld.toL (y_call _ Try.func53 rfl rfl my5 (colourList_fn (((n:Nat):Int)) (gens) (colours) ((g2)) ((0:Int)) _ _ _ _ _ _ (cvi (σ:=s64) oX (kq hs48 sm51 92 (kq hs47 sm50 92 (kq hs46 sm49 92 (kq hs45 sm48 92 q519))))) (kq hs48 sm51 93 (kq hs47 sm50 93 (kq hs46 sm49 93 q527))) (kq hs48 sm51 94 (kq hs47 sm50 94 q535)) (kq hs48 sm51 95 q544) (cvi (σ:=s64) oX q554) oX))) fun a68 s65 hs49 ok68 r49 sm52=>?_
     have q560:At (Ty.bool true) s65 a68 (.tmp 97):=r49
     clear r49
     refine tL ok68 (Yld.toL (y_mv q560)) fun a69 s66 hs50 ok69 r50 sm53=>?_
     have q566:At (Ty.bool true) s66 a69 (.tmp 98):=r50
     clear r50
     refine tD (T:=(Ty.nat n)) ok69 q566 (y_move (kq hs50 sm53 0 (kq hs49 sm52 0 (kq hs48 sm51 0 (kq hs47 sm50 0 (kq hs46 sm49 0 (kq hs45 sm48 0 (kq hs44 sm47 0 q507)))))))) fun a70 s67 hs51 ok70 r51 sm54=>?_
     have q571:=kq hs51 sm54 98 q566
     have q572:At (Ty.nat n) s67 a70 (.tmp 99):=r51
     clear r51
     refine tD (T:=(Ty.lst Ty.ints gens)) ok70 q571 (y_move (kq hs51 sm54 1 (kq hs50 sm53 1 (kq hs49 sm52 1 (kq hs48 sm51 1 (kq hs47 sm50 1 (kq hs46 sm49 1 (kq hs45 sm48 1 q514)))))))) fun a71 s68 hs52 ok71 r52 sm55=>?_
     have q576:=kq hs52 sm55 98 q571
     have q578:At (Ty.lst Ty.ints gens) s68 a71 (.tmp 100):=r52
     clear r52
     refine tD (T:=(Ty.lst Ty.int many)) ok71 q576 (y_move (kq hs52 sm55 3 (kq hs51 sm54 3 (kq hs50 sm53 3 (kq hs49 sm52 3 (kq hs48 sm51 3 (kq hs47 sm50 3 (kq hs46 sm49 3 (kq hs45 sm48 3 (kq hs44 sm47 3 (D16.k (D15.k (kq hs43 sm46 3 (kq hs42 sm45 3 (kq hs41 sm44 3 (kq hs40 sm43 3 (kq hs39 sm42 3 (kq hs38 sm41 3 (D14.k (kq hs37 sm40 3 (kq hs36 sm39 3 (kq hs35 sm38 3 (kq hs34 sm37 3 (kq hs33 sm36 3 (kq hs32 sm35 3 (D13.k (kq hs31 sm34 3 (kq hs30 sm33 3 q356)))))))))))))))))))))))))))) fun a72 s69 hs53 ok72 r53 sm56=>?_
     have q581:=kq hs53 sm56 98 q576
     have q584:At (Ty.lst Ty.int many) s69 a72 (.tmp 101):=r53
     clear r53
     refine tD (T:=(Ty.lst Ty.ints (g2))) ok72 q581 (y_move (kq hs53 sm56 13 (kq hs52 sm55 13 (kq hs51 sm54 13 (kq hs50 sm53 13 (kq hs49 sm52 13 (kq hs48 sm51 13 (kq hs47 sm50 13 q532)))))))) fun a73 s70 hs54 ok73 r54 sm57=>?_
     have q586:=kq hs54 sm57 98 q581
     have q590:At (Ty.lst Ty.ints (g2)) s70 a73 (.tmp 102):=r54
     clear r54
     refine tD (T:=(Ty.int (0:Int))) ok73 q586 (y_move (kq hs54 sm57 9 (kq hs53 sm56 9 (kq hs52 sm55 9 (kq hs51 sm54 9 (kq hs50 sm53 9 (kq hs49 sm52 9 (kq hs48 sm51 9 q539)))))))) fun a74 s71 hs55 ok74 r55 sm58=>?_
     have q591:=kq hs55 sm58 98 q586
     have q596:At (Ty.int (0:Int)) s71 a74 (.tmp 103):=r55
     clear r55
     refine tD (T:=(Ty.bool true)) ok74 q591 (y_call _ Try.func54 rfl rfl my5 (colourWith_fn (((n:Nat):Int)) (gens) (many) ((g2)) ((0:Int)) _ _ _ _ _ _ (cvi (σ:=s71) oX (kq hs55 sm58 99 (kq hs54 sm57 99 (kq hs53 sm56 99 (kq hs52 sm55 99 q572))))) (kq hs55 sm58 100 (kq hs54 sm57 100 (kq hs53 sm56 100 q578))) (kq hs55 sm58 101 (kq hs54 sm57 101 q584)) (kq hs55 sm58 102 q590) (cvi (σ:=s71) oX q596) oX)) fun a75 s72 hs56 ok75 r56 sm59=>?_
     have q598:At (Ty.bool true) s72 a75 (.tmp 104):=r56
     clear r56
     refine tL (R:=(fun v τ=>Pr.has (Ty.pr (Ty.bool true)) τ v)) ok75 (Yld.toL (y_pickT (kq hs56 sm59 98 q591) q598)) fun a76 s73 hs57 ok76 r57 sm60=>?_
     have q599:At (Ty.bool true) s73 a76 (.tmp 105):=r57
     clear r57
     refine tL ok76 (Yld.toL (y_as q599)) fun a77 s74 hs58 ok77 r58 sm61=>?_
     have q600:At (Ty.bool true) s74 a77 (.tmp 8):=r58
     clear r58;refine wpList_nil (tn (wp_ret ?_))
     exact retL1 rfl ok77 ((((((((((((((((((((((((((((((((((((((((((((((((((((((((((((((((((((((((((F0.step0 D1.stp).step0 D2.stp).step0 D3.stp).step0 D4.stp).step0 D5.stp).step0 D6.stp).step0 D7.stp).step0 D8.stp).sl hs1).sl hs2).sl hs3).sl hs4).sl hs5).sl hs6).step0 D9.stp).step0 D10.stp).step0 D11.stp).sl hs7).sl hs8).sl hs9).sl hs10).sl hs11).step0 D12.stp).sl hs12).sl hs13).sl hs14).sl hs15).sl hs16).sl hs17).sl hs18).sl hs19).sl hs20).sl hs21).sl hs22).sl hs23).sl hs24).sl hs25).sl hs26).sl hs27).sl hs28).sl hs29).sl hs30).sl hs31).step0 D13.stp).sl hs32).sl hs33).sl hs34).sl hs35).sl hs36).sl hs37).step0 D14.stp).sl hs38).sl hs39).sl hs40).sl hs41).sl hs42).sl hs43).step0 D15.stp).step0 D16.stp).sl hs44).sl hs45).sl hs46).sl hs47).sl hs48).sl hs49).sl hs50).sl hs51).sl hs52).sl hs53).sl hs54).sl hs55).sl hs56).sl hs57).sl hs58) q600
theorem colourSays_fn (n:Int) (gens:List (List Int)) (colours:Int) (many:List Int) (σ:GW) (v0 v1 v2 v3:Value) (hv0:Ty.has (Ty.int n) σ v0) (hv1:Ty.has (Ty.lst Ty.ints gens) σ v1) (hv2:Ty.has (Ty.int colours) σ v2) (hv3:Ty.has (Ty.lst Ty.int many) σ v3) :
    FnC Try.prog 10 #[v0,v1,v2,v3] σ (Ty.bool true):=by
  by_cases h:gensMay n gens = 0
  · obtain ⟨m,rfl⟩:=may_int h
    by_cases h1:szTo m (fun y=>y ∈ gens) m ≤ 720
    · exact csD_fn m gens colours many σ v0 v1 v2 v3 hv0 hv1 hv2 hv3 h h1
    · by_cases h2:5040 < szTo m (fun y=>y ∈ gens) m
      · exact csErr_fn m gens colours many 3 σ v0 v1 v2 v3 hv0 hv1 hv2 hv3 (.inr ⟨m,rfl,h,h2,rfl⟩)
      · exact csB_fn m gens colours many σ v0 v1 v2 v3 hv0 hv1 hv2 hv3 h oM
  · exact csErr_fn n gens colours many _ σ v0 v1 v2 v3 hv0 hv1 hv2 hv3 (.inl ⟨h,rfl⟩)
end Go.Proofs.Ytkjifbgofckfeaa
