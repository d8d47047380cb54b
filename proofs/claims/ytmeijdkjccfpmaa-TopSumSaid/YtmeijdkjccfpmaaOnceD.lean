/- sync.Once in this program: Do, as a contract on what the caller owns. -/
import Derived.Test.YtmeijdkjccfpmaaOnceC
import Derived.Test.YtmeijdkjccfpmaaTopSumK2
namespace Go.Proofs.Ytmeijdkjccfpmaa
open Go.KL Go.ChangeShapes Go.WideShapes Go.ChangeAt Go.RowKit Go.Deep
theorem st0 {k : Nat} {σ τ : GW} (h : Stp 0 σ τ) : Stp k σ τ := ⟨h.os, h.tape, h.output, h.dr, h.size, fun b hb _ => h.blk b hb (.inl rfl), fun b hb _ => h.st b hb (.inl rfl)⟩
theorem set_own {σ : GW} {k g : Nat} (hk : 2 ≤ k) {ts : List Ty} (h : OwnP σ k (.pointer (some ⟨g, 0, none⟩)) ts) {i : Nat} (hi : i < ts.length) {T : Ty} {u : Value} (hu : ∀ σ, T.has σ u) :
    ∃ τ : GW, τ.w = σ.w.setCell ⟨g, i, none⟩ u ∧ Stp k σ τ ∧ OwnP τ k (.pointer (some ⟨g, 0, none⟩)) (ts.set i T) := by
  obtain ⟨gg, e', cur, e, h2, h3, h4, h5⟩ := h
  cases e
  have hlt : i < cur.size := by omega
  have hg := (Array.getElem?_eq_some_iff.1 h3).1
  have hstp : Stp k σ ⟨σ.w.setCell ⟨g, i, none⟩ u, σ.st, fun b h => by have := σ.lt b h; simpa using this⟩ :=
    ⟨rfl, rfl, rfl, Dr.refl _, by simp, fun b hb hm => Below.heap_setCell σ.w _ _ b (by rintro rfl; simp at hm; omega), fun _ _ _ => rfl⟩
  have hh : (σ.w.setCell ⟨g, i, none⟩ u).heap[g]? = some (.cells (cur.setIfInBounds i u) e' (0, 0)) := by
    unfold World.setCell
    rw [Array.getElem?_modify, if_pos rfl, h3]
    rfl
  refine ⟨_, rfl, hstp, g, e', _, rfl, h2, hh, by simp [h4], fun j U v hU hv => ?_⟩
  by_cases hji : j = i
  · subst hji
    rw [List.getElem?_set_self (by omega)] at hU
    rw [Array.getElem?_setIfInBounds_self_of_lt hlt] at hv
    cases hU; cases hv
    exact hu _
  · rw [List.getElem?_set_ne (Ne.symm hji)] at hU
    rw [Array.getElem?_setIfInBounds_ne (Ne.symm hji)] at hv
    exact U.up (hstp.le (by omega)) (h5 j U v hU hv)
theorem slowed_own {σ : GW} {k g : Nat} (hk : 2 ≤ k) {a0 a1 a2 a3 a4 a5 a6 a7 a8 a9 a10 : Ty} (h : OwnP σ k (.pointer (some ⟨g, 0, none⟩)) [a0, a1, a2, a3, a4, a5, a6, a7, a8, a9, a10]) :
    ∃ τ : GW, τ.w = slowed σ.w g ∧ Stp k σ τ ∧ OwnP τ k (.pointer (some ⟨g, 0, none⟩)) [Ty.val (.int .u32 1), Ty.val (.int .i32 0), a2, Ty.cx (ONE, some 0), Ty.cx (HH, HH), Ty.cx (some 0, ONE), Ty.cx (HN, HH), Ty.cx (ONEN, some 0), Ty.cx (HN, HN), Ty.cx (some 0, ONEN), Ty.cx (HH, HN)] := by
  obtain ⟨t1, e1, s1, q1⟩ := set_own hk h (i := 1) (by simp) (T := Ty.val (.int .i32 1)) (u := (.int .i32 1)) (fun _ => rfl)
  have g1 : Stp k σ t1 := (Stp.refl k σ).trans s1
  obtain ⟨t2, e2, s2, q2⟩ := set_own hk q1 (i := 3) (by simp) (T := Ty.cx (ONE, some 0)) (u := (.complex .f64 4607182418800017408 0)) (fun _ => cx_const (Nat.le_of_ble_eq_true rfl) (Nat.le_of_ble_eq_true rfl) (Nat.le_of_ble_eq_true rfl) (Nat.le_of_ble_eq_true rfl))
  have g2 : Stp k σ t2 := g1.trans s2
  obtain ⟨t3, e3, s3, q3⟩ := set_own hk q2 (i := 4) (by simp) (T := Ty.cx (HH, HH)) (u := (.complex .f64 4604544271217802189 4604544271217802189)) (fun _ => cx_const (Nat.le_of_ble_eq_true rfl) (Nat.le_of_ble_eq_true rfl) (Nat.le_of_ble_eq_true rfl) (Nat.le_of_ble_eq_true rfl))
  have g3 : Stp k σ t3 := g2.trans s3
  obtain ⟨t4, e4, s4, q4⟩ := set_own hk q3 (i := 5) (by simp) (T := Ty.cx (some 0, ONE)) (u := (.complex .f64 0 4607182418800017408)) (fun _ => cx_const (Nat.le_of_ble_eq_true rfl) (Nat.le_of_ble_eq_true rfl) (Nat.le_of_ble_eq_true rfl) (Nat.le_of_ble_eq_true rfl))
  have g4 : Stp k σ t4 := g3.trans s4
  obtain ⟨t5, e5, s5, q5⟩ := set_own hk q4 (i := 6) (by simp) (T := Ty.cx (HN, HH)) (u := (.complex .f64 13827916308072577997 4604544271217802189)) (fun _ => cx_const (Nat.le_of_ble_eq_true rfl) (Nat.le_of_ble_eq_true rfl) (Nat.le_of_ble_eq_true rfl) (Nat.le_of_ble_eq_true rfl))
  have g5 : Stp k σ t5 := g4.trans s5
  obtain ⟨t6, e6, s6, q6⟩ := set_own hk q5 (i := 7) (by simp) (T := Ty.cx (ONEN, some 0)) (u := (.complex .f64 13830554455654793216 0)) (fun _ => cx_const (Nat.le_of_ble_eq_true rfl) (Nat.le_of_ble_eq_true rfl) (Nat.le_of_ble_eq_true rfl) (Nat.le_of_ble_eq_true rfl))
  have g6 : Stp k σ t6 := g5.trans s6
  obtain ⟨t7, e7, s7, q7⟩ := set_own hk q6 (i := 8) (by simp) (T := Ty.cx (HN, HN)) (u := (.complex .f64 13827916308072577997 13827916308072577997)) (fun _ => cx_const (Nat.le_of_ble_eq_true rfl) (Nat.le_of_ble_eq_true rfl) (Nat.le_of_ble_eq_true rfl) (Nat.le_of_ble_eq_true rfl))
  have g7 : Stp k σ t7 := g6.trans s7
  obtain ⟨t8, e8, s8, q8⟩ := set_own hk q7 (i := 9) (by simp) (T := Ty.cx (some 0, ONEN)) (u := (.complex .f64 0 13830554455654793216)) (fun _ => cx_const (Nat.le_of_ble_eq_true rfl) (Nat.le_of_ble_eq_true rfl) (Nat.le_of_ble_eq_true rfl) (Nat.le_of_ble_eq_true rfl))
  have g8 : Stp k σ t8 := g7.trans s8
  obtain ⟨t9, e9, s9, q9⟩ := set_own hk q8 (i := 10) (by simp) (T := Ty.cx (HH, HN)) (u := (.complex .f64 4604544271217802189 13827916308072577997)) (fun _ => cx_const (Nat.le_of_ble_eq_true rfl) (Nat.le_of_ble_eq_true rfl) (Nat.le_of_ble_eq_true rfl) (Nat.le_of_ble_eq_true rfl))
  have g9 : Stp k σ t9 := g8.trans s9
  have q10 := q9.k0 (Stp.drew t9)
  have g10 : Stp k σ t9.drew := g9.trans (st0 (Stp.drew t9))
  obtain ⟨t11, e11, s11, q11⟩ := set_own hk q10 (i := 0) (by simp) (T := Ty.val (.int .u32 1)) (u := (.int .u32 1)) (fun _ => rfl)
  have g11 : Stp k σ t11 := g10.trans s11
  obtain ⟨t12, e12, s12, q12⟩ := set_own hk q11 (i := 1) (by simp) (T := Ty.val (.int .i32 0)) (u := (.int .i32 0)) (fun _ => rfl)
  have g12 : Stp k σ t12 := g11.trans s12
  refine ⟨t12, ?_, g12, q12⟩
  rw [e12, e11]
  show (World.drew (GW.w t9) |>.setCell _ _).setCell _ _ = _
  rw [e9, e8, e7, e6, e5, e4, e3, e2, e1]
  rfl
theorem own_wh {σ : GW} {k g : Nat} {d : Int} {a2 a3 a4 a5 a6 a7 a8 a9 a10 : Ty} (h : OwnP σ k (.pointer (some ⟨g, 0, none⟩)) ([Ty.val (.int .u32 d), Ty.val (.int .i32 0)] ++ [a2, a3, a4, a5, a6, a7, a8, a9, a10])) : Wh σ.w g d := by
  obtain ⟨gg, e', cur, e, h2, h3, h4, h5⟩ := h
  cases e
  have h4 : cur.size = 11 := h4
  have hc : ∀ i (hi : i < cur.size), σ.w.cell? ⟨g, i, none⟩ = some cur[i] := fun i hi => by simp [World.cell?, h3, hi]
  refine ⟨?_, ?_, fun i _ hi => ⟨_, hc i (by omega)⟩, fun i => by simp [World.frozen?, h3]⟩
  · rw [hc 0 (by omega), show cur[0] = .int .u32 d from h5 0 _ _ rfl (by simp [h4])]
  · rw [hc 1 (by omega), show cur[1] = .int .i32 0 from h5 1 _ _ rfl (by simp [h4])]
/-- '(*sync.Once).Do' of a wheel: not yet made. -/
theorem onceFirst_fn (p : Value) (a2 a3 a4 a5 a6 a7 a8 a9 a10 : Ty) (σ : GW) (hlow : Low [60] σ) (v0 v1 : Value) (hv0 : Ty.has (Ty.val (ptrAt p 0)) σ v0) (hv1 : Ty.has (Ty.clo 31 [Ty.val p]) σ v1) (ho : OwnP σ 60 p ([Ty.val (.int .u32 0), Ty.val (.int .i32 0)] ++ [a2, a3, a4, a5, a6, a7, a8, a9, a10])) :
    FnL Try.prog 30 #[v0, v1] σ [60] (fun _ τ => OwnP τ 60 p [Ty.val (.int .u32 1), Ty.val (.int .i32 0), a2, Ty.cx (ONE, some 0), Ty.cx (HH, HH), Ty.cx (some 0, ONE), Ty.cx (HN, HH), Ty.cx (ONEN, some 0), Ty.cx (HN, HN), Ty.cx (some 0, ONEN), Ty.cx (HH, HN)]) := by
  obtain ⟨q, rfl, B, o, rfl, hB, hcl⟩ := hv1
  have ho' := ho
  obtain ⟨g, e', cur, rfl, hst, h3, h4, h5⟩ := ho'
  have e0 : v0 = .pointer (some ⟨g, 0, none⟩) := hv0
  subst e0
  have hw := own_wh ho
  obtain ⟨u, hu, hu2⟩ := hcl 0 _ rfl
  have hu2 : u = .pointer (some ⟨g, 0, none⟩) := hu2
  subst hu2
  refine (do_first g ⟨B, o, none⟩ (fun e => by have e : g = B := e; rw [e, hB] at hst; omega) σ.w (by simpa using hu) hw).mono ?_
  rintro e w' ⟨rfl, rfl⟩
  obtain ⟨τ, hτ, hs, hq⟩ := slowed_own (by decide) ho
  exact ⟨_, τ, hτ, hs.toL (by simp), rfl, hq⟩
/-- '(*sync.Once).Do' of a wheel: made already. -/
theorem onceAgain_fn (p : Value) (ts : List Ty) (fv : Ty) (σ : GW) (hlow : Low [60] σ) (v0 v1 : Value) (hv0 : Ty.has (Ty.val (ptrAt p 0)) σ v0) (hv1 : Ty.has fv σ v1) (ho : OwnP σ 60 p (Ty.val (.int .u32 1) :: ts)) :
    FnL Try.prog 30 #[v0, v1] σ [60] (fun _ τ => OwnP τ 60 p (Ty.val (.int .u32 1) :: ts)) := by
  have ho' := ho
  obtain ⟨g, e', cur, rfl, hst, h3, h4, h5⟩ := ho'
  have e0 : v0 = .pointer (some ⟨g, 0, none⟩) := hv0
  subst e0
  have hlt : 0 < cur.size := by rw [h4]; simp
  have hc : σ.w.cell? ⟨g, 0, none⟩ = some (.int .u32 1) := by
    have : σ.w.cell? ⟨g, 0, none⟩ = some cur[0] := by simp [World.cell?, h3, hlt]
    rw [this, show cur[0] = .int .u32 1 from h5 0 _ _ rfl (by simp [hlt])]
  refine (do_done ⟨g, 0, none⟩ v1 σ.w hc).mono ?_
  rintro e w' ⟨rfl, rfl⟩
  exact ⟨_, σ, rfl, StpL.refl _ _, rfl, ho⟩
/-- '(*sync.Once).Do' of a wheel, made already or not. -/
theorem onceDo_fn (p : Value) (mk : Bool) (σ : GW) (hlow : Low [60] σ) (v0 v1 : Value) (hv0 : Ty.has (Ty.val (ptrAt p 0)) σ v0) (hv1 : Ty.has (Ty.clo 31 [Ty.val p]) σ v1)
    (ho_p : OwnP σ 60 p [(Ty.val (Value.int .u32 (dn mk))), (Ty.val (Value.int .i32 0)), (Ty.val (Value.int .u32 0)), Ty.cx (cw mk 0), Ty.cx (cw mk 1), Ty.cx (cw mk 2), Ty.cx (cw mk 3), Ty.cx (cw mk 4), Ty.cx (cw mk 5), Ty.cx (cw mk 6), Ty.cx (cw mk 7)]) :
    FnL Try.prog 30 #[v0, v1] σ [60] (fun _ τ => True ∧ (OwnP τ 60 p [(Ty.val (Value.int .u32 (dn true))), (Ty.val (Value.int .i32 0)), (Ty.val (Value.int .u32 0)), Ty.cx (cw true 0), Ty.cx (cw true 1), Ty.cx (cw true 2), Ty.cx (cw true 3), Ty.cx (cw true 4), Ty.cx (cw true 5), Ty.cx (cw true 6), Ty.cx (cw true 7)])) := by
  cases mk with
  | false => exact (onceFirst_fn p _ _ _ _ _ _ _ _ _ σ hlow v0 v1 hv0 hv1 ho_p).mono fun e w' ⟨v, τ, h1, h2, h3, h4⟩ => ⟨v, τ, h1, h2, h3, trivial, h4⟩
  | true => exact (onceAgain_fn p _ _ σ hlow v0 v1 hv0 hv1 ho_p).mono fun e w' ⟨v, τ, h1, h2, h3, h4⟩ => ⟨v, τ, h1, h2, h3, trivial, h4⟩
end Go.Proofs.Ytmeijdkjccfpmaa
