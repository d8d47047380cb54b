/- sync.Once in this program: the slow road, and Do. -/
import Derived.Test.YtmeijdkjccfpmaaOnceB
namespace Go.Proofs.Ytmeijdkjccfpmaa
open Go.KL
def wheeled (w : World) (b : Nat) : World :=
  (((((((w.setCell ⟨b, 3, none⟩ (.complex .f64 4607182418800017408 0)).setCell ⟨b, 4, none⟩ (.complex .f64 4604544271217802189 4604544271217802189)).setCell ⟨b, 5, none⟩ (.complex .f64 0 4607182418800017408)).setCell ⟨b, 6, none⟩ (.complex .f64 13827916308072577997 4604544271217802189)).setCell ⟨b, 7, none⟩ (.complex .f64 13830554455654793216 0)).setCell ⟨b, 8, none⟩ (.complex .f64 13827916308072577997 13827916308072577997)).setCell ⟨b, 9, none⟩ (.complex .f64 0 13830554455654793216)).setCell ⟨b, 10, none⟩ (.complex .f64 4604544271217802189 13827916308072577997)
theorem wheeled_old {w : World} {b : Nat} {c : Addr} (h : c.block ≠ b ∨ c.off < 3) : (wheeled w b).cell? c = w.cell? c := by
  have hne : ∀ i, 3 ≤ i → (⟨b, i, none⟩ : Addr) ≠ c := fun i hi e => by subst e; simp at h; omega
  unfold wheeled
  rw [World.cell?_setCell_other _ _ _ _ (hne 10 (by omega)), World.cell?_setCell_other _ _ _ _ (hne 9 (by omega)), World.cell?_setCell_other _ _ _ _ (hne 8 (by omega)), World.cell?_setCell_other _ _ _ _ (hne 7 (by omega)), World.cell?_setCell_other _ _ _ _ (hne 6 (by omega)), World.cell?_setCell_other _ _ _ _ (hne 5 (by omega)), World.cell?_setCell_other _ _ _ _ (hne 4 (by omega)), World.cell?_setCell_other _ _ _ _ (hne 3 (by omega))]
theorem wheeled_frozen {w : World} {b : Nat} {c : Addr} : (wheeled w b).frozen? c = w.frozen? c := by unfold wheeled; simp
/-- A wheel stands at b: whether it is made; its lock is free; nothing of it is frozen. -/
structure Wh (w : World) (b : Nat) (d : Int) : Prop where
  h0 : w.cell? ⟨b, 0, none⟩ = some (.int .u32 d)
  h1 : w.cell? ⟨b, 1, none⟩ = some (.int .i32 0)
  hx : ∀ i, 3 ≤ i → i < 11 → ∃ x, w.cell? ⟨b, i, none⟩ = some x
  fz : ∀ i, w.frozen? ⟨b, i, none⟩ = false
theorem wheel_made' (b : Nat) (pl : Addr) (w : World) (hp : w.cell? pl = some (.pointer (some ⟨b, 0, none⟩))) (hx : ∀ i, 3 ≤ i → i < 11 → ∃ x, w.cell? ⟨b, i, none⟩ = some x) (fz : ∀ i, w.frozen? ⟨b, i, none⟩ = false) :
    Calls Try.prog 31 #[.pointer (some pl)] w fun e w' => e = .returned (.tuple #[]) ∧ w' = wheeled w b := by
  obtain ⟨x3, h3⟩ := hx 3 (by omega) (by omega)
  obtain ⟨x4, h4⟩ := hx 4 (by omega) (by omega)
  obtain ⟨x5, h5⟩ := hx 5 (by omega) (by omega)
  obtain ⟨x6, h6⟩ := hx 6 (by omega) (by omega)
  obtain ⟨x7, h7⟩ := hx 7 (by omega) (by omega)
  obtain ⟨x8, h8⟩ := hx 8 (by omega) (by omega)
  obtain ⟨x9, h9⟩ := hx 9 (by omega) (by omega)
  obtain ⟨x10, h10⟩ := hx 10 (by omega) (by omega)
  exact wheel_made b pl w hp x3 x4 x5 x6 x7 x8 x9 x10 h3 h4 h5 h6 h7 h8 h9 h10 (fz _) (fz _) (fz _) (fz _) (fz _) (fz _) (fz _) (fz _)
/-- What doSlow leaves. -/
def slowed (w : World) (b : Nat) : World := ((wheeled (w.setCell ⟨b, 1, none⟩ (.int .i32 1)) b).drew.setCell ⟨b, 0, none⟩ (.int .u32 1)).setCell ⟨b, 1, none⟩ (.int .i32 0)
set_option maxRecDepth 100000 in
set_option maxHeartbeats 3200000 in
theorem slow_any (b : Nat) (pl : Addr) (hpb : ¬ b = pl.block) (w : World) (hp : w.cell? pl = some (.pointer (some ⟨b, 0, none⟩))) (hw : Wh w b 0) :
    Calls Try.prog 33 #[.pointer (some ⟨b, 0, none⟩), .func (.func 31) #[] #[.pointer (some pl)]] w fun e w' => e = .returned (.tuple #[]) ∧ w' = slowed w b := by
  obtain ⟨h0, h1, hx, fz⟩ := hw
  have f0 := fz 0
  have f1 := fz 1
  have hl := run_call_load (P := Try.prog) Try.func34 (by kernel_rfl) (by kernel_rfl) (by kernel_rfl) .u32 (by kernel_rfl) (w := w.setCell ⟨b, 1, none⟩ (.int .i32 1)) (a := ⟨b, 0, none⟩) (x := 0) ((World.cell?_setCell_other _ ⟨b, 1, none⟩ ⟨b, 0, none⟩ _ (by simp)).trans h0)
  have hp1 : (w.setCell ⟨b, 1, none⟩ (.int .i32 1)).cell? pl = some (.pointer (some ⟨b, 0, none⟩)) := (World.cell?_setCell_other _ ⟨b, 1, none⟩ pl _ (fun h => hpb (by rw [← h]))).trans hp
  have hx1 : ∀ i, 3 ≤ i → i < 11 → ∃ x, (w.setCell ⟨b, 1, none⟩ (.int .i32 1)).cell? ⟨b, i, none⟩ = some x := fun i h3 h11 => by
    obtain ⟨x, hx⟩ := hx i h3 h11
    exact ⟨x, keepc (fun e => by have := congrArg Addr.off e; simp at this; omega) hx⟩
  have fz1 : ∀ i, (w.setCell ⟨b, 1, none⟩ (.int .i32 1)).frozen? ⟨b, i, none⟩ = false := fun i => by simp [fz i]
  have hnot : ∀ (x : Bool) (w : World), (Op.unary .not (.bool x)).run Try.prog w = .ok (.bool (!x)) w := fun _ _ => rfl
  obtain ⟨x3, h3⟩ := hx1 3 (by omega) (by omega)
  obtain ⟨x4, h4⟩ := hx1 4 (by omega) (by omega)
  obtain ⟨x5, h5⟩ := hx1 5 (by omega) (by omega)
  obtain ⟨x6, h6⟩ := hx1 6 (by omega) (by omega)
  obtain ⟨x7, h7⟩ := hx1 7 (by omega) (by omega)
  obtain ⟨x8, h8⟩ := hx1 8 (by omega) (by omega)
  obtain ⟨x9, h9⟩ := hx1 9 (by omega) (by omega)
  obtain ⟨x10, h10⟩ := hx1 10 (by omega) (by omega)
  have s3 : (store ⟨b, 3, none⟩ (.complex .f64 4607182418800017408 0)).run Try.prog (w.setCell ⟨b, 1, none⟩ (.int .i32 1)) = .ok () ((w.setCell ⟨b, 1, none⟩ (.int .i32 1)).setCell ⟨b, 3, none⟩ (.complex .f64 4607182418800017408 0)) := stc rfl h3 (by simp [fz1 3, fz 3])
  have s4 : (store ⟨b, 4, none⟩ (.complex .f64 4604544271217802189 4604544271217802189)).run Try.prog ((w.setCell ⟨b, 1, none⟩ (.int .i32 1)).setCell ⟨b, 3, none⟩ (.complex .f64 4607182418800017408 0)) = .ok () (((w.setCell ⟨b, 1, none⟩ (.int .i32 1)).setCell ⟨b, 3, none⟩ (.complex .f64 4607182418800017408 0)).setCell ⟨b, 4, none⟩ (.complex .f64 4604544271217802189 4604544271217802189)) := stc rfl (keepc (v := (.complex .f64 4607182418800017408 0)) (a := ⟨b, 3, none⟩) (by simp) h4) (by simp [fz1 4, fz 4])
  have s5 : (store ⟨b, 5, none⟩ (.complex .f64 0 4607182418800017408)).run Try.prog (((w.setCell ⟨b, 1, none⟩ (.int .i32 1)).setCell ⟨b, 3, none⟩ (.complex .f64 4607182418800017408 0)).setCell ⟨b, 4, none⟩ (.complex .f64 4604544271217802189 4604544271217802189)) = .ok () ((((w.setCell ⟨b, 1, none⟩ (.int .i32 1)).setCell ⟨b, 3, none⟩ (.complex .f64 4607182418800017408 0)).setCell ⟨b, 4, none⟩ (.complex .f64 4604544271217802189 4604544271217802189)).setCell ⟨b, 5, none⟩ (.complex .f64 0 4607182418800017408)) := stc rfl (keepc (v := (.complex .f64 4604544271217802189 4604544271217802189)) (a := ⟨b, 4, none⟩) (by simp) (keepc (v := (.complex .f64 4607182418800017408 0)) (a := ⟨b, 3, none⟩) (by simp) h5)) (by simp [fz1 5, fz 5])
  have s6 : (store ⟨b, 6, none⟩ (.complex .f64 13827916308072577997 4604544271217802189)).run Try.prog ((((w.setCell ⟨b, 1, none⟩ (.int .i32 1)).setCell ⟨b, 3, none⟩ (.complex .f64 4607182418800017408 0)).setCell ⟨b, 4, none⟩ (.complex .f64 4604544271217802189 4604544271217802189)).setCell ⟨b, 5, none⟩ (.complex .f64 0 4607182418800017408)) = .ok () (((((w.setCell ⟨b, 1, none⟩ (.int .i32 1)).setCell ⟨b, 3, none⟩ (.complex .f64 4607182418800017408 0)).setCell ⟨b, 4, none⟩ (.complex .f64 4604544271217802189 4604544271217802189)).setCell ⟨b, 5, none⟩ (.complex .f64 0 4607182418800017408)).setCell ⟨b, 6, none⟩ (.complex .f64 13827916308072577997 4604544271217802189)) := stc rfl (keepc (v := (.complex .f64 0 4607182418800017408)) (a := ⟨b, 5, none⟩) (by simp) (keepc (v := (.complex .f64 4604544271217802189 4604544271217802189)) (a := ⟨b, 4, none⟩) (by simp) (keepc (v := (.complex .f64 4607182418800017408 0)) (a := ⟨b, 3, none⟩) (by simp) h6))) (by simp [fz1 6, fz 6])
  have s7 : (store ⟨b, 7, none⟩ (.complex .f64 13830554455654793216 0)).run Try.prog (((((w.setCell ⟨b, 1, none⟩ (.int .i32 1)).setCell ⟨b, 3, none⟩ (.complex .f64 4607182418800017408 0)).setCell ⟨b, 4, none⟩ (.complex .f64 4604544271217802189 4604544271217802189)).setCell ⟨b, 5, none⟩ (.complex .f64 0 4607182418800017408)).setCell ⟨b, 6, none⟩ (.complex .f64 13827916308072577997 4604544271217802189)) = .ok () ((((((w.setCell ⟨b, 1, none⟩ (.int .i32 1)).setCell ⟨b, 3, none⟩ (.complex .f64 4607182418800017408 0)).setCell ⟨b, 4, none⟩ (.complex .f64 4604544271217802189 4604544271217802189)).setCell ⟨b, 5, none⟩ (.complex .f64 0 4607182418800017408)).setCell ⟨b, 6, none⟩ (.complex .f64 13827916308072577997 4604544271217802189)).setCell ⟨b, 7, none⟩ (.complex .f64 13830554455654793216 0)) := stc rfl (keepc (v := (.complex .f64 13827916308072577997 4604544271217802189)) (a := ⟨b, 6, none⟩) (by simp) (keepc (v := (.complex .f64 0 4607182418800017408)) (a := ⟨b, 5, none⟩) (by simp) (keepc (v := (.complex .f64 4604544271217802189 4604544271217802189)) (a := ⟨b, 4, none⟩) (by simp) (keepc (v := (.complex .f64 4607182418800017408 0)) (a := ⟨b, 3, none⟩) (by simp) h7)))) (by simp [fz1 7, fz 7])
  have s8 : (store ⟨b, 8, none⟩ (.complex .f64 13827916308072577997 13827916308072577997)).run Try.prog ((((((w.setCell ⟨b, 1, none⟩ (.int .i32 1)).setCell ⟨b, 3, none⟩ (.complex .f64 4607182418800017408 0)).setCell ⟨b, 4, none⟩ (.complex .f64 4604544271217802189 4604544271217802189)).setCell ⟨b, 5, none⟩ (.complex .f64 0 4607182418800017408)).setCell ⟨b, 6, none⟩ (.complex .f64 13827916308072577997 4604544271217802189)).setCell ⟨b, 7, none⟩ (.complex .f64 13830554455654793216 0)) = .ok () (((((((w.setCell ⟨b, 1, none⟩ (.int .i32 1)).setCell ⟨b, 3, none⟩ (.complex .f64 4607182418800017408 0)).setCell ⟨b, 4, none⟩ (.complex .f64 4604544271217802189 4604544271217802189)).setCell ⟨b, 5, none⟩ (.complex .f64 0 4607182418800017408)).setCell ⟨b, 6, none⟩ (.complex .f64 13827916308072577997 4604544271217802189)).setCell ⟨b, 7, none⟩ (.complex .f64 13830554455654793216 0)).setCell ⟨b, 8, none⟩ (.complex .f64 13827916308072577997 13827916308072577997)) := stc rfl (keepc (v := (.complex .f64 13830554455654793216 0)) (a := ⟨b, 7, none⟩) (by simp) (keepc (v := (.complex .f64 13827916308072577997 4604544271217802189)) (a := ⟨b, 6, none⟩) (by simp) (keepc (v := (.complex .f64 0 4607182418800017408)) (a := ⟨b, 5, none⟩) (by simp) (keepc (v := (.complex .f64 4604544271217802189 4604544271217802189)) (a := ⟨b, 4, none⟩) (by simp) (keepc (v := (.complex .f64 4607182418800017408 0)) (a := ⟨b, 3, none⟩) (by simp) h8))))) (by simp [fz1 8, fz 8])
  have s9 : (store ⟨b, 9, none⟩ (.complex .f64 0 13830554455654793216)).run Try.prog (((((((w.setCell ⟨b, 1, none⟩ (.int .i32 1)).setCell ⟨b, 3, none⟩ (.complex .f64 4607182418800017408 0)).setCell ⟨b, 4, none⟩ (.complex .f64 4604544271217802189 4604544271217802189)).setCell ⟨b, 5, none⟩ (.complex .f64 0 4607182418800017408)).setCell ⟨b, 6, none⟩ (.complex .f64 13827916308072577997 4604544271217802189)).setCell ⟨b, 7, none⟩ (.complex .f64 13830554455654793216 0)).setCell ⟨b, 8, none⟩ (.complex .f64 13827916308072577997 13827916308072577997)) = .ok () ((((((((w.setCell ⟨b, 1, none⟩ (.int .i32 1)).setCell ⟨b, 3, none⟩ (.complex .f64 4607182418800017408 0)).setCell ⟨b, 4, none⟩ (.complex .f64 4604544271217802189 4604544271217802189)).setCell ⟨b, 5, none⟩ (.complex .f64 0 4607182418800017408)).setCell ⟨b, 6, none⟩ (.complex .f64 13827916308072577997 4604544271217802189)).setCell ⟨b, 7, none⟩ (.complex .f64 13830554455654793216 0)).setCell ⟨b, 8, none⟩ (.complex .f64 13827916308072577997 13827916308072577997)).setCell ⟨b, 9, none⟩ (.complex .f64 0 13830554455654793216)) := stc rfl (keepc (v := (.complex .f64 13827916308072577997 13827916308072577997)) (a := ⟨b, 8, none⟩) (by simp) (keepc (v := (.complex .f64 13830554455654793216 0)) (a := ⟨b, 7, none⟩) (by simp) (keepc (v := (.complex .f64 13827916308072577997 4604544271217802189)) (a := ⟨b, 6, none⟩) (by simp) (keepc (v := (.complex .f64 0 4607182418800017408)) (a := ⟨b, 5, none⟩) (by simp) (keepc (v := (.complex .f64 4604544271217802189 4604544271217802189)) (a := ⟨b, 4, none⟩) (by simp) (keepc (v := (.complex .f64 4607182418800017408 0)) (a := ⟨b, 3, none⟩) (by simp) h9)))))) (by simp [fz1 9, fz 9])
  have s10 : (store ⟨b, 10, none⟩ (.complex .f64 4604544271217802189 13827916308072577997)).run Try.prog ((((((((w.setCell ⟨b, 1, none⟩ (.int .i32 1)).setCell ⟨b, 3, none⟩ (.complex .f64 4607182418800017408 0)).setCell ⟨b, 4, none⟩ (.complex .f64 4604544271217802189 4604544271217802189)).setCell ⟨b, 5, none⟩ (.complex .f64 0 4607182418800017408)).setCell ⟨b, 6, none⟩ (.complex .f64 13827916308072577997 4604544271217802189)).setCell ⟨b, 7, none⟩ (.complex .f64 13830554455654793216 0)).setCell ⟨b, 8, none⟩ (.complex .f64 13827916308072577997 13827916308072577997)).setCell ⟨b, 9, none⟩ (.complex .f64 0 13830554455654793216)) = .ok () (((((((((w.setCell ⟨b, 1, none⟩ (.int .i32 1)).setCell ⟨b, 3, none⟩ (.complex .f64 4607182418800017408 0)).setCell ⟨b, 4, none⟩ (.complex .f64 4604544271217802189 4604544271217802189)).setCell ⟨b, 5, none⟩ (.complex .f64 0 4607182418800017408)).setCell ⟨b, 6, none⟩ (.complex .f64 13827916308072577997 4604544271217802189)).setCell ⟨b, 7, none⟩ (.complex .f64 13830554455654793216 0)).setCell ⟨b, 8, none⟩ (.complex .f64 13827916308072577997 13827916308072577997)).setCell ⟨b, 9, none⟩ (.complex .f64 0 13830554455654793216)).setCell ⟨b, 10, none⟩ (.complex .f64 4604544271217802189 13827916308072577997)) := stc rfl (keepc (v := (.complex .f64 0 13830554455654793216)) (a := ⟨b, 9, none⟩) (by simp) (keepc (v := (.complex .f64 13827916308072577997 13827916308072577997)) (a := ⟨b, 8, none⟩) (by simp) (keepc (v := (.complex .f64 13830554455654793216 0)) (a := ⟨b, 7, none⟩) (by simp) (keepc (v := (.complex .f64 13827916308072577997 4604544271217802189)) (a := ⟨b, 6, none⟩) (by simp) (keepc (v := (.complex .f64 0 4607182418800017408)) (a := ⟨b, 5, none⟩) (by simp) (keepc (v := (.complex .f64 4604544271217802189 4604544271217802189)) (a := ⟨b, 4, none⟩) (by simp) (keepc (v := (.complex .f64 4607182418800017408 0)) (a := ⟨b, 3, none⟩) (by simp) h10))))))) (by simp [fz1 10, fz 10])
  have hs := half_run
  have hneg : ∀ (w : World), (Op.unary .neg (.float .f64 4604544271217802189)).run Try.prog w = .ok (.float .f64 13827916308072577997) w := fun w => by
    show (pure (Value.float .f64 (Op.negFloat .f64 4604544271217802189)) : Sem Value).run Try.prog w = _
    rw [show Op.negFloat .f64 4604544271217802189 = 13827916308072577997 by decide +kernel]; rfl
  go_enter_defers Try.func33, Try.ntmps33
  go_wp2_with (first | (go_at_call 35; refine (lock_free ⟨b, 1, none⟩ _ (by go_simp) (by go_simp)).mono ?_; rintro e w' ⟨rfl, rfl⟩) | (go_at_call 21; go_in))
  go_wp2
  go_end0
  rw [show (((((((((w.setCell ⟨b, 1, none⟩ (.int .i32 1)).setCell ⟨b, 3, none⟩ (.complex .f64 4607182418800017408 0)).setCell ⟨b, 4, none⟩ (.complex .f64 4604544271217802189 4604544271217802189)).setCell ⟨b, 5, none⟩ (.complex .f64 0 4607182418800017408)).setCell ⟨b, 6, none⟩ (.complex .f64 13827916308072577997 4604544271217802189)).setCell ⟨b, 7, none⟩ (.complex .f64 13830554455654793216 0)).setCell ⟨b, 8, none⟩ (.complex .f64 13827916308072577997 13827916308072577997)).setCell ⟨b, 9, none⟩ (.complex .f64 0 13830554455654793216)).setCell ⟨b, 10, none⟩ (.complex .f64 4604544271217802189 13827916308072577997)) = wheeled (w.setCell ⟨b, 1, none⟩ (.int .i32 1)) b from rfl]
  have z0 : (wheeled (w.setCell ⟨b, 1, none⟩ (.int .i32 1)) b).cell? ⟨b, 0, none⟩ = some (.int .u32 0) := (wheeled_old (.inr (by simp))).trans (keepc (by simp) h0)
  have z1 : (wheeled (w.setCell ⟨b, 1, none⟩ (.int .i32 1)) b).cell? ⟨b, 1, none⟩ = some (.int .i32 1) := (wheeled_old (.inr (by simp))).trans (World.cell?_setCell_same w _ _ h1)
  have g0 : (wheeled (w.setCell ⟨b, 1, none⟩ (.int .i32 1)) b).frozen? ⟨b, 0, none⟩ = false := wheeled_frozen.trans (fz1 0)
  have g1 : (wheeled (w.setCell ⟨b, 1, none⟩ (.int .i32 1)) b).frozen? ⟨b, 1, none⟩ = false := wheeled_frozen.trans (fz1 1)
  generalize hw1 : wheeled (w.setCell ⟨b, 1, none⟩ (.int .i32 1)) b = w1 at z0 z1 g0 g1 ⊢
  go_wp2
  refine leaves_cons (f := 37) (args := #[.pointer (some ⟨b, 0, none⟩), .bool true]) (by simp) (by simp [go_sem]) ?_
  refine (store_deferred ⟨b, 0, none⟩ (.int .u32 0) .returning _ z0 g0).mono ?_
  rintro e u' w'' ⟨rfl, rfl, rfl⟩
  refine leaves_cons (f := 36) (args := #[.pointer (some ⟨b, 1, none⟩)]) (by simp [settle]) (by simp [go_sem]) ?_
  refine (unlock_deferred ⟨b, 1, none⟩ _ _ ?_ (by simp [g1])).mono ?_
  · refine (World.cell?_setCell_other _ ⟨b, 0, none⟩ ⟨b, 1, none⟩ _ (by simp)).trans ?_
    rw [World.cell?_drew]
    exact z1
  rintro e u' w'' ⟨rfl, rfl, rfl⟩
  subst hw1
  simp [Leaves, settle, results, Try.results33, slowed]
set_option maxRecDepth 100000 in
set_option maxHeartbeats 3200000 in
/-- Do, for the first time. -/
theorem do_first (b : Nat) (pl : Addr) (hpb : ¬ b = pl.block) (w : World) (hp : w.cell? pl = some (.pointer (some ⟨b, 0, none⟩))) (hw : Wh w b 0) :
    Calls Try.prog 30 #[.pointer (some ⟨b, 0, none⟩), .func (.func 31) #[] #[.pointer (some pl)]] w fun e w' => e = .returned (.tuple #[]) ∧ w' = slowed w b := by
  have hl := run_call_load (P := Try.prog) Try.func34 (by kernel_rfl) (by kernel_rfl) (by kernel_rfl) .u32 (by kernel_rfl) hw.h0
  have hnot : ∀ (x : Bool) (w : World), (Op.unary .not (.bool x)).run Try.prog w = .ok (.bool (!x)) w := fun _ _ => rfl
  go_enter Try.func30, Try.ntmps30
  go_wp2_with (first | (go_at_call 33; refine (slow_any b pl hpb _ hp hw).mono ?_; rintro e w' ⟨rfl, rfl⟩) | (go_at_call 32; go_in))
  go_end0
  exact ⟨rfl, rfl⟩
set_option maxRecDepth 100000 in
set_option maxHeartbeats 1600000 in
/-- Do, done already. -/
theorem do_done (a : Addr) (fv : Value) (w : World) (h0 : w.cell? a = some (.int .u32 1)) :
    Calls Try.prog 30 #[.pointer (some a), fv] w fun e w' => e = .returned (.tuple #[]) ∧ w' = w := by
  have hl := run_call_load (P := Try.prog) Try.func34 (by kernel_rfl) (by kernel_rfl) (by kernel_rfl) .u32 (by kernel_rfl) h0
  have hnot : ∀ (x : Bool) (w : World), (Op.unary .not (.bool x)).run Try.prog w = .ok (.bool (!x)) w := fun _ _ => rfl
  go_enter Try.func30, Try.ntmps30
  go_wp2
  go_end0
  exact ⟨rfl, rfl⟩
end Go.Proofs.Ytmeijdkjccfpmaa
