/- Structs as values and behind pointers; strings that are ranged over. -/
import Derived.Test.YtbilebfnanlgfaaKlOwn
namespace Go.KL
open Go.RowKit
variable {P : Program}

def Ty.agg (ts : List Ty) : Ty where
  has σ v := ∃ cs : Array Value, v = .agg cs ∧ cs.size = ts.length ∧ ∀ (j : Nat) (T : Ty) (u : Value), ts[j]? = some T → cs[j]? = some u → T.has σ u
  up h := by
    rintro ⟨cs, e, hl, hc⟩
    exact ⟨cs, e, hl, fun j T u hj hu => T.up h (hc j T u hj hu)⟩
def fieldOf (P : Program) (t : TypeId) (f : Nat) : Option (TypeId × Nat) :=
  match P.underlying t with
  | some (.struct fs) => (fs[f]?).map fun x => (x.type, x.offset)
  | _ => none
theorem fieldOf_iff {t : TypeId} {f off : Nat} {ft : TypeId} (h : fieldOf P t f = some (ft, off)) : ∃ fs x, P.underlying t = some (.struct fs) ∧ fs[f]? = some x ∧ x.type = ft ∧ x.offset = off := by
  unfold fieldOf at h
  split at h
  · rename_i fs hu
    cases hx : fs[f]? with
    | none => rw [hx] at h; simp at h
    | some x => rw [hx] at h; simp at h; exact ⟨fs, x, hu, hx, h.1, h.2⟩
  · cases h

variable {d : Option Tmp} {ty : TypeId} {pos : String} {af : Array Edge} {g : Option (Nat × Bool)} {a : Act} {σ : GW}

theorem run_fieldAt {t ft : TypeId} {f off b o c by_ : Nat} {z : Value} (hf : fieldOf P t f = some (ft, off)) (he : Info P ft z c by_) (hc : 0 < c) (w : World) :
    (Instr.fieldAt t (.pointer (some ⟨b, o, none⟩)) f).run P w = .ok (.pointer (some ⟨b, o + off, none⟩)) w := by
  obtain ⟨fs, x, hu, hx, rfl, rfl⟩ := fieldOf_iff hf
  have hz : (sizeOf x.type).run P w = .ok c w := he.size w
  simp [Instr.fieldAt, Sem.run_bind, run_underlying hu, hx, Instr.sureAddr, fieldPlace, he.size, show c ≠ 0 by omega, Addr.add_lit]

theorem y_field {x : Operand} {ts us : List Ty} {t ft : TypeId} {f off c by_ : Nat} {z : Value} (hf : fieldOf P t f = some (ft, off)) (he : Info P ft z c by_) (hc : 0 < c) (hx : At (.ref ts) σ a x) (hu : ts.drop off = us) :
    Yld P ⟨d, .fieldAddr t x f, ty, pos, af, g⟩ a σ (Ty.ref us).pr := by
  subst hu
  obtain ⟨b, o, e1, hst, hcl⟩ := hx
  refine Yld.of_run (v := .pointer (some ⟨b, o + off, none⟩)) ?_ ⟨b, o + off, rfl, hst, fun j T hj => ?_⟩
  · simp only [execOp, e1]
    simp [run_fieldAt hf he hc]
  · rw [List.getElem?_drop] at hj
    rw [Nat.add_assoc]; exact hcl _ T hj

theorem ownp_field {k : Nat} {x : Operand} {ts : List Ty} {t ft : TypeId} {f off c by_ : Nat} {z v : Value} (hf : fieldOf P t f = some (ft, off)) (he : Info P ft z c by_) (hc : 0 < c) (h : OwnP σ k v ts) (hx : a.eval x = v) :
    Yld P ⟨d, .fieldAddr t x f, ty, pos, af, g⟩ a σ (Ty.val (ptrAt v off)).pr := by
  obtain ⟨gg, e', cur, rfl, _⟩ := h
  refine Yld.of_run (v := .pointer (some ⟨gg, off, none⟩)) ?_ rfl
  simp only [execOp, hx]
  have := run_fieldAt (o := 0) (b := gg) hf he hc σ.w
  rw [Nat.zero_add] at this
  simp [this]

theorem run_loadCellsFrom {w : World} {ad : Addr} : ∀ (us : List Value) (i : Nat) (acc : Array Value), (∀ j u, us[j]? = some u → w.cell? (ad.add (i + j)) = some u) →
    (loadCellsFrom ad i us.length acc).run P w = .ok (acc ++ us.toArray) w
  | [], i, acc, _ => by simp [loadCellsFrom]
  | u :: us, i, acc, h => by
    have h0 : w.cell? (ad.add i) = some u := h 0 u rfl
    have hl : (load (ad.add i)).run P w = .ok u w := by simp [load, Sem.run, h0]
    have ih := run_loadCellsFrom us (i + 1) (acc.push u) (fun j v hj => by rw [show i + 1 + j = i + (j + 1) by omega]; exact h (j + 1) v hj)
    simp only [List.length_cons, loadCellsFrom, Sem.run_bind, hl, Result.andThen_ok, ih]
    simp
theorem run_loadVar {t : TypeId} {fs : Array Field} {z : Value} {c by_ : Nat} (ht : P.underlying t = some (.struct fs)) (he : Info P t z c by_) {w : World} {ad : Addr} {us : List Value} (hl : us.length = c) (h : ∀ j u, us[j]? = some u → w.cell? (ad.add j) = some u) :
    (loadVar t ad).run P w = .ok (.agg us.toArray) w := by
  have hagg : (isAgg t).run P w = .ok true w := by
    unfold isAgg
    rw [Sem.run_bind, run_underlying ht w]
    simp
  have hc := run_loadCellsFrom (P := P) us 0 #[] (fun j u hj => by rw [Nat.zero_add]; exact h j u hj)
  rw [hl] at hc
  simp [loadVar, Sem.run_bind, hagg, he.size, loadCells, hc]
theorem y_loadagg {x : Operand} {ts : List Ty} {t : TypeId} {fs : Array Field} {z : Value} {by_ : Nat} (ht : P.underlying t = some (.struct fs)) (he : Info P t z ts.length by_) (hx : At (.ref ts) σ a x) :
    Yld P ⟨d, .load t x, ty, pos, af, g⟩ a σ (Ty.agg ts).pr := by
  obtain ⟨b, o, e1, hst, hc⟩ := hx
  let us : List Value := (List.range ts.length).map fun j => (σ.w.cell? ⟨b, o + j, none⟩).getD undef
  have hu : ∀ j T, ts[j]? = some T → us[j]? = σ.w.cell? ⟨b, o + j, none⟩ ∧ ∃ u, us[j]? = some u ∧ T.has σ u := fun j T hj => by
    obtain ⟨u, hu, hT⟩ := hc j T hj
    have hlt := (List.getElem?_eq_some_iff.1 hj).1
    have : us[j]? = some u := by simp [us, hlt, hu]
    exact ⟨by rw [this, hu], u, this, hT⟩
  have hl : us.length = ts.length := by simp [us]
  refine Yld.of_run (v := .agg us.toArray) ?_ ⟨us.toArray, rfl, by simp [hl], fun j T u hj hu' => ?_⟩
  · simp only [execOp, e1]
    have := run_loadVar (P := P) ht he (w := σ.w) (ad := ⟨b, o, none⟩) hl (fun j u hj => by
      have hlt := (List.getElem?_eq_some_iff.1 hj).1
      have hT : ts[j]? = some ts[j] := by simp [show j < ts.length by omega]
      rw [Addr.add_lit, ← (hu j _ hT).1]; exact hj)
    simp [Instr.loadAt, Instr.sureAddr, this]
  · obtain ⟨_, u', e, hT⟩ := hu j T hj
    simp at hu'
    rw [hu'] at e
    cases e; exact hT
theorem ownp_loadagg {k : Nat} {x : Operand} {ts : List Ty} {t : TypeId} {fs : Array Field} {z v : Value} {by_ : Nat} (ht : P.underlying t = some (.struct fs)) (he : Info P t z ts.length by_) (h : OwnP σ k v ts) (hx : a.eval x = v) :
    Yld P ⟨d, .load t x, ty, pos, af, g⟩ a σ (Ty.agg ts).pr := by
  obtain ⟨gg, e', cur, rfl, h2, h3, h4, h5⟩ := h
  refine Yld.of_run (v := .agg cur) ?_ ⟨cur, rfl, h4, h5⟩
  simp only [execOp, hx]
  have := run_loadVar (P := P) ht he (w := σ.w) (ad := ⟨gg, 0, none⟩) (us := cur.toList) (by simp [h4]) (fun j u hj => by
    rw [Addr.add_lit, Nat.zero_add]
    simp at hj
    simp [World.cell?, h3, hj])
  simp [Instr.loadAt, Instr.sureAddr, this]
theorem run_box {t : TypeId} {v : Value} (w : World) : (Instr.box t v).run P w = .ok (.pointer (some ⟨w.heap.size, 0, none⟩)) (w.alloc (.cells v.cells t)) := by
  simp [Instr.box, newVar, newRow, newObj, Sem.run]
theorem y_boxagg {x : Operand} {ts : List Ty} {t : TypeId} (hx : At (.agg ts) σ a x) : Yld P ⟨d, .box t x, ty, pos, af, g⟩ a σ (Ty.ref ts).pr := by
  intro K Q hk
  obtain ⟨cs, e1, hl, hc⟩ := hx
  have hr : (execOp a.eval ⟨d, .box t x, ty, pos, af, g⟩).run P σ.w = .ok (.value (.pointer (some ⟨σ.w.heap.size, 0, none⟩))) (σ.w.alloc (.cells cs t)) := by
    simp only [execOp, e1]
    simp [run_box, Value.cells]
  unfold Oper.wp
  rw [hr]
  refine hk _ (σ.seal (.cells cs t)) (Stp.seal _ _) ⟨σ.w.heap.size, 0, rfl, by simp [GW.seal], fun j T hj => ?_⟩
  have hlt := (List.getElem?_eq_some_iff.1 hj).1
  refine ⟨cs[j]'(by omega), ?_, T.up (Stp.seal _ _).le0 (hc j T _ hj (by simp [show j < cs.size by omega]))⟩
  show World.cell? (σ.w.alloc _) _ = _
  simp only [World.cell?, heap_alloc_new]
  simp [show j < cs.size by omega]
theorem y_boxo (k : Nat) {x : Operand} {ts : List Ty} {t : TypeId} (hx : At (.agg ts) σ a x) : Yld P ⟨d, .box t x, ty, pos, af, g⟩ a σ (Pr.ownp k ts) := by
  intro K Q hk
  obtain ⟨cs, e1, hl, hc⟩ := hx
  have hr : (execOp a.eval ⟨d, .box t x, ty, pos, af, g⟩).run P σ.w = .ok (.value (.pointer (some ⟨σ.w.heap.size, 0, none⟩))) (σ.w.alloc (.cells cs t)) := by
    simp only [execOp, e1]
    simp [run_box, Value.cells]
  unfold Oper.wp
  rw [hr]
  exact hk _ (σ.mk' k (.cells cs t)) (Stp.mk' σ k _) ⟨σ.w.heap.size, t, cs, rfl, by show (if _ = _ then k else _) = k; rw [if_pos rfl], heap_alloc_new σ.w _, hl, fun j T u hj hu => T.up (Stp.mk' σ k _).le0 (hc j T u hj hu)⟩
/-! ### A struct that is built of its parts -/
def placesOk (P : Program) (t : TypeId) (l : List (Nat × Nat)) : Bool :=
  match P.underlying t with
  | some (.struct fs) => (fs.toList.map fun f => (P.info? f.type).map fun i => (f.offset, i.size)) == l.map some
  | _ => false
theorem run_mapM {α β : Type} {w : World} (f : α → Sem β) : ∀ (xs : List α) (ys : List β), xs.length = ys.length → (∀ (j : Nat) x y, xs[j]? = some x → ys[j]? = some y → (f x).run P w = .ok y w) → (xs.mapM f).run P w = .ok ys w
  | [], [], _, _ => by simp
  | x :: xs, y :: ys, hl, h => by
    have h0 := h 0 x y rfl rfl
    have ih := run_mapM f xs ys (by simpa using hl) (fun j x' y' hx hy => h (j + 1) x' y' hx hy)
    rw [List.mapM_cons]
    simp [Sem.run_bind, h0, ih]
  | [], _ :: _, hl, _ => by simp at hl
  | _ :: _, [], hl, _ => by simp at hl
theorem run_build {t : TypeId} {l : List (Nat × Nat)} {z : Value} {c by_ : Nat} {parts : Array (Nat × Value)} {cells : Array Value} (hp : placesOk P t l = true) (he : Info P t z c by_) (hf : Instr.fill (fun i => l[i]?) z.cells parts.toList = some cells) (w : World) :
    (Instr.build t parts).run P w = .ok (.agg cells) w := by
  unfold placesOk at hp
  split at hp
  · rename_i fs hu
    have hq : (fs.mapM fun (f : Field) => do pure (f.offset, ← sizeOf f.type)).run P w = .ok l.toArray w := by
      rw [Array.mapM_eq_mapM_toList]
      have hp := LawfulBEq.eq_of_beq hp
      have := run_mapM (P := P) (w := w) (fun f : Field => do pure (f.offset, ← sizeOf f.type)) fs.toList l (by simpa using congrArg List.length hp) (fun j x y hx hy => by
        have e := congrArg (fun q => q[j]?) hp
        simp only [List.getElem?_map, hx, hy, Option.map_some, Option.some.injEq] at e
        cases hi : P.info? x.type with
        | none => rw [hi] at e; simp at e
        | some i =>
          rw [hi] at e; simp at e
          have : (sizeOf x.type).run P w = .ok i.size w := by simp [sizeOf, typeInfo, Sem.run_bind, program, Sem.run, hi]
          rw [Sem.run_bind, this]
          simp [e])
      rw [Sem.run_map, this]; rfl
    have hf' : Instr.fill (fun i => l.toArray[i]?) z.cells parts.toList = some cells := by
      rw [← hf]; congr 1; funext i; simp
    simp only [Instr.build, Sem.run_bind, he.zero, Result.andThen_ok, run_underlying hu, hq, hf', Sem.run_pure]
  · cases hp
theorem y_build3s {x y z' : Operand} {t : TypeId} {A B C : Ty} {z a0 b0 c0 : Value} {by_ : Nat} (hp : placesOk P t [(0, 1), (1, 1), (2, 1)] = true) (he : Info P t z 3 by_) (hz : z.cells = #[a0, b0, c0]) (oA : One A) (oB : One B) (oC : One C) (hx : At A σ a x) (hy : At B σ a y) (hw : At C σ a z') :
    Yld P ⟨d, .build t #[(0, x), (1, y), (2, z')], ty, pos, af, g⟩ a σ (Ty.agg [A, B, C]).pr := by
  have h1 := cells_of_one (oA _ _ hx)
  have h2 := cells_of_one (oB _ _ hy)
  have h3 := cells_of_one (oC _ _ hw)
  refine Yld.of_run (v := .agg #[a.eval x, a.eval y, a.eval z']) ?_ ⟨_, rfl, rfl, fun j T u hj hu => ?_⟩
  · simp only [execOp, List.map_toArray, List.map_cons, List.map_nil]
    have := run_build (P := P) (parts := #[(0, a.eval x), (1, a.eval y), (2, a.eval z')]) (cells := #[a.eval x, a.eval y, a.eval z']) hp he (by
      rw [hz]
      generalize a.eval x = v1 at h1 ⊢
      generalize a.eval y = v2 at h2 ⊢
      generalize a.eval z' = v3 at h3 ⊢
      simp [Instr.fill, h1, h2, h3]) σ.w
    simp [this]
  · match j, hj with
    | 0, hj => simp at hj hu; subst hj hu; exact hx
    | 1, hj => simp at hj hu; subst hj hu; exact hy
    | 2, hj => simp at hj hu; subst hj hu; exact hw
end Go.KL
