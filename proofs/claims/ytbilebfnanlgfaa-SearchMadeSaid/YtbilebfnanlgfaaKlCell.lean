/- A struct is stored whole; results that lie in variables. -/
import Derived.Test.YtbilebfnanlgfaaKlStr
import Derived.Deep.Upon
namespace Go.KL
open Go.RowKit
variable {P : Program} {d : Option Tmp} {ty : TypeId} {pos : String} {af : Array Edge} {g : Option (Nat × Bool)} {a : Act} {σ : GW}

theorem drawn_setCells {b : Nat} : ∀ (vs : List Value) (o : Nat) (w : World), (w.setCells b o vs).drawn = w.drawn
  | [], _, _ => rfl
  | v :: vs, o, w => by rw [World.setCells, drawn_setCells vs]; rfl
theorem heap_setCells {b : Nat} {e : TypeId} : ∀ (vs : List Value) (o : Nat) (w : World) (cur : Array Value), w.heap[b]? = some (.cells cur e (0, 0)) → o + vs.length ≤ cur.size →
    ∃ cur', (w.setCells b o vs).heap[b]? = some (.cells cur' e (0, 0)) ∧ cur'.size = cur.size ∧ (∀ j, j < vs.length → cur'[o + j]? = vs[j]?) ∧ (∀ i, i < o → cur'[i]? = cur[i]?) ∧ (w.setCells b o vs).heap.size = w.heap.size ∧ (w.setCells b o vs).tape = w.tape
  | [], o, w, cur, h, _ => ⟨cur, h, rfl, fun j hj => by simp at hj, fun _ _ => rfl, rfl, rfl⟩
  | v :: vs, o, w, cur, h, hl => by
    simp only [List.length_cons] at hl
    have h2 : (w.setCell ⟨b, o, none⟩ v).heap[b]? = some (.cells (cur.setIfInBounds o v) e (0, 0)) := by
      unfold World.setCell
      rw [Array.getElem?_modify, if_pos rfl, h]
      rfl
    obtain ⟨cur', h3, h4, h5, h6, h7, h8⟩ := heap_setCells vs (o + 1) (w.setCell ⟨b, o, none⟩ v) _ h2 (by simp; omega)
    refine ⟨cur', h3, by simpa using h4, fun j hj => ?_, fun i hi => ?_, by rw [World.setCells, h7]; simp [World.setCell], by rw [World.setCells, h8]; rfl⟩
    · cases j with
      | zero =>
        rw [Nat.add_zero, h6 o (by omega)]
        simp [show o < cur.size by omega]
      | succ j =>
        have := h5 j (by simpa using hj)
        rw [show o + (j + 1) = o + 1 + j by omega, this]; rfl
    · rw [h6 i (by omega), Array.getElem?_setIfInBounds_ne (by omega)]

theorem m_storeagg {k : Nat} {x y : Operand} {ts us : List Ty} {t : TypeId} {z v : Value} {by_ : Nat} (he : Info P t z us.length by_) (hk : 2 ≤ k) (h : OwnP σ k v ts) (hx : a.eval x = v) (hl : ts.length = us.length) (hy : At (.agg us) σ a y) (h1 : ∀ U, U ∈ us → One U) :
    YldM k P ⟨d, .store t x y, ty, pos, af, g⟩ a σ (fun _ τ => OwnP τ k v us) := by
  obtain ⟨gg, e', cur, rfl, h2, h3, h4, h5⟩ := h
  obtain ⟨cs, ey, hcl, hc⟩ := hy
  have hg := (Array.getElem?_eq_some_iff.1 h3).1
  have hone : cs.all (·.oneCell') = true := by
    rw [Array.all_eq_true]
    intro i hi
    have hT : us[i]? = some us[i] := by simp [show i < us.length by omega]
    exact h1 us[i] (List.getElem_mem _) _ _ (hc i _ cs[i] hT (by simp [hi]))
  intro K Q hK
  have hst : (storeVar t ⟨gg, 0, none⟩ (.agg cs)).run P σ.w = .ok () (σ.w.setCells gg 0 cs.toList) := by
    refine run_storeVar_mid σ.w gg 0 t cs (fun j hj => ?_) ?_ hone
    · rw [Nat.zero_add]
      exact ⟨by simp [World.cell?, h3, show j < cur.size by omega], by simp [World.frozen?, h3]⟩
    · obtain ⟨i, hi, _, hs, _⟩ := he.get
      rw [hi]; simp [hs, hcl]
  have hr : (execOp a.eval ⟨d, .store t x y, ty, pos, af, g⟩).run P σ.w = .ok .skip (σ.w.setCells gg 0 cs.toList) := by
    simp only [execOp, hx, ey]
    simp [Instr.storeAt, Instr.sureAddr, hst]
  unfold Oper.wp
  rw [hr]
  obtain ⟨cur', c1, c2, c3, _, c5, c6⟩ := heap_setCells (b := gg) (e := e') cs.toList 0 σ.w cur h3 (by simp; omega)
  have hstp : Stp k σ ⟨σ.w.setCells gg 0 cs.toList, σ.st, fun b hb => by rw [c5]; exact σ.lt b hb⟩ :=
    ⟨World.os_setCells _ _ _ _, c6, World.output_setCells _ _ _ _, by show _ ≤ (σ.w.setCells gg 0 cs.toList).drawn; rw [drawn_setCells]; exact Nat.le_refl _, by rw [c5]; exact Nat.le_refl _, fun b hb hm => World.heap_setCells_other _ _ _ _ hb (by rintro rfl; omega), fun _ _ _ => rfl⟩
  refine hK _ _ hstp ⟨gg, e', cur', rfl, h2, c1, by rw [c2, h4, hl], fun j T u hj hu => ?_⟩
  have hlt := (List.getElem?_eq_some_iff.1 hj).1
  have := c3 j (by simp; omega)
  rw [Nat.zero_add] at this
  rw [this] at hu
  exact T.up (hstp.le (by omega)) (hc j T u hj (by simpa using hu))

theorem alloc_vals {vs : List Value} {z : Value} (h : z.cells = vs.toArray) : ∀ (j : Nat) (T : Ty) (u : Value), (vs.map Ty.val)[j]? = some T → z.cells[j]? = some u → ∀ σ, T.has σ u := by
  intro j T u h1 h2 σ
  rw [h] at h2
  simp at h1 h2
  obtain ⟨v, e, rfl⟩ := h1
  rw [e] at h2; cases h2; rfl
theorem ret1s {fn : Func} {σ0 σ : GW} {N t k : Nat} {T : TypeId} {fs : Array Field} {z : Value} {by_ : Nat} {ts : List Ty} (hr : fn.results = #[.cell t T]) (ok : Ok N a) (hF : From σ0 σ) (hT : P.underlying T = some (.struct fs)) (he : Info P T z ts.length by_) (h : OwnP σ k (a.eval (.tmp t)) ts) : bodyPost P fn (RetPost σ0 (.agg ts)) .ret a σ.w := by
  obtain ⟨gg, e', cur, e1, h2, h3, h4, h5⟩ := h
  have e2 : a.tmps.getD t undef = .pointer (some ⟨gg, 0, none⟩) := e1
  have hl := run_loadVar (P := P) hT he (w := σ.w) (ad := ⟨gg, 0, none⟩) (us := cur.toList) (by simp [h4]) (fun j u hj => by
    rw [Addr.add_lit, Nat.zero_add]
    simp at hj
    simp [World.cell?, h3, hj])
  refine bodyPost_ret (v := .agg cur) ?_ ok.defers ⟨_, σ, rfl, hF, rfl, cur, rfl, h4, h5⟩
  have e3 : a.tmps[t]?.getD undef = .pointer (some ⟨gg, 0, none⟩) := by rw [← e2, Array.getD_eq_getD_getElem?]
  have hl' : (loadVar T ⟨gg, 0, none⟩).run P σ.w = .ok (.agg cur) σ.w := by simpa using hl
  simp [results, hr, e3, asAddr, hl']
end Go.KL
