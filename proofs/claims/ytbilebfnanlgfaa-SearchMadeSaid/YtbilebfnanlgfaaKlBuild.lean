/- Structs that are built of structs; 'append' of what is owned. -/
import Derived.Test.YtbilebfnanlgfaaKlLit
import Derived.Lib.SliceRun
namespace Go.KL
open Go.RowKit
variable {P : Program}
theorem Own.src {σ : GW} {k : Nat} {e : TypeId} {c : Nat} {v : Value} {n : Nat} {ts : List Ty} (h : Own σ k e c v n ts) : ∃ ad cap b o, v = .slice ad n cap ∧ ts.length = n * c ∧ (ts = [] ∨ ad = some (⟨b, o, none⟩ : Addr)) ∧ Cells σ b o ts := by
  have hl := h.len
  obtain ⟨us, h1, h2, h3, h4⟩ := h
  rcases h1.2 with ⟨rfl, rfl⟩ | ⟨g, cap, cur, rfl, _⟩
  · have : ts = [] := List.eq_nil_of_length_eq_zero (by omega)
    subst this
    exact ⟨none, 0, 0, 0, rfl, by simp, .inl rfl, fun j T hj => by simp at hj⟩
  · refine ⟨_, cap, g, 0, rfl, hl, .inr rfl, fun j T hj => ?_⟩
    have hlt := (List.getElem?_eq_some_iff.1 hj).1
    have hu : us[j]? = some us[j] := by simp [show j < us.length by omega]
    refine ⟨us[j], ?_, h3 j T _ hj hu⟩
    have := h1.cells (g := g) rfl j _ hu
    rwa [Addr.add_lit] at this
variable {d : Option Tmp} {ty : TypeId} {pos : String} {af : Array Edge} {g : Option (Nat × Bool)} {a : Act} {σ : GW}
/-! ### Structs of structs -/
def Fits (σ : GW) (v : Value) (us : List Ty) : Prop := v.cells.size = us.length ∧ ∀ (j : Nat) (T : Ty) (u : Value), us[j]? = some T → v.cells[j]? = some u → T.has σ u
theorem fits_one {T : Ty} {v : Value} (h1 : One T) (h : T.has σ v) : Fits σ v [T] := by
  have hc := cells_of_one (h1 _ _ h)
  refine ⟨by rw [hc]; rfl, fun j U u hj hu => ?_⟩
  match j, hj with
  | 0, hj => rw [hc] at hu; simp at hj hu; subst hj; subst hu; exact h
theorem fits_agg {ts : List Ty} {v : Value} (h : (Ty.agg ts).has σ v) : Fits σ v ts := by
  obtain ⟨cs, rfl, h1, h2⟩ := h
  exact ⟨h1, h2⟩
def splice (ts : List Ty) (o : Nat) (us : List Ty) : List Ty := ts.take o ++ us ++ ts.drop (o + us.length)
theorem splice_len {ts us : List Ty} {o : Nat} (h : o + us.length ≤ ts.length) : (splice ts o us).length = ts.length := by
  unfold splice; simp only [List.length_append, List.length_take, List.length_drop]; omega
theorem splice_in {ts us : List Ty} {o j : Nat} (h : o + us.length ≤ ts.length) (hj : j < us.length) : (splice ts o us)[o + j]? = us[j]? := by
  unfold splice
  rw [List.append_assoc, List.getElem?_append_right (by rw [List.length_take]; omega), List.length_take, show o + j - min o ts.length = j by omega, List.getElem?_append_left hj]
theorem splice_out {ts us : List Ty} {o i : Nat} (h : o + us.length ≤ ts.length) (hi : i < o ∨ o + us.length ≤ i) : (splice ts o us)[i]? = ts[i]? := by
  unfold splice
  rcases hi with hi | hi
  · rw [List.append_assoc, List.getElem?_append_left (by rw [List.length_take]; omega), List.getElem?_take_of_lt hi]
  · rw [List.getElem?_append_right (by rw [List.length_append, List.length_take]; omega), List.length_append, List.length_take, List.getElem?_drop]
    congr 1; omega
theorem fold_at : ∀ (vs : List Value) (o j0 : Nat) (cur : Array Value), o + j0 + vs.length ≤ cur.size → ((vs.zipIdx j0).foldl (fun (q : Array Value) (p : Value × Nat) => q.setIfInBounds (o + p.2) p.1) cur).size = cur.size ∧
      (∀ j, j < vs.length → ((vs.zipIdx j0).foldl (fun (q : Array Value) (p : Value × Nat) => q.setIfInBounds (o + p.2) p.1) cur)[o + j0 + j]? = vs[j]?) ∧
      ∀ i, (i < o + j0 ∨ o + j0 + vs.length ≤ i) → ((vs.zipIdx j0).foldl (fun (q : Array Value) (p : Value × Nat) => q.setIfInBounds (o + p.2) p.1) cur)[i]? = cur[i]?
  | [], o, j0, cur, _ => ⟨rfl, fun j hj => by simp at hj, fun i _ => rfl⟩
  | v :: vs, o, j0, cur, h => by
    simp only [List.length_cons] at h
    obtain ⟨k1, k2, k3⟩ := fold_at vs o (j0 + 1) (cur.setIfInBounds (o + j0) v) (by simp; omega)
    simp only [List.zipIdx_cons, List.foldl_cons]
    refine ⟨by rw [k1]; simp, fun j hj => ?_, fun i hi => ?_⟩
    · cases j with
      | zero =>
        have := k3 (o + j0) (.inl (by omega))
        rw [Array.getElem?_setIfInBounds_self_of_lt (by omega)] at this
        simpa using this
      | succ j =>
        have := k2 j (by simpa using hj)
        rw [show o + j0 + (j + 1) = o + (j0 + 1) + j by omega, this]; simp
    · simp only [List.length_cons] at hi
      rw [k3 i (by omega), Array.getElem?_setIfInBounds_ne (by omega)]
def bldT2 (l : List (Nat × Nat)) : List (Nat × Operand × List Ty) → List Ty → List Ty
  | [], ts => ts
  | p :: ps, ts => bldT2 l ps (match l[p.1]? with | some (off, _) => splice ts off p.2.2 | none => ts)
def bldOk2 (l : List (Nat × Nat)) (n : Nat) (is : List (Nat × Nat)) : Bool := is.all fun i => match l[i.1]? with | some (off, sz) => decide (sz = i.2 ∧ off + i.2 ≤ n) | _ => false
theorem Typed.splice {σ : GW} {cs : Array Value} {ts us : List Ty} (h : Typed σ cs ts) {off : Nat} {v : Value} (hv : Fits σ v us) (ho : off + us.length ≤ ts.length) :
    Typed σ (v.cells.zipIdx.foldl (fun (q : Array Value) (p : Value × Nat) => q.setIfInBounds (off + p.2) p.1) cs) (splice ts off us) := by
  obtain ⟨k1, k2, k3⟩ := fold_at v.cells.toList off 0 cs (by rw [Array.length_toList, hv.1, h.1]; omega)
  rw [← Array.foldl_toList, Array.toList_zipIdx]
  refine ⟨by rw [k1, splice_len ho, h.1], fun j T u hj hu => ?_⟩
  by_cases hin : off ≤ j ∧ j < off + us.length
  · obtain ⟨i, rfl⟩ : ∃ i, j = off + i := ⟨j - off, by omega⟩
    have h2 := k2 i (by rw [Array.length_toList, hv.1]; omega)
    rw [Nat.add_zero] at h2
    rw [h2] at hu
    rw [splice_in ho (by omega)] at hj
    exact hv.2 i T u hj (by simpa using hu)
  · have h3 := k3 j (by rw [Array.length_toList, hv.1]; omega)
    rw [h3] at hu
    rw [splice_out ho (by omega)] at hj
    exact h.2 j T u hj hu
theorem fill_typed2 {σ : GW} {a : Act} {l : List (Nat × Nat)} {n : Nat} : ∀ (ps : List (Nat × Operand × List Ty)) (cur : Array Value) (ts : List Ty), cur.size = n → ts.length = n → Typed σ cur ts → (∀ p ∈ ps, Fits σ (a.eval p.2.1) p.2.2) → bldOk2 l n (ps.map fun p => (p.1, p.2.2.length)) = true →
    ∃ cells, Instr.fill (fun i => l[i]?) cur (ps.map fun p => (p.1, a.eval p.2.1)) = some cells ∧ Typed σ cells (bldT2 l ps ts)
  | [], cur, ts, _, _, h, _, _ => ⟨cur, rfl, h⟩
  | p :: ps, cur, ts, hn, hn2, h, hp, hb => by
    have h1 := hp p (by simp)
    rw [bldOk2, List.map_cons, List.all_cons, Bool.and_eq_true] at hb
    obtain ⟨hb1, hb2⟩ := hb
    cases hl : l[p.1]? with
    | none => simp only [hl] at hb1; cases hb1
    | some q =>
      obtain ⟨off, sz⟩ := q
      simp only [hl, decide_eq_true_eq] at hb1
      obtain ⟨hsz, hoff⟩ := hb1
      have ht := h.splice h1 (off := off) (by omega)
      have hcur := ht.1
      rw [splice_len (by omega)] at hcur
      obtain ⟨cells, e1, e2⟩ := fill_typed2 ps _ _ (hcur.trans hn2) ((splice_len (by omega)).trans hn2) ht (fun q hq => hp q (by simp [hq])) hb2
      refine ⟨cells, ?_, ?_⟩
      · rw [List.map_cons, Instr.fill]
        have hz : (a.eval p.2.1).cells.size = sz := by rw [h1.1, hsz]
        simp only [hl]
        rw [if_neg (by simp [hz]; omega)]
        exact e1
      · rw [bldT2, hl]; exact e2
theorem y_bld2 {t : TypeId} {l : List (Nat × Nat)} {z : Value} {c by_ : Nat} (ps : List (Nat × Operand × List Ty)) (ts : List Ty) (hp : placesOk P t l = true) (he : Info P t z c by_) (hz : z.cells.size = ts.length) (hT : ∀ (j : Nat) (T : Ty) (u : Value), ts[j]? = some T → z.cells[j]? = some u → ∀ σ, T.has σ u)
    (hok : bldOk2 l z.cells.size (ps.map fun p => (p.1, p.2.2.length)) = true) (hps : ∀ p ∈ ps, Fits σ (a.eval p.2.1) p.2.2) :
    Yld P ⟨d, .build t (ps.map fun p => (p.1, p.2.1)).toArray, ty, pos, af, g⟩ a σ (Ty.agg (bldT2 l ps ts)).pr := by
  obtain ⟨cells, e1, e2⟩ := fill_typed2 (σ := σ) ps z.cells ts rfl hz.symm ⟨hz, fun j T u h1 h2 => hT j T u h1 h2 σ⟩ hps hok
  refine Yld.of_run (v := .agg cells) ?_ ⟨cells, rfl, e2.1, e2.2⟩
  simp only [execOp]
  have := run_build (P := P) (parts := (ps.map fun p => (p.1, a.eval p.2.1)).toArray) (cells := cells) hp he (by simpa using e1) σ.w
  simp only [List.map_toArray, List.map_map]
  have e : (fun (p : Nat × Operand) => (p.1, a.eval p.2)) ∘ (fun (p : Nat × Operand × List Ty) => (p.1, p.2.1)) = fun p => (p.1, a.eval p.2.1) := rfl
  rw [e]
  simp [this]
theorem ownp_loadsub {k o n : Nat} {x : Operand} {ts : List Ty} {t : TypeId} {fs : Array Field} {z v : Value} {by_ : Nat} (ht : P.underlying t = some (.struct fs)) (he : Info P t z n by_) (hl : o + n ≤ ts.length) (h : OwnP σ k v ts) (hx : a.eval x = ptrAt v o) :
    Yld P ⟨d, .load t x, ty, pos, af, g⟩ a σ (Ty.agg ((ts.drop o).take n)).pr := by
  obtain ⟨gg, e', cur, rfl, h2, h3, h4, h5⟩ := h
  have hx' : a.eval x = .pointer (some ⟨gg, o, none⟩) := hx
  have hlen : ((cur.toList.drop o).take n).length = n := by rw [List.length_take, List.length_drop, Array.length_toList]; omega
  have hget : ∀ j, j < n → ((cur.toList.drop o).take n)[j]? = cur[o + j]? := fun j hj => by rw [List.getElem?_take_of_lt hj, List.getElem?_drop]; simp
  refine Yld.of_run (v := .agg ((cur.toList.drop o).take n).toArray) ?_ ⟨_, rfl, ?_, fun j T u hj hu => ?_⟩
  · simp only [execOp, hx']
    have := run_loadVar (P := P) ht he (w := σ.w) (ad := ⟨gg, o, none⟩) (us := (cur.toList.drop o).take n) hlen (fun j u hj => by
      have hlt : j < n := by have := (List.getElem?_eq_some_iff.1 hj).1; omega
      rw [hget j hlt] at hj
      rw [Addr.add_lit]
      simp [World.cell?, h3, hj])
    simp [Instr.loadAt, Instr.sureAddr, this]
  · simp only [List.size_toArray, hlen]; rw [List.length_take, List.length_drop]; omega
  · have hlt : j < n := by have := (List.getElem?_eq_some_iff.1 hj).1; rw [List.length_take] at this; omega
    rw [List.getElem?_take_of_lt hlt, List.getElem?_drop] at hj
    have hu2 : ((cur.toList.drop o).take n)[j]? = some u := by simpa using hu
    rw [hget j hlt] at hu2
    exact h5 _ T u hj hu2
end Go.KL
