/- What the walks of the second kind say: facts carried on, returns, cuts of rows that are owned. -/
import Derived.Test.YtbilebfnanlgfaaKlMap
namespace Go.KL
open Go.RowKit
variable {P : Program}

theorem Own.k0 {k : Nat} {σ τ : GW} {e : TypeId} {c : Nat} {v : Value} {n : Nat} {ts : List Ty} (h : Own σ k e c v n ts) (hs : Stp 0 σ τ) : Own τ k e c v n ts := h.keepL (L := []) hs.toL0 (by simp) (by simp)
theorem OwnP.k0 {k : Nat} {σ τ : GW} {v : Value} {ts : List Ty} (h : OwnP σ k v ts) (hs : Stp 0 σ τ) : OwnP τ k v ts := h.keepL (L := []) hs.toL0 (by simp) (by simp)
theorem Iter.k0 {k : Nat} {σ τ : GW} {v : Value} {s : ByteArray} {p : Nat} (h : Iter σ k v s p) (hs : Stp 0 σ τ) : Iter τ k v s p := h.keepL (L := []) hs.toL0 (by simp) (by simp)
theorem OwnM.k0 {α β : Type} {F : β → Ty} {kv : α → Value} {k : Nat} {σ τ : GW} {v : Value} {f : α → Option β} (h : OwnM F kv σ k v f) (hs : Stp 0 σ τ) : OwnM F kv τ k v f := h.keepL (L := []) hs.toL0 (by simp) (by simp)
theorem al2 {R : Pr} {σ : GW} {u v : Value} (e : u = v) (h : R.has σ u) : R.has σ v := e ▸ h
theorem kpL {L : List Nat} {T : Ty} {σ σ' : GW} {a a' : Act} {x : Operand} (hs : StpL L σ σ') (hL : 1 ∉ L) (e : a'.eval x = a.eval x) (h : T.has σ (a.eval x)) : T.has σ' (a'.eval x) := by rw [e]; exact T.up (hs.le hL) h
variable {fn : Func} {σ0 σ : GW} {a : Act} {N d e f : Nat} {L : List Nat} {R : Value → GW → Prop}
theorem retL0 (hr : fn.results = #[]) (ok : Ok N a) (hF : FromL L σ0 σ) (h : R (.tuple #[]) σ) : bodyPost P fn (RetL σ0 L R) .ret a σ.w :=
  bodyPost_ret (v := .tuple #[]) (by simp [results, hr]) ok.defers ⟨_, σ, rfl, hF, rfl, h⟩
theorem retL1 (hr : fn.results = #[.tmp d]) (ok : Ok N a) (hF : FromL L σ0 σ) (h : R (a.eval (.tmp d)) σ) : bodyPost P fn (RetL σ0 L R) .ret a σ.w :=
  bodyPost_ret (results_tmp hr _ _ _) ok.defers ⟨_, σ, rfl, hF, rfl, h⟩
theorem retL2 (hr : fn.results = #[.tmp d, .tmp e]) (ok : Ok N a) (hF : FromL L σ0 σ) (h : R (.tuple #[a.eval (.tmp d), a.eval (.tmp e)]) σ) : bodyPost P fn (RetL σ0 L R) .ret a σ.w :=
  bodyPost_ret (results_tmp2 hr _ _ _) ok.defers ⟨_, σ, rfl, hF, rfl, h⟩
theorem nL0 (hr : fn.results = #[]) (ok : Ok N a) (hF : FromL L σ0 σ) (h : R (.tuple #[]) σ) : bodyPost P fn (RetL σ0 L R) .normal a σ.w := by
  have := retL0 (P := P) hr ok hF h
  exact this
theorem hasT2 {T U : Ty} {x y : Value} (h : T.has σ x) (k : U.has σ y) : (Ty.tup2 T U).has σ (.tuple #[x, y]) := ⟨x, y, rfl, h, k⟩
variable {dd : Option Tmp} {ty : TypeId} {pos : String} {af : Array Edge} {g : Option (Nat × Bool)}
theorem Own.cut {k : Nat} {e : TypeId} {c n : Nat} {v : Value} {ts : List Ty} (h : Own σ k e c v n ts) {m : Nat} (hm : m ≤ n) : ∃ ad cap, v = .slice ad n cap ∧ n ≤ cap ∧ Own σ k e c (.slice ad m cap) m (ts.take (m * c)) := by
  obtain ⟨us, r1, r2, r3, r4⟩ := h
  rcases r1.2 with ⟨rfl, rfl⟩ | ⟨g, cap, cur, rfl, hb, hg, hn, hm', hcs, htk⟩
  · obtain rfl : m = 0 := by omega
    have hts : ts = [] := List.eq_nil_of_length_eq_zero (by rw [← r2, r1.1]; simp)
    subst hts
    exact ⟨none, 0, rfl, Nat.le_refl _, by simpa using Own.nil σ k e c⟩
  · refine ⟨some ⟨g, 0, none⟩, cap, rfl, hn, ?_⟩
    refine Own.intro (us := us.take (m * c)) hg (r4 g rfl) (by omega) hm' hcs ?_ (by simp [r2]) ?_
    · rw [← htk, List.take_take, Nat.min_eq_left (Nat.mul_le_mul_right _ hm)]
    · intro j T u hT hu
      rw [List.getElem?_take] at hT hu
      split at hT
      · rw [if_pos (by assumption)] at hu
        exact r3 j T u hT hu
      · cases hT
theorem y_otake {k : Nat} {x y : Operand} {c n : Nat} {ts : List Ty} {t e e' : TypeId} {z v : Value} {b : Nat} {ki : IntKind} {h : Nat} (ht : P.underlying t = some (.slice e')) (he : Info P e' z c b) (ho : Own σ k e c v n ts) (hx : a.eval x = v) (hy : a.eval y = .int ki h) (hl : h ≤ n) :
    Yld P ⟨dd, .slice t x none (some y) none, ty, pos, af, g⟩ a σ (Pr.own k e c h (ts.take (h * c))) := by
  obtain ⟨ad, cap, rfl, hn, hO⟩ := ho.cut hl
  have hcap : cap ≤ 9223372036854775807 := by
    obtain ⟨us, r1, _⟩ := ho
    rcases r1.2 with ⟨e1, _⟩ | ⟨g, cap', cur, e1, _, _, _, hm', _⟩
    · cases e1; omega
    · cases e1; exact hm'
  refine Yld.of_run (v := sliced ad 0 h cap c) ?_ ?_
  · have h1 := run_slice_h (P := P) σ.w t ad n cap (elem_of ht) ki (h : Int) (by omega) (by omega)
    rw [elem_eq ht, he.size] at h1
    simp only [execOp, hx, hy, Option.map_some, Option.map_none, Sem.run_bind, run_sliceAt_slice σ.w t _ _ _ _ (elem_of ht), h1, Result.andThen_ok, Sem.run_pure, Int.toNat_natCast]
  · show Own σ k e c (sliced ad 0 h cap c) h _
    have : sliced ad 0 h cap c = .slice ad h cap := by
      unfold sliced
      cases ad with
      | none => simp
      | some ad => simp [Addr.add_zero']
    rw [this]; exact hO
theorem own_lst_take {α : Type} {f : α → Ty} {xs : List α} {k : Nat} {e : TypeId} {v : Value} {h : Nat} (hl : h ≤ xs.length) (ho : Own σ k e 1 v h ((xs.map f).take (h * 1))) : Own σ k e 1 v (xs.take h).length ((xs.take h).map f) := by
  rw [Nat.mul_one, ← List.map_take] at ho
  rwa [show (xs.take h).length = h by simp [Nat.min_eq_left hl]]
end Go.KL
namespace Go.KL
variable {P : Program}
theorem nil_sl {σ : GW} {v : Value} (h : (Ty.val (.slice none 0 0)).has σ v) : (Ty.sl 1 0 []).has σ v := by
  have e : v = .slice none 0 0 := h
  rw [e]; exact sl_nil
theorem Own.one {σ : GW} {k : Nat} {e : TypeId} {c n : Nat} {v : Value} {ts : List Ty} (h : Own σ k e c v n ts) : v.oneCell' = true := by
  obtain ⟨us, r1, _⟩ := h
  rcases r1.2 with ⟨rfl, _⟩ | ⟨g, cap, cur, rfl, _⟩ <;> rfl
theorem OwnP.one {σ : GW} {k : Nat} {v : Value} {ts : List Ty} (h : OwnP σ k v ts) : v.oneCell' = true := by
  obtain ⟨g, e', cur, rfl, _⟩ := h; rfl
theorem OwnM.one {α β : Type} {F : β → Ty} {kv : α → Value} {σ : GW} {k : Nat} {v : Value} {f : α → Option β} (h : OwnM F kv σ k v f) : v.oneCell' = true := by
  obtain ⟨r, es, clock, rfl, _⟩ := h; rfl
theorem ownp_cellq {σ : GW} {k : Nat} {v x : Value} {ts : List Ty} (j : Nat) (U : Ty) (h : OwnP σ k v ts) (e : ts[j]? = some (Ty.val x)) (hx : U.has σ x) : OwnP σ k v (ts.set j U) := by
  obtain ⟨gg, e', cur, rfl, h2, h3, h4, h5⟩ := h
  refine ⟨gg, e', cur, rfl, h2, h3, by simpa using h4, fun i V u hV hu => ?_⟩
  by_cases hij : i = j
  · subst hij
    rw [List.getElem?_set_self (by exact (List.getElem?_eq_some_iff.1 e).1)] at hV
    cases hV
    have hu' : u = x := h5 i _ u e hu
    rw [hu']; exact hx
  · rw [List.getElem?_set_ne (Ne.symm hij)] at hV
    exact h5 i V u hV hu
end Go.KL
namespace Go.KL
variable {P : Program}
def Typed (σ : GW) (cs : Array Value) (ts : List Ty) : Prop := cs.size = ts.length ∧ ∀ (j : Nat) (T : Ty) (u : Value), ts[j]? = some T → cs[j]? = some u → T.has σ u
def bldT (l : List (Nat × Nat)) : List (Nat × Operand × Ty) → List Ty → List Ty
  | [], ts => ts
  | p :: ps, ts => bldT l ps (match l[p.1]? with | some (off, _) => ts.set off p.2.2 | none => ts)
def bldOk (l : List (Nat × Nat)) (n : Nat) (is : List Nat) : Bool := is.all fun i => match l[i]? with | some (off, 1) => decide (off < n) | _ => false
theorem Typed.set {σ : GW} {cs : Array Value} {ts : List Ty} (h : Typed σ cs ts) {off : Nat} {v : Value} {T : Ty} (hv : T.has σ v) : Typed σ (cs.setIfInBounds off v) (ts.set off T) := by
  refine ⟨by simp [h.1], fun j U u hU hu => ?_⟩
  by_cases hj : j = off
  · subst hj
    have hlt : j < cs.size := by have := (Array.getElem?_eq_some_iff.1 hu).1; simpa using this
    rw [List.getElem?_set_self (by rw [← h.1]; exact hlt)] at hU
    rw [Array.getElem?_setIfInBounds_self_of_lt hlt] at hu
    cases hU; cases hu; exact hv
  · rw [List.getElem?_set_ne (Ne.symm hj)] at hU
    rw [Array.getElem?_setIfInBounds_ne (Ne.symm hj)] at hu
    exact h.2 j U u hU hu
theorem fill_typed {σ : GW} {a : Act} {l : List (Nat × Nat)} {n : Nat} : ∀ (ps : List (Nat × Operand × Ty)) (cur : Array Value) (ts : List Ty), cur.size = n → Typed σ cur ts → (∀ p ∈ ps, One p.2.2 ∧ At p.2.2 σ a p.2.1) → bldOk l n (ps.map (·.1)) = true →
    ∃ cells, Instr.fill (fun i => l[i]?) cur (ps.map fun p => (p.1, a.eval p.2.1)) = some cells ∧ Typed σ cells (bldT l ps ts)
  | [], cur, ts, _, h, _, _ => ⟨cur, rfl, h⟩
  | p :: ps, cur, ts, hn, h, hp, hb => by
    obtain ⟨h1, h2⟩ := hp p (by simp)
    have hc := cells_of_one (h1 _ _ h2)
    rw [bldOk, List.map_cons, List.all_cons, Bool.and_eq_true] at hb
    obtain ⟨hb1, hb2⟩ := hb
    cases hl : l[p.1]? with
    | none => rw [hl] at hb1; cases hb1
    | some q =>
      obtain ⟨off, sz⟩ := q
      rw [hl] at hb1
      have hsz : sz = 1 ∧ off < n := by
        split at hb1
        · rename_i e; cases e; exact ⟨rfl, by simpa using hb1⟩
        · cases hb1
      obtain ⟨rfl, hoff⟩ := hsz
      obtain ⟨cells, e1, e2⟩ := fill_typed ps (cur.setIfInBounds off (a.eval p.2.1)) (ts.set off p.2.2) (by simpa using hn) (h.set h2) (fun q hq => hp q (by simp [hq])) hb2
      refine ⟨cells, ?_, ?_⟩
      · rw [List.map_cons, Instr.fill]
        generalize a.eval p.2.1 = v at hc e1 ⊢
        simp only [hl, hc]
        have : ¬ (off + 1 > cur.size) := by omega
        simp [this]
        simpa using e1
      · rw [bldT, hl]; exact e2
variable {d : Option Tmp} {ty : TypeId} {pos : String} {af : Array Edge} {g : Option (Nat × Bool)} {a : Act} {σ : GW}
theorem y_bld {t : TypeId} {l : List (Nat × Nat)} {z : Value} {c by_ : Nat} (ps : List (Nat × Operand × Ty)) (ts : List Ty) (hp : placesOk P t l = true) (he : Info P t z c by_) (hz : z.cells.size = ts.length) (hT : ∀ (j : Nat) (T : Ty) (u : Value), ts[j]? = some T → z.cells[j]? = some u → ∀ σ, T.has σ u)
    (hok : bldOk l z.cells.size (ps.map (·.1)) = true) (hps : ∀ p ∈ ps, One p.2.2 ∧ At p.2.2 σ a p.2.1) :
    Yld P ⟨d, .build t (ps.map fun p => (p.1, p.2.1)).toArray, ty, pos, af, g⟩ a σ (Ty.agg (bldT l ps ts)).pr := by
  obtain ⟨cells, e1, e2⟩ := fill_typed (σ := σ) ps z.cells ts rfl ⟨hz, fun j T u h1 h2 => hT j T u h1 h2 σ⟩ hps hok
  refine Yld.of_run (v := .agg cells) ?_ ⟨cells, rfl, e2.1, e2.2⟩
  simp only [execOp]
  have := run_build (P := P) (parts := (ps.map fun p => (p.1, a.eval p.2.1)).toArray) (cells := cells) hp he (by simpa using e1) σ.w
  simp only [List.map_toArray, List.map_map]
  have e : (fun (p : Nat × Operand) => (p.1, a.eval p.2)) ∘ (fun (p : Nat × Operand × Ty) => (p.1, p.2.1)) = fun p => (p.1, a.eval p.2.1) := rfl
  rw [e]
  simp [this]
end Go.KL
