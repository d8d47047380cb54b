/- What package strings' Builder meets: pointers held against each other, a row of bytes that becomes a string. -/
import Derived.Test.YtlhnpkaohfoicaaKlSigns
import Derived.Lib.Builder
import Derived.Lib.UnsafeStr
namespace Go.KL
open Go.RowKit
variable {P : Program} {d : Option Tmp} {ty : TypeId} {pos : String} {af : Array Edge} {g : Option (Nat × Bool)} {a : Act} {σ : GW}

abbrev Ty.byte (b : UInt8) : Ty := .val (.int .u8 ((b.toNat : Nat) : Int))
def bsL (l : List UInt8) : ByteArray := ⟨l.toArray⟩
/-- A variable of the function's own, of a known type. -/
def OwnPT (E : TypeId) (σ : GW) (k : Nat) (v : Value) (ts : List Ty) : Prop :=
  ∃ g cur, v = .pointer (some ⟨g, 0, none⟩) ∧ σ.st g = k ∧ σ.w.heap[g]? = some (.cells cur E (0, 0)) ∧ cur.size = ts.length ∧ ∀ (j : Nat) (T : Ty) (u : Value), ts[j]? = some T → cur[j]? = some u → T.has σ u
theorem OwnPT.toP {E : TypeId} {k : Nat} {v : Value} {ts : List Ty} (h : OwnPT E σ k v ts) : OwnP σ k v ts := by
  obtain ⟨g, cur, h1, h2, h3, h4, h5⟩ := h; exact ⟨g, E, cur, h1, h2, h3, h4, h5⟩
theorem OwnPT.keepL {E : TypeId} {L : List Nat} {k : Nat} {σ τ : GW} {v : Value} {ts : List Ty} (h : OwnPT E σ k v ts) (hs : StpL L σ τ) (h1 : 1 ∉ L) (hk : k ∉ L) : OwnPT E τ k v ts := by
  obtain ⟨g, cur, rfl, r2, r3, r4, r5⟩ := h
  have hg := (Array.getElem?_eq_some_iff.1 r3).1
  have hq : σ.st g ∉ L := by rw [r2]; exact hk
  exact ⟨g, cur, rfl, (hs.st g hg hq).trans r2, (hs.blk g hg hq).trans r3, r4, fun j T u hj hu => T.up (hs.le h1) (r5 j T u hj hu)⟩
theorem OwnPT.k0 {E : TypeId} {k : Nat} {σ τ : GW} {v : Value} {ts : List Ty} (h : OwnPT E σ k v ts) (hs : Stp 0 σ τ) : OwnPT E τ k v ts := h.keepL (L := []) hs.toL0 (by simp) (by simp)
theorem OwnPT.ren {E : TypeId} {k k' : Nat} {σ τ : GW} {v : Value} {ts : List Ty} (h : OwnPT E σ k v ts) (r : Ren k k' σ τ) : OwnPT E τ k' v ts := by
  obtain ⟨g, cur, rfl, r2, r3, r4, r5⟩ := h
  exact ⟨g, cur, rfl, r.st g r2, by rw [r.w]; exact r3, r4, fun j T u hj hu => T.up r.le (r5 j T u hj hu)⟩
theorem OwnPT.one {E : TypeId} {k : Nat} {v : Value} {ts : List Ty} (h : OwnPT E σ k v ts) : v.oneCell' = true := h.toP.one
def Pr.ownpt (E : TypeId) (k : Nat) (ts : List Ty) : Pr := ⟨fun σ v => OwnPT E σ k v ts, fun hs h => h.k0 hs⟩
theorem ownpt_cell {E : TypeId} {k : Nat} {v : Value} {ts : List Ty} {T : Ty} (j : Nat) (U : Ty) (h : OwnPT E σ k v ts) (e : ts[j]? = some T) (hTU : ∀ σ u, T.has σ u → U.has σ u) : OwnPT E σ k v (ts.set j U) := by
  obtain ⟨gg, cur, rfl, h2, h3, h4, h5⟩ := h
  refine ⟨gg, cur, rfl, h2, h3, by simpa using h4, fun i V u hV hu => ?_⟩
  by_cases hij : i = j
  · subst hij
    rw [List.getElem?_set_self (by exact (List.getElem?_eq_some_iff.1 e).1)] at hV
    cases hV
    exact hTU _ _ (h5 i T u e hu)
  · rw [List.getElem?_set_ne (Ne.symm hij)] at hV
    exact h5 i V u hV hu
theorem y_alloct {k : Nat} {e : TypeId} {z : Value} {c b : Nat} {ts : List Ty} (he : Info P e z c b) (hl : ts.length = z.cells.size) (hT : ∀ (j : Nat) (T : Ty) (u : Value), ts[j]? = some T → z.cells[j]? = some u → ∀ σ, T.has σ u) :
    Yld P ⟨d, .alloc e, ty, pos, af, g⟩ a σ (Pr.ownpt e k ts) := by
  intro K Q hk
  have hr' : (execOp a.eval ⟨d, .alloc e, ty, pos, af, g⟩).run P σ.w = .ok (.value (.pointer (some ⟨σ.w.heap.size, 0, none⟩))) (σ.w.alloc (.cells z.cells e)) := by
    simp only [execOp]
    simp [Instr.alloc, he.zero, newVar, newRow, newObj, Sem.run, Sem.run_bind]
  unfold Oper.wp
  rw [hr']
  exact hk _ (σ.mk' k (.cells z.cells e)) (Stp.mk' σ k _) ⟨σ.w.heap.size, z.cells, rfl, by show (if _ = _ then k else _) = k; rw [if_pos rfl], heap_alloc_new σ.w _, hl.symm, fun j T u hj hu => hT j T u hj hu _⟩
theorem m_storept {E : TypeId} {k : Nat} {x y : Operand} {i : Nat} {ts : List Ty} {T : Ty} {t : TypeId} {z v : Value} {by_ : Nat} (he : Info P t z 1 by_) (hk : 2 ≤ k) (h : OwnPT E σ k v ts) (hx : a.eval x = ptrAt v i) (hi : i < ts.length) (hy : At T σ a y) (h1 : One T) :
    YldM k P ⟨d, .store t x y, ty, pos, af, g⟩ a σ (fun _ τ => OwnPT E τ k v (ts.set i T)) := by
  obtain ⟨gg, cur, rfl, h2, h3, h4, h5⟩ := h
  have ho := h1 _ _ hy
  have hlt : i < cur.size := by omega
  have hc : σ.w.cell? ⟨gg, i, none⟩ = some cur[i] := by simp [World.cell?, h3, hlt]
  have hf : σ.w.frozen? ⟨gg, i, none⟩ = false := by simp [World.frozen?, h3]
  have hx' : a.eval x = .pointer (some ⟨gg, i, none⟩) := hx
  intro K Q hK
  have hr : (execOp a.eval ⟨d, .store t x y, ty, pos, af, g⟩).run P σ.w = .ok .skip (σ.w.setCell ⟨gg, i, none⟩ (a.eval y)) := by
    simp only [execOp, hx']
    have hst : (store ⟨gg, i, none⟩ (a.eval y)).run P σ.w = .ok () (σ.w.setCell ⟨gg, i, none⟩ (a.eval y)) := by
      rw [run_store P σ.w _ _ _ ho, hc, hf]; rfl
    simp [Instr.storeAt, Instr.sureAddr, storeVar, Sem.run_bind, cells_of_one ho, he.size, storeCells, Addr.add_zero', hst]
  unfold Oper.wp
  rw [hr]
  have hstp : Stp k σ ⟨σ.w.setCell ⟨gg, i, none⟩ (a.eval y), σ.st, fun b h => by have := σ.lt b h; simpa using this⟩ :=
    ⟨rfl, rfl, rfl, by simp, fun b hb hm => Below.heap_setCell σ.w _ _ b (by rintro rfl; simp at hm; omega), fun _ _ _ => rfl⟩
  have hh : (σ.w.setCell ⟨gg, i, none⟩ (a.eval y)).heap[gg]? = some (.cells (cur.setIfInBounds i (a.eval y)) E (0, 0)) := by
    unfold World.setCell
    rw [Array.getElem?_modify, if_pos rfl, h3]
    rfl
  refine hK undef _ hstp ⟨gg, _, rfl, h2, hh, by simp [h4], fun j U u hU hu => ?_⟩
  by_cases hji : j = i
  · subst hji
    rw [List.getElem?_set_self (by omega)] at hU
    rw [Array.getElem?_setIfInBounds_self_of_lt hlt] at hu
    cases hU; cases hu
    exact T.up (hstp.le (by omega)) hy
  · rw [List.getElem?_set_ne (Ne.symm hji)] at hU
    rw [Array.getElem?_setIfInBounds_ne (Ne.symm hji)] at hu
    exact U.up (hstp.le (by omega)) (h5 j U u hU hu)

/-- A builder's own address: none yet, or the builder. -/
def bAddr (nb : Bool) (b : Value) : Value := if nb then .pointer none else b
theorem y_bnil {E tp te u : TypeId} {x y : Operand} {k : Nat} {nb : Bool} {b : Value} {ts : List Ty} {z : Value} {c by_ : Nat} (hp : P.underlying tp = some (.pointer te)) (he : Info P te z c by_) (h : OwnPT E σ k b ts) (hx : a.eval x = bAddr nb b) (hy : a.eval y = .pointer none) :
    Yld P ⟨d, .binOp .eql tp x y u, ty, pos, af, g⟩ a σ (Ty.bool nb).pr := by
  obtain ⟨gg, cur, rfl, _⟩ := h
  obtain ⟨i, hi, _⟩ := he.get
  have hr : ∀ q : Option Addr, (binOp .eql tp (.pointer q) (.pointer none)).run P σ.w = .ok (.bool q.isNone) σ.w := fun q => run_eql_pointer_nil σ.w tp q (by rw [hp]; simp [Program.pointee, hp])
  cases nb with
  | true =>
    refine Yld.of_run (v := .bool true) ?_ rfl
    have hx' : a.eval x = .pointer none := hx
    simp only [execOp, hx', hy]
    simp [eqGuard, hr]
  | false =>
    refine Yld.of_run (v := .bool false) ?_ rfl
    have hx' : a.eval x = .pointer (some ⟨gg, 0, none⟩) := hx
    simp only [execOp, hx', hy]
    simp [eqGuard, hr]
theorem y_bself {E tp te u : TypeId} {x y : Operand} {k : Nat} {b : Value} {ts : List Ty} {z : Value} {c by_ : Nat} (hp : P.underlying tp = some (.pointer te)) (he : Info P te z c by_) (h : OwnPT E σ k b ts) (hx : a.eval x = bAddr false b) (hy : a.eval y = b) :
    Yld P ⟨d, .binOp .neq tp x y u, ty, pos, af, g⟩ a σ (Ty.bool false).pr := by
  obtain ⟨gg, cur, rfl, _⟩ := h
  obtain ⟨i, hi, _⟩ := he.get
  refine Yld.of_run (v := .bool false) ?_ rfl
  have hx' : a.eval x = .pointer (some ⟨gg, 0, none⟩) := hx
  simp only [execOp, hx', hy]
  have := Lib.run_neq_ptr_same (P := P) σ.w ⟨gg, 0, none⟩ hp hi
  simp [eqGuard, this]
theorem y_tounsafe {E src dst te : TypeId} {x : Operand} {k : Nat} {b : Value} {ts : List Ty} {z : Value} {c by_ : Nat} (hs : P.underlying src = some (.pointer te)) (hd : P.underlying dst = some .unsafePointer) (he : Info P te z c by_) (hc : c ≠ 0) (h : OwnPT E σ k b ts) (hl : 0 < ts.length) (hx : a.eval x = b) :
    Yld P ⟨d, .convert src dst x, ty, pos, af, g⟩ a σ (Ty.val b).pr := by
  obtain ⟨gg, cur, rfl, h2, h3, h4, h5⟩ := h
  obtain ⟨i, hi, _, hsz, _⟩ := he.get
  refine Yld.of_run (v := .pointer (some ⟨gg, 0, none⟩)) ?_ rfl
  simp only [execOp, hx]
  have := Lib.run_to_unsafe (P := P) σ.w ⟨gg, 0, none⟩ hs hd hi (by rw [hsz]; exact hc) (e := E) (cells := cur.size) (by simp [World.shape?, h3]) (by show 0 < cur.size; omega)
  simp [this]
theorem y_fromunsafe {E src dst te : TypeId} {x : Operand} {k : Nat} {b : Value} {ts : List Ty} {z : Value} {c by_ : Nat} (hs : P.underlying src = some .unsafePointer) (hd : P.underlying dst = some (.pointer te)) (he : Info P te z c by_) (h : OwnPT E σ k b ts) (hx : a.eval x = b)
    (hlies : liesAt P P.depth E (ts.length / P.cellsOf E) 0 te 1 = true) : Yld P ⟨d, .convert src dst x, ty, pos, af, g⟩ a σ (Ty.val b).pr := by
  obtain ⟨gg, cur, rfl, h2, h3, h4, h5⟩ := h
  obtain ⟨i, hi, _⟩ := he.get
  refine Yld.of_run (v := .pointer (some ⟨gg, 0, none⟩)) ?_ rfl
  simp only [execOp, hx]
  have := Lib.run_from_unsafe (P := P) σ.w ⟨gg, 0, none⟩ hs hd hi (e := E) (cells := cur.size) (by simp [World.shape?, h3]) (by rw [h4]; exact hlies)
  simp [this]

/-- A pointer to a slice's bytes. -/
def Ty.dptr (buf : Value) (n : Nat) : Ty := ⟨fun _ v => ∃ p, v = .pointer p ∧ (0 < n → ∃ gg m c, buf = .slice (some ⟨gg, 0, none⟩) m c ∧ p = some ⟨gg, 0, none⟩), fun _ h => h⟩
theorem y_sdata {k : Nat} {x : Operand} {e te t : TypeId} {n : Nat} {buf : Value} {ts : List Ty} (hp : P.underlying ty = some (.pointer te)) (h : Own σ k e 1 buf n ts) (hx : a.eval x = buf) :
    Yld P ⟨d, .call ⟨.builtin .unsafeSliceData, #[x], #[t]⟩, ty, pos, af, g⟩ a σ (Ty.dptr buf n).pr := by
  obtain ⟨us, r1, r2, r3, r4⟩ := h
  rcases r1.2 with ⟨rfl, hn0⟩ | ⟨gg, cap, cur, rfl, hb, hg, hn, hm, hcs, htk⟩
  · refine Yld.of_run (v := .pointer none) (run_builtin1 hx (fun cs => ?_)) ⟨none, rfl, fun h0 => by omega⟩
    show (do pure (.value (← Builtin.unsafeSliceData_ #[t] ty #[.slice none 0 0])) : Sem Next).run P σ.w = _
    rw [Sem.run_bind, Lib.run_unsafeSliceData_nil]; rfl
  · by_cases hc : cap = 0
    · subst hc
      have hn0 : n = 0 := by omega
      subst hn0
      intro K Q hk
      have hr : (execOp a.eval ⟨d, .call ⟨.builtin .unsafeSliceData, #[x], #[t]⟩, ty, pos, af, g⟩).run P σ.w = .ok (.value (.pointer (some ⟨σ.w.heap.size, 0, none⟩))) (σ.w.alloc (.view ⟨gg, 0, none⟩ te)) := by
        refine run_builtin1 hx (fun cs => ?_)
        show (do pure (.value (← Builtin.unsafeSliceData_ #[t] ty #[.slice (some ⟨gg, 0, none⟩) 0 0])) : Sem Next).run P σ.w = _
        rw [Sem.run_bind, Lib.run_unsafeSliceData_zero σ.w #[t] ty te hp ⟨gg, 0, none⟩ 0 (e, cur.size) (by simp [World.shape?, hg])]; rfl
      unfold Oper.wp
      rw [hr]
      exact hk _ (σ.mk' 0 (.view ⟨gg, 0, none⟩ te)) (Stp.mk' σ 0 _) ⟨_, rfl, fun h0 => by omega⟩
    · refine Yld.of_run (v := .pointer (some ⟨gg, 0, none⟩)) (run_builtin1 hx (fun cs => ?_)) ⟨_, rfl, fun _ => ⟨gg, n, cap, rfl, rfl⟩⟩
      show (do pure (.value (← Builtin.unsafeSliceData_ #[t] ty #[.slice (some ⟨gg, 0, none⟩) n cap])) : Sem Next).run P σ.w = _
      rw [Sem.run_bind, Lib.run_unsafeSliceData_row _ _ _ _ _ _ hc]; rfl
/-- A row of bytes becomes a string; nobody writes it any more. -/
theorem m_sstr {k : Nat} {x y : Operand} {e t t2 : TypeId} {buf : Value} {l : List UInt8} (hk : 2 ≤ k) (hp : P.underlying t = some (.pointer e)) (hc : P.cellsOf e = 1) (h : Own σ k e 1 buf l.length (l.map Ty.byte)) (hx : At (Ty.dptr buf l.length) σ a x) (hy : a.eval y = .int .i64 ((l.length : Nat) : Int)) :
    YldM k P ⟨d, .call ⟨.builtin .unsafeString, #[x, y], #[t, t2]⟩, ty, pos, af, g⟩ a σ (fun v τ => (Ty.val (.string (bsL l))).has τ v) := by
  obtain ⟨us, r1, r2, r3, r4⟩ := h
  obtain ⟨p, hp', hpp⟩ := hx
  have step : ∀ (u : Value) (w' : World), (Builtin.unsafeString_ #[t, t2] ty #[.pointer p, .int .i64 ((l.length : Nat) : Int)]).run P σ.w = .ok u w' → (execOp a.eval ⟨d, .call ⟨.builtin .unsafeString, #[x, y], #[t, t2]⟩, ty, pos, af, g⟩).run P σ.w = .ok (.value u) w' := by
    intro u w' hb
    simp only [execOp, resolve, Sem.run_bind, Sem.run_pure, Result.andThen_ok, invoke, List.map_toArray, List.map_cons, List.map_nil, hp', hy]
    simp [builtin, Sem.run_bind, hb]
  intro K Q hK
  by_cases h0 : l = []
  · subst h0
    have hr := step _ _ (Lib.run_unsafeString_none (P := P) σ.w t t2 ty p)
    unfold Oper.wp
    rw [hr]
    exact hK _ σ ⟨rfl, rfl, rfl, Nat.le_refl _, fun _ _ _ => rfl, fun _ _ _ => rfl⟩ rfl
  · have hpos : 0 < l.length := List.length_pos_iff.2 h0
    obtain ⟨gg, m, c, rfl, rfl⟩ := hpp hpos
    rcases r1.2 with ⟨e1, _⟩ | ⟨g2, cap, cur, e1, hb, hg, hn, hm, hcs, htk⟩
    · cases e1
    · cases e1
      have hcell : ∀ j x, l[j]? = some x → σ.w.cell? ((⟨gg, 0, none⟩ : Addr).add j) = some (.int .u8 ((x.toNat : Nat) : Int)) := by
        intro j x hj
        obtain ⟨u, hu⟩ : ∃ u, us[j]? = some u := ⟨us[j]'(by rw [r2]; have := (List.getElem?_eq_some_iff.1 hj).1; simpa using this), by simp⟩
        have hT := r3 j (Ty.byte x) u (by simp [hj]) hu
        have hT' : u = .int .u8 ((x.toNat : Nat) : Int) := hT
        rw [r1.cells (g := gg) rfl j u hu, hT']
      have hr := step _ _ (Lib.run_unsafeString_row (P := P) σ.w t t2 ty e hp hc gg cur.size (by simp [World.shape?, hg]) l h0 (by omega) (by have : maxLen = 9223372036854775807 := rfl; omega) hcell)
      unfold Oper.wp
      rw [hr]
      have hgk := r4 gg rfl
      refine hK _ ⟨σ.w.freeze ⟨gg, 0, none⟩ l.length, σ.st, fun b hb' => ?_⟩ ⟨?_, ?_, ?_, ?_, fun b hb' hmm => ?_, fun _ _ _ => rfl⟩ rfl
      · have := σ.lt b hb'
        unfold World.freeze; split <;> simp <;> omega
      · show (World.freeze _ _ _).os = _; unfold World.freeze; split <;> rfl
      · show (World.freeze _ _ _).tape = _; unfold World.freeze; split <;> rfl
      · show (World.freeze _ _ _).output = _; unfold World.freeze; split <;> rfl
      · show _ ≤ (World.freeze _ _ _).heap.size; unfold World.freeze; split <;> simp
      · show (World.freeze _ _ _).heap[b]? = _
        unfold World.freeze
        split
        · rfl
        · rw [Array.getElem?_modify, if_neg (by rintro rfl; simp at hmm; omega)]
end Go.KL
namespace Go.KL
theorem bAddr_f {nb : Bool} {b x : Value} (h : nb = false) (e : x = bAddr nb b) : x = bAddr false b := by rw [e, h]
/-- The signs of bells. -/
def signsB (r : List Int) : List UInt8 := r.map fun k => SIGNS.get! k.toNat
theorem signsB_len (r : List Int) : (signsB r).length = r.length := by simp [signsB]
theorem signsB_take (r : List Int) (k : Nat) (h : k < r.length) : signsB (r.take (k + 1)) = signsB (r.take k) ++ [SIGNS.get! (r.getD k 0).toNat] := by
  rw [take_snoc r 0 k h]; simp [signsB]
end Go.KL
