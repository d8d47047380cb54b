/- What package strings' Builder meets: pointers held against each other, a row of bytes that becomes a string. -/
import Derived.Test.YtbilebfnanlgfaaDoorCallSaysK1
import Derived.Lib.Builder
import Derived.Lib.UnsafeStr
import Derived.Lib.SliceRun
import Derived.Lib.DecodeN
import Derived.Lib.AppendStr
import Derived.Laws.CopyRow
import Derived.Laws.Bits64b
import Derived.Laws.BitsLemmas
import Derived.ProofKit
import Derived.JoinedCond
import Derived.SizedLaws
import Derived.Deep.Slices
import Derived.Deep.CondSized
import Derived.Deep.Strs
namespace Go.KL
open Go.RowKit
variable {P : Program} {d : Option Tmp} {ty : TypeId} {pos : String} {af : Array Edge} {g : Option (Nat × Bool)} {a : Act} {σ : GW}

abbrev Ty.byte (b : UInt8) : Ty := .val (.int .u8 ((b.toNat : Nat) : Int))
def bsL (l : List UInt8) : ByteArray := ⟨l.toArray⟩
def OwnPT (E : TypeId) (σ : GW) (k : Nat) (v : Value) (ts : List Ty) : Prop :=
  ∃ g cur, v = .pointer (some ⟨g, 0, none⟩) ∧ σ.st g = k ∧ σ.w.heap[g]? = some (.cells cur E (0, 0)) ∧ cur.size = ts.length ∧ ∀ (j : Nat) (T : Ty) (u : Value), ts[j]? = some T → cur[j]? = some u → T.has σ u
theorem OwnPT.toP {E : TypeId} {k : Nat} {v : Value} {ts : List Ty} (h : OwnPT E σ k v ts) : OwnP σ k v ts := by
  obtain ⟨g, cur, h1, h2, h3, h4, h5⟩ := h; exact ⟨g, E, cur, h1, h2, h3, h4, h5⟩
theorem OwnPT.keepL {E : TypeId} {L : List Nat} {k : Nat} {σ τ : GW} {v : Value} {ts : List Ty} (h : OwnPT E σ k v ts) (hs : StpL L σ τ) (h1 : 1 ∉ L) (hk : k ∉ L) : OwnPT E τ k v ts := by
  obtain ⟨g, cur, rfl, r2, r3, r4, r5⟩ := h
  have hg := (Array.getElem?_eq_some_iff.1 r3).1
  have hq : σ.st g ∉ L := by rw [r2]; exact hk
  exact ⟨g, cur, rfl, (hs.st g hg hq).trans r2, (hs.blk g hg hq).trans r3, r4, fun j T u hj hu => T.up (hs.le h1) (r5 j T u hj hu)⟩
theorem OwnPT.k0 {E : TypeId} {k : Nat} {σ τ : GW} {v : Value} {ts : List Ty} (h : OwnPT E σ k v ts) (hs : Stp 0 σ τ) : OwnPT E τ k v ts := h.keepL (L := []) hs.toL0 (by simp) (by simp)
theorem OwnPT.ren {E : TypeId} {k k' : Nat} {σ τ : GW} {v : Value} {ts : List Ty} (h : OwnPT E σ k v ts) (r : Ren k k' σ τ) : OwnPT E τ k' v ts := by
  obtain ⟨g, cur, rfl, r2, r3, r4, r5⟩ := h
  exact ⟨g, cur, rfl, r.st g r2, by rw [r.w]; exact r3, r4, fun j T u hj hu => T.up r.le (r5 j T u hj hu)⟩
theorem OwnPT.one {E : TypeId} {k : Nat} {v : Value} {ts : List Ty} (h : OwnPT E σ k v ts) : v.oneCell' = true := h.toP.one
def Pr.ownpt (E : TypeId) (k : Nat) (ts : List Ty) : Pr := ⟨fun σ v => OwnPT E σ k v ts, fun hs h => h.k0 hs⟩
theorem ownpt_cell {E : TypeId} {k : Nat} {v : Value} {ts : List Ty} {T : Ty} (j : Nat) (U : Ty) (h : OwnPT E σ k v ts) (e : ts[j]? = some T) (hTU : ∀ σ u, T.has σ u → U.has σ u) : OwnPT E σ k v (ts.set j U) := by
  obtain ⟨gg, cur, rfl, h2, h3, h4, h5⟩ := h
  refine ⟨gg, cur, rfl, h2, h3, by simpa using h4, fun i V u hV hu => ?_⟩
  by_cases hij : i = j
  · subst hij
    rw [List.getElem?_set_self (by exact (List.getElem?_eq_some_iff.1 e).1)] at hV
    cases hV
    exact hTU _ _ (h5 i T u e hu)
  · rw [List.getElem?_set_ne (Ne.symm hij)] at hV
    exact h5 i V u hV hu
theorem y_alloct {k : Nat} {e : TypeId} {z : Value} {c b : Nat} {ts : List Ty} (he : Info P e z c b) (hl : ts.length = z.cells.size) (hT : ∀ (j : Nat) (T : Ty) (u : Value), ts[j]? = some T → z.cells[j]? = some u → ∀ σ, T.has σ u) :
    Yld P ⟨d, .alloc e, ty, pos, af, g⟩ a σ (Pr.ownpt e k ts) := by
  intro K Q hk
  have hr' : (execOp a.eval ⟨d, .alloc e, ty, pos, af, g⟩).run P σ.w = .ok (.value (.pointer (some ⟨σ.w.heap.size, 0, none⟩))) (σ.w.alloc (.cells z.cells e)) := by
    simp only [execOp]
    simp [Instr.alloc, he.zero, newVar, newRow, newObj, Sem.run, Sem.run_bind]
  unfold Oper.wp
  rw [hr']
  exact hk _ (σ.mk' k (.cells z.cells e)) (Stp.mk' σ k _) ⟨σ.w.heap.size, z.cells, rfl, by show (if _ = _ then k else _) = k; rw [if_pos rfl], heap_alloc_new σ.w _, hl.symm, fun j T u hj hu => hT j T u hj hu _⟩
theorem m_storept {E : TypeId} {k : Nat} {x y : Operand} {i : Nat} {ts : List Ty} {T : Ty} {t : TypeId} {z v : Value} {by_ : Nat} (he : Info P t z 1 by_) (hk : 2 ≤ k) (h : OwnPT E σ k v ts) (hx : a.eval x = ptrAt v i) (hi : i < ts.length) (hy : At T σ a y) (h1 : One T) :
    YldM k P ⟨d, .store t x y, ty, pos, af, g⟩ a σ (fun _ τ => OwnPT E τ k v (ts.set i T)) := by
  obtain ⟨gg, cur, rfl, h2, h3, h4, h5⟩ := h
  have ho := h1 _ _ hy
  have hlt : i < cur.size := by omega
  have hc : σ.w.cell? ⟨gg, i, none⟩ = some cur[i] := by simp [World.cell?, h3, hlt]
  have hf : σ.w.frozen? ⟨gg, i, none⟩ = false := by simp [World.frozen?, h3]
  have hx' : a.eval x = .pointer (some ⟨gg, i, none⟩) := hx
  intro K Q hK
  have hr : (execOp a.eval ⟨d, .store t x y, ty, pos, af, g⟩).run P σ.w = .ok .skip (σ.w.setCell ⟨gg, i, none⟩ (a.eval y)) := by
    simp only [execOp, hx']
    have hst : (store ⟨gg, i, none⟩ (a.eval y)).run P σ.w = .ok () (σ.w.setCell ⟨gg, i, none⟩ (a.eval y)) := by
      rw [run_store P σ.w _ _ _ ho, hc, hf]; rfl
    simp [Instr.storeAt, Instr.sureAddr, storeVar, Sem.run_bind, cells_of_one ho, he.size, storeCells, Addr.add_zero', hst]
  unfold Oper.wp
  rw [hr]
  have hstp : Stp k σ ⟨σ.w.setCell ⟨gg, i, none⟩ (a.eval y), σ.st, fun b h => by have := σ.lt b h; simpa using this⟩ :=
    ⟨rfl, rfl, rfl, Nat.le_refl _, by simp, fun b hb hm => Below.heap_setCell σ.w _ _ b (by rintro rfl; simp at hm; omega), fun _ _ _ => rfl⟩
  have hh : (σ.w.setCell ⟨gg, i, none⟩ (a.eval y)).heap[gg]? = some (.cells (cur.setIfInBounds i (a.eval y)) E (0, 0)) := by
    unfold World.setCell
    rw [Array.getElem?_modify, if_pos rfl, h3]
    rfl
  refine hK undef _ hstp ⟨gg, _, rfl, h2, hh, by simp [h4], fun j U u hU hu => ?_⟩
  by_cases hji : j = i
  · subst hji
    rw [List.getElem?_set_self (by omega)] at hU
    rw [Array.getElem?_setIfInBounds_self_of_lt hlt] at hu
    cases hU; cases hu
    exact T.up (hstp.le (by omega)) hy
  · rw [List.getElem?_set_ne (Ne.symm hji)] at hU
    rw [Array.getElem?_setIfInBounds_ne (Ne.symm hji)] at hu
    exact U.up (hstp.le (by omega)) (h5 j U u hU hu)

def bAddr (nb : Bool) (b : Value) : Value := if nb then .pointer none else b
theorem y_bnil {E tp te u : TypeId} {x y : Operand} {k : Nat} {nb : Bool} {b : Value} {ts : List Ty} {z : Value} {c by_ : Nat} (hp : P.underlying tp = some (.pointer te)) (he : Info P te z c by_) (h : OwnPT E σ k b ts) (hx : a.eval x = bAddr nb b) (hy : a.eval y = .pointer none) :
    Yld P ⟨d, .binOp .eql tp x y u, ty, pos, af, g⟩ a σ (Ty.bool nb).pr := by
  obtain ⟨gg, cur, rfl, _⟩ := h
  obtain ⟨i, hi, _⟩ := he.get
  have hr : ∀ q : Option Addr, (binOp .eql tp (.pointer q) (.pointer none)).run P σ.w = .ok (.bool q.isNone) σ.w := fun q => run_eql_pointer_nil σ.w tp q (by rw [hp]; simp [Program.pointee, hp])
  cases nb with
  | true =>
    refine Yld.of_run (v := .bool true) ?_ rfl
    have hx' : a.eval x = .pointer none := hx
    simp only [execOp, hx', hy]
    simp [eqGuard, hr]
  | false =>
    refine Yld.of_run (v := .bool false) ?_ rfl
    have hx' : a.eval x = .pointer (some ⟨gg, 0, none⟩) := hx
    simp only [execOp, hx', hy]
    simp [eqGuard, hr]
theorem y_bself {E tp te u : TypeId} {x y : Operand} {k : Nat} {b : Value} {ts : List Ty} {z : Value} {c by_ : Nat} (hp : P.underlying tp = some (.pointer te)) (he : Info P te z c by_) (h : OwnPT E σ k b ts) (hx : a.eval x = bAddr false b) (hy : a.eval y = b) :
    Yld P ⟨d, .binOp .neq tp x y u, ty, pos, af, g⟩ a σ (Ty.bool false).pr := by
  obtain ⟨gg, cur, rfl, _⟩ := h
  obtain ⟨i, hi, _⟩ := he.get
  refine Yld.of_run (v := .bool false) ?_ rfl
  have hx' : a.eval x = .pointer (some ⟨gg, 0, none⟩) := hx
  simp only [execOp, hx', hy]
  have := Lib.run_neq_ptr_same (P := P) σ.w ⟨gg, 0, none⟩ hp hi
  simp [eqGuard, this]
theorem y_tounsafe {E src dst te : TypeId} {x : Operand} {k : Nat} {b : Value} {ts : List Ty} {z : Value} {c by_ : Nat} (hs : P.underlying src = some (.pointer te)) (hd : P.underlying dst = some .unsafePointer) (he : Info P te z c by_) (hc : c ≠ 0) (h : OwnPT E σ k b ts) (hl : 0 < ts.length) (hx : a.eval x = b) :
    Yld P ⟨d, .convert src dst x, ty, pos, af, g⟩ a σ (Ty.val b).pr := by
  obtain ⟨gg, cur, rfl, h2, h3, h4, h5⟩ := h
  obtain ⟨i, hi, _, hsz, _⟩ := he.get
  refine Yld.of_run (v := .pointer (some ⟨gg, 0, none⟩)) ?_ rfl
  simp only [execOp, hx]
  have := Lib.run_to_unsafe (P := P) σ.w ⟨gg, 0, none⟩ hs hd hi (by rw [hsz]; exact hc) (e := E) (cells := cur.size) (by simp [World.shape?, h3]) (by show 0 < cur.size; omega)
  simp [this]
theorem y_fromunsafe {E src dst te : TypeId} {x : Operand} {k : Nat} {b : Value} {ts : List Ty} {z : Value} {c by_ : Nat} (hs : P.underlying src = some .unsafePointer) (hd : P.underlying dst = some (.pointer te)) (he : Info P te z c by_) (h : OwnPT E σ k b ts) (hx : a.eval x = b)
    (hlies : liesAt P P.depth E (ts.length / P.cellsOf E) 0 te 1 = true) : Yld P ⟨d, .convert src dst x, ty, pos, af, g⟩ a σ (Ty.val b).pr := by
  obtain ⟨gg, cur, rfl, h2, h3, h4, h5⟩ := h
  obtain ⟨i, hi, _⟩ := he.get
  refine Yld.of_run (v := .pointer (some ⟨gg, 0, none⟩)) ?_ rfl
  simp only [execOp, hx]
  have := Lib.run_from_unsafe (P := P) σ.w ⟨gg, 0, none⟩ hs hd hi (e := E) (cells := cur.size) (by simp [World.shape?, h3]) (by rw [h4]; exact hlies)
  simp [this]

def Ty.dptr (buf : Value) (n : Nat) : Ty := ⟨fun _ v => ∃ p, v = .pointer p ∧ (0 < n → ∃ gg m c, buf = .slice (some ⟨gg, 0, none⟩) m c ∧ p = some ⟨gg, 0, none⟩), fun _ h => h⟩
theorem y_sdata {k : Nat} {x : Operand} {e te t : TypeId} {n : Nat} {buf : Value} {ts : List Ty} (hp : P.underlying ty = some (.pointer te)) (h : Own σ k e 1 buf n ts) (hx : a.eval x = buf) :
    Yld P ⟨d, .call ⟨.builtin .unsafeSliceData, #[x], #[t]⟩, ty, pos, af, g⟩ a σ (Ty.dptr buf n).pr := by
  obtain ⟨us, r1, r2, r3, r4⟩ := h
  rcases r1.2 with ⟨rfl, hn0⟩ | ⟨gg, cap, cur, rfl, hb, hg, hn, hm, hcs, htk⟩
  · refine Yld.of_run (v := .pointer none) (run_builtin1 hx (fun cs => ?_)) ⟨none, rfl, fun h0 => by omega⟩
    show (do pure (.value (← Builtin.unsafeSliceData_ #[t] ty #[.slice none 0 0])) : Sem Next).run P σ.w = _
    rw [Sem.run_bind, Lib.run_unsafeSliceData_nil]; rfl
  · by_cases hc : cap = 0
    · subst hc
      have hn0 : n = 0 := by omega
      subst hn0
      intro K Q hk
      have hr : (execOp a.eval ⟨d, .call ⟨.builtin .unsafeSliceData, #[x], #[t]⟩, ty, pos, af, g⟩).run P σ.w = .ok (.value (.pointer (some ⟨σ.w.heap.size, 0, none⟩))) (σ.w.alloc (.view ⟨gg, 0, none⟩ te)) := by
        refine run_builtin1 hx (fun cs => ?_)
        show (do pure (.value (← Builtin.unsafeSliceData_ #[t] ty #[.slice (some ⟨gg, 0, none⟩) 0 0])) : Sem Next).run P σ.w = _
        rw [Sem.run_bind, Lib.run_unsafeSliceData_zero σ.w #[t] ty te hp ⟨gg, 0, none⟩ 0 (e, cur.size) (by simp [World.shape?, hg])]; rfl
      unfold Oper.wp
      rw [hr]
      exact hk _ (σ.mk' 0 (.view ⟨gg, 0, none⟩ te)) (Stp.mk' σ 0 _) ⟨_, rfl, fun h0 => by omega⟩
    · refine Yld.of_run (v := .pointer (some ⟨gg, 0, none⟩)) (run_builtin1 hx (fun cs => ?_)) ⟨_, rfl, fun _ => ⟨gg, n, cap, rfl, rfl⟩⟩
      show (do pure (.value (← Builtin.unsafeSliceData_ #[t] ty #[.slice (some ⟨gg, 0, none⟩) n cap])) : Sem Next).run P σ.w = _
      rw [Sem.run_bind, Lib.run_unsafeSliceData_row _ _ _ _ _ _ hc]; rfl
theorem m_sstr {k : Nat} {x y : Operand} {e t t2 : TypeId} {buf : Value} {l : List UInt8} (hk : 2 ≤ k) (hp : P.underlying t = some (.pointer e)) (hc : P.cellsOf e = 1) (h : Own σ k e 1 buf l.length (l.map Ty.byte)) (hx : At (Ty.dptr buf l.length) σ a x) (hy : a.eval y = .int .i64 ((l.length : Nat) : Int)) :
    YldM k P ⟨d, .call ⟨.builtin .unsafeString, #[x, y], #[t, t2]⟩, ty, pos, af, g⟩ a σ (fun v τ => (Ty.val (.string (bsL l))).has τ v) := by
  obtain ⟨us, r1, r2, r3, r4⟩ := h
  obtain ⟨p, hp', hpp⟩ := hx
  have step : ∀ (u : Value) (w' : World), (Builtin.unsafeString_ #[t, t2] ty #[.pointer p, .int .i64 ((l.length : Nat) : Int)]).run P σ.w = .ok u w' → (execOp a.eval ⟨d, .call ⟨.builtin .unsafeString, #[x, y], #[t, t2]⟩, ty, pos, af, g⟩).run P σ.w = .ok (.value u) w' := by
    intro u w' hb
    simp only [execOp, resolve, Sem.run_bind, Sem.run_pure, Result.andThen_ok, invoke, List.map_toArray, List.map_cons, List.map_nil, hp', hy]
    simp [builtin, Sem.run_bind, hb]
  intro K Q hK
  by_cases h0 : l = []
  · subst h0
    have hr := step _ _ (Lib.run_unsafeString_none (P := P) σ.w t t2 ty p)
    unfold Oper.wp
    rw [hr]
    exact hK _ σ ⟨rfl, rfl, rfl, Nat.le_refl _, Nat.le_refl _, fun _ _ _ => rfl, fun _ _ _ => rfl⟩ rfl
  · have hpos : 0 < l.length := List.length_pos_iff.2 h0
    obtain ⟨gg, m, c, rfl, rfl⟩ := hpp hpos
    rcases r1.2 with ⟨e1, _⟩ | ⟨g2, cap, cur, e1, hb, hg, hn, hm, hcs, htk⟩
    · cases e1
    · cases e1
      have hcell : ∀ j x, l[j]? = some x → σ.w.cell? ((⟨gg, 0, none⟩ : Addr).add j) = some (.int .u8 ((x.toNat : Nat) : Int)) := by
        intro j x hj
        obtain ⟨u, hu⟩ : ∃ u, us[j]? = some u := ⟨us[j]'(by rw [r2]; have := (List.getElem?_eq_some_iff.1 hj).1; simpa using this), by simp⟩
        have hT := r3 j (Ty.byte x) u (by simp [hj]) hu
        have hT' : u = .int .u8 ((x.toNat : Nat) : Int) := hT
        rw [r1.cells (g := gg) rfl j u hu, hT']
      have hr := step _ _ (Lib.run_unsafeString_row (P := P) σ.w t t2 ty e hp hc gg cur.size (by simp [World.shape?, hg]) l h0 (by omega) (by have : maxLen = 9223372036854775807 := rfl; omega) hcell)
      unfold Oper.wp
      rw [hr]
      have hgk := r4 gg rfl
      refine hK _ ⟨σ.w.freeze ⟨gg, 0, none⟩ l.length, σ.st, fun b hb' => ?_⟩ ⟨?_, ?_, ?_, ?_, ?_, fun b hb' hmm => ?_, fun _ _ _ => rfl⟩ rfl
      · have := σ.lt b hb'
        unfold World.freeze; split <;> simp <;> omega
      · show (World.freeze _ _ _).os = _; unfold World.freeze; split <;> rfl
      · show (World.freeze _ _ _).tape = _; unfold World.freeze; split <;> rfl
      · show (World.freeze _ _ _).output = _; unfold World.freeze; split <;> rfl
      · show _ ≤ (World.freeze _ _ _).drawn; unfold World.freeze; split <;> exact Nat.le_refl _
      · show _ ≤ (World.freeze _ _ _).heap.size; unfold World.freeze; split <;> simp
      · show (World.freeze _ _ _).heap[b]? = _
        unfold World.freeze
        split
        · rfl
        · rw [Array.getElem?_modify, if_neg (by rintro rfl; simp at hmm; omega)]
end Go.KL
namespace Go.KL
theorem bAddr_f {nb : Bool} {b x : Value} (h : nb = false) (e : x = bAddr nb b) : x = bAddr false b := by rw [e, h]
end Go.KL

/- Cutting one out of a row that is owned: its two ends, joined in place, and the rest made zero. -/
namespace Go.KL
open Go.RowKit
variable {P : Program} {d : Option Tmp} {ty : TypeId} {pos : String} {af : Array Edge} {g : Option (Nat × Bool)} {a : Act} {σ : GW}
def capGe (v : Value) (n : Nat) : Prop := match v with | .slice _ _ cap => n ≤ cap | _ => False

theorem Own.form {k : Nat} {e : TypeId} {n : Nat} {v : Value} {ts : List Ty} (h : Own σ k e 1 v n ts) : ∃ ad cap, v = .slice ad n cap ∧ n ≤ cap ∧ cap ≤ 9223372036854775807 := by
  obtain ⟨us, r1, _⟩ := h
  rcases r1.2 with ⟨rfl, rfl⟩ | ⟨gg, cap, cur, rfl, _, _, hn, hm, _⟩
  · exact ⟨none, 0, rfl, Nat.le_refl _, by decide⟩
  · exact ⟨_, cap, rfl, hn, hm⟩
theorem Own.cap {k : Nat} {e : TypeId} {n : Nat} {v : Value} {ts : List Ty} (h : Own σ k e 1 v n ts) : capGe v n := by
  obtain ⟨ad, cap, rfl, hn, _⟩ := h.form; exact hn
section
variable {k : Nat} {x y y' y'' : Operand} {n : Nat} {ts : List Ty} {t e e' : TypeId} {z v : Value} {b : Nat} {ki kj kk : IntKind} (ht : P.underlying t = some (.slice e')) (he : Info P e' z 1 b) (ho : Own σ k e 1 v n ts) (hx : a.eval x = v)
include ht he ho hx
end
theorem one_map {α : Type} {f : α → Ty} {xs : List α} (h : ∀ x, One (f x)) : ∀ U, U ∈ xs.map f → One U := fun U hU => by
  obtain ⟨x, _, rfl⟩ := List.mem_map.1 hU; exact h x
end Go.KL

/- All rows, each once: the way that is looked for; what rows may generate. -/
namespace Go.KL
/-! ### What may generate -/
def gensTo (n : Int) : List (List Int) → Int
  | [] => 0
  | g :: l => if rowMay g ≠ 0 then rowMay g else if ((g.length : Nat) : Int) ≠ n then 1 else gensTo n l
def gensMay (n : Int) (l : List (List Int)) : Int := if n < 1 ∨ 12 < n ∨ 8 < l.length then 1 else gensTo n l
theorem gensTo_ok {n : Int} : ∀ {l : List (List Int)}, gensTo n l = 0 → ∀ g ∈ l, IsRow g ∧ ((g.length : Nat) : Int) = n
  | [], _, g, hg => by cases hg
  | x :: l, h, g, hg => by
    rw [gensTo] at h
    split at h
    · contradiction
    · rename_i h1
      split at h
      · cases h
      · rename_i h2
        rcases List.mem_cons.1 hg with rfl | hg
        · exact ⟨rowMay_ok.1 (Classical.not_not.1 h1), Classical.not_not.1 h2⟩
        · exact gensTo_ok h g hg
theorem gensMay_ok {n : Int} {l : List (List Int)} (h : gensMay n l = 0) : (1 ≤ n ∧ n ≤ 12 ∧ l.length ≤ 8) ∧ ∀ k, k < l.length → IsRow (l.getD k []) ∧ (((l.getD k []).length : Nat) : Int) = n := by
  unfold gensMay at h
  split at h
  · cases h
  · rename_i hc
    refine ⟨by omega, fun k hk => gensTo_ok h _ ?_⟩
    simp [hk]

/-! ### The order of a row, taken again and again -/
/-! ### The way -/
structure Tour (n : Nat) (cs : List (List Int)) (rows : List (List Int)) (path : List Int) (r : List Int) : Prop where
  len : rows.length = path.length + 1
  row : ∀ x ∈ rows, IsRow x ∧ x.length = n
  nd : rows.Nodup
  last : rows.getD (rows.length - 1) [] = r
  csr : ∀ k, k < cs.length → IsRow (cs.getD k []) ∧ (cs.getD k []).length = n
  nn : 1 ≤ n ∧ n ≤ 4
  cl : cs.length ≤ 8
theorem Tour.rr {n : Nat} {cs rows : List (List Int)} {path r : List Int} (h : Tour n cs rows path r) : IsRow r ∧ r.length = n := by
  refine h.row r ?_
  have hl : rows.length - 1 < rows.length := by have := h.len; omega
  rw [← h.last]
  have e : rows.getD (rows.length - 1) [] = rows[rows.length - 1] := by simp [hl]
  rw [e]; exact List.getElem_mem hl
theorem Tour.x {n : Nat} {cs rows : List (List Int)} {path r : List Int} (h : Tour n cs rows path r) {k : Nat} (hk : k < cs.length) : IsRow (byL r (cs.getD k [])) ∧ (byL r (cs.getD k [])).length = n := by
  have h1 := h.rr
  have h2 := h.csr k hk
  exact ⟨byL_row h1.1 h2.1 (by omega), by rw [byL_len]; exact h2.2⟩
theorem rows_le {n : Nat} {rows : List (List Int)} (h : ∀ x ∈ rows, IsRow x ∧ x.length = n) (hn : rows.Nodup) : rows.length ≤ fct n := by
  have := nodup_len (fct n) (rows.map fun x => ((rankL x : Nat) : Int)) (by
    refine List.pairwise_map.2 (hn.imp_of_mem ?_)
    intro a b ha hb hab e
    refine hab (rank_row_inj (h a ha).1 (h b hb).1 (by rw [(h a ha).2, (h b hb).2]) (by omega))) (fun x hx => by
    obtain ⟨y, hy, rfl⟩ := List.mem_map.1 hx
    have := rankL_lt y
    rw [(h y hy).2] at this
    omega)
  simpa using this
theorem Tour.next {n : Nat} {cs rows : List (List Int)} {path r : List Int} (h : Tour n cs rows path r) {k : Nat} (hk : k < cs.length) (hx : byL r (cs.getD k []) ∉ rows) : Tour n cs (rows ++ [byL r (cs.getD k [])]) (path ++ [(k : Int)]) (byL r (cs.getD k [])) := by
  refine ⟨by simp [h.len], fun x hxm => ?_, ?_, by simp, h.csr, h.nn, h.cl⟩
  · rcases List.mem_append.1 hxm with hm | hm
    · exact h.row x hm
    · simp at hm; subst hm; exact h.x hk
  · refine List.nodup_append.2 ⟨h.nd, by simp, fun a ha b hb => ?_⟩
    simp at hb; subst hb
    rintro rfl; exact hx ha
theorem Tour.full {n : Nat} {cs rows : List (List Int)} {path r : List Int} (h : Tour n cs rows path r) {x : List Int} (hx : IsRow x ∧ x.length = n) (hn : x ∉ rows) : path.length + 1 < fct n := by
  have := rows_le (n := n) (rows := rows ++ [x]) (fun y hy => by
    rcases List.mem_append.1 hy with hm | hm
    · exact h.row y hm
    · simp at hm; subst hm; exact hx) (List.nodup_append.2 ⟨h.nd, by simp, fun a ha b hb => by simp at hb; subst hb; rintro rfl; exact hn ha⟩)
  simp at this
  have := h.len
  omega
theorem Tour.lt {n : Nat} {cs rows : List (List Int)} {path r : List Int} (h : Tour n cs rows path r) : path.length < fct n ∧ fct n ≤ 24 := by
  have h1 := rows_le h.row h.nd
  have h2 := h.len
  have h3 : fct n ≤ fct 4 := fct_mono h.nn.2
  have h4 : fct 4 = 24 := by decide
  omega
def SeenT (n : Nat) (rows : List (List Int)) (f : Int → Option Int) : Prop := ∀ x, IsRow x → x.length = n → (f ((rankL x : Nat) : Int)).getD 0 = if x ∈ rows then 1 else 0
theorem SeenT.put {n : Nat} {rows : List (List Int)} {f : Int → Option Int} (h : SeenT n rows f) {x : List Int} (hx : IsRow x ∧ x.length = n) : SeenT n (rows ++ [x]) (fun p => if p = ((rankL x : Nat) : Int) then some 1 else f p) := by
  intro y hy hl
  by_cases e : y = x
  · subst e; simp
  · have hne : rankL y ≠ rankL x := fun hh => e (rank_row_inj hy hx.1 (by omega) hh)
    simp only [Int.natCast_inj, if_neg hne]
    rw [h y hy hl]
    simp [e]
theorem SeenT.drop {n : Nat} {rows : List (List Int)} {f : Int → Option Int} {x : List Int} (h : SeenT n (rows ++ [x]) f) (hx : IsRow x ∧ x.length = n) (hn : x ∉ rows) : SeenT n rows (fun p => if p = ((rankL x : Nat) : Int) then some 0 else f p) := by
  intro y hy hl
  by_cases e : y = x
  · subst e; simp [hn]
  · have hne : rankL y ≠ rankL x := fun hh => e (rank_row_inj hy hx.1 (by omega) hh)
    simp only [Int.natCast_inj, if_neg hne]
    rw [h y hy hl]
    simp [e]
end Go.KL
namespace Go.KL
section
variable {F : List (List Int) → List Int → Option (List Int)} {cs : List (List Int)} {N : Nat} {rows : List (List Int)} {path r : List Int} {k : Nat} (hl : rows.getD (rows.length - 1) [] = r)
include hl
end
theorem Tour.start {n : Int} {cs : List (List Int)} (h : ¬ (n < 1 ∨ 4 < n ∨ 8 < cs.length)) (h2 : ¬ gensMay n cs ≠ 0) : Tour n.toNat cs [roundsL n.toNat] [] (roundsL n.toNat) := by
  have hg := gensMay_ok (Classical.not_not.1 h2)
  refine ⟨rfl, fun x hx => ?_, by simp, rfl, fun k hk => ⟨(hg.2 k hk).1, by have := (hg.2 k hk).2; omega⟩, ⟨by omega, by omega⟩, by omega⟩
  simp at hx; subst hx
  exact ⟨roundsL_row (by omega) (by omega), roundsL_len _⟩
end Go.KL
namespace Go.KL
end Go.KL

/- All rows, each once: what is found rings, and nothing ahead of it does. -/
namespace Go.KL
def belowL : List Int → List Int → Bool
  | [], b => decide (0 < b.length)
  | _ :: _, [] => false
  | x :: a, y :: b => if x = y then belowL a b else decide (x < y)
def SeenB (n : Nat) (vis : List (List Int)) (f : Int → Option Bool) : Prop := ∀ x, IsRow x → x.length = n → (f ((rankL x : Nat) : Int)).getD false = decide (x ∈ vis)
theorem SeenB.put {n : Nat} {vis : List (List Int)} {f : Int → Option Bool} (h : SeenB n vis f) {x : List Int} (hx : IsRow x) (hl : x.length = n) : SeenB n (vis ++ [x]) (fun p => if p = ((rankL x : Nat) : Int) then some true else f p) := by
  intro y hy hly
  by_cases e : y = x
  · subst e; simp
  · have hne : rankL y ≠ rankL x := fun hh => e (rank_row_inj hy hx (by omega) hh)
    simp only [Int.natCast_inj, if_neg hne]
    rw [h y hy hly]
    simp [e]
end Go.KL

/- Rows read and written as text; the row at a place; the laws of rows. -/
namespace Go.KL
theorem run1_lo {s : ByteArray} {p : Nat} (hb : (s.get! p).toNat < 128) : run1 s p = (s.get! p).toNat ∧ wid s p = 1 := by
  unfold run1 wid Utf8.decode
  simp only [Nat.add_zero]
  rw [if_pos hb]
  exact ⟨rfl, rfl⟩
theorem bsL_size (l : List UInt8) : (bsL l).size = l.length := by simp [bsL, ByteArray.size]
theorem bsL_get {l : List UInt8} {j : Nat} (h : j < l.length) : (bsL l).get! j = l[j] := by
  rw [get_list (by rw [bsL_size]; exact h)]
  simp [bsL]
end Go.KL
namespace Go.KL
end Go.KL

/- Runes as the document reads them: -1 for a byte that is none. -/
namespace Go.KL
def runM (s : ByteArray) (p : Nat) : Int := if run1 s p = 65533 ∧ wid s p = 1 then -1 else run1 s p
def nB (b : Nat) : Nat := if 194 ≤ b ∧ b < 224 then 2 else if 224 ≤ b ∧ b < 240 then 3 else if 240 ≤ b ∧ b < 245 then 4 else 0
def cB (b : Nat) : Nat := if 194 ≤ b ∧ b < 224 then b - 192 else if 224 ≤ b ∧ b < 240 then b - 224 else if 240 ≤ b ∧ b < 245 then b - 240 else b
def lowB (b : Nat) : Nat := if 194 ≤ b ∧ b < 224 then 128 else if 224 ≤ b ∧ b < 240 then 2048 else if 240 ≤ b ∧ b < 245 then 65536 else 0
def accR (s : ByteArray) (c : Nat) : Nat → Nat
  | 0 => c
  | j + 1 => accR s c j * 64 + ((s.get! (j + 1)).toNat - 128)
theorem accR1 (s : ByteArray) (c : Nat) : accR s c 1 = c * 64 + ((s.get! 1).toNat - 128) := rfl
theorem accR2 (s : ByteArray) (c : Nat) : accR s c 2 = (c * 64 + ((s.get! 1).toNat - 128)) * 64 + ((s.get! 2).toNat - 128) := rfl
theorem accR3 (s : ByteArray) (c : Nat) : accR s c 3 = ((c * 64 + ((s.get! 1).toNat - 128)) * 64 + ((s.get! 2).toNat - 128)) * 64 + ((s.get! 3).toNat - 128) := rfl
def decP (s : ByteArray) (N : Nat) : Nat × Nat := Lib.decodeN N (s.get! 0).toNat (s.get! 1).toNat (s.get! 2).toNat (s.get! 3).toNat
theorem dec0 (s : ByteArray) : Utf8.decode s 0 = decP s s.size := by rw [Lib.decode_at]; rfl
theorem runM_of {s : ByteArray} {c n : Nat} (h : decP s s.size = (c, n)) (hn : n ≠ 1 ∨ c ≠ 65533) : runM s 0 = c ∧ wid s 0 = n := by
  unfold runM run1 wid
  rw [dec0, h]
  refine ⟨if_neg ?_, rfl⟩
  simp only; omega
theorem runM_no {s : ByteArray} (h : decP s s.size = (65533, 1)) : runM s 0 = -1 ∧ wid s 0 = 1 := by
  unfold runM run1 wid
  rw [dec0, h]
  exact ⟨if_pos ⟨rfl, rfl⟩, rfl⟩
theorem rn_low {s : ByteArray} (h : (s.get! 0).toNat < 128) : runM s 0 = (s.get! 0).toNat ∧ wid s 0 = 1 :=
  runM_of (by unfold decP Lib.decodeN; rw [if_pos h]) (by omega)
theorem nB_cases {b j : Nat} (h0 : nB b ≠ 0) (hj : j + 1 = nB b) : (j = 1 ∧ 194 ≤ b ∧ b < 224) ∨ (j = 2 ∧ 224 ≤ b ∧ b < 240) ∨ (j = 3 ∧ 240 ≤ b ∧ b < 245) := by
  unfold nB at hj h0
  by_cases h1 : 194 ≤ b ∧ b < 224
  · rw [if_pos h1] at hj; exact .inl ⟨by omega, h1⟩
  · rw [if_neg h1] at hj h0
    by_cases h2 : 224 ≤ b ∧ b < 240
    · rw [if_pos h2] at hj; exact .inr (.inl ⟨by omega, h2⟩)
    · rw [if_neg h2] at hj h0
      by_cases h3 : 240 ≤ b ∧ b < 245
      · rw [if_pos h3] at hj; exact .inr (.inr ⟨by omega, h3⟩)
      · rw [if_neg h3] at h0; omega
section
variable {s : ByteArray} (h128 : ¬ (s.get! 0).toNat < 128)
include h128 in
set_option maxRecDepth 100000 in
set_option maxHeartbeats 4000000 in
theorem rn_short (h : nB (s.get! 0).toNat = 0 ∨ s.size < nB (s.get! 0).toNat) (h1 : 1 ≤ s.size) : runM s 0 = -1 ∧ wid s 0 = 1 := by
  refine runM_no ?_
  have l1 := UInt8.toNat_lt (s.get! 1)
  have l2 := UInt8.toNat_lt (s.get! 2)
  have l3 := UInt8.toNat_lt (s.get! 3)
  have l0 := UInt8.toNat_lt (s.get! 0)
  unfold decP
  generalize (s.get! 0).toNat = b0 at *
  generalize (s.get! 1).toNat = b1 at *
  generalize (s.get! 2).toNat = b2 at *
  generalize (s.get! 3).toNat = b3 at *
  unfold nB at h
  unfold Lib.decodeN
  repeat' split
  all_goals first | rfl | (exfalso; split at h <;> (try split at h) <;> (try split at h) <;> omega)
set_option maxRecDepth 100000 in
set_option maxHeartbeats 4000000 in
theorem rn_cont {j : Nat} (hj : j + 1 < nB (s.get! 0).toNat) (h : (s.get! (j + 1)).toNat < 128 ∨ 192 ≤ (s.get! (j + 1)).toNat) : runM s 0 = -1 ∧ wid s 0 = 1 := by
  refine runM_no ?_
  have l1 := UInt8.toNat_lt (s.get! 1)
  have l2 := UInt8.toNat_lt (s.get! 2)
  have l3 := UInt8.toNat_lt (s.get! 3)
  have l0 := UInt8.toNat_lt (s.get! 0)
  have hj4 : j = 0 ∨ j = 1 ∨ j = 2 := by
    unfold nB at hj
    repeat' split at hj
    all_goals omega
  unfold decP
  rcases hj4 with rfl | rfl | rfl <;> simp only [Nat.zero_add, Nat.reduceAdd] at h hj <;> generalize (s.get! 0).toNat = b0 at * <;> generalize (s.get! 1).toNat = b1 at * <;> generalize (s.get! 2).toNat = b2 at * <;> generalize (s.get! 3).toNat = b3 at * <;> unfold nB at hj <;> unfold Lib.decodeN
  all_goals repeat' split
  all_goals first | rfl | (exfalso; split at hj <;> (try split at hj) <;> (try split at hj) <;> omega)
set_option maxRecDepth 2000 in
set_option maxHeartbeats 4000000 in
theorem rn_all (h0 : nB (s.get! 0).toNat ≠ 0) (hs : nB (s.get! 0).toNat ≤ s.size) {j : Nat} (hj : j + 1 = nB (s.get! 0).toNat) (hc : ∀ i, i < j → 128 ≤ (s.get! (i + 1)).toNat ∧ (s.get! (i + 1)).toNat < 192) :
    decP s s.size = if accR s (cB (s.get! 0).toNat) j < lowB (s.get! 0).toNat ∨ 1114111 < accR s (cB (s.get! 0).toNat) j ∨ (55296 ≤ accR s (cB (s.get! 0).toNat) j ∧ accR s (cB (s.get! 0).toNat) j < 57344) then (65533, 1) else (accR s (cB (s.get! 0).toNat) j, nB (s.get! 0).toNat) := by
  have l0 := UInt8.toNat_lt (s.get! 0)
  have hj4 := nB_cases h0 hj
  refine hj4.elim (fun ⟨e, q⟩ => ?_) (fun h => h.elim (fun ⟨e, q⟩ => ?_) (fun ⟨e, q⟩ => ?_))
  · rw [e]
    have c1 := hc 0 (by rw [e]; exact Nat.one_pos)
    rw [Nat.zero_add] at c1
    rw [accR1]
    unfold decP
    clear hc hj h0
    generalize (s.get! 0).toNat = b0 at *
    generalize (s.get! 1).toNat = b1 at *
    have e1 : nB b0 = 2 := by unfold nB; rw [if_pos q]
    have e2 : cB b0 = b0 - 192 := by unfold cB; rw [if_pos q]
    have e3 : lowB b0 = 128 := by unfold lowB; rw [if_pos q]
    rw [e1] at hs
    rw [e1, e2, e3]
    unfold Lib.decodeN
    repeat' split
    all_goals first | (exfalso; omega) | (apply Prod.ext <;> simp only <;> omega)
  · rw [e]
    have c1 := hc 0 (by omega)
    have c2 := hc 1 (by omega)
    simp only [Nat.zero_add, Nat.reduceAdd] at c1 c2
    rw [accR2]
    clear hc hj h0
    unfold decP
    generalize (s.get! 0).toNat = b0 at *
    generalize (s.get! 1).toNat = b1 at *
    generalize (s.get! 2).toNat = b2 at *
    have e1 : nB b0 = 3 := by unfold nB; rw [if_neg (by omega), if_pos q]
    have e2 : cB b0 = b0 - 224 := by unfold cB; rw [if_neg (by omega), if_pos q]
    have e3 : lowB b0 = 2048 := by unfold lowB; rw [if_neg (by omega), if_pos q]
    rw [e1] at hs
    rw [e1, e2, e3]
    unfold Lib.decodeN
    repeat' split
    all_goals first | (exfalso; omega) | (apply Prod.ext <;> simp only <;> omega)
  · rw [e]
    have c1 := hc 0 (by omega)
    have c2 := hc 1 (by omega)
    have c3 := hc 2 (by omega)
    simp only [Nat.zero_add, Nat.reduceAdd] at c1 c2 c3
    rw [accR3]
    clear hc hj h0
    unfold decP
    generalize (s.get! 0).toNat = b0 at *
    generalize (s.get! 1).toNat = b1 at *
    generalize (s.get! 2).toNat = b2 at *
    generalize (s.get! 3).toNat = b3 at *
    have e1 : nB b0 = 4 := by unfold nB; rw [if_neg (by omega), if_neg (by omega), if_pos q]
    have e2 : cB b0 = b0 - 240 := by unfold cB; rw [if_neg (by omega), if_neg (by omega), if_pos q]
    have e3 : lowB b0 = 65536 := by unfold lowB; rw [if_neg (by omega), if_neg (by omega), if_pos q]
    rw [e1] at hs
    rw [e1, e2, e3]
    unfold Lib.decodeN
    repeat' split
    all_goals first | (exfalso; omega) | (apply Prod.ext <;> simp only <;> omega)
end
theorem nb2 {b : Nat} (h : 194 ≤ b ∧ b < 224) : nB b = 2 ∧ cB b = b - 192 ∧ lowB b = 128 := by unfold nB cB lowB; rw [if_pos h, if_pos h, if_pos h]; exact ⟨rfl, rfl, rfl⟩
theorem nb3 {b : Nat} (h : 224 ≤ b ∧ b < 240) : nB b = 3 ∧ cB b = b - 224 ∧ lowB b = 2048 := by
  have h1 : ¬ (194 ≤ b ∧ b < 224) := by omega
  unfold nB cB lowB; rw [if_neg h1, if_neg h1, if_neg h1, if_pos h, if_pos h, if_pos h]; exact ⟨rfl, rfl, rfl⟩
theorem nb4 {b : Nat} (h : 240 ≤ b ∧ b < 245) : nB b = 4 ∧ cB b = b - 240 ∧ lowB b = 65536 := by
  have h1 : ¬ (194 ≤ b ∧ b < 224) := by omega
  have h2 : ¬ (224 ≤ b ∧ b < 240) := by omega
  unfold nB cB lowB; rw [if_neg h1, if_neg h1, if_neg h1, if_neg h2, if_neg h2, if_neg h2, if_pos h, if_pos h, if_pos h]; exact ⟨rfl, rfl, rfl⟩
theorem nb0 {b : Nat} (h1 : ¬ (194 ≤ b ∧ b < 224)) (h2 : ¬ (224 ≤ b ∧ b < 240)) (h3 : ¬ (240 ≤ b ∧ b < 245)) : nB b = 0 ∧ cB b = b ∧ lowB b = 0 := by
  unfold nB cB lowB; rw [if_neg h1, if_neg h1, if_neg h1, if_neg h2, if_neg h2, if_neg h2, if_neg h3, if_neg h3, if_neg h3]; exact ⟨rfl, rfl, rfl⟩
theorem nb_bd (b : Nat) : nB b ≤ 4 ∧ (nB b ≠ 0 → cB b ≤ 31) := by
  by_cases h1 : 194 ≤ b ∧ b < 224
  · have := nb2 h1; omega
  · by_cases h2 : 224 ≤ b ∧ b < 240
    · have := nb3 h2; omega
    · by_cases h3 : 240 ≤ b ∧ b < 245
      · have := nb4 h3; omega
      · have := nb0 h1 h2 h3; omega
theorem acc_bd {s : ByteArray} {c j : Nat} (hc : c ≤ 63) (h : ∀ i, i < j → 128 ≤ (s.get! (i + 1)).toNat ∧ (s.get! (i + 1)).toNat < 192) (hj : j ≤ 3) : accR s c j < 16777216 := by
  have h3 : j = 0 ∨ j = 1 ∨ j = 2 ∨ j = 3 := by omega
  rcases h3 with e | e | e | e
  · rw [e]; show c < _; omega
  · have h0 := h 0 (by omega)
    rw [e, accR1]; simp only [Nat.zero_add] at h0; omega
  · have h0 := h 0 (by omega); have h1 := h 1 (by omega)
    rw [e, accR2]; simp only [Nat.zero_add, Nat.reduceAdd] at h0 h1; omega
  · have h0 := h 0 (by omega); have h1 := h 1 (by omega); have h2 := h 2 (by omega)
    rw [e, accR3]; simp only [Nat.zero_add, Nat.reduceAdd] at h0 h1 h2; omega
theorem acc_snoc {s : ByteArray} {j : Nat} (h : ∀ i, i < j → 128 ≤ (s.get! (i + 1)).toNat ∧ (s.get! (i + 1)).toNat < 192) (h1 : 128 ≤ (s.get! (j + 1)).toNat) (h2 : (s.get! (j + 1)).toNat < 192) : ∀ i, i < j + 1 → 128 ≤ (s.get! (i + 1)).toNat ∧ (s.get! (i + 1)).toNat < 192 := by
  intro i hi
  by_cases e : i = j
  · rw [e]; exact ⟨h1, h2⟩
  · exact h i (by omega)
theorem rn_bad {s : ByteArray} (h0 : nB (s.get! 0).toNat ≠ 0) (hs : nB (s.get! 0).toNat ≤ s.size) {j : Nat} (hj : j + 1 = nB (s.get! 0).toNat) (hc : ∀ i, i < j → 128 ≤ (s.get! (i + 1)).toNat ∧ (s.get! (i + 1)).toNat < 192)
    (h : accR s (cB (s.get! 0).toNat) j < lowB (s.get! 0).toNat ∨ 1114111 < accR s (cB (s.get! 0).toNat) j ∨ (55296 ≤ accR s (cB (s.get! 0).toNat) j ∧ accR s (cB (s.get! 0).toNat) j < 57344)) : runM s 0 = -1 ∧ wid s 0 = 1 :=
  runM_no (by rw [rn_all h0 hs hj hc, if_pos h])
theorem rn_ok {s : ByteArray} (h0 : nB (s.get! 0).toNat ≠ 0) (hs : nB (s.get! 0).toNat ≤ s.size) {j : Nat} (hj : j + 1 = nB (s.get! 0).toNat) (hc : ∀ i, i < j → 128 ≤ (s.get! (i + 1)).toNat ∧ (s.get! (i + 1)).toNat < 192)
    (h : ¬ (accR s (cB (s.get! 0).toNat) j < lowB (s.get! 0).toNat ∨ 1114111 < accR s (cB (s.get! 0).toNat) j ∨ (55296 ≤ accR s (cB (s.get! 0).toNat) j ∧ accR s (cB (s.get! 0).toNat) j < 57344))) : runM s 0 = accR s (cB (s.get! 0).toNat) j ∧ wid s 0 = nB (s.get! 0).toNat :=
  runM_of (by rw [rn_all h0 hs hj hc, if_neg h]) (by have := nB_cases h0 hj; omega)
/-! ### All runes of a text -/
def runsF (s : ByteArray) : Nat → Nat → List Int
  | 0, _ => []
  | f + 1, p => if p < s.size then runM s p :: runsF s f (p + wid s p) else []
def runsL (s : ByteArray) : List Int := runsF s s.size 0
theorem runsF_end {s : ByteArray} {f p : Nat} (h : s.size ≤ p) : runsF s f p = [] := by cases f <;> simp [runsF, show ¬ p < s.size by omega]
theorem runsF_step {s : ByteArray} {f p : Nat} {xs zs : List Int} (h : xs ++ runsF s f p = zs) (hp : p < s.size) (hf : s.size ≤ f + p) : (xs ++ [runM s p]) ++ runsF s (f - 1) (p + wid s p) = zs := by
  obtain ⟨f, rfl⟩ : ∃ g, f = g + 1 := ⟨f - 1, by omega⟩
  rw [runsF, if_pos hp] at h
  rw [← h]; simp
theorem get_ext {s : ByteArray} {p i : Nat} : (s.extract p s.size).get! i = s.get! (p + i) := by
  have hsz : (s.extract p s.size).size = s.size - p := by rw [ByteArray.size_extract]; omega
  by_cases h : i < s.size - p
  · have h1 : i < (s.extract p s.size).size := by omega
    rw [get_list h1, get_list (s := s) (i := p + i) (by omega)]
    simp [ByteArray.data_extract]
  · have a1 : (s.extract p s.size).get! i = default := by
      show (s.extract p s.size).data[i]! = default
      rw [getElem!_neg]
      show ¬ i < (s.extract p s.size).size
      omega
    have a2 : s.get! (p + i) = default := by
      show s.data[p + i]! = default
      rw [getElem!_neg]
      show ¬ p + i < s.size
      omega
    rw [a1, a2]
theorem dec_ext (s : ByteArray) (p : Nat) : Utf8.decode (s.extract p s.size) 0 = Utf8.decode s p := by
  have hsz : (s.extract p s.size).size = s.size - p := by rw [ByteArray.size_extract]; omega
  rw [Lib.decode_at, Lib.decode_at, hsz, get_ext, get_ext, get_ext, get_ext]
  simp only [Nat.add_zero, Nat.zero_add, Nat.sub_zero]
theorem ext_run (s : ByteArray) (p : Nat) : runM (s.extract p s.size) 0 = runM s p ∧ wid (s.extract p s.size) 0 = wid s p := by
  unfold runM run1 wid; rw [dec_ext]; exact ⟨rfl, rfl⟩
theorem wid_in {s : ByteArray} {p : Nat} (h : p < s.size) : p + wid s p ≤ s.size := by
  have hw : wid s p ≤ s.size - p := by
    unfold wid
    rw [Lib.decode_at]
    unfold Lib.decodeN
    repeat' split
    all_goals (simp only; omega)
  omega
theorem ext_ext {s : ByteArray} {p n : Nat} (h : p + n ≤ s.size) : (s.extract p s.size).extract n (s.extract p s.size).size = s.extract (p + n) s.size := by
  rw [ByteArray.extract_extract, ByteArray.size_extract]
  congr 1
  omega
end Go.KL

/- What the law RowSays wants beside: cycles as the document finds them, text by signs. -/
namespace Go.KL
theorem lists_ext {a b : List (List Int)} (hl : a.length = b.length) (h : ∀ j, j < a.length → a.getD j [] = b.getD j []) : a = b := by
  refine List.ext_getElem hl fun j h1 h2 => ?_
  have := h j h1
  simpa [h1, h2] using this
theorem all_snocs {xs ys : List (List Int)} {k : Nat} (h : ∀ j, j < k → xs.getD j [] = ys.getD j []) (e : xs.getD k [] = ys.getD k []) : ∀ j, j < k + 1 → xs.getD j [] = ys.getD j [] := by
  intro j hj
  by_cases hjk : j = k
  · subst hjk; exact e
  · exact h j (by omega)
end Go.KL

/- Patterns of bells: the maths. -/
namespace Go.KL
theorem runsF_cons {s : ByteArray} {f p : Nat} (hp : p < s.size) (hf : s.size ≤ f + p) : runsF s f p = runM s p :: runsF s (f - 1) (p + wid s p) := by
  obtain ⟨f, rfl⟩ : ∃ g, f = g + 1 := ⟨f - 1, by omega⟩
  rw [runsF, if_pos hp]; rfl
/-! ### Signs -/
theorem run_m (s : ByteArray) (p : Nat) : runM s p = ((run1 s p : Nat) : Int) ∨ (runM s p = -1 ∧ run1 s p = 65533) := by
  unfold runM
  split
  · rename_i h; exact .inr ⟨rfl, h.1⟩
  · exact .inl rfl
/-! ### Ahead of the star and behind it -/
/-! ### What was seen -/
/-! ### Like a pattern -/
/-! ### Steps -/
/-! ### A pattern that may be -/
/-! ### The walks of Like and fits -/
end Go.KL

/- Results of which the first lies in a struct's variable. -/
namespace Go.KL
open Go.RowKit
variable {P : Program} {fn : Func} {σ0 σ : GW} {a : Act} {N d e f : Nat} {L : List Nat} {R : Value → GW → Prop}
end Go.KL

/- How many rows are like patterns. -/
namespace Go.KL
abbrev Ty.str (s : ByteArray) : Ty := Ty.val (.string s)
end Go.KL

/- Rows whose elements are structs of c cells. -/
namespace Go.KL
open Go.RowKit
variable {P : Program} {d : Option Tmp} {ty : TypeId} {pos : String} {af : Array Edge} {g : Option (Nat × Bool)} {a : Act} {σ : GW}
abbrev Ty.lstc {α : Type} (c : Nat) (F : α → List Ty) (xs : List α) : Ty := Ty.sl c xs.length (xs.flatMap F)
theorem flat_get {α : Type} {c : Nat} {F : α → List Ty} (hF : ∀ x, (F x).length = c) (dd : α) : ∀ {xs : List α} {i : Nat}, i < xs.length → ∀ j, j < c → (xs.flatMap F)[i * c + j]? = (F (xs.getD i dd))[j]?
  | [], i, h, _, _ => by simp at h
  | x :: xs, 0, _, j, hj => by
    rw [List.flatMap_cons, Nat.zero_mul, Nat.zero_add, List.getElem?_append_left (by rw [hF]; exact hj)]
    simp
  | x :: xs, i + 1, h, j, hj => by
    rw [List.flatMap_cons, List.getElem?_append_right (by rw [hF, Nat.succ_mul]; omega), hF, show (i + 1) * c + j - c = i * c + j by rw [Nat.succ_mul]; omega, flat_get hF dd (by simpa using h) j hj]
    simp
theorem y_indexc {α : Type} {c : Nat} {F : α → List Ty} {xs : List α} (dd : α) {x y : Operand} {t e : TypeId} {z : Value} {b : Nat} {k : IntKind} {i : Int} (ht : P.underlying t = some (.slice e)) (he : Info P e z c b)
    (hx : At (Ty.lstc c F xs) σ a x) (hy : a.eval y = .int k i) (h0 : 0 ≤ i) (h1 : i.toNat < xs.length) (hc : 0 < c) (hF : ∀ x, (F x).length = c) :
    Yld P ⟨d, .indexAddr t x y, ty, pos, af, g⟩ a σ (Ty.ref (F (xs.getD i.toNat dd))).pr :=
  y_indexAddr ht he hx hy h0 (by omega) hc (fun j hj => flat_get hF dd h1 j hj) (hF _)
/-! ### Patterns -/
end Go.KL

/- Plain maths: calls and touches. -/
namespace Go.KL
abbrev BCall := Int × List (List Int)
def callC (c : BCall) : List Ty := [Ty.val (.int .i32 c.1), Ty.rows c.2]
def signMay (c : Int) : Bool := decide (33 ≤ c ∧ c ≤ 12287 ∧ c ≠ 40 ∧ c ≠ 41 ∧ ¬ (48 ≤ c ∧ c ≤ 57) ∧ (c < 127 ∨ 160 < c))
/-! ### Which calls may be -/
def callStep (n : Int) (L : Nat) (pre : List Int) (c : BCall) : Int :=
  if signMay c.1 = false then 4 else if c.1 ∈ pre then 8 else if L < c.2.length then 1 else allMay n c.2
def callsTo (n : Int) (L : Nat) : List Int → List BCall → Int
  | _, [] => 0
  | pre, c :: cs => if callStep n L pre c ≠ 0 then callStep n L pre c else callsTo n L (pre ++ [c.1]) cs
def callsMay (nm : ByteArray) (n : Int) (l : List (List Int)) (cs : List BCall) : Int :=
  if methMay nm n l ≠ 0 then methMay nm n l else if cs.length < 1 ∨ 8 < cs.length then 1 else callsTo n l.length [] cs
abbrev D0 : BCall := (0, [])
theorem drop_consD {α : Type} (d : α) {l : List α} {k : Nat} (h : k < l.length) : l.drop k = l.getD k d :: l.drop (k + 1) := by
  rw [List.drop_eq_getElem_cons h]; simp [h]
theorem take_snocD {α : Type} (d : α) {l : List α} {k : Nat} (h : k < l.length) : l.take (k + 1) = l.take k ++ [l.getD k d] := by
  rw [List.take_add_one]; simp [h]
theorem calls_step {n : Int} {L : Nat} {cs : List BCall} {i : Nat} {e : Int} (h : callsTo n L ((cs.take i).map (·.1)) (cs.drop i) = e) (hi : i < cs.length) (hc : callStep n L ((cs.take i).map (·.1)) (cs.getD i D0) = 0) :
    callsTo n L ((cs.take (i + 1)).map (·.1)) (cs.drop (i + 1)) = e := by
  rw [drop_consD D0 hi, callsTo, if_neg (by rw [hc]; simp)] at h
  rw [take_snocD D0 hi, List.map_append]; exact h
theorem calls_stop {n : Int} {L : Nat} {cs : List BCall} {i : Nat} {e : Int} (h : callsTo n L ((cs.take i).map (·.1)) (cs.drop i) = e) (hi : i < cs.length) (hc : callStep n L ((cs.take i).map (·.1)) (cs.getD i D0) ≠ 0) :
    e = callStep n L ((cs.take i).map (·.1)) (cs.getD i D0) := by
  rw [drop_consD D0 hi, callsTo, if_pos hc] at h; exact h.symm
theorem calls_end {n : Int} {L : Nat} {cs : List BCall} {i : Nat} {e : Int} (h : callsTo n L ((cs.take i).map (·.1)) (cs.drop i) = e) (hi : cs.length ≤ i) : e = 0 := by
  rw [List.drop_eq_nil_of_le hi] at h; exact h.symm
structure CallsOk (nm : ByteArray) (n : Nat) (l : List (List Int)) (cs : List BCall) : Prop where
  meth : MethOk nm n l
  c1 : 1 ≤ cs.length
  c8 : cs.length ≤ 8
  short : ∀ i, i < cs.length → (cs.getD i D0).2.length ≤ l.length
  ok : ∀ i, i < cs.length → ∀ k, k < (cs.getD i D0).2.length → okL 0 ((cs.getD i D0).2.getD k []) n
theorem callStep_ok {n : Int} {L : Nat} {pre : List Int} {c : BCall} (h : callStep n L pre c = 0) : c.2.length ≤ L ∧ allMay n c.2 = 0 := by
  unfold callStep at h
  split at h
  · cases h
  · split at h
    · cases h
    · split at h
      · cases h
      · exact ⟨by omega, h⟩
theorem callsTo_ok {n : Int} {L : Nat} : ∀ {cs : List BCall} {pre : List Int}, callsTo n L pre cs = 0 → ∀ c ∈ cs, c.2.length ≤ L ∧ allMay n c.2 = 0
  | [], _, _, c, h => by simp at h
  | d :: cs, pre, h, c, hc => by
    rw [callsTo] at h
    split at h
    · rename_i h2; exact absurd h h2
    · rename_i h2
      rcases List.mem_cons.1 hc with e | e
      · subst e; exact callStep_ok (Classical.not_not.1 h2)
      · exact callsTo_ok h c e
theorem mem_getDD {α : Type} (d : α) {l : List α} {k : Nat} (h : k < l.length) : l.getD k d ∈ l := by
  rw [List.getD_eq_getElem?_getD, List.getElem?_eq_getElem h]; exact List.getElem_mem _
theorem callsMay_ok {nm : ByteArray} {n : Int} {l : List (List Int)} {cs : List BCall} (h : callsMay nm n l cs = 0) : CallsOk nm n.toNat l cs ∧ ((n.toNat : Nat) : Int) = n := by
  unfold callsMay at h
  split at h
  · rename_i h1; exact absurd h h1
  · rename_i h1
    split at h
    · omega
    · rename_i h2
      obtain ⟨m, hnm, hm⟩ := methMay_ok.1 (Classical.not_not.1 h1)
      have hn : n.toNat = m := by omega
      rw [hn]
      refine ⟨⟨hm, by omega, by omega, fun i hi => (callsTo_ok h _ (mem_getDD D0 hi)).1, fun i hi k hk => ?_⟩, by omega⟩
      have h3 := allMay_zero.1 (callsTo_ok h _ (mem_getDD D0 hi)).2 _ (mem_getDD [] hk)
      have h4 := okL_of_chgMay h3
      rwa [hnm] at h4
/-! ### The changes of a lead -/
def endsL (l : List (List Int)) (c : BCall) : List (List Int) := l.take (l.length - c.2.length) ++ c.2
theorem endsL_len {l : List (List Int)} {c : BCall} (h : c.2.length ≤ l.length) : (endsL l c).length = l.length := by
  unfold endsL; rw [List.length_append, List.length_take]; omega
theorem endsL_ok {n : Nat} {l : List (List Int)} {c : BCall} (h : c.2.length ≤ l.length) (hl : ∀ k, k < l.length → okL 0 (l.getD k []) n) (hc : ∀ k, k < c.2.length → okL 0 (c.2.getD k []) n) :
    ∀ k, k < (endsL l c).length → okL 0 ((endsL l c).getD k []) n := fun k hk => by
  rw [endsL_len h] at hk
  unfold endsL
  rw [List.getD_eq_getElem?_getD, List.getElem?_append]
  have htl : (l.take (l.length - c.2.length)).length = l.length - c.2.length := by rw [List.length_take]; omega
  by_cases e : k < l.length - c.2.length
  · rw [if_pos (by omega), List.getElem?_take_of_lt e, ← List.getD_eq_getElem?_getD]; exact hl k hk
  · rw [if_neg (by omega), htl, ← List.getD_eq_getElem?_getD]; exact hc _ (by omega)
/-! ### The rows of a touch -/
def leadE (l : List (List Int)) (cs : List BCall) (leads : List Int) (k : Nat) : List (List Int) := endsL l (cs.getD (leads.getD k 0).toNat D0)
def tHd (n : Nat) (l : List (List Int)) (cs : List BCall) (leads : List Int) : Nat → List Int
  | 0 => roundsL n
  | k + 1 => curL (tHd n l cs leads k) (leadE l cs leads k) l.length
def tRows (n : Nat) (l : List (List Int)) (cs : List BCall) (leads : List Int) : Nat → List (List Int)
  | 0 => [roundsL n]
  | k + 1 => tRows n l cs leads k ++ (fromL (tHd n l cs leads k) (leadE l cs leads k)).drop 1
def inCalls (cs : List BCall) (leads : List Int) : Prop := ∀ k, k < leads.length → 0 ≤ leads.getD k 0 ∧ leads.getD k 0 < cs.length
section
variable {nm : ByteArray} {n : Nat} {l : List (List Int)} {cs : List BCall} {leads : List Int}
theorem leadE_len (h : CallsOk nm n l cs) (hi : inCalls cs leads) {k : Nat} (hk : k < leads.length) : (leadE l cs leads k).length = l.length :=
  endsL_len (h.short _ (by have := hi k hk; omega))
theorem leadE_ok (h : CallsOk nm n l cs) (hi : inCalls cs leads) {k : Nat} (hk : k < leads.length) : ∀ j, j < (leadE l cs leads k).length → okL 0 ((leadE l cs leads k).getD j []) n :=
  have hb : (leads.getD k 0).toNat < cs.length := by have := hi k hk; omega
  endsL_ok (h.short _ hb) h.meth.ok (h.ok _ hb)
theorem curL_row' {r : List Int} {l : List (List Int)} (hr : IsRow r) (h : ∀ k, k < l.length → okL 0 (l.getD k []) r.length) : ∀ k, k ≤ l.length → IsRow (curL r l k) ∧ (curL r l k).length = r.length
  | 0, _ => ⟨hr, rfl⟩
  | k + 1, hk => by
    obtain ⟨h1, h2⟩ := curL_row' hr h k (by omega)
    have ho := h k (by omega)
    have hc := (ord_inv ho hr.pos hr.le).1
    rw [curL_succ _ l k (by omega), h2]
    exact ⟨byL_row h1 hc (by rw [h2, chgRow_len ho]), by rw [byL_len, chgRow_len ho]⟩
theorem tHd_row (h : CallsOk nm n l cs) (hi : inCalls cs leads) : ∀ k, k ≤ leads.length → IsRow (tHd n l cs leads k) ∧ (tHd n l cs leads k).length = n
  | 0, _ => ⟨roundsL_row (by have := h.meth.n1; omega) h.meth.n2, roundsL_len n⟩
  | k + 1, hk => by
    obtain ⟨h1, h2⟩ := tHd_row h hi k (by omega)
    have hc := curL_row' h1 (l := leadE l cs leads k) (by rw [h2]; exact leadE_ok h hi (by omega)) l.length (by rw [leadE_len h hi (by omega)]; exact Nat.le_refl _)
    exact ⟨hc.1, by rw [tHd, hc.2, h2]⟩
theorem tRows_len (h : CallsOk nm n l cs) (hi : inCalls cs leads) : ∀ k, k ≤ leads.length → (tRows n l cs leads k).length = k * l.length + 1
  | 0, _ => by simp [tRows]
  | k + 1, hk => by
    rw [tRows, List.length_append, tRows_len h hi k (by omega), List.length_drop, fromL, fromTo_len, leadE_len h hi (by omega), Nat.succ_mul]; omega
theorem fromL_getj {r : List Int} {l : List (List Int)} {j : Nat} (h : j ≤ l.length) : (fromL r l).getD j [] = curL r l j := by
  unfold fromL fromTo
  rw [List.getD_eq_getElem?_getD]; simp [show j < l.length + 1 by omega]
theorem tRows_last (h : CallsOk nm n l cs) (hi : inCalls cs leads) : ∀ k, k ≤ leads.length → (tRows n l cs leads k).getD (k * l.length) [] = tHd n l cs leads k
  | 0, _ => by simp [tRows, tHd]
  | k + 1, hk => by
    have hl1 := h.meth.l1
    have hll := leadE_len h hi (k := k) (by omega)
    rw [tRows, List.getD_eq_getElem?_getD, List.getElem?_append_right (by rw [tRows_len h hi k (by omega), Nat.succ_mul]; omega), tRows_len h hi k (by omega), List.getElem?_drop, ← List.getD_eq_getElem?_getD, tHd, Nat.succ_mul,
      show 1 + (k * l.length + l.length - (k * l.length + 1)) = l.length by omega, fromL_getj (by omega)]
end
/-! ### Which touches may be -/
def touchMay (nm : ByteArray) (n : Int) (l : List (List Int)) (cs : List BCall) (leads : List Int) : Int :=
  if callsMay nm n l cs ≠ 0 then callsMay nm n l cs else if leads.length < 1 ∨ 400 < leads.length then 1
  else if ∀ k, k < leads.length → 0 ≤ leads.getD k 0 ∧ leads.getD k 0 < cs.length then (if 20000 < leads.length * l.length then 3 else 0) else 12
theorem touchMay_ok {nm : ByteArray} {n : Int} {l : List (List Int)} {cs : List BCall} {leads : List Int} (h : touchMay nm n l cs leads = 0) :
    CallsOk nm n.toNat l cs ∧ ((n.toNat : Nat) : Int) = n ∧ 1 ≤ leads.length ∧ leads.length ≤ 400 ∧ inCalls cs leads ∧ leads.length * l.length ≤ 20000 := by
  unfold touchMay at h
  split at h
  · rename_i h1; exact absurd h h1
  · rename_i h1
    have h0 := callsMay_ok (Classical.not_not.1 h1)
    split at h
    · omega
    · split at h
      · rename_i h3
        split at h
        · omega
        · exact ⟨h0.1, h0.2, by omega, by omega, h3, by omega⟩
      · omega
theorem touchMay_calls {nm : ByteArray} {n : Int} {l : List (List Int)} {cs : List BCall} {leads : List Int} (h : callsMay nm n l cs ≠ 0) : touchMay nm n l cs leads = callsMay nm n l cs := by unfold touchMay; rw [if_pos h]
theorem touchMay_cnt {nm : ByteArray} {n : Int} {l : List (List Int)} {cs : List BCall} {leads : List Int} (h : callsMay nm n l cs = 0) (h2 : leads.length < 1 ∨ 400 < leads.length) : touchMay nm n l cs leads = 1 := by unfold touchMay; rw [if_neg (by omega), if_pos h2]
theorem touchMay_val {nm : ByteArray} {n : Int} {l : List (List Int)} {cs : List BCall} {leads : List Int} (h : callsMay nm n l cs = 0) (h2 : ¬ (leads.length < 1 ∨ 400 < leads.length)) {k : Nat} (hk : k < leads.length) (h3 : ¬ (0 ≤ leads.getD k 0 ∧ leads.getD k 0 < cs.length)) : touchMay nm n l cs leads = 12 := by
  unfold touchMay; rw [if_neg (by omega), if_neg h2, if_neg (fun h4 => h3 (h4 k hk))]
theorem touchMay_lim {nm : ByteArray} {n : Int} {l : List (List Int)} {cs : List BCall} {leads : List Int} (h : callsMay nm n l cs = 0) (h2 : ¬ (leads.length < 1 ∨ 400 < leads.length)) (h3 : ∀ k, k < leads.length → 0 ≤ leads.getD k 0 ∧ leads.getD k 0 < cs.length) (h4 : 20000 < leads.length * l.length) : touchMay nm n l cs leads = 3 := by
  unfold touchMay; rw [if_neg (by omega), if_neg h2, if_pos h3, if_pos h4]
theorem touchMay_yes {nm : ByteArray} {n : Int} {l : List (List Int)} {cs : List BCall} {leads : List Int} (h : callsMay nm n l cs = 0) (h2 : ¬ (leads.length < 1 ∨ 400 < leads.length)) (h3 : ∀ k, k < leads.length → 0 ≤ leads.getD k 0 ∧ leads.getD k 0 < cs.length) (h4 : ¬ 20000 < leads.length * l.length) : touchMay nm n l cs leads = 0 := by
  unfold touchMay; rw [if_neg (by omega), if_neg h2, if_pos h3, if_neg h4]
end Go.KL

/- Closures over one variable; slices.Grow of nothing; cuts of rows of structs. -/
namespace Go.KL
open Go.RowKit
variable {P : Program} {d : Option Tmp} {ty : TypeId} {pos : String} {af : Array Edge} {g : Option (Nat × Bool)} {a : Act} {σ : GW}
def Ty.clo (f : FuncId) (ts : List Ty) : Ty := ⟨fun σ v => ∃ p, v = .func (.func f) #[] #[p] ∧ (Ty.ref ts).has σ p, fun h ⟨p, e, hp⟩ => ⟨p, e, Ty.up _ h hp⟩⟩
theorem y_clo {f : FuncId} {ts : List Ty} {x : Operand} (hx : At (.ref ts) σ a x) : Yld P ⟨d, .makeFunc (.func f) #[] #[x], ty, pos, af, g⟩ a σ (Ty.clo f ts).pr :=
  Yld.of_run (v := .func (.func f) #[] #[a.eval x]) (by simp [execOp, Instr.makeFunc, Sem.run_bind]) ⟨_, rfl, hx⟩
theorem y_callv {f : FuncId} {fn : Func} {q : Operand} {xs : Array Operand} {tys : Array TypeId} {R : Ty} {ts : List Ty} (args : Value → Array Value) (hq : At (.clo f ts) σ a q) (hf : P.funcs[f]? = some fn) (hn : (fn.name == "runtime.NumGoroutine") = false) (hb : fn.body.isNone = false)
    (hargs : ∀ p, xs.map a.eval ++ #[p] = args p) (hc : ∀ p, (Ty.ref ts).has σ p → FnC P f (args p) σ R) :
    Yld P ⟨d, .call ⟨.value q, xs, tys⟩, ty, pos, af, g⟩ a σ R.pr := by
  intro K Q hk
  obtain ⟨p, e, hp⟩ := hq
  have hr : (execOp a.eval ⟨d, .call ⟨.value q, xs, tys⟩, ty, pos, af, g⟩).run P σ.w = .ok (.enter f (args p)) σ.w := by
    have hn' : ¬ fn.name = "runtime.NumGoroutine" := by simpa using hn
    have hb' : ¬ fn.body = none := by intro e; simp [e] at hb
    rw [← hargs p]
    simp only [execOp, resolve, e]
    simp [Deferred.ofValue, invoke, callFunc, hf, hn', hb', program, Sem.run, Sem.run_bind]
  unfold Oper.wp
  rw [hr]
  refine Calls.mono (hc p hp) ?_
  rintro e w' ⟨v, τ, rfl, hs, rfl, hv⟩
  exact hk v τ hs hv
/-! ### slices.Grow of nothing -/
theorem y_capnil {x : Operand} {t e : TypeId} (ht : P.underlying t = some (.slice e)) (hx : At (.val (.slice none 0 0)) σ a x) :
    Yld P ⟨d, .call ⟨.builtin .cap, #[x], #[t]⟩, ty, pos, af, g⟩ a σ (Ty.int ((0 : Nat) : Int)).pr :=
  Yld.of_run (v := .int .i64 0) (run_builtin1 hx (fun cs => by simp [builtin, Builtin.cap_, run_underlying ht, goInt])) rfl
theorem y_slicenil {x y : Operand} {t e : TypeId} {z : Value} {b c : Nat} {ki : IntKind} (ht : P.underlying t = some (.slice e)) (he : Info P e z c b) (hx : At (.val (.slice none 0 0)) σ a x) (hy : a.eval y = .int ki ((0 : Nat) : Int)) :
    Yld P ⟨d, .slice t x none (some y) none, ty, pos, af, g⟩ a σ (Ty.val (.slice none 0 0)).pr := by
  refine Yld.of_run (v := sliced none 0 0 0 c) ?_ ?_
  · have h1 := run_slice_h (P := P) σ.w t none 0 0 (elem_of ht) ki ((0 : Nat) : Int) (by omega) (by omega)
    rw [elem_eq ht, he.size] at h1
    have hx' : a.eval x = .slice none 0 0 := hx
    simp only [execOp, hx', hy, Option.map_some, Option.map_none, Sem.run_bind, run_sliceAt_slice σ.w t _ _ _ _ (elem_of ht), h1, Result.andThen_ok, Sem.run_pure, Int.toNat_natCast]
  · show sliced none 0 0 0 c = _
    unfold sliced; simp
theorem m_appendn {k : Nat} {t u e : TypeId} {z : Value} {by_ : Nat} {x y : Operand} {n : Nat} {ki : IntKind} {T : Ty} (ht : P.underlying t = some (.slice e)) (hu : P.underlying u = some (.int ki)) (he : Info P e z 1 by_) (hz : z.cells = #[z]) (hT : ∀ σ, T.has σ z)
    (hx : At (.val (.slice none 0 0)) σ a x) (hy : a.eval y = .int .i64 ((n : Nat) : Int)) (hn : 1 ≤ n) (hlen : n ≤ 9223372036854775807) (hb : n * by_ ≤ 140737488355328) :
    YldM k P ⟨d, .call ⟨.builtin .append, #[x, y], #[t, u]⟩, ty, pos, af, g⟩ a σ (fun v τ => Own τ k e 1 v n (List.replicate n T)) := by
  intro K Q hk'
  obtain ⟨i, hi, hi1, hi2, rfl⟩ := he.get
  have hx' : a.eval x = .slice none 0 0 := hx
  have hcap : grownCap σ.w n 0 e ≥ n := grownCap_ge σ.w n 0 e
  have hcm : grownCap σ.w n 0 e ≤ maxLen := grownCap_le_maxLen σ.w n 0 e hlen
  have hr : (Builtin.append_ #[t, u] ty #[.slice none 0 0, .int .i64 ((n : Nat) : Int)]).run P σ.w = .ok (.slice (some ⟨σ.w.heap.size, 0, none⟩) n (grownCap σ.w n 0 e)) (σ.w.drew.alloc (.cells (Builtin.zeroCells z.cells n ++ Builtin.zeroCells z.cells (grownCap σ.w n 0 e - n)) e)) := by
    have h0 : n ≠ 0 := by omega
    have hw : IntKind.i64.wrap ((n : Nat) : Int) = n := w64 (by omega) (by omega)
    have h1 : ¬ ((n : Nat) : Int) < 0 := by omega
    have h2 : ¬ (281474976710656 < ((n : Nat) : Int) * (i.bytes : Int)) := by
      have h3 : ((n * i.bytes : Nat) : Int) ≤ 281474976710656 := by omega
      rw [Int.natCast_mul] at h3; omega
    have h48 : ¬ (281474976710656 < Builtin.nextslicecap n 0 * i.bytes) := by rw [nextslicecap_zero (by omega)]; omega
    have h63 : ¬ (9223372036854775807 < (n : Int)) := by omega
    simp [Builtin.append_, run_underlying ht, run_underlying hu, sizeOf, typeInfo, zeroValue, hi, hi1, hi2, asInt, asIntOf, hw, h1, h2, h0, h48, h63, Question.forced, run_firstCells_none, newRow, grownCap]
  have hr' : (execOp a.eval ⟨d, .call ⟨.builtin .append, #[x, y], #[t, u]⟩, ty, pos, af, g⟩).run P σ.w = .ok (.value (.slice (some ⟨σ.w.heap.size, 0, none⟩) n (grownCap σ.w n 0 e))) (σ.w.drew.alloc (.cells (Builtin.zeroCells z.cells n ++ Builtin.zeroCells z.cells (grownCap σ.w n 0 e - n)) e)) := by
    simp only [execOp, resolve, Sem.run_bind, Sem.run_pure, Result.andThen_ok, invoke, List.map_toArray, List.map_cons, List.map_nil, builtin, hx', hy, hr]
  unfold Oper.wp
  rw [hr']
  have hstp : Stp 0 σ (σ.drew.mk' k (.cells (Builtin.zeroCells z.cells n ++ Builtin.zeroCells z.cells (grownCap σ.w n 0 e - n)) e)) := (Stp.drew σ).trans (Stp.mk' σ.drew k _)
  have hzl : (Builtin.zeroCells z.cells n).toList = List.replicate n z := by
    rw [hz]; unfold Builtin.zeroCells
    refine List.ext_getElem (by simp) fun j h1 h2 => ?_
    simp [Nat.mod_one]
  refine hk' _ _ hstp.of0 (Own.intro (us := List.replicate n z) (heap_alloc_new σ.w.drew _) (by show (if _ = _ then k else _) = k; rw [if_pos]; rfl) hcap hcm ?_ ?_ (by simp) ?_)
  · simp only [Array.size_append, size_zeroCells, hz]; simp; omega
  · simp only [Array.toList_append, hzl]
    rw [List.take_append_of_le_length (by simp)]; simp
  · intro j U u hU hu
    simp only [List.getElem?_replicate] at hU hu
    split at hU
    · cases hU; rw [if_pos (by assumption)] at hu; cases hu; exact hT _
    · cases hU
/-! ### Cuts of rows of structs -/
theorem flat_take {α : Type} {c : Nat} {F : α → List Ty} (hF : ∀ x, (F x).length = c) : ∀ (xs : List α) (h : Nat), (xs.flatMap F).take (h * c) = (xs.take h).flatMap F
  | [], h => by simp
  | x :: xs, 0 => by simp
  | x :: xs, h + 1 => by
    rw [List.flatMap_cons, List.take_succ_cons, List.flatMap_cons, List.take_append, hF, ← flat_take hF xs h, List.take_of_length_le (by rw [hF, Nat.succ_mul]; omega), Nat.succ_mul, Nat.add_sub_cancel]
theorem y_takec {α : Type} {c : Nat} {F : α → List Ty} {xs : List α} {x y : Operand} {t e : TypeId} {z : Value} {b : Nat} {k : IntKind} {l : Nat} (ht : P.underlying t = some (.slice e)) (he : Info P e z c b) (hx : At (Ty.lstc c F xs) σ a x) (hy : a.eval y = .int k l) (hl : l ≤ xs.length) (hF : ∀ x, (F x).length = c) :
    Yld P ⟨d, .slice t x none (some y) none, ty, pos, af, g⟩ a σ (Ty.lstc c F (xs.take l)).pr := (y_cut_h ht he hx hy hl).mono fun _ _ h => by
  rw [flat_take hF] at h
  show (Ty.sl c (xs.take l).length ((xs.take l).flatMap F)).has _ _
  rwa [show (xs.take l).length = l by simp [Nat.min_eq_left hl]]
/-! ### Signs of calls -/
theorem getD_fst (cs : List BCall) (j : Nat) : (cs.map (·.1)).getD j 0 = (cs.getD j D0).1 := by
  rw [List.getD_eq_getElem?_getD, List.getD_eq_getElem?_getD, List.getElem?_map]
  cases cs[j]? <;> rfl
theorem idxC_yes {cs : List BCall} {s : Int} {k : Nat} (hk : k < cs.length) (h : (cs.getD k D0).1 = s) (hno : ∀ j, j < k → (cs.getD j D0).1 ≠ s) : indexL (cs.map (·.1)) s = k :=
  indexL_yes (by rw [List.length_map]; exact hk) (by rw [getD_fst]; exact h.symm) (fun j hj => by rw [getD_fst]; exact hno j hj)
theorem idxC_no {cs : List BCall} {s : Int} (hno : ∀ j, j < cs.length → (cs.getD j D0).1 ≠ s) : indexL (cs.map (·.1)) s = -1 :=
  indexL_no (fun j hj => by rw [getD_fst]; rw [List.length_map] at hj; exact hno j hj)
theorem step_sign {n : Int} {L : Nat} {pre : List Int} {c : BCall} (h : signMay c.1 = false) : callStep n L pre c = 4 := by unfold callStep; rw [if_pos h]
theorem step_dbl {n : Int} {L : Nat} {pre : List Int} {c : BCall} (h : signMay c.1 = true) (h2 : c.1 ∈ pre) : callStep n L pre c = 8 := by unfold callStep; rw [if_neg (by rw [h]; simp), if_pos h2]
theorem step_long {n : Int} {L : Nat} {pre : List Int} {c : BCall} (h : signMay c.1 = true) (h2 : c.1 ∉ pre) (h3 : L < c.2.length) : callStep n L pre c = 1 := by unfold callStep; rw [if_neg (by rw [h]; simp), if_neg h2, if_pos h3]
theorem step_all {n : Int} {L : Nat} {pre : List Int} {c : BCall} (h : signMay c.1 = true) (h2 : c.1 ∉ pre) (h3 : ¬ L < c.2.length) : callStep n L pre c = allMay n c.2 := by unfold callStep; rw [if_neg (by rw [h]; simp), if_neg h2, if_neg h3]
theorem calls_at {n : Int} {L : Nat} {cs : List BCall} {i : Nat} {e v : Int} (h : callsTo n L ((cs.take i).map (·.1)) (cs.drop i) = e) (hi : i < cs.length) (hs : callStep n L ((cs.take i).map (·.1)) (cs.getD i D0) = v) (hv : v ≠ 0) : e = v := by
  rw [calls_stop h hi (by rw [hs]; exact hv), hs]
theorem callsMay_meth {nm : ByteArray} {n : Int} {l : List (List Int)} {cs : List BCall} (h : methMay nm n l ≠ 0) : callsMay nm n l cs = methMay nm n l := by unfold callsMay; rw [if_pos h]
theorem callsMay_cnt {nm : ByteArray} {n : Int} {l : List (List Int)} {cs : List BCall} (h : ¬ methMay nm n l ≠ 0) (h2 : cs.length < 1 ∨ 8 < cs.length) : callsMay nm n l cs = 1 := by unfold callsMay; rw [if_neg h, if_pos h2]
theorem callsMay_all {nm : ByteArray} {n : Int} {l : List (List Int)} {cs : List BCall} (h : ¬ methMay nm n l ≠ 0) (h2 : ¬ (cs.length < 1 ∨ 8 < cs.length)) : callsMay nm n l cs = callsTo n l.length [] cs := by unfold callsMay; rw [if_neg h, if_neg h2]
theorem flatten_le {α : Type} (xss : List (List α)) (k : Nat) : (xss.take k).flatten.length ≤ xss.flatten.length := by
  have h := congrArg (fun l : List (List α) => l.flatten.length) (List.take_append_drop k xss)
  simp only [List.flatten_append, List.length_append] at h
  omega
theorem flatten_succ {α : Type} {xss : List (List α)} {k : Nat} (h : k < xss.length) : (xss.take (k + 1)).flatten = (xss.take k).flatten ++ xss.getD k [] := by
  rw [take_snocD [] h, List.flatten_append]; simp
end Go.KL

/- Plain maths: is a touch true? -/
namespace Go.KL
end Go.KL
namespace Go.KL
theorem getD_takeD {α : Type} (d : α) {l : List α} {m k : Nat} (h : k < m) : (l.take m).getD k d = l.getD k d := by
  rw [List.getD_eq_getElem?_getD, List.getD_eq_getElem?_getD, List.getElem?_take_of_lt h]
end Go.KL

/- Rows that share an array: 'append' leaves alone what is ahead. -/
namespace Go.KL
open Go.RowKit
variable {P : Program}

variable {d : Option Tmp} {ty : TypeId} {pos : String} {af : Array Edge} {g : Option (Nat × Bool)} {a : Act} {σ : GW}

end Go.KL

/- 'append' to a fresh empty row, in any order with what stands beside it. -/
namespace Go.KL
open Go.RowKit
variable {P : Program}

theorem own_append0 {σ : GW} {k : Nat} {t ty e : TypeId} {z : Value} {c by_ : Nat} {v src : Value} {n m : Nat} {ts us : List Ty} (hk : 2 ≤ k) (ht : P.underlying t = some (.slice e)) (he : Info P e z c by_) (hz : z.cells.size = c) (hc : 0 < c)
    (h : Own σ k e c v n ts) (hx : (Ty.sl c m us).has σ src) (h1 : ∀ U, U ∈ us → One U) (hlen : n + m ≤ 9223372036854775807) (hbytes : (n + m) * by_ ≤ 140737488355328) (hv0 : ∃ ad, v = .slice ad n 0) :
    ∃ v' τ, (Builtin.append_ #[t, t] ty #[v, src]).run P σ.w = .ok v' τ.w ∧ Stp 0 σ τ ∧ Own τ k e c v' (n + m) (ts ++ us) := by
  have h0 := h
  obtain ⟨vs, r1, r2, r3, r4⟩ := h
  obtain ⟨ad, cap0, b, o, rfl, hcap0, hl, hs, hcl⟩ := hx
  obtain ⟨i, hi, hi1, rfl, rfl⟩ := he.get
  obtain ⟨ws, w1, w2, w3⟩ := sl_news hcl
  have hone : ∀ u ∈ ws, u.oneCell' = true := fun u hu => by
    obtain ⟨j, hj⟩ := List.mem_iff_getElem?.1 hu
    obtain ⟨T, hT⟩ : ∃ T, us[j]? = some T := ⟨us[j]'(by rw [← w1]; exact (List.getElem?_eq_some_iff.1 hj).1), by simp⟩
    exact h1 T (List.mem_of_getElem? hT) σ u (w3 j T u hT hj)
  have hlw : ws.length = m * i.size := by rw [w1]; exact hl
  have hl' : (vs ++ ws).length = (ts ++ us).length := by simp [r2, w1]
  -- a new array
  have new : ∀ (old : Nat) (τw : World), old < n + m → τw = σ.w.drew.alloc (.cells (vs.toArray ++ ws.toArray ++ Builtin.zeroCells z.cells (grownCap σ.w (n + m) old e - (n + m))) e) →
      ∃ τ : GW, τ.w = τw ∧ Stp 0 σ τ ∧ Own τ k e i.size (.slice (some ⟨σ.w.heap.size, 0, none⟩) (n + m) (grownCap σ.w (n + m) old e)) (n + m) (ts ++ us) := by
    intro old τw _ hτ
    subst hτ
    have hge := grownCap_ge σ.w (n + m) old e
    have hcm : grownCap σ.w (n + m) old e ≤ maxLen := grownCap_le_maxLen σ.w (n + m) old e hlen
    have hstp : Stp 0 σ (σ.drew.mk' k (.cells (vs.toArray ++ ws.toArray ++ Builtin.zeroCells z.cells (grownCap σ.w (n + m) old e - (n + m))) e)) := (Stp.drew σ).trans (Stp.mk' σ.drew k _)
    refine ⟨_, rfl, hstp, Own.intro (us := vs ++ ws) (heap_alloc_new σ.w.drew _) (by show (if _ = _ then k else _) = k; rw [if_pos]; rfl) hge hcm ?_ ?_ hl' ?_⟩
    · simp only [Array.size_append, List.size_toArray, size_zeroCells, hz, r1.1, hlw, ← Nat.add_mul]
      congr 1; omega
    · simp only [Array.toList_append, List.append_assoc]
      rw [← List.append_assoc, show (n + m) * i.size = (vs ++ ws).length by rw [List.length_append, r1.1, hlw, Nat.add_mul]]
      exact List.take_left
    · exact typed_append r2 (fun j T u hT hu => T.up hstp.le0 (r3 j T u hT hu)) (fun j T u hT hu => T.up hstp.le0 (w3 j T u hT hu))
  rcases r1.2 with ⟨rfl, rfl⟩ | ⟨g, cap, cur, rfl, _, hg, hn, hm, hcs, htk⟩
  · have hvs : vs = [] := List.eq_nil_of_length_eq_zero (by rw [r1.1]; simp)
    by_cases hm0 : m = 0
    · subst hm0
      have hus : us = [] := List.eq_nil_of_length_eq_zero (by rw [hl]; simp)
      subst hus
      refine ⟨.slice none 0 0, σ, ?_, Stp.refl _ _, by simpa using h0⟩
      cases ad <;> simp [Builtin.append_, run_underlying ht, sizeOf, typeInfo, hi, Builtin.lenOf, Builtin.firstCells, loadCells, loadCellsFrom]
    · have hus : us ≠ [] := by
        intro e; subst e
        have : 0 < m * i.size := Nat.mul_pos (by omega) hc
        simp only [List.length_nil] at hl
        omega
      obtain ⟨rfl, hst⟩ := hs.resolve_left hus
      have hr := run_append_nil (P := P) σ.w t ty e i z ht hi hi1 ⟨b, o, none⟩ m cap0 ws hlw (fun j u hj => by rw [Addr.add_lit]; exact w2 j u hj) (by omega) (by omega) (by simp only [Nat.zero_add] at hbytes; omega)
      obtain ⟨τ, e1, e2, e3⟩ := new 0 _ (by omega) rfl
      simp only [Nat.zero_add] at e1 e3 ⊢
      exact ⟨_, τ, by rw [hr, e1, hvs]; simp, e2, e3⟩
  · have hlt : g < σ.w.heap.size := (Array.getElem?_eq_some_iff.1 hg).1
    have hgk := r4 g rfl
    by_cases hnone : ad = none
    · subst hnone
      have hus : us = [] := hs.resolve_right (fun h => by cases h.1)
      have hm0 : m = 0 := by
        subst hus
        rcases Nat.eq_zero_or_pos m with h | h
        · exact h
        · have : 0 < m * i.size := Nat.mul_pos h hc
          simp only [List.length_nil] at hl
          omega
      subst hm0; subst hus
      refine ⟨_, σ, ?_, Stp.refl _ _, by simpa using h0⟩
      simp [Builtin.append_, run_underlying ht, sizeOf, typeInfo, hi, Builtin.lenOf, Builtin.firstCells, hn, storeCells, loadCells]
    · obtain ⟨ad', rfl⟩ := Option.ne_none_iff_exists'.1 hnone
      have hnews : ∀ (j : Nat) (u : Value), ws[j]? = some u → σ.w.cell? (ad'.add j) = some u := fun j u hj => by
        rcases hs with rfl | ⟨he', _⟩
        · have : ws = [] := List.eq_nil_of_length_eq_zero w1
          subst this; simp at hj
        · cases he'; rw [Addr.add_lit]; exact w2 j u hj
      have hcap : cap = 0 := by
        obtain ⟨ad0, e0⟩ := hv0
        cases e0; rfl
      by_cases hroom : n + m ≤ cap
      · have hm0 : m = 0 := by omega
        have hn0 : n = 0 := by omega
        have hfit : n * i.size + ws.length ≤ cur.size := by rw [hlw, hcs, ← Nat.add_mul]; exact Nat.mul_le_mul_right _ hroom
        have hr := run_append_room (P := P) σ.w t ty e i ht hi g n cap cur hg ad' m cap0 ws hlw hnews hone hroom hfit
        have hc0 : cur.size = 0 := by rw [hcs, hcap, Nat.zero_mul]
        have hw0 : ws = [] := List.eq_nil_of_length_eq_zero (by rw [hlw, hm0, Nat.zero_mul])
        have hcur : (cur.toList.take (n * i.size) ++ ws ++ cur.toList.drop (n * i.size + ws.length)).toArray = cur := by
          have : cur = #[] := Array.eq_empty_of_size_eq_zero hc0
          subst this; subst hw0; simp
        rw [hcur] at hr
        have hstp : Stp 0 σ (σ.setRow g cur) := ⟨rfl, rfl, rfl, Nat.le_refl _, by simp [GW.setRow, World.setRow], fun b hb _ => by
          by_cases e : b = g
          · subst e; rw [hg]; exact setRow_heap σ.w b cur cur _ (0, 0) hg
          · exact setRow_other σ.w g b cur e, fun _ _ _ => rfl⟩
        refine ⟨_, _, hr, hstp, Own.intro (us := vs ++ ws) (setRow_heap σ.w g cur _ e (0, 0) hg) hgk hroom hm hcs ?_ hl' ?_⟩
        · rw [hw0, List.append_nil, hm0, Nat.add_zero]; exact htk
        · exact typed_append r2 (fun j T u hT hu => T.up hstp.le0 (r3 j T u hT hu)) (fun j T u hT hu => T.up hstp.le0 (w3 j T u hT hu))
      · have holds : ∀ (j : Nat) (u : Value), vs[j]? = some u → σ.w.cell? ((⟨g, 0, none⟩ : Addr).add j) = some u := r1.cells (g := g) rfl
        have hr := run_append_grow (P := P) σ.w t ty e i z ht hi hi1 ⟨g, 0, none⟩ n cap vs r1.1 holds ad' m cap0 ws hlw hnews (by omega) (by omega) (growslice_fits (by omega) hbytes)
        obtain ⟨τ, e1, e2, e3⟩ := new cap _ (by omega) rfl
        exact ⟨_, τ, by rw [hr, e1], e2, e3⟩


variable {d : Option Tmp} {ty : TypeId} {pos : String} {af : Array Edge} {g : Option (Nat × Bool)} {a : Act} {σ : GW}
def Pr.own0 (k : Nat) (e : TypeId) : Pr := ⟨fun σ v => Own σ k e 1 v 0 [] ∧ ∃ ad, v = .slice ad 0 0, fun hs h => ⟨h.1.keep hs (by decide) (.inl rfl), h.2⟩⟩
theorem y_lit00 {k : Nat} {t e : TypeId} {z : Value} {b : Nat} (ht : P.underlying t = some (.slice e)) (he : Info P e z 1 b) :
    Yld P ⟨d, .buildSlice t 0 #[], ty, pos, af, g⟩ a σ (Pr.own0 k e) := by
  intro K Q hk
  have hr : (execOp a.eval ⟨d, .buildSlice t 0 #[], ty, pos, af, g⟩).run P σ.w = .ok (.value (.slice (some ⟨σ.w.heap.size, 0, none⟩) 0 0)) (σ.w.alloc (.cells #[] e)) := by
    simp only [execOp, List.map_toArray, List.map_nil]
    simp [Instr.buildSlice, run_underlying ht, he.size, Instr.fill, newRow, newObj, Sem.run, Sem.run_bind, Array.range_zero']
  unfold Oper.wp
  rw [hr]
  exact hk _ (σ.mk' k (.cells #[] e)) (Stp.mk' σ k _) ⟨Own.intro (us := []) (heap_alloc_new σ.w _) (by show (if _ = _ then k else _) = k; rw [if_pos rfl]) (Nat.le_refl _) (Nat.zero_le _) rfl rfl rfl (fun j T u h => by simp at h), _, rfl⟩
theorem y_append0 {k : Nat} {t e : TypeId} {z : Value} {by_ : Nat} {x y : Operand} {m : Nat} {us : List Ty} (ht : P.underlying t = some (.slice e)) (he : Info P e z 1 by_) (hk : 2 ≤ k) (hz : z.cells.size = 1)
    (h : (Pr.own0 k e).has σ (a.eval x)) (hx : At (.sl 1 m us) σ a y) (h1 : ∀ U, U ∈ us → One U) (hlen : m ≤ 9223372036854775807) (hbytes : m * by_ ≤ 140737488355328) :
    Yld P ⟨d, .call ⟨.builtin .append, #[x, y], #[t, t]⟩, ty, pos, af, g⟩ a σ (Pr.own k e 1 m us) := by
  intro K Q hk'
  obtain ⟨v', τ, hr, hs, ho⟩ := own_append0 (ty := ty) hk ht he hz (by decide) h.1 hx h1 (by omega) (by rw [Nat.zero_add]; exact hbytes) h.2
  have hr' : (execOp a.eval ⟨d, .call ⟨.builtin .append, #[x, y], #[t, t]⟩, ty, pos, af, g⟩).run P σ.w = .ok (.value v') τ.w := by
    simp only [execOp, resolve, Sem.run_bind, Sem.run_pure, Result.andThen_ok, invoke, List.map_toArray, List.map_cons, List.map_nil, builtin, hr]
  unfold Oper.wp
  rw [hr']
  exact hk' v' τ hs (by rw [Nat.zero_add, List.nil_append] at ho; exact ho)
end Go.KL

/- Touches that are read. -/
namespace Go.KL
abbrev sgOf (cs : List BCall) : List Int := cs.map (·.1)
structure NumP where
  err : Int
  n : Int
  some : Bool
  rest : List Int
def numR : Int → Bool → List Int → NumP
  | n, b, [] => ⟨0, n, b, []⟩
  | n, b, c :: r => if 48 ≤ c ∧ c ≤ 57 then (if n * 10 + c - 48 = 0 ∨ 99 < n * 10 + c - 48 then ⟨12, 0, true, r⟩ else numR (n * 10 + c - 48) true r) else ⟨0, n, b, c :: r⟩
structure ItP where
  err : Int
  out : List Int
  rest : List Int
def repL (n : Nat) (one : List Int) : List Int := (List.replicate n one).flatten
def rpM (n : Int) (one r : List Int) : ItP := if 400 < n * one.length then ⟨3, [], []⟩ else ⟨0, repL n.toNat one, r⟩
def oneM (sg : List Int) (F : Nat → List Int → List Int → ItP) (deep : Nat) (r : List Int) : ItP :=
  if r.getD 0 0 = 40 then
    (if deep = 6 then ⟨13, [], []⟩ else if (F (deep + 1) [] (r.drop 1)).err ≠ 0 then ⟨(F (deep + 1) [] (r.drop 1)).err, [], []⟩
    else if (F (deep + 1) [] (r.drop 1)).rest = [] then ⟨5, [], []⟩ else if (F (deep + 1) [] (r.drop 1)).out = [] then ⟨4, [], []⟩
    else ⟨0, (F (deep + 1) [] (r.drop 1)).out, (F (deep + 1) [] (r.drop 1)).rest.drop 1⟩)
  else if r.getD 0 0 ∉ sg ∨ r.getD 0 0 < 0 then ⟨4, [], []⟩ else ⟨0, [indexL sg (r.getD 0 0)], r.drop 1⟩
def timesM (x : NumP) : Int := if x.some = true then x.n else 1
def itemM (sg : List Int) (F : Nat → List Int → List Int → ItP) (deep : Nat) (rest : List Int) : ItP :=
  if (numR 0 false rest).err ≠ 0 then ⟨12, [], []⟩ else if (numR 0 false rest).rest = [] then ⟨5, [], []⟩
  else if (oneM sg F deep (numR 0 false rest).rest).err ≠ 0 then ⟨(oneM sg F deep (numR 0 false rest).rest).err, [], []⟩
  else rpM (timesM (numR 0 false rest)) (oneM sg F deep (numR 0 false rest).rest).out (oneM sg F deep (numR 0 false rest).rest).rest
def itemsM (sg : List Int) : Nat → Nat → List Int → List Int → ItP
  | 0, _, out, rest => ⟨0, out, rest⟩
  | f + 1, deep, out, rest =>
    if rest = [] ∨ rest.getD 0 0 = 41 then ⟨0, out, rest⟩
    else if (itemM sg (itemsM sg f) deep rest).err ≠ 0 then ⟨(itemM sg (itemsM sg f) deep rest).err, [], []⟩
    else if 400 < (out ++ (itemM sg (itemsM sg f) deep rest).out).length then ⟨3, [], []⟩
    else itemsM sg f deep (out ++ (itemM sg (itemsM sg f) deep rest).out) (itemM sg (itemsM sg f) deep rest).rest
section
variable {sg : List Int}
/-! What is left is a tail. -/
theorem numR_tail : ∀ (r : List Int) (n : Int) (b : Bool), (numR n b r).err = 0 → ∃ k, k ≤ r.length ∧ (numR n b r).rest = r.drop k
  | [], n, b, _ => ⟨0, Nat.le_refl _, rfl⟩
  | c :: r, n, b, h => by
    rw [numR] at h ⊢
    split
    · split
      · rename_i h1 h2; rw [if_pos h1, if_pos h2] at h; cases h
      · rename_i h1 h2
        rw [if_pos h1, if_neg h2] at h
        obtain ⟨k, h3, h4⟩ := numR_tail r _ _ h
        exact ⟨k + 1, by rw [List.length_cons]; omega, by rw [h4, List.drop_succ_cons]⟩
    · exact ⟨0, Nat.zero_le _, rfl⟩
def Tail (a r : List Int) : Prop := ∃ k, k ≤ r.length ∧ a = r.drop k
theorem Tail.refl (r : List Int) : Tail r r := ⟨0, Nat.zero_le _, rfl⟩
theorem Tail.trans {a b c : List Int} (h : Tail a b) (k : Tail b c) : Tail a c := by
  obtain ⟨i, h1, rfl⟩ := h
  obtain ⟨j, h2, rfl⟩ := k
  rw [List.length_drop] at h1
  exact ⟨j + i, by omega, by rw [List.drop_drop]⟩
theorem Tail.drop1 {a r : List Int} (h : Tail a r) (hne : a ≠ []) : Tail (a.drop 1) r ∧ (a.drop 1).length < r.length := by
  obtain ⟨i, h1, rfl⟩ := h
  have hl : (r.drop i).length ≠ 0 := fun e => hne (List.eq_nil_of_length_eq_zero e)
  rw [List.length_drop] at hl
  rw [List.drop_drop]
  exact ⟨⟨i + 1, by omega, rfl⟩, by rw [List.length_drop]; omega⟩
theorem rpM_rest {n : Int} {one r : List Int} (h : (rpM n one r).err = 0) : (rpM n one r).rest = r ∧ (rpM n one r).out = repL n.toNat one ∧ ¬ 400 < n * one.length := by
  unfold rpM at h ⊢
  split at h
  · cases h
  · rename_i h2; rw [if_neg h2]; exact ⟨rfl, rfl, h2⟩
theorem oneM_tail {F : Nat → List Int → List Int → ItP} (hF : ∀ d o r, (F d o r).err = 0 → Tail (F d o r).rest r) {deep : Nat} {r : List Int} (hne : r ≠ []) (h : (oneM sg F deep r).err = 0) : Tail (oneM sg F deep r).rest r ∧ (oneM sg F deep r).rest.length < r.length := by
  obtain ⟨t1, t2⟩ := Tail.drop1 (Tail.refl r) hne
  unfold oneM at h ⊢
  split at h
  · rename_i h3
    rw [if_pos h3]
    split at h
    · cases h
    rename_i h4
    rw [if_neg h4]
    split at h
    · rename_i h5; exact absurd h h5
    rename_i h5
    rw [if_neg h5]
    have h5 := Classical.not_not.1 h5
    split at h
    · cases h
    rename_i h6
    rw [if_neg h6]
    split at h
    · cases h
    rename_i h7
    rw [if_neg h7]
    obtain ⟨t3, t4⟩ := Tail.drop1 (hF _ _ _ h5) h6
    exact ⟨t3.trans t1, by show ((F (deep + 1) [] (r.drop 1)).rest.drop 1).length < _; omega⟩
  · rename_i h3
    rw [if_neg h3]
    split at h
    · cases h
    rename_i h4
    rw [if_neg h4]
    exact ⟨t1, t2⟩
theorem itemM_tail {F : Nat → List Int → List Int → ItP} (hF : ∀ d o r, (F d o r).err = 0 → Tail (F d o r).rest r) {deep : Nat} {rest : List Int} (h : (itemM sg F deep rest).err = 0) : Tail (itemM sg F deep rest).rest rest ∧ (itemM sg F deep rest).rest.length < rest.length := by
  unfold itemM at h ⊢
  split at h
  · cases h
  rename_i h1
  rw [if_neg h1]
  have h1 := Classical.not_not.1 h1
  have ht : Tail (numR 0 false rest).rest rest := numR_tail rest 0 false h1
  split at h
  · cases h
  rename_i h2
  rw [if_neg h2]
  split at h
  · rename_i h3; exact absurd h h3
  rename_i h3
  rw [if_neg h3]
  have h3 := Classical.not_not.1 h3
  rw [(rpM_rest h).1]
  obtain ⟨t1, t2⟩ := oneM_tail hF h2 h3
  refine ⟨t1.trans ht, ?_⟩
  obtain ⟨k, hk, e⟩ := ht
  rw [e] at t2
  rw [List.length_drop] at t2
  rw [e]; omega
theorem itemsM_tail : ∀ (f deep : Nat) (out rest : List Int), (itemsM sg f deep out rest).err = 0 → Tail (itemsM sg f deep out rest).rest rest
  | 0, _, _, rest, _ => Tail.refl _
  | f + 1, deep, out, rest, h => by
    rw [itemsM] at h ⊢
    split at h
    · rename_i h1; rw [if_pos h1]; exact Tail.refl _
    rename_i h1
    rw [if_neg h1]
    split at h
    · rename_i h2; exact absurd h h2
    rename_i h2
    rw [if_neg h2]
    have h2 := Classical.not_not.1 h2
    split at h
    · cases h
    rename_i h3
    rw [if_neg h3]
    exact (itemsM_tail f deep _ _ h).trans (itemM_tail (fun d o r => itemsM_tail f d o r) h2).1
theorem itemM_tl {f deep : Nat} {rest : List Int} (h : (itemM sg (itemsM sg f) deep rest).err = 0) : Tail (itemM sg (itemsM sg f) deep rest).rest rest ∧ (itemM sg (itemsM sg f) deep rest).rest.length < rest.length := itemM_tail (fun d o r => itemsM_tail f d o r) h
/-! Fuel. -/
theorem oneM_congr {F G : Nat → List Int → List Int → ItP} {deep : Nat} {r : List Int} (h : F (deep + 1) [] (r.drop 1) = G (deep + 1) [] (r.drop 1)) : oneM sg F deep r = oneM sg G deep r := by unfold oneM; rw [h]
theorem itemM_congr {F G : Nat → List Int → List Int → ItP} {deep : Nat} {rest : List Int} (h : ∀ r, r.length < rest.length → F (deep + 1) [] r = G (deep + 1) [] r) : itemM sg F deep rest = itemM sg G deep rest := by
  by_cases h1 : (numR 0 false rest).err = 0
  · by_cases h2 : (numR 0 false rest).rest = []
    · unfold itemM; rw [if_neg (by rw [h1]; simp), if_pos h2, if_neg (by rw [h1]; simp), if_pos h2]
    · have ht : Tail (numR 0 false rest).rest rest := numR_tail rest 0 false h1
      have := (Tail.drop1 ht h2).2
      unfold itemM
      rw [oneM_congr (h _ this)]
  · unfold itemM; rw [if_pos h1, if_pos h1]
theorem itemsM_fuel : ∀ (f g deep : Nat) (out rest : List Int), rest.length < f → rest.length < g → itemsM sg f deep out rest = itemsM sg g deep out rest
  | 0, _, _, _, _, h, _ => absurd h (by omega)
  | _, 0, _, _, _, _, h => absurd h (by omega)
  | f + 1, g + 1, deep, out, rest, h1, h2 => by
    have e : itemM sg (itemsM sg f) deep rest = itemM sg (itemsM sg g) deep rest := itemM_congr fun r hr => itemsM_fuel f g (deep + 1) [] r (by omega) (by omega)
    rw [itemsM, itemsM, e]
    split
    · rfl
    split
    · rfl
    rename_i h3
    split
    · rfl
    have := (itemM_tl (f := g) (Classical.not_not.1 h3)).2
    exact itemsM_fuel f g deep _ _ (by omega) (by omega)
def parM (sg : List Int) (deep : Nat) (out rest : List Int) : ItP := itemsM sg (rest.length + 1) deep out rest
def itM (sg : List Int) (deep : Nat) (rest : List Int) : ItP := itemM sg (parM sg) deep rest
theorem itM_fuel (f deep : Nat) (rest : List Int) (h : rest.length ≤ f) : itemM sg (itemsM sg f) deep rest = itM sg deep rest := itemM_congr fun r hr => itemsM_fuel _ _ _ _ _ (by omega) (by omega)
theorem par_stop {deep : Nat} {out rest : List Int} (h : rest = [] ∨ rest.getD 0 0 = 41) : parM sg deep out rest = ⟨0, out, rest⟩ := by unfold parM; rw [itemsM, if_pos h]
theorem itM_tl {deep : Nat} {rest : List Int} (h : (itM sg deep rest).err = 0) : Tail (itM sg deep rest).rest rest ∧ (itM sg deep rest).rest.length < rest.length := itemM_tail (fun _ _ r h => itemsM_tail _ _ _ r h) h
theorem par_go {deep : Nat} {out rest : List Int} (h : ¬ (rest = [] ∨ rest.getD 0 0 = 41)) (h2 : (itM sg deep rest).err = 0) (h3 : ¬ 400 < (out ++ (itM sg deep rest).out).length) : parM sg deep (out ++ (itM sg deep rest).out) (itM sg deep rest).rest = parM sg deep out rest := by
  have ht := (itM_tl h2).2
  have e : parM sg deep out rest = itemsM sg rest.length deep (out ++ (itM sg deep rest).out) (itM sg deep rest).rest := by
    conv => lhs; unfold parM
    rw [itemsM, if_neg h, itM_fuel _ _ _ (Nat.le_refl _), if_neg (by rw [h2]; simp), if_neg h3]
  rw [e]
  exact itemsM_fuel _ _ _ _ _ (by omega) (by omega)
/-! What is told of errors. -/
/-! Step by step. -/
theorem dr_hd {l : List Int} {p : Nat} (h : p < l.length) : (l.drop p).getD 0 0 = l.getD p 0 := by rw [drop_consD 0 h]; rfl
theorem dr_ne {l : List Int} {p : Nat} (h : p < l.length) : l.drop p ≠ [] := by rw [drop_consD 0 h]; simp
theorem dr_nil {l : List Int} {p : Nat} (h : l.length ≤ p) : l.drop p = [] := List.drop_eq_nil_of_le h
theorem it_rp {deep : Nat} {r s : List Int} {v : Int} {b : Bool} (h : numR 0 false r = ⟨0, v, b, s⟩) (hs : s ≠ []) (h2 : (oneM sg (parM sg) deep s).err = 0) : itM sg deep r = rpM (if b = true then v else 1) (oneM sg (parM sg) deep s).out (oneM sg (parM sg) deep s).rest := by
  unfold itM itemM; rw [h, if_neg (by simp), if_neg hs, if_neg (by rw [h2]; simp)]; rfl
theorem rp_ok {n : Int} {one r : List Int} (h : ¬ 400 < n * one.length) : rpM n one r = ⟨0, repL n.toNat one, r⟩ := by unfold rpM; rw [if_neg h]
theorem repL_succ (k : Nat) (one : List Int) : repL (k + 1) one = repL k one ++ one := by unfold repL; rw [List.replicate_succ', List.flatten_append]; simp
theorem one_sign {F : Nat → List Int → List Int → ItP} {deep : Nat} {s : List Int} (h : ¬ s.getD 0 0 = 40) (h2 : ¬ (s.getD 0 0 ∉ sg ∨ s.getD 0 0 < 0)) : oneM sg F deep s = ⟨0, [indexL sg (s.getD 0 0)], s.drop 1⟩ := by unfold oneM; rw [if_neg h, if_neg h2]
theorem sign_at {cs : List BCall} {c : Int} {k : Nat} (hk : k < cs.length) (hno : ∀ j, j < k → (cs.getD j D0).1 ≠ c) (h : (cs.getD k D0).1 = c) : c ∈ cs.map (·.1) ∧ indexL (cs.map (·.1)) c = k := by
  have e := idxC_yes hk h hno
  exact ⟨indexL_iff.1 (by rw [e]; omega), e⟩
theorem x_go {deep : Nat} {out r o s : List Int} {X : ItP} (hx : parM sg deep out r = X) (hne : ¬ (r = [] ∨ r.getD 0 0 = 41)) (h : itM sg deep r = ⟨0, o, s⟩) (h2 : ¬ 400 < (out ++ o).length) : parM sg deep (out ++ o) s = X := by
  have := par_go (sg := sg) (deep := deep) (out := out) hne (by rw [h]) (by rw [h]; exact h2)
  rw [h] at this
  rw [← hx, ← this]
end
/-! Runes of a text, as a loop over it gives them. -/
abbrev Ty.rune (n : Int) : Ty := .val (.int .i32 n)
theorem Tail.len {a r : List Int} (h : Tail a r) : a.length ≤ r.length := by
  obtain ⟨k, h1, rfl⟩ := h; rw [List.length_drop]; omega
section
variable {sg : List Int} {deep : Nat} {l s : List Int}
end
def ptM (sg : List Int) (s : ByteArray) : ItP :=
  if 4000 < s.size then ⟨3, [], []⟩ else if (parM sg 0 [] (runsL s)).err ≠ 0 then ⟨(parM sg 0 [] (runsL s)).err, [], []⟩
  else if (parM sg 0 [] (runsL s)).rest ≠ [] then ⟨4, [], []⟩ else if (parM sg 0 [] (runsL s)).out = [] then ⟨5, [], []⟩ else ⟨0, (parM sg 0 [] (runsL s)).out, []⟩
section
variable {sg : List Int} {s : ByteArray} {X : ItP}
theorem pt_ok (h : ¬ 4000 < s.size) (hX : X = parM sg 0 [] (runsL s)) (h1 : X.err = 0) (h2 : X.rest = []) (h3 : X.out ≠ []) : ptM sg s = ⟨0, X.out, []⟩ := by unfold ptM; rw [if_neg h, ← hX, if_neg (by rw [h1]; simp), if_neg (by rw [h2]; simp), if_neg h3]
end
end Go.KL

/- Arrays as values: built of two parts, and what stands at a place. -/
namespace Go.KL
open Go.RowKit
variable {P : Program} {d : Option Tmp} {ty : TypeId} {pos : String} {af : Array Edge} {g : Option (Nat × Bool)} {a : Act} {σ : GW}
/-! ### Bells that are told -/
end Go.KL

/- How many rows are like a pattern: as many as there are ways to place the other bells. -/
namespace Go.KL
/-! ### A pattern as one list -/
end Go.KL

/- Of all rows so many are like a pattern as there are ways to place the other bells. -/
namespace Go.KL
section
variable {P : Program} {d : Option Tmp} {ty : TypeId} {pos : String} {af : Array Edge} {g : Option (Nat × Bool)} {a : Act} {σ : GW}
end
theorem asc_runs {l : List UInt8} (h : ∀ b ∈ l, b.toNat < 128) : runsL (bsL l) = l.map fun b => ((b.toNat : Nat) : Int) := by
  have key : ∀ (f p : Nat), l.length ≤ f + p → runsF (bsL l) f p = (l.drop p).map fun b => ((b.toNat : Nat) : Int) := by
    intro f
    induction f with
    | zero => intro p hp; rw [List.drop_eq_nil_of_le (by omega)]; rfl
    | succ f ih =>
      intro p hp
      by_cases hpl : p < l.length
      · have hg := bsL_get hpl
        have hb := h l[p] (List.getElem_mem hpl)
        have hr := run1_lo (s := bsL l) (p := p) (by rw [hg]; exact hb)
        have hm : runM (bsL l) p = ((l[p].toNat : Nat) : Int) := by
          unfold runM
          rw [if_neg (by rw [hr.1, hg]; omega), hr.1, hg]
        rw [runsF_cons (by rw [bsL_size]; exact hpl) (by rw [bsL_size]; omega), hm, hr.2, Nat.add_sub_cancel, ih (p + 1) (by omega), List.drop_eq_getElem_cons hpl, List.map_cons]
      · rw [runsF_end (by rw [bsL_size]; omega), List.drop_eq_nil_of_le (by omega)]; rfl
  have := key (bsL l).size 0 (by rw [bsL_size]; omega)
  unfold runsL
  rw [this, List.drop_zero]
section
variable (raw r : List Int) (star : Nat)
end
section
variable {raw r : List Int} {star : Nat}
end
end Go.KL

/- Plain maths: names by their runes. -/
namespace Go.KL
theorem run0_facts {s : ByteArray} (h1 : 1 ≤ s.size) : ((s.get! 0).toNat < 128 ∧ runM s 0 = (s.get! 0).toNat ∧ wid s 0 = 1) ∨ (runM s 0 ≠ 32 ∧ 128 ≤ (s.get! (wid s 0 - 1)).toNat) := by
  by_cases hb : (s.get! 0).toNat < 128
  · exact .inl ⟨hb, rn_low hb⟩
  · refine .inr ?_
    have bad : runM s 0 = -1 ∧ wid s 0 = 1 → runM s 0 ≠ 32 ∧ 128 ≤ (s.get! (wid s 0 - 1)).toNat := fun ⟨a, b⟩ => by rw [a, b]; exact ⟨by decide, by simpa using hb⟩
    by_cases h2 : nB (s.get! 0).toNat = 0 ∨ s.size < nB (s.get! 0).toNat
    · exact bad (rn_short hb h2 h1)
    · have h0 : nB (s.get! 0).toNat ≠ 0 := fun e => h2 (.inl e)
      have hs : nB (s.get! 0).toNat ≤ s.size := by omega
      obtain ⟨j, hj⟩ : ∃ j, j + 1 = nB (s.get! 0).toNat := ⟨nB (s.get! 0).toNat - 1, by omega⟩
      have hjc := nB_cases h0 hj
      by_cases hc : ∀ i, i < j → 128 ≤ (s.get! (i + 1)).toNat ∧ (s.get! (i + 1)).toNat < 192
      · by_cases hv : accR s (cB (s.get! 0).toNat) j < lowB (s.get! 0).toNat ∨ 1114111 < accR s (cB (s.get! 0).toNat) j ∨ (55296 ≤ accR s (cB (s.get! 0).toNat) j ∧ accR s (cB (s.get! 0).toNat) j < 57344)
        · exact bad (rn_bad h0 hs hj hc hv)
        · obtain ⟨a, b⟩ := rn_ok h0 hs hj hc hv
          have hlow : 128 ≤ lowB (s.get! 0).toNat := by
            rcases hjc with ⟨_, h⟩ | ⟨_, h⟩ | ⟨_, h⟩
            · rw [(nb2 h).2.2]; omega
            · rw [(nb3 h).2.2]; omega
            · rw [(nb4 h).2.2]; omega
          rw [a, b]
          refine ⟨by omega, ?_⟩
          have := hc (j - 1) (by omega)
          rw [show nB (s.get! 0).toNat - 1 = j - 1 + 1 by omega]; exact this.1
      · obtain ⟨i, hi⟩ := Classical.not_forall.1 hc
        obtain ⟨hi1, hi2⟩ := Classical.not_imp.1 hi
        exact bad (rn_cont (j := i) (by omega) (by omega))
theorem run_facts {s : ByteArray} {p : Nat} (h : p < s.size) : ((s.get! p).toNat < 128 ∧ runM s p = (s.get! p).toNat ∧ wid s p = 1) ∨ (runM s p ≠ 32 ∧ 128 ≤ (s.get! (p + (wid s p - 1))).toNat) := by
  have h0 := run0_facts (s := s.extract p s.size) (by rw [ByteArray.size_extract]; omega)
  rwa [(ext_run s p).1, (ext_run s p).2, get_ext, get_ext, Nat.add_zero] at h0
theorem letter_m (s : ByteArray) (p : Nat) : letterB (runM s p) = letterB ((run1 s p : Nat) : Int) := by
  rcases run_m s p with h | ⟨h1, h2⟩
  · rw [h]
  · rw [h1, h2]; rfl
theorem runs_all (s : ByteArray) : ∀ (f p : Nat), (runsF s f p).all letterB = (runesF s f p).all (fun (c : Nat) => letterB (c : Int)) ∧ (runsF s f p).length = (runesF s f p).length
  | 0, p => ⟨rfl, rfl⟩
  | f + 1, p => by
    rw [runsF, runesF]
    obtain ⟨h1, h2⟩ := runs_all s f (p + wid s p)
    split
    · exact ⟨by rw [List.all_cons, List.all_cons, h1, letter_m], by rw [List.length_cons, List.length_cons, h2]⟩
    · exact ⟨rfl, rfl⟩
theorem runs_last {s : ByteArray} : ∀ (f p : Nat), p < s.size → s.size ≤ f + p → ((runsF s f p).getD ((runsF s f p).length - 1) 0 = 32 ↔ (s.get! (s.size - 1)).toNat = 32)
  | 0, p, h1, h2 => by omega
  | f + 1, p, h1, h2 => by
    have hw := wid_pos s p
    have hi := wid_in h1
    rw [runsF, if_pos h1]
    by_cases e : p + wid s p < s.size
    · have ih := runs_last f (p + wid s p) e (by omega)
      have hne : 1 ≤ (runsF s f (p + wid s p)).length := by
        rw [runsF_cons e (by omega), List.length_cons]; omega
      rw [List.length_cons, Nat.add_sub_cancel]
      obtain ⟨m, hm⟩ : ∃ m, (runsF s f (p + wid s p)).length = m + 1 := ⟨_, (Nat.sub_add_cancel hne).symm⟩
      rw [hm, List.getD_cons_succ]
      rw [hm, Nat.add_sub_cancel] at ih
      exact ih
    · rw [runsF_end (by omega)]
      show runM s p = 32 ↔ _
      rcases run_facts h1 with ⟨_, h4, h5⟩ | ⟨h3, h4⟩
      · rw [h4, show s.size - 1 = p by omega]; omega
      · rw [show p + (wid s p - 1) = s.size - 1 by omega] at h4
        constructor
        · intro h; exact absurd h h3
        · intro h; omega
def nameI (l : List Int) : Bool := decide (1 ≤ l.length ∧ l.length ≤ 20 ∧ l.getD 0 0 ≠ 32 ∧ l.getD (l.length - 1) 0 ≠ 32) && l.all letterB
theorem name_eq (s : ByteArray) : nameI (runsL s) = nameL s := by
  obtain ⟨h1, h2⟩ := runs_all s s.size 0
  unfold nameI nameL runsL runesL
  rw [h1, ← h2, Bool.and_comm]
  congr 1
  by_cases hz : s.size = 0
  · rw [runsF_end (s := s) (f := s.size) (p := 0) (by omega)]
    simp
  · have hl := runs_last (s := s) s.size 0 (by omega) (by omega)
    have hf : (runsF s s.size 0).getD 0 0 = 32 ↔ (s.get! 0).toNat = 32 := by
      rw [runsF_cons (s := s) (f := s.size) (p := 0) (by omega) (by omega), List.getD_cons_zero]
      rcases run_facts (s := s) (p := 0) (by omega) with ⟨_, h4, _⟩ | ⟨h3, h4⟩
      · rw [h4]; omega
      · constructor
        · intro h; exact absurd h h3
        · intro h
          have := (rn_low (s := s) (by omega)).1
          rw [h] at this; exact absurd this h3
    rw [Bool.eq_iff_iff]
    simp only [Bool.and_eq_true, decide_eq_true_eq]
    constructor
    · rintro ⟨a, b, c, d⟩
      exact ⟨⟨⟨by omega, by omega⟩, fun h => c (hf.2 (by omega))⟩, fun h => d (hl.2 (by omega))⟩
    · rintro ⟨⟨⟨a, b⟩, c⟩, d⟩
      exact ⟨by omega, by omega, fun h => c (by have := hf.1 h; omega), fun h => d (by have := hl.1 h; omega)⟩
theorem name_bad {l : List Int} (h : l.length < 1 ∨ 20 < l.length ∨ l.getD 0 0 = 32 ∨ l.getD (l.length - 1) 0 = 32) : nameI l = false := by
  unfold nameI
  rw [decide_eq_false (by omega), Bool.false_and]
theorem name_let {l : List Int} {i : Nat} (hi : i < l.length) (h : letterB (l.getD i 0) = false) : nameI l = false := by
  unfold nameI
  rw [Bool.and_eq_false_iff]; right
  rw [List.all_eq_false]
  exact ⟨_, mem_getDD 0 hi, by rw [h]; exact Bool.false_ne_true⟩
theorem name_good {l : List Int} (h : ¬ (l.length < 1 ∨ 20 < l.length ∨ l.getD 0 0 = 32 ∨ l.getD (l.length - 1) 0 = 32)) (h2 : ∀ i, i < l.length → letterB (l.getD i 0) = true) : nameI l = true := by
  unfold nameI
  rw [decide_eq_true (by omega), Bool.true_and, List.all_eq_true]
  intro x hx
  obtain ⟨i, hi, rfl⟩ := List.getElem_of_mem hx
  have := h2 i hi
  rw [List.getD_eq_getElem?_getD, List.getElem?_eq_getElem hi] at this; exact this
theorem pre_in {cs : List BCall} {i k : Nat} {s : Int} (hi : i ≤ cs.length) (hk : k < i) (h : (cs.getD k D0).1 = s) : s ∈ (cs.take i).map (·.1) := by
  rw [← h]
  refine List.mem_map.2 ⟨_, ?_, rfl⟩
  have := mem_getDD D0 (l := cs.take i) (k := k) (by rw [List.length_take]; omega)
  rwa [getD_takeD D0 hk] at this
theorem pre_out {cs : List BCall} {i : Nat} {s : Int} (hno : ∀ j, j < i → (cs.getD j D0).1 ≠ s) : s ∉ (cs.take i).map (·.1) := fun h => by
  obtain ⟨c, hc, e⟩ := List.mem_map.1 h
  obtain ⟨j, hj, hj2⟩ := List.getElem_of_mem hc
  have hj' : j < i := by rw [List.length_take] at hj; omega
  refine hno j hj' ?_
  rw [← getD_takeD D0 hj', List.getD_eq_getElem?_getD, List.getElem?_eq_getElem hj, Option.getD_some, hj2]; exact e
end Go.KL

/- Literals of structs in rows of one's own. -/
namespace Go.KL
open Go.RowKit
variable {P : Program} {d : Option Tmp} {ty : TypeId} {pos : String} {af : Array Edge} {g : Option (Nat × Bool)} {a : Act} {σ : GW}
end Go.KL

/- Bytes of a text, appended; touches, printed. -/
namespace Go.KL
open Go.RowKit Go.Lib
variable {P : Program} {d : Option Tmp} {ty : TypeId} {pos : String} {af : Array Edge} {g : Option (Nat × Bool)} {a : Act} {σ : GW}
theorem str_typed {s : ByteArray} {σ : GW} : ∀ (j : Nat) (T : Ty) (u : Value), (s.data.toList.map Ty.byte)[j]? = some T → (strCells s)[j]? = some u → T.has σ u := by
  intro j T u h1 h2
  unfold strCells at h2
  rw [List.getElem?_map] at h1 h2
  cases hq : s.data.toList[j]? with
  | none => rw [hq] at h1; cases h1
  | some b => rw [hq] at h1 h2; cases h1; cases h2; rfl
theorem own_appendS {k : Nat} {t u ty e : TypeId} {v : Value} {n : Nat} {ts : List Ty} {s : ByteArray} (hk : 2 ≤ k) (ht : P.underlying t = some (.slice e)) (hu : P.underlying u = some .string) (he : Info P e (.int .u8 0) 1 1) (h : Own σ k e 1 v n ts)
    (hlen : n + s.size ≤ 140737488355328) :
    ∃ v' τ, (Builtin.append_ #[t, u] ty #[v, .string s]).run P σ.w = .ok v' τ.w ∧ Stp k σ τ ∧ Own τ k e 1 v' (n + s.size) (ts ++ s.data.toList.map Ty.byte) := by
  have h0 := h
  obtain ⟨vs, r1, r2, r3, r4⟩ := h
  obtain ⟨i, hi, hi1, hi2, hi3⟩ := he.get
  have hwl := strCells_length s
  have hxl : vs.length = n := by simpa using r1.1
  have hl' : (vs ++ strCells s).length = (ts ++ s.data.toList.map Ty.byte).length := by simp [r2, hwl]
  have hm9 : n + s.size ≤ maxLen := by unfold maxLen; omega
  have new : ∀ (old : Nat) (τw : World), old < n + s.size → τw = σ.w.drew.alloc (.cells (vs.toArray ++ (strCells s).toArray ++ Builtin.zeroCells (Value.int .u8 0).cells (grownCap σ.w (n + s.size) old e - (n + s.size))) e) →
      ∃ τ : GW, τ.w = τw ∧ Stp k σ τ ∧ Own τ k e 1 (.slice (some ⟨σ.w.heap.size, 0, none⟩) (n + s.size) (grownCap σ.w (n + s.size) old e)) (n + s.size) (ts ++ s.data.toList.map Ty.byte) := by
    intro old τw _ hτ
    subst hτ
    have hge := grownCap_ge σ.w (n + s.size) old e
    have hcm : grownCap σ.w (n + s.size) old e ≤ maxLen := grownCap_le_maxLen σ.w (n + s.size) old e hm9
    have hstp : Stp 0 σ (σ.drew.mk' k (.cells (vs.toArray ++ (strCells s).toArray ++ Builtin.zeroCells (Value.int .u8 0).cells (grownCap σ.w (n + s.size) old e - (n + s.size))) e)) := (Stp.drew σ).trans (Stp.mk' σ.drew k _)
    refine ⟨_, rfl, hstp.of0, Own.intro (us := vs ++ strCells s) (heap_alloc_new σ.w.drew _) (by show (if _ = _ then k else _) = k; rw [if_pos]; rfl) hge hcm ?_ ?_ hl' ?_⟩
    · have hz1 : (Value.int IntKind.u8 0).cells.size = 1 := rfl
      simp only [Array.size_append, List.size_toArray, size_zeroCells, hz1, hxl, hwl]; omega
    · simp only [Array.toList_append, List.append_assoc]
      rw [← List.append_assoc, show (n + s.size) * 1 = (vs ++ strCells s).length by rw [List.length_append, hxl, hwl, Nat.mul_one]]
      exact List.take_left
    · exact typed_append r2 (fun j T u hT hu => T.up hstp.le0 (r3 j T u hT hu)) str_typed
  rcases r1.2 with ⟨rfl, rfl⟩ | ⟨g, cap, cur, rfl, _, hg, hn, hm, hcs, htk⟩
  · have hvs : vs = [] := List.eq_nil_of_length_eq_zero hxl
    by_cases hm0 : s.size = 0
    · have hn : s.data.toList = [] := List.eq_nil_of_length_eq_zero (by simpa using hm0)
      refine ⟨.slice none 0 0, σ, ?_, Stp.refl _ _, by rw [hm0, hn]; simpa using h0⟩
      have hf := run_firstCells_string (P := P) (w := σ.w) 1 s
      have hn2 : strCells s = [] := List.eq_nil_of_length_eq_zero (by rw [hwl]; exact hm0)
      simp [Builtin.append_, run_underlying ht, run_underlying hu, sizeOf, typeInfo, hi, hi2, Builtin.lenOf, hm0, hn2] at hf ⊢
      simp [hf]
    · have hr := run_append_nil_string (P := P) (w := σ.w) t u ty e i (.int .u8 0) ht hu hi hi1 s (by omega) (by omega) (by rw [hi3]; omega)
      obtain ⟨τ, e1, e2, e3⟩ := new 0 _ (by omega) rfl
      have e4 : (s.data.map fun b => Value.int .u8 b.toNat) = (strCells s).toArray := by
        apply Array.ext'
        simp [strCells]
      rw [e4] at hr
      simp only [Nat.zero_add] at e1 e3 ⊢
      exact ⟨_, τ, by rw [hr, e1, hvs]; simp, e2, e3⟩
  · have hgk := r4 g rfl
    have hcs' : cur.size = cap := by simpa using hcs
    by_cases hroom : n + s.size ≤ cap
    · have hr := run_append_room_string (P := P) (w := σ.w) t u ty e i ht hu hi hi2 g n cap cur hg s hroom (by omega)
      have hstp : Stp k σ (σ.setRow g (cur.toList.take n ++ strCells s ++ cur.toList.drop (n + s.size)).toArray) := Stp.setRow hgk (by omega)
      have ht' : cur.toList.take n = vs := by simpa using htk
      refine ⟨_, _, hr, hstp, Own.intro (us := vs ++ strCells s) (setRow_heap σ.w g cur _ e (0, 0) hg) hgk hroom hm ?_ ?_ hl' ?_⟩
      · simp only [List.size_toArray, List.length_append, List.length_take, List.length_drop, Array.length_toList, hwl]
        omega
      · rw [ht', show (n + s.size) * 1 = (vs ++ strCells s).length by rw [List.length_append, hxl, hwl, Nat.mul_one]]
        exact List.take_left
      · exact typed_append r2 (fun j T u hT hu => T.up (hstp.le (by omega)) (r3 j T u hT hu)) str_typed
    · have holds : ∀ (j : Nat) (u : Value), vs[j]? = some u → σ.w.cell? ((⟨g, 0, none⟩ : Addr).add j) = some u := r1.cells (g := g) rfl
      have hr := run_append_grow_string (P := P) (w := σ.w) t u ty e i (.int .u8 0) ht hu hi hi1 ⟨g, 0, none⟩ n cap vs (by rw [hi2]; simpa using hxl) holds s (by omega) (by omega) (by rw [hi3]; exact growslice_fits (by omega) (by omega))
      obtain ⟨τ, e1, e2, e3⟩ := new cap _ (by omega) rfl
      exact ⟨_, τ, by rw [hr, e1], e2, e3⟩
theorem m_appendS {k : Nat} {t u e : TypeId} {x y : Operand} {n : Nat} {ts : List Ty} {s : ByteArray} (ht : P.underlying t = some (.slice e)) (hu : P.underlying u = some .string) (he : Info P e (.int .u8 0) 1 1) (hk : 2 ≤ k) (h : Own σ k e 1 (a.eval x) n ts) (hy : a.eval y = .string s)
    (hlen : n + s.size ≤ 140737488355328) : YldM k P ⟨d, .call ⟨.builtin .append, #[x, y], #[t, u]⟩, ty, pos, af, g⟩ a σ (fun v τ => Own τ k e 1 v (n + s.size) (ts ++ s.data.toList.map Ty.byte)) := by
  intro K Q hk'
  obtain ⟨v', τ, hr, hs, ho⟩ := own_appendS (ty := ty) hk ht hu he h hlen
  have hr' : (execOp a.eval ⟨d, .call ⟨.builtin .append, #[x, y], #[t, u]⟩, ty, pos, af, g⟩).run P σ.w = .ok (.value v') τ.w := by
    simp only [execOp, resolve, Sem.run_bind, Sem.run_pure, Result.andThen_ok, invoke, List.map_toArray, List.map_cons, List.map_nil, builtin, hy, hr]
  unfold Oper.wp
  rw [hr']
  exact hk' v' τ hs ho
/-! Numbers, printed. -/
def digitsB : ByteArray := (ByteArray.mk #[48, 49, 50, 51, 52, 53, 54, 55, 56, 57, 97, 98, 99, 100, 101, 102, 103, 104, 105, 106, 107, 108, 109, 110, 111, 112, 113, 114, 115, 116, 117, 118, 119, 120, 121, 122])
def smallsB : ByteArray := (ByteArray.mk (List.toArray (List.append (List.append [48, 48, 48, 49, 48, 50, 48, 51, 48, 52, 48, 53, 48, 54, 48, 55, 48, 56, 48, 57, 49, 48, 49, 49, 49, 50, 49, 51, 49, 52, 49, 53, 49, 54, 49, 55, 49, 56, 49, 57, 50, 48, 50, 49, 50, 50, 50, 51, 50, 52] [50, 53, 50, 54, 50, 55, 50, 56, 50, 57, 51, 48, 51, 49, 51, 50, 51, 51, 51, 52, 51, 53, 51, 54, 51, 55, 51, 56, 51, 57, 52, 48, 52, 49, 52, 50, 52, 51, 52, 52, 52, 53, 52, 54, 52, 55, 52, 56, 52, 57]) (List.append [53, 48, 53, 49, 53, 50, 53, 51, 53, 52, 53, 53, 53, 54, 53, 55, 53, 56, 53, 57, 54, 48, 54, 49, 54, 50, 54, 51, 54, 52, 54, 53, 54, 54, 54, 55, 54, 56, 54, 57, 55, 48, 55, 49, 55, 50, 55, 51, 55, 52] [55, 53, 55, 54, 55, 55, 55, 56, 55, 57, 56, 48, 56, 49, 56, 50, 56, 51, 56, 52, 56, 53, 56, 54, 56, 55, 56, 56, 56, 57, 57, 48, 57, 49, 57, 50, 57, 51, 57, 52, 57, 53, 57, 54, 57, 55, 57, 56, 57, 57]))))
def decL (n : Nat) : List UInt8 := if n < 10 then [(48 + n).toUInt8] else [(48 + n / 10).toUInt8, (48 + n % 10).toUInt8]
def decB (n : Nat) : ByteArray := bsL (decL n)
theorem cvByte {a : Act} {x : Operand} {e : Int} (h0 : 0 ≤ e) (h1 : e < 256) (h : a.eval x = .int .u8 e) : a.eval x = .int .u8 ((e.toNat.toUInt8.toNat : Nat) : Int) := by
  rw [h]
  have : e.toNat.toUInt8.toNat = e.toNat := by simp; omega
  rw [this, Int.toNat_of_nonneg h0]
theorem digits_size : digitsB.size = 36 := by decide +kernel
theorem smalls_size : smallsB.size = 200 := by decide +kernel
theorem small_lo {n : Nat} (h : n < 10) : digitsB.extract n (n + 1) = decB n :=
  (by decide +kernel : ∀ m : Fin 10, digitsB.extract m.val (m.val + 1) = decB m.val) ⟨n, h⟩
theorem small_hi {n : Nat} (h : n < 100) (h2 : 10 ≤ n) : smallsB.extract (n * 2) (n * 2 + 2) = decB n :=
  ((by decide +kernel : ∀ m : Fin 100, m.val < 10 ∨ smallsB.extract (m.val * 2) (m.val * 2 + 2) = decB m.val) ⟨n, h⟩).resolve_left (by simp only; omega)
theorem y_convBS {x : Operand} {t u e : TypeId} {bs : List UInt8} {n : Nat} (ht : P.underlying t = some (.slice e)) (he : P.underlying e = some (.int .u8)) (hu : P.underlying u = some .string) (hx : At (.sl 1 n (bs.map Ty.byte)) σ a x) :
    Yld P ⟨d, .convert t u x, ty, pos, af, g⟩ a σ (Ty.val (.string (bsL bs))).pr := by
  obtain ⟨ad, cap0, bb, o, e1, hcap0, hul, hs, hcl⟩ := hx
  have hn : n = bs.length := by simpa using hul.symm
  subst hn
  rcases hs with hs | ⟨rfl, _⟩
  · have hb : bs = [] := by simpa using hs
    subst hb
    have hr : (convert t u (.slice ad 0 cap0)).run P σ.w = .ok (.string (bsL [])) σ.w := by
      rw [run_convert_bytes_string σ.w t u e ad 0 cap0 ht he hu]
      cases ad <;> simp [Conv.bytesToString, loadCells, loadCellsFrom, bsL] <;> rfl
    exact Yld.of_run (v := .string (bsL [])) (by simp only [execOp, e1, List.length_nil, Sem.run_bind, hr, Result.andThen_ok, Sem.run_pure]) rfl
  · have hr := run_convert_bytes_back (P := P) σ.w t u e ⟨bb, o, none⟩ cap0 bs ht he hu (fun j hj => by
      obtain ⟨v, hv, hT⟩ := hcl j (Ty.byte bs[j]) (by simp [hj])
      rw [Addr.add_lit, hv, show v = _ from hT])
    exact Yld.of_run (v := .string (bsL bs)) (by simp only [execOp, e1, Sem.run_bind, hr, Result.andThen_ok, Sem.run_pure]; rfl) rfl
theorem dec_lo {n : Nat} (h : n < 10) : bsL [(48 + n).toUInt8] = decB n := by unfold decB decL; rw [if_pos h]
theorem dec_hi {n : Nat} (h : n < 100) (h2 : 10 ≤ n) : decB (n / 10) ++ bsL [(48 + n % 10).toUInt8] = decB n := by
  unfold decB decL
  rw [if_pos (by omega), if_neg (by omega)]
  apply ByteArray.ext
  simp [bsL]
theorem dec_size {n : Nat} : (decB n).size ≤ 2 := by unfold decB decL; rw [bsL_size]; split <;> simp
/-! Touches, printed. -/
def pcB (cs : List BCall) (n : Nat) (x : Int) : ByteArray := (if 1 < n then decB n else ByteArray.empty) ++ Utf8.encode (cs.getD x.toNat D0).1
def prR (cs : List BCall) : Nat → List Int → ByteArray
  | _, [] => ByteArray.empty
  | n, x :: r => if (r ≠ [] ∧ r.getD 0 0 = x) ∧ n + 1 < 99 then prR cs (n + 1) r else pcB cs (n + 1) x ++ prR cs 0 r
theorem ba_assoc (a b c : ByteArray) : a ++ b ++ c = a ++ (b ++ c) := by apply ByteArray.ext; simp
theorem ba_nil (a : ByteArray) : a ++ ByteArray.empty = a := by apply ByteArray.ext; simp
theorem ba_nil' (a : ByteArray) : ByteArray.empty ++ a = a := by apply ByteArray.ext; simp
section
variable {cs : List BCall} {s T : ByteArray} {l : List Int} {i n : Nat}
theorem prt_cont (h : s ++ prR cs n (l.drop i) = T) (hi : i + 1 < l.length) (he : l.getD (i + 1) 0 = l.getD i 0) (hn : n + 1 < 99) : s ++ prR cs (n + 1) (l.drop (i + 1)) = T := by
  rw [drop_consD 0 (show i < l.length by omega), prR, if_pos ⟨⟨dr_ne hi, by rw [dr_hd hi]; exact he⟩, hn⟩] at h
  exact h
theorem prt_put (h : s ++ prR cs n (l.drop i) = T) (hi : i < l.length) (hno : ¬ ((i + 1 < l.length ∧ l.getD (i + 1) 0 = l.getD i 0) ∧ n + 1 < 99)) : (s ++ pcB cs (n + 1) (l.getD i 0)) ++ prR cs 0 (l.drop (i + 1)) = T := by
  rw [drop_consD 0 hi, prR, if_neg] at h
  · rw [ba_assoc]; exact h
  · rintro ⟨⟨h1, h2⟩, h3⟩
    have hi1 : i + 1 < l.length := by
      rcases Nat.lt_or_ge (i + 1) l.length with h4 | h4
      · exact h4
      · exact absurd (dr_nil h4) h1
    exact hno ⟨⟨hi1, by rw [dr_hd hi1] at h2; exact h2⟩, h3⟩
theorem prt_put1 (h : s ++ prR cs n (l.drop i) = T) (hi : i < l.length) (hno : ¬ ((i + 1 < l.length ∧ l.getD (i + 1) 0 = l.getD i 0) ∧ n + 1 < 99)) (hn : 1 < n + 1) : ((s ++ decB (n + 1)) ++ Utf8.encode (cs.getD (l.getD i 0).toNat D0).1) ++ prR cs 0 (l.drop (i + 1)) = T := by
  have := prt_put h hi hno
  unfold pcB at this
  rw [if_pos hn] at this
  rw [ba_assoc s]; exact this
theorem prt_put0 (h : s ++ prR cs n (l.drop i) = T) (hi : i < l.length) (hno : ¬ ((i + 1 < l.length ∧ l.getD (i + 1) 0 = l.getD i 0) ∧ n + 1 < 99)) (hn : ¬ 1 < n + 1) : (s ++ Utf8.encode (cs.getD (l.getD i 0).toNat D0).1) ++ prR cs 0 (l.drop (i + 1)) = T := by
  have := prt_put h hi hno
  unfold pcB at this
  rw [if_neg hn, ba_nil'] at this
  exact this
theorem prt_end (h : s ++ prR cs n (l.drop i) = T) (hi : l.length ≤ i) : s = T := by
  rw [dr_nil hi, prR, ba_nil] at h; exact h
end
theorem enc_size (c : Int) : 1 ≤ (Utf8.encode c).size ∧ (Utf8.encode c).size ≤ 4 := by
  unfold Utf8.encode
  simp only
  repeat' split
  all_goals exact ⟨by show 1 ≤ Array.size _; simp, by show Array.size _ ≤ 4; simp⟩
theorem pc_size (cs : List BCall) (n : Nat) (x : Int) : (pcB cs n x).size ≤ 6 := by
  unfold pcB
  rw [ByteArray.size_append]
  have h1 := (enc_size (cs.getD x.toNat D0).1).2
  have h2 := dec_size (n := n)
  split
  · omega
  · rw [show ByteArray.empty.size = 0 from rfl]; omega
theorem prt_size (cs : List BCall) : ∀ (n : Nat) (l : List Int), (prR cs n l).size ≤ 6 * l.length
  | _, [] => by rw [prR]; exact Nat.zero_le _
  | n, x :: r => by
    rw [prR]
    have h1 := prt_size cs (n + 1) r
    have h2 := prt_size cs 0 r
    have h3 := pc_size cs (n + 1) x
    rw [List.length_cons]
    split
    · omega
    · rw [ByteArray.size_append]; omega
def ptE (cs : List BCall) (l : List Int) : Int := if l.length < 1 ∨ 400 < l.length then 1 else if ∀ k, k < l.length → 0 ≤ l.getD k 0 ∧ l.getD k 0 < (cs.length : Int) then 0 else 12
def ptT (cs : List BCall) (l : List Int) : ByteArray := if ptE cs l = 0 then prR cs 0 l else ByteArray.empty
theorem pt_cnt {cs : List BCall} {l : List Int} (h : l.length < 1 ∨ 400 < l.length) : ptE cs l = 1 ∧ ptT cs l = ByteArray.empty := by
  have : ptE cs l = 1 := by unfold ptE; rw [if_pos h]
  exact ⟨this, by unfold ptT; rw [if_neg (by rw [this]; decide)]⟩
theorem pt_val {cs : List BCall} {l : List Int} {k : Nat} (h : ¬ (l.length < 1 ∨ 400 < l.length)) (hk : k < l.length) (hv : l.getD k 0 < 0 ∨ (cs.length : Int) ≤ l.getD k 0) : ptE cs l = 12 ∧ ptT cs l = ByteArray.empty := by
  have : ptE cs l = 12 := by unfold ptE; rw [if_neg h, if_neg (fun h2 => by have := h2 k hk; omega)]
  exact ⟨this, by unfold ptT; rw [if_neg (by rw [this]; decide)]⟩
theorem pt_good {cs : List BCall} {l : List Int} (h : ¬ (l.length < 1 ∨ 400 < l.length)) (hv : ∀ k, k < l.length → 0 ≤ l.getD k 0 ∧ l.getD k 0 < (cs.length : Int)) : ptE cs l = 0 ∧ ptT cs l = prR cs 0 l := by
  have : ptE cs l = 0 := by unfold ptE; rw [if_neg h, if_pos hv]
  exact ⟨this, by unfold ptT; rw [if_pos this]⟩
theorem bsL_dat (l : List UInt8) (b : ByteArray) : bsL (l ++ b.data.toList) = bsL l ++ b := by apply ByteArray.ext; simp [bsL]
theorem prt_in {cs : List BCall} {l : List Int} {a : Nat} (h : ∀ k, k < l.length → 0 ≤ l.getD k 0 ∧ l.getD k 0 < (cs.length : Int)) : ∀ k, k < (l.drop a).length → 0 ≤ (l.drop a).getD k 0 ∧ (l.drop a).getD k 0 < (cs.length : Int) := by
  intro k hk
  rw [List.length_drop] at hk
  rw [show (l.drop a).getD k 0 = l.getD (a + k) 0 by simp [List.getD]]
  exact h _ (by omega)
end Go.KL

/- 'copy' into a row that is owned; a row told several times. -/
namespace Go.KL
open Go.RowKit
variable {P : Program} {d : Option Tmp} {ty : TypeId} {pos : String} {af : Array Edge} {g : Option (Nat × Bool)} {a : Act} {σ : GW}
def SlForm (v : Value) (n : Nat) : Prop := ∃ ad cap, v = .slice ad n cap ∧ n ≤ cap ∧ cap ≤ 9223372036854775807
section
variable {x y : Operand} {n : Nat} {t e' : TypeId} {z v : Value} {b : Nat} {ki : IntKind} (ht : P.underlying t = some (.slice e')) (he : Info P e' z 1 b) (ho : SlForm v n) (hx : a.eval x = v)
include ht he ho hx
end
/-! Some arithmetic of 64 bits without a sign. -/
/-! A row told several times. -/
end Go.KL

/- Structs that are built of structs; 'append' of what is owned. -/
namespace Go.KL
open Go.RowKit
variable {P : Program}
theorem Own.src {σ : GW} {k : Nat} {e : TypeId} {c : Nat} {v : Value} {n : Nat} {ts : List Ty} (h : Own σ k e c v n ts) : ∃ ad cap b o, v = .slice ad n cap ∧ ts.length = n * c ∧ (ts = [] ∨ ad = some (⟨b, o, none⟩ : Addr)) ∧ Cells σ b o ts := by
  have hl := h.len
  obtain ⟨us, h1, h2, h3, h4⟩ := h
  rcases h1.2 with ⟨rfl, rfl⟩ | ⟨g, cap, cur, rfl, _⟩
  · have : ts = [] := List.eq_nil_of_length_eq_zero (by omega)
    subst this
    exact ⟨none, 0, 0, 0, rfl, by simp, .inl rfl, fun j T hj => by simp at hj⟩
  · refine ⟨_, cap, g, 0, rfl, hl, .inr rfl, fun j T hj => ?_⟩
    have hlt := (List.getElem?_eq_some_iff.1 hj).1
    have hu : us[j]? = some us[j] := by simp [show j < us.length by omega]
    refine ⟨us[j], ?_, h3 j T _ hj hu⟩
    have := h1.cells (g := g) rfl j _ hu
    rwa [Addr.add_lit] at this
variable {d : Option Tmp} {ty : TypeId} {pos : String} {af : Array Edge} {g : Option (Nat × Bool)} {a : Act} {σ : GW}
/-! ### Structs of structs -/
end Go.KL

/- Plain maths: touches that are searched. -/
namespace Go.KL
structure Qst where
  met : Nat
  found : List (List Int)
  full : Bool
section
variable (n : Nat) (l : List (List Int)) (cs : List BCall) (leads many : Nat)
end
section
variable {n : Nat} {l : List (List Int)} {cs : List BCall} {leads many : Nat}
/-! ### One lead more -/
/-! ### What was met -/
variable {nm : ByteArray}
/-! ### What is answered -/
end
end Go.KL
namespace Go.KL
section
variable {n : Nat} {l : List (List Int)} {cs : List BCall} {leads many f k : Nat} {path : List Int} {s0 s : Qst}
end
end Go.KL
namespace Go.KL
section
variable {n : Nat} {l : List (List Int)} {cs : List BCall} {leads many f k : Nat} {path : List Int} {s0 s : Qst} {nm : ByteArray}
end
end Go.KL

/- What a search finds: all, in order. -/
namespace Go.KL
section
variable {nm : ByteArray} {n : Nat} {l : List (List Int)} {cs : List BCall} {leads many : Nat}
end
theorem pair_getD {L : List (List Int)} {R : List Int → List Int → Prop} (h : L.Pairwise R) {i j : Nat} (hij : i < j) (hj : j < L.length) : R (L.getD i []) (L.getD j []) := by
  have := List.pairwise_iff_getElem.1 h i j (by omega) hj hij
  simpa [show i < L.length by omega, hj] using this
theorem behind {L : List (List Int)} (h : L.Pairwise fun a b => belowL a b = true) {m : Nat} (hm : 1 ≤ m) {g : List Int} (hg : g ∈ L) (hn : g ∉ L.take m) : (L.take m).length = m ∧ belowL ((L.take m).getD (m - 1) []) g = true := by
  have hg2 : g ∈ L.drop m := by
    rw [← List.take_append_drop m L, List.mem_append] at hg
    exact hg.resolve_left hn
  obtain ⟨j, hj, rfl⟩ := List.getElem_of_mem hg2
  rw [List.length_drop] at hj
  have hlen : (L.take m).length = m := by rw [List.length_take]; omega
  refine ⟨hlen, ?_⟩
  have := pair_getD h (i := m - 1) (j := m + j) (by omega) (by omega)
  rw [List.getElem_drop]
  rw [getD_takeD [] (by omega)]
  simpa [show m + j < L.length by omega] using this
/-! ### What is made of raw numbers -/
end Go.KL

/- A region in whatever order, one operation of which writes: the others neither read nor write what it writes. -/
namespace Go.KL
open Go.RowKit
variable {P : Program}

def Ty.any : Ty := ⟨fun _ _ => True, fun _ h => h⟩

structure Mid3 (p d N : Nat) (W : List Nat) (B : Pr) (ops : Array Oper) (Φ : Nat → Ty) (a0 : Act) (σ0 : GW) (L : Nat → Bool) (a : Act) (σ : GW) : Prop where
  stp : StpL W σ0 σ
  stp0 : L p = false → Stp 0 σ0 σ
  ok : Ok N a
  done : ∀ j, L j = true → j ≠ p → rd ops (fun i => (Φ i).pr) j a σ
  donep : L p = true → B.has σ (a.eval (.tmp d))
  same : ∀ t, (∀ j, dstOf ops j = some t → L j = false) → a.eval (.tmp t) = a0.eval (.tmp t)

def Obl3 (P : Program) (N : Nat) (W : List Nat) (ops : Array Oper) (Φ : Nat → Ty) (a0 : Act) (σ0 : GW) (i : Nat) (o : Oper) : Prop :=
  ∀ a σ, StpL W σ0 σ → Ok N a → (∀ t, free ops i t = true → a.eval (.tmp t) = a0.eval (.tmp t)) → Deps ops (fun i => (Φ i).pr) a σ o.after.toList (Run P ops o a σ (Φ i).pr)
def OblW (P : Program) (N : Nat) (W : List Nat) (B : Pr) (ops : Array Oper) (Φ : Nat → Ty) (a0 : Act) (σ0 : GW) (i : Nat) (o : Oper) : Prop :=
  ∀ a σ, Stp 0 σ0 σ → Ok N a → (∀ t, free ops i t = true → a.eval (.tmp t) = a0.eval (.tmp t)) → Deps ops (fun i => (Φ i).pr) a σ o.after.toList (YldL W P o a σ (fun v τ => B.has τ v))
def Obls3 (P : Program) (p N : Nat) (W : List Nat) (B : Pr) (ops : Array Oper) (Φ : Nat → Ty) (a0 : Act) (σ0 : GW) : Nat → List Oper → Prop
  | _, [] => True
  | i, o :: l => (if i = p then OblW P N W B ops Φ a0 σ0 i o else Obl3 P N W ops Φ a0 σ0 i o) ∧ Obls3 P p N W B ops Φ a0 σ0 (i + 1) l
theorem Obls3.get {p N : Nat} {W : List Nat} {B : Pr} {ops : Array Oper} {Φ : Nat → Ty} {a0 : Act} {σ0 : GW} : ∀ (l : List Oper) (k : Nat), Obls3 P p N W B ops Φ a0 σ0 k l → ∀ j o, l[j]? = some o → (if k + j = p then OblW P N W B ops Φ a0 σ0 (k + j) o else Obl3 P N W ops Φ a0 σ0 (k + j) o)
  | [], _, _, j, o, h => by simp at h
  | x :: l, k, h, 0, o, hj => by simp at hj; subst hj; exact h.1
  | x :: l, k, h, j + 1, o, hj => by
    have := Obls3.get l (k + 1) h.2 j o (by simpa using hj)
    rwa [show k + 1 + j = k + (j + 1) by omega] at this
theorem Obls3.up {p N : Nat} {W : List Nat} {B : Pr} {ops : Array Oper} {Φ : Nat → Ty} {a0 : Act} {σ0 σ1 : GW} (hs : Stp 0 σ0 σ1) : ∀ (l : List Oper) (k : Nat), Obls3 P p N W B ops Φ a0 σ0 k l → Obls3 P p N W B ops Φ a0 σ1 k l
  | [], _, _ => trivial
  | x :: l, k, h => by
    refine ⟨?_, Obls3.up hs l (k + 1) h.2⟩
    have h1 := h.1
    split at h1
    · rename_i e; rw [if_pos e]; exact fun a σ hs' => h1 a σ (hs.trans hs')
    · rename_i e; rw [if_neg e]; exact fun a σ hs' => h1 a σ (hs.toL0.trans hs')

theorem Mid3.op {p d N : Nat} {W : List Nat} {B : Pr} {ops : Array Oper} {Φ : Nat → Ty} {a0 : Act} {σ0 : GW} {L : Nat → Bool} {a : Act} {σ : GW} {i : Nat} {o : Oper} {Q : Exit → Act → World → Prop} {K : Act → World → Prop}
    (hF : Form N ops) (h1 : 1 ∉ W) (hp : dstOf ops p = some d) (hΦ : ∀ e v, (Φ p).has e v) (hpg : ∀ o, ops[p]? = some o → o.guard = none) (hm : Mid3 p d N W B ops Φ a0 σ0 L a σ) (ho : ops[i]? = some o) (hL : L i = false)
    (hob : if i = p then OblW P N W B ops Φ a0 σ0 i o else Obl3 P N W ops Φ a0 σ0 i o)
    (hall : ∀ e ∈ o.after, Region.binds .any e = true → L e.on = true) (hclosed : ∀ (j : Nat) oj, ops[j]? = some oj → L j = true → ∀ e ∈ oj.after, Region.binds .any e = true → L e.on = true)
    (hK : ∀ a' σ', Mid3 p d N W B ops Φ a0 σ0 (fun j => L j || j == i) a' σ' → K a' σ'.w) : wpOp P ops Q i K a σ.w := by
  have hdi : dstOf ops i = o.dst := by simp [dstOf, ho]
  have hsame : ∀ t, free ops i t = true → a.eval (.tmp t) = a0.eval (.tmp t) := by
    intro t ht
    refine hm.same t fun j hj => ?_
    cases hLj : L j with
    | false => rfl
    | true =>
      exfalso
      unfold dstOf at hj
      obtain ⟨oj, hoj, hd⟩ := Option.bind_eq_some_iff.1 hj
      unfold free at ht
      have := (List.all_eq_true.1 ht) oj (List.mem_of_getElem? hoj)
      simp only [hd, bne_self_eq_false, Bool.false_or, List.any_eq_true, Bool.and_eq_true, beq_iff_eq] at this
      obtain ⟨e, he, hb, hon⟩ := this
      have := hclosed j oj (by simpa using hoj) hLj e (by simpa using he) hb
      rw [hon, hL] at this
      cases this
  have hdeps : ∀ e ∈ o.after.toList, Region.binds .any e = true → rd ops (fun i => (Φ i).pr) e.on a σ := fun e he hb => by
    by_cases hep : e.on = p
    · rw [hep]; unfold rd; rw [hp]; exact hΦ _ _
    · exact hm.done e.on (hall e (by simpa using he) hb) hep
  -- whatever step of whichever kind: what holds behind it
  have done' : ∀ v (τ : GW), σ.Le τ → (i ≠ p → (Φ i).has τ v) → ∀ j, (L j || j == i) = true → j ≠ p → rd ops (fun i => (Φ i).pr) j (a.put o.dst v) τ := by
    intro v τ hle hv j hLj hjp
    by_cases hji : j = i
    · subst hji
      unfold rd
      cases hd : dstOf ops j with
      | none => trivial
      | some d =>
        have : o.dst = some d := by rw [← hdi]; exact hd
        simp only [this]
        rw [eval_put_same hm.ok (hF.lt j d hd)]
        exact hv hjp
    · have hLj' : L j = true := by simpa [hji] using hLj
      have h0 := hm.done j hLj' hjp
      unfold rd at h0 ⊢
      cases hd : dstOf ops j with
      | none => trivial
      | some d =>
        rw [hd] at h0
        simp only at h0 ⊢
        rw [eval_put_ne (fun he => hji (hF.uniq j i d hd (by rw [hdi]; exact he)))]
        exact (Φ j).up hle h0
  have same' : ∀ v t, (∀ j, dstOf ops j = some t → (L j || j == i) = false) → (a.put o.dst v).eval (.tmp t) = a0.eval (.tmp t) := by
    intro v t ht
    have h1 : o.dst ≠ some t := fun he => by
      have := ht i (by rw [hdi]; exact he)
      simp at this
    rw [eval_put_ne h1]
    exact hm.same t fun j hj => by
      have := ht j hj
      simp at this
      exact this.1
  by_cases hip : i = p
  · subst hip
    rw [if_pos rfl] at hob
    have hy := Deps.elim o.after.toList hdeps (hob a σ (hm.stp0 hL) hm.ok hsame)
    unfold wpOp
    simp only [ho]
    have hw : Region.wanted o (yielded ops a.tmps) = true := by simp [Region.wanted, hpg o ho]
    rw [if_pos hw]
    refine .inl (hy K Q fun v τ hs hr => hK _ τ ⟨hm.stp.trans hs, fun h => (by simp at h), hm.ok.put _ _, done' v τ (hs.le h1) (fun h => absurd rfl h), fun _ => ?_, same' v⟩)
    have : o.dst = some d := by rw [← hdi]; exact hp
    rw [this, eval_put_same hm.ok (hF.lt i d hp)]
    exact hr
  · rw [if_neg hip] at hob
    have hrun := Deps.elim o.after.toList hdeps (hob a σ hm.stp hm.ok hsame)
    have next : ∀ v τ, Stp 0 σ τ → (Φ i).has τ v → K (a.put o.dst v) τ.w := by
      intro v τ hs hv
      refine hK _ τ ⟨hm.stp.trans hs.toL0, fun h => ?_, hm.ok.put _ _, done' v τ hs.le0 (fun _ => hv), fun h => ?_, same' v⟩
      · simp at h; exact (hm.stp0 h.1).trans hs
      · have hLp : L p = true := by simpa [Ne.symm hip] using h
        rw [eval_put_ne (fun he => hip (hF.uniq i p d (by rw [hdi]; exact he) hp))]
        exact B.up hs (hm.donep hLp)
    unfold wpOp
    simp only [ho]
    by_cases hw : Region.wanted o (yielded ops a.tmps) = true
    · rw [if_pos hw]
      exact .inl (hrun.1 hw K Q next)
    · rw [if_neg hw]
      exact next undef σ (Stp.refl _ _) (hrun.2 (by simpa using hw))

structure Half3 (m d N : Nat) (W : List Nat) (B : Pr) (ops : Array Oper) (Φ : Nat → Ty) (a0 : Act) (σ0 : GW) (a : Act) (σ : GW) : Prop where
  stp : StpL W σ0 σ
  ok : Ok N a
  done : ∀ j, j < m → rd ops (fun i => (Φ i).pr) j a σ
  donep : B.has σ (a.eval (.tmp d))
  same : ∀ t, ((ops.toList.take m).all fun o => o.dst != some t) = true → a.eval (.tmp t) = a0.eval (.tmp t)

theorem Mid3.half {m p d N : Nat} {W : List Nat} {B : Pr} {ops : Array Oper} {Φ : Nat → Ty} {a0 : Act} {σ0 : GW} {a : Act} {σ : GW} (h : Mid3 p d N W B ops Φ a0 σ0 (fun j => decide (j < m)) a σ) (hpm : p < m) (hp : dstOf ops p = some d) (hΦ : ∀ e v, (Φ p).has e v) : Half3 m d N W B ops Φ a0 σ0 a σ := by
  refine ⟨h.stp, h.ok, fun j hj => ?_, h.donep (by simpa using hpm), fun t ht => h.same t fun j hj => ?_⟩
  · by_cases hjp : j = p
    · rw [hjp]; unfold rd; rw [hp]; exact hΦ _ _
    · exact h.done j (by simpa using hj) hjp
  · by_cases hjm : j < m
    · obtain ⟨o, ho, hd⟩ := Option.bind_eq_some_iff.1 hj
      have := (List.all_eq_true.1 ht) o (List.mem_of_getElem? (i := j) (by rw [List.getElem?_take, if_pos hjm]; exact ho))
      simp [hd] at this
    · simpa using hjm

theorem Half3.kt {m d N : Nat} {W : List Nat} {B : Pr} {ops : Array Oper} {Φ : Nat → Ty} {a0 a : Act} {σ0 σ : GW} {T : Ty} {t : Nat} (h : Half3 m d N W B ops Φ a0 σ0 a σ) (h1 : 1 ∉ W) (k : T.has σ0 (a0.eval (.tmp t))) (ht : ((ops.toList.take m).all fun o => o.dst != some t) = true) : T.has σ (a.eval (.tmp t)) := by
  rw [h.same t ht]; exact T.up (h.stp.le h1) k
end Go.KL

/- A region in whatever order, of which one operation stores into what another one has made. -/
namespace Go.KL
open Go.RowKit
variable {P : Program}

/-! ### The operation that writes is a store into what an operation of the region has made -/
structure Mid4 (p q d N : Nat) (W : List Nat) (A B : Pr) (ops : Array Oper) (Φ : Nat → Ty) (a0 : Act) (σ0 : GW) (L : Nat → Bool) (a : Act) (σ : GW) : Prop where
  stp : StpL W σ0 σ
  stp0 : L p = false → Stp 0 σ0 σ
  ok : Ok N a
  done : ∀ j, L j = true → rd ops (fun i => (Φ i).pr) j a σ
  doneq : L q = true → L p = false → A.has σ (a.eval (.tmp d))
  donep : L p = true → B.has σ (a.eval (.tmp d))
  same : ∀ t, (∀ j, dstOf ops j = some t → L j = false) → a.eval (.tmp t) = a0.eval (.tmp t)

def OblQ (P : Program) (N : Nat) (A : Pr) (ops : Array Oper) (Φ : Nat → Ty) (a0 : Act) (σ0 : GW) (i : Nat) (o : Oper) : Prop :=
  ∀ a σ, Stp 0 σ0 σ → Ok N a → (∀ t, free ops i t = true → a.eval (.tmp t) = a0.eval (.tmp t)) → Deps ops (fun i => (Φ i).pr) a σ o.after.toList (Run P ops o a σ A)
def OblS (P : Program) (N d : Nat) (W : List Nat) (A B : Pr) (ops : Array Oper) (Φ : Nat → Ty) (a0 : Act) (σ0 : GW) (i : Nat) (o : Oper) : Prop :=
  ∀ a σ, Stp 0 σ0 σ → Ok N a → (∀ t, free ops i t = true → a.eval (.tmp t) = a0.eval (.tmp t)) → A.has σ (a.eval (.tmp d)) → Deps ops (fun i => (Φ i).pr) a σ o.after.toList (YldL W P o a σ (fun _ τ => B.has τ (a.eval (.tmp d))))
def Obls4 (P : Program) (p q d N : Nat) (W : List Nat) (A B : Pr) (ops : Array Oper) (Φ : Nat → Ty) (a0 : Act) (σ0 : GW) : Nat → List Oper → Prop
  | _, [] => True
  | i, o :: l => (if i = p then OblS P N d W A B ops Φ a0 σ0 i o else if i = q then OblQ P N A ops Φ a0 σ0 i o else Obl3 P N W ops Φ a0 σ0 i o) ∧ Obls4 P p q d N W A B ops Φ a0 σ0 (i + 1) l
theorem Obls4.get {p q d N : Nat} {W : List Nat} {A B : Pr} {ops : Array Oper} {Φ : Nat → Ty} {a0 : Act} {σ0 : GW} : ∀ (l : List Oper) (k : Nat), Obls4 P p q d N W A B ops Φ a0 σ0 k l → ∀ j o, l[j]? = some o →
    (if k + j = p then OblS P N d W A B ops Φ a0 σ0 (k + j) o else if k + j = q then OblQ P N A ops Φ a0 σ0 (k + j) o else Obl3 P N W ops Φ a0 σ0 (k + j) o)
  | [], _, _, j, o, h => by simp at h
  | x :: l, k, h, 0, o, hj => by simp at hj; subst hj; exact h.1
  | x :: l, k, h, j + 1, o, hj => by
    have := Obls4.get l (k + 1) h.2 j o (by simpa using hj)
    rwa [show k + 1 + j = k + (j + 1) by omega] at this
theorem Obls4.up {p q d N : Nat} {W : List Nat} {A B : Pr} {ops : Array Oper} {Φ : Nat → Ty} {a0 : Act} {σ0 σ1 : GW} (hs : Stp 0 σ0 σ1) : ∀ (l : List Oper) (k : Nat), Obls4 P p q d N W A B ops Φ a0 σ0 k l → Obls4 P p q d N W A B ops Φ a0 σ1 k l
  | [], _, _ => trivial
  | x :: l, k, h => by
    refine ⟨?_, Obls4.up hs l (k + 1) h.2⟩
    have h1 := h.1
    split at h1
    · rename_i e; rw [if_pos e]; exact fun a σ hs' => h1 a σ (hs.trans hs')
    · rename_i e
      rw [if_neg e]
      split at h1
      · rename_i e; rw [if_pos e]; exact fun a σ hs' => h1 a σ (hs.trans hs')
      · rename_i e; rw [if_neg e]; exact fun a σ hs' => h1 a σ (hs.toL0.trans hs')

theorem Mid4.op {p q d N : Nat} {W : List Nat} {A B : Pr} {ops : Array Oper} {Φ : Nat → Ty} {a0 : Act} {σ0 : GW} {L : Nat → Bool} {a : Act} {σ : GW} {i : Nat} {o : Oper} {Q : Exit → Act → World → Prop} {K : Act → World → Prop}
    (hF : Form N ops) (h1 : 1 ∉ W) (hp : dstOf ops p = none) (hq : dstOf ops q = some d) (hpq : p ≠ q) (hΦ : ∀ e v, (Φ q).has e v) (hpg : ∀ o, ops[p]? = some o → o.guard = none ∧ ∃ e ∈ o.after, Region.binds .any e = true ∧ e.on = q) (hm : Mid4 p q d N W A B ops Φ a0 σ0 L a σ) (ho : ops[i]? = some o) (hL : L i = false)
    (hpo : ∃ o, ops[p]? = some o)
    (hob : if i = p then OblS P N d W A B ops Φ a0 σ0 i o else if i = q then OblQ P N A ops Φ a0 σ0 i o else Obl3 P N W ops Φ a0 σ0 i o)
    (hall : ∀ e ∈ o.after, Region.binds .any e = true → L e.on = true) (hclosed : ∀ (j : Nat) oj, ops[j]? = some oj → L j = true → ∀ e ∈ oj.after, Region.binds .any e = true → L e.on = true)
    (hK : ∀ a' σ', Mid4 p q d N W A B ops Φ a0 σ0 (fun j => L j || j == i) a' σ' → K a' σ'.w) : wpOp P ops Q i K a σ.w := by
  have hdi : dstOf ops i = o.dst := by simp [dstOf, ho]
  have hsame : ∀ t, free ops i t = true → a.eval (.tmp t) = a0.eval (.tmp t) := by
    intro t ht
    refine hm.same t fun j hj => ?_
    cases hLj : L j with
    | false => rfl
    | true =>
      exfalso
      unfold dstOf at hj
      obtain ⟨oj, hoj, hd⟩ := Option.bind_eq_some_iff.1 hj
      unfold free at ht
      have := (List.all_eq_true.1 ht) oj (List.mem_of_getElem? hoj)
      simp only [hd, bne_self_eq_false, Bool.false_or, List.any_eq_true, Bool.and_eq_true, beq_iff_eq] at this
      obtain ⟨e, he, hb, hon⟩ := this
      have := hclosed j oj (by simpa using hoj) hLj e (by simpa using he) hb
      rw [hon, hL] at this
      cases this
  have hLpq : L p = true → L q = true := fun h => by
    obtain ⟨op, hop⟩ := hpo
    obtain ⟨_, e, he, hb, hon⟩ := hpg op hop
    rw [← hon]; exact hclosed p op hop h e he hb
  have hdeps : ∀ e ∈ o.after.toList, Region.binds .any e = true → rd ops (fun i => (Φ i).pr) e.on a σ := fun e he hb => hm.done e.on (hall e (by simpa using he) hb)
  have done' : ∀ v (τ : GW), σ.Le τ → ((Φ i).has τ v ∨ dstOf ops i = none) → ∀ j, (L j || j == i) = true → rd ops (fun i => (Φ i).pr) j (a.put o.dst v) τ := by
    intro v τ hle hv j hLj
    by_cases hji : j = i
    · subst hji
      unfold rd
      cases hd : dstOf ops j with
      | none => trivial
      | some d =>
        have : o.dst = some d := by rw [← hdi]; exact hd
        simp only [this]
        rw [eval_put_same hm.ok (hF.lt j d hd)]
        exact hv.resolve_right (by rw [hd]; simp)
    · have hLj' : L j = true := by simpa [hji] using hLj
      have h0 := hm.done j hLj'
      unfold rd at h0 ⊢
      cases hd : dstOf ops j with
      | none => trivial
      | some d =>
        rw [hd] at h0
        simp only at h0 ⊢
        rw [eval_put_ne (fun he => hji (hF.uniq j i d hd (by rw [hdi]; exact he)))]
        exact (Φ j).up hle h0
  have same' : ∀ v t, (∀ j, dstOf ops j = some t → (L j || j == i) = false) → (a.put o.dst v).eval (.tmp t) = a0.eval (.tmp t) := by
    intro v t ht
    have h1 : o.dst ≠ some t := fun he => by
      have := ht i (by rw [hdi]; exact he)
      simp at this
    rw [eval_put_ne h1]
    exact hm.same t fun j hj => by
      have := ht j hj
      simp at this
      exact this.1
  by_cases hip : i = p
  · subst hip
    rw [if_pos rfl] at hob
    obtain ⟨hg, e, he, hb, hon⟩ := hpg o ho
    have hLq : L q = true := by rw [← hon]; exact hall e he hb
    have hy := Deps.elim o.after.toList hdeps (hob a σ (hm.stp0 hL) hm.ok hsame (hm.doneq hLq hL))
    have hdn : o.dst = none := by rw [← hdi]; exact hp
    unfold wpOp
    simp only [ho]
    have hw : Region.wanted o (yielded ops a.tmps) = true := by simp [Region.wanted, hg]
    rw [if_pos hw]
    refine .inl (hy K Q fun v τ hs hr => hK _ τ ⟨hm.stp.trans hs, fun h => (by simp at h), hm.ok.put _ _, done' v τ (hs.le h1) (.inr hp), fun _ h => (by simp at h), fun _ => ?_, same' v⟩)
    rw [hdn]
    exact hr
  · rw [if_neg hip] at hob
    by_cases hiq : i = q
    · subst hiq
      rw [if_pos rfl] at hob
      have hLp : L p = false := by
        cases h : L p with
        | false => rfl
        | true => rw [hLpq h] at hL; cases hL
      have hrun := Deps.elim o.after.toList hdeps (hob a σ (hm.stp0 hLp) hm.ok hsame)
      have next : ∀ v τ, Stp 0 σ τ → A.has τ v → K (a.put o.dst v) τ.w := by
        intro v τ hs hv
        refine hK _ τ ⟨hm.stp.trans hs.toL0, fun _ => (hm.stp0 hLp).trans hs, hm.ok.put _ _, done' v τ hs.le0 (.inl (hΦ _ _)), fun _ _ => ?_, fun h => ?_, same' v⟩
        · have : o.dst = some d := by rw [← hdi]; exact hq
          rw [this, eval_put_same hm.ok (hF.lt i d hq)]
          exact hv
        · rw [hLp] at h
          simp at h; exact absurd h hpq
      unfold wpOp
      simp only [ho]
      by_cases hw : Region.wanted o (yielded ops a.tmps) = true
      · rw [if_pos hw]
        exact .inl (hrun.1 hw K Q next)
      · rw [if_neg hw]
        exact next undef σ (Stp.refl _ _) (hrun.2 (by simpa using hw))
    · rw [if_neg hiq] at hob
      have hrun := Deps.elim o.after.toList hdeps (hob a σ hm.stp hm.ok hsame)
      have hne : o.dst ≠ some d := fun he => hiq (hF.uniq i q d (by rw [hdi]; exact he) hq)
      have next : ∀ v τ, Stp 0 σ τ → (Φ i).has τ v → K (a.put o.dst v) τ.w := by
        intro v τ hs hv
        refine hK _ τ ⟨hm.stp.trans hs.toL0, fun h => ?_, hm.ok.put _ _, done' v τ hs.le0 (.inl hv), fun h h2 => ?_, fun h => ?_, same' v⟩
        · simp at h; exact (hm.stp0 h.1).trans hs
        · have hLq : L q = true := by simpa [Ne.symm hiq] using h
          have hLp : L p = false := by simp at h2; exact h2.1
          rw [eval_put_ne hne]
          exact A.up hs (hm.doneq hLq hLp)
        · have hLp : L p = true := by simpa [Ne.symm hip] using h
          rw [eval_put_ne hne]
          exact B.up hs (hm.donep hLp)
      unfold wpOp
      simp only [ho]
      by_cases hw : Region.wanted o (yielded ops a.tmps) = true
      · rw [if_pos hw]
        exact .inl (hrun.1 hw K Q next)
      · rw [if_neg hw]
        exact next undef σ (Stp.refl _ _) (hrun.2 (by simpa using hw))
end Go.KL

/- Plain maths: lists in order, false heads. -/
namespace Go.KL
/-! ### The order of lists -/
/-! ### Lists in order, merged -/
/-! The steps of merging -/
/-! ### Each once -/
/-! ### False heads -/
section
variable {rows : List (List Int)} {m i k : Nat}
end
/-! ### Counted by rank -/
end Go.KL

/- Both proofs agree: a touch is true row by row just when it is by the heads of its leads. -/
namespace Go.KL
/-! ### Rows as a group -/
structure RowN (n : Nat) (r : List Int) : Prop where
  row : IsRow r
  len : r.length = n
theorem RowN.bd {n : Nat} {r : List Int} (h : RowN n r) : In n r := by have := h.row.bds; rwa [h.len] at this
theorem RowN.by {n : Nat} {a b : List Int} (h : RowN n a) (k : RowN n b) : RowN n (byL a b) := ⟨byL_row h.row k.row (by rw [h.len, k.len]), by rw [byL_len, k.len]⟩
/-! ### A lead from its head -/
section
variable {nm : ByteArray} {n : Nat} {l : List (List Int)} {cs : List BCall} {p : List Int}
end
end Go.KL

/- Falseness is closed under what undoes it. -/
namespace Go.KL
/-! ### Falseness is closed under what undoes it -/
end Go.KL

/- What the law of touches that are true wants. -/
namespace Go.KL
end Go.KL

/- A callee that answers with what is new, called with what is owned. -/
namespace Go.KL
open Go.RowKit
variable {P : Program}
variable {d : Option Tmp} {ty : TypeId} {pos : String} {af : Array Edge} {g : Option (Nat × Bool)} {a : Act} {σ : GW}
end Go.KL

/- Runes, written as bytes: bits of bytes, rows of three and four new bytes. -/
namespace Go.KL
open Go.RowKit Go.Lib
section
variable {P : Program} {d : Option Tmp} {ty : TypeId} {pos : String} {af : Array Edge} {g : Option (Nat × Bool)} {a : Act} {σ : GW}
theorem wraps_u8 (n : Int) (h0 : 0 ≤ n) (h1 : n < 2 ^ 8) : IntKind.u8.wrap n = n := wrap_u8 h0 (by omega)
theorem y_or8 {x y : Operand} {t u : TypeId} {c : Int} {i m : Nat} (hx : a.eval x = .int .u8 ((m * 2 ^ i : Nat) : Int)) (hy : a.eval y = .int .u8 c) (h0 : 0 ≤ c) (h : c < 2 ^ i) (hm : m * 2 ^ i < 256) (h8 : c < 256) :
    Yld P ⟨d, .binOp .or t x y u, ty, pos, af, g⟩ a σ (Ty.val (.int .u8 (((m * 2 ^ i : Nat) : Int) + c))).pr := by
  have e : bits .or .u8 ((m * 2 ^ i : Nat) : Int) c = ((m * 2 ^ i : Nat) : Int) + c := by
    obtain ⟨n, rfl⟩ : ∃ n : Nat, c = (n : Int) := ⟨c.toNat, by omega⟩
    have hn : n < 2 ^ i := by exact_mod_cast h
    rw [(bits_nat .u8 8 (by decide) wraps_u8 (m * 2 ^ i) n (by omega) (by omega)).2]
    have := Nat.two_pow_add_eq_or_of_lt (i := i) (b := n) hn m
    rw [Nat.mul_comm m, ← this]
    exact Int.natCast_add _ _
  exact Yld.of_run (v := .int .u8 (((m * 2 ^ i : Nat) : Int) + c)) (by simp only [execOp, hx, hy]; simp only [go_sem, e]; try rfl) rfl
theorem y_and8 {x y : Operand} {t u : TypeId} {c : Int} (hx : a.eval x = .int .u8 c) (hy : a.eval y = .int .u8 63) (h0 : 0 ≤ c) (h : c < 256) :
    Yld P ⟨d, .binOp .and t x y u, ty, pos, af, g⟩ a σ (Ty.val (.int .u8 (c % 64))).pr := by
  have e : bits .and .u8 c 63 = c % 64 := by
    obtain ⟨n, rfl⟩ : ∃ n : Nat, c = (n : Int) := ⟨c.toNat, by omega⟩
    have h1 := (bits_nat .u8 8 (by decide) wraps_u8 n 63 (by omega) (by decide)).1
    have h2 : n &&& 63 = n % 64 := Nat.and_two_pow_sub_one_eq_mod n 6
    rw [h2] at h1
    exact h1
  exact Yld.of_run (v := .int .u8 (c % 64)) (by simp only [execOp, hx, hy]; simp only [go_sem, e]; try rfl) rfl
theorem y_shr6 {x y : Operand} {t u : TypeId} {c : Int} (hx : a.eval x = .int .i32 c) (hy : a.eval y = .int .u64 6) : Yld P ⟨d, .binOp .shr t x y u, ty, pos, af, g⟩ a σ (Ty.val (.int .i32 (c / 64))).pr :=
  Yld.of_run (v := .int .i32 (c / 64)) (by simp only [execOp, hx, hy]; simp [go_sem]; try rfl) rfl
theorem y_shr12 {x y : Operand} {t u : TypeId} {c : Int} (hx : a.eval x = .int .i32 c) (hy : a.eval y = .int .u64 12) : Yld P ⟨d, .binOp .shr t x y u, ty, pos, af, g⟩ a σ (Ty.val (.int .i32 (c / 4096))).pr :=
  Yld.of_run (v := .int .i32 (c / 4096)) (by simp only [execOp, hx, hy]; simp [go_sem]; try rfl) rfl
theorem y_shr18 {x y : Operand} {t u : TypeId} {c : Int} (hx : a.eval x = .int .i32 c) (hy : a.eval y = .int .u64 18) : Yld P ⟨d, .binOp .shr t x y u, ty, pos, af, g⟩ a σ (Ty.val (.int .i32 (c / 262144))).pr :=
  Yld.of_run (v := .int .i32 (c / 262144)) (by simp only [execOp, hx, hy]; simp [go_sem]; try rfl) rfl
theorem y_build3 {x y u : Operand} {t e : TypeId} {T U V : Ty} {z : Value} {b : Nat} (ht : P.underlying t = some (.slice e)) (he : Info P e z 1 b) (hz : z.cells.size = 1) (oT : One T) (oU : One U) (oV : One V) (hx : At T σ a x) (hy : At U σ a y) (hu : At V σ a u) :
    Yld P ⟨d, .buildSlice t 3 #[(0, x), (1, y), (2, u)], ty, pos, af, g⟩ a σ (Ty.sl 1 3 [T, U, V]).pr := by
  intro K Q hk
  have h1 := cells_of_one (oT _ _ hx)
  have h2 := cells_of_one (oU _ _ hy)
  have h3 := cells_of_one (oV _ _ hu)
  have hr : (execOp a.eval ⟨d, .buildSlice t 3 #[(0, x), (1, y), (2, u)], ty, pos, af, g⟩).run P σ.w = .ok (.value (.slice (some ⟨σ.w.heap.size, 0, none⟩) 3 3)) (σ.w.alloc (.cells #[a.eval x, a.eval y, a.eval u] e)) := by
    simp only [execOp, List.map_toArray, List.map_cons, List.map_nil]
    generalize a.eval x = v at h1 ⊢
    generalize a.eval y = v' at h2 ⊢
    generalize a.eval u = v'' at h3 ⊢
    have hr : Array.range 3 = #[0, 1, 2] := rfl
    simp [Instr.buildSlice, run_underlying ht, he.size, he.zero, Instr.fill, h1, h2, h3, hz, newRow, newObj, Sem.run, Sem.run_bind, hr]
  unfold Oper.wp
  rw [hr]
  refine hk _ (σ.seal (.cells #[a.eval x, a.eval y, a.eval u] e)) (Stp.seal _ _) ⟨_, 3, σ.w.heap.size, 0, rfl, ⟨Nat.le_refl _, by decide⟩, rfl, .inr ⟨rfl, by simp [GW.seal]⟩, fun j W hj => ?_⟩
  match j, hj with
  | 0, hj =>
    simp at hj; subst hj
    refine ⟨a.eval x, ?_, T.up (Stp.seal _ _).le0 hx⟩
    show World.cell? (σ.w.alloc _) _ = _
    simp only [World.cell?, heap_alloc_new]
    rfl
  | 1, hj =>
    simp at hj; subst hj
    refine ⟨a.eval y, ?_, U.up (Stp.seal _ _).le0 hy⟩
    show World.cell? (σ.w.alloc _) _ = _
    simp only [World.cell?, heap_alloc_new]
    rfl
  | 2, hj =>
    simp at hj; subst hj
    refine ⟨a.eval u, ?_, V.up (Stp.seal _ _).le0 hu⟩
    show World.cell? (σ.w.alloc _) _ = _
    simp only [World.cell?, heap_alloc_new]
    rfl
theorem y_build4 {x y u w : Operand} {t e : TypeId} {T U V W : Ty} {z : Value} {b : Nat} (ht : P.underlying t = some (.slice e)) (he : Info P e z 1 b) (hz : z.cells.size = 1) (oT : One T) (oU : One U) (oV : One V) (oW : One W) (hx : At T σ a x) (hy : At U σ a y) (hu : At V σ a u) (hw : At W σ a w) :
    Yld P ⟨d, .buildSlice t 4 #[(0, x), (1, y), (2, u), (3, w)], ty, pos, af, g⟩ a σ (Ty.sl 1 4 [T, U, V, W]).pr := by
  intro K Q hk
  have h1 := cells_of_one (oT _ _ hx)
  have h2 := cells_of_one (oU _ _ hy)
  have h3 := cells_of_one (oV _ _ hu)
  have h4 := cells_of_one (oW _ _ hw)
  have hr : (execOp a.eval ⟨d, .buildSlice t 4 #[(0, x), (1, y), (2, u), (3, w)], ty, pos, af, g⟩).run P σ.w = .ok (.value (.slice (some ⟨σ.w.heap.size, 0, none⟩) 4 4)) (σ.w.alloc (.cells #[a.eval x, a.eval y, a.eval u, a.eval w] e)) := by
    simp only [execOp, List.map_toArray, List.map_cons, List.map_nil]
    generalize a.eval x = v at h1 ⊢
    generalize a.eval y = v' at h2 ⊢
    generalize a.eval u = v'' at h3 ⊢
    generalize a.eval w = v3 at h4 ⊢
    have hr : Array.range 4 = #[0, 1, 2, 3] := rfl
    simp [Instr.buildSlice, run_underlying ht, he.size, he.zero, Instr.fill, h1, h2, h3, h4, hz, newRow, newObj, Sem.run, Sem.run_bind, hr]
  unfold Oper.wp
  rw [hr]
  refine hk _ (σ.seal (.cells #[a.eval x, a.eval y, a.eval u, a.eval w] e)) (Stp.seal _ _) ⟨_, 4, σ.w.heap.size, 0, rfl, ⟨Nat.le_refl _, by decide⟩, rfl, .inr ⟨rfl, by simp [GW.seal]⟩, fun j X hj => ?_⟩
  match j, hj with
  | 0, hj =>
    simp at hj; subst hj
    refine ⟨a.eval x, ?_, T.up (Stp.seal _ _).le0 hx⟩
    show World.cell? (σ.w.alloc _) _ = _
    simp only [World.cell?, heap_alloc_new]
    rfl
  | 1, hj =>
    simp at hj; subst hj
    refine ⟨a.eval y, ?_, U.up (Stp.seal _ _).le0 hy⟩
    show World.cell? (σ.w.alloc _) _ = _
    simp only [World.cell?, heap_alloc_new]
    rfl
  | 2, hj =>
    simp at hj; subst hj
    refine ⟨a.eval u, ?_, V.up (Stp.seal _ _).le0 hu⟩
    show World.cell? (σ.w.alloc _) _ = _
    simp only [World.cell?, heap_alloc_new]
    rfl
  | 3, hj =>
    simp at hj; subst hj
    refine ⟨a.eval w, ?_, W.up (Stp.seal _ _).le0 hw⟩
    show World.cell? (σ.w.alloc _) _ = _
    simp only [World.cell?, heap_alloc_new]
    rfl
end
theorem wrap_u32m (c : Int) : IntKind.u32.wrap c = c % 4294967296 := by simp [IntKind.wrap, IntKind.bits, IntKind.signed]
theorem wrap_u8m (c : Int) : IntKind.u8.wrap c = c % 256 := by simp [IntKind.wrap, IntKind.bits, IntKind.signed]
def bt (e : Int) : UInt8 := e.toNat.toUInt8
theorem bt_nat (n : Nat) (m : Int) (h : m.toNat = n) : UInt8.ofNat n = bt m := by subst h; rfl
theorem enc_2 {c : Int} (h : 128 ≤ c) (h2 : c ≤ 2047) : (Utf8.encode c).data.toList = [bt (192 + c / 64), bt (128 + c % 64)] := by
  have hv : Utf8.valid c = true := by simp [Utf8.valid]; omega
  unfold Utf8.encode
  simp only [hv, if_true]
  rw [if_neg (by omega), if_pos (by omega)]
  show [UInt8.ofNat _, UInt8.ofNat _] = _
  rw [bt_nat _ (192 + c / 64) (by omega), bt_nat _ (128 + c % 64) (by omega)]
theorem enc_3 {c : Int} (h : 2048 ≤ c) (h2 : c ≤ 65535) (hs : c < 55296 ∨ 57343 < c) : (Utf8.encode c).data.toList = [bt (224 + c / 4096), bt (128 + c / 64 % 64), bt (128 + c % 64)] := by
  have hv : Utf8.valid c = true := by simp [Utf8.valid]; omega
  unfold Utf8.encode
  simp only [hv, if_true]
  rw [if_neg (by omega), if_neg (by omega), if_pos (by omega)]
  show [UInt8.ofNat _, UInt8.ofNat _, UInt8.ofNat _] = _
  rw [bt_nat _ (224 + c / 4096) (by omega), bt_nat _ (128 + c / 64 % 64) (by omega), bt_nat _ (128 + c % 64) (by omega)]
theorem enc_4 {c : Int} (h : 65535 < c) (h2 : c ≤ 1114111) : (Utf8.encode c).data.toList = [bt (240 + c / 262144), bt (128 + c / 4096 % 64), bt (128 + c / 64 % 64), bt (128 + c % 64)] := by
  have hv : Utf8.valid c = true := by simp [Utf8.valid]; omega
  unfold Utf8.encode
  simp only [hv, if_true]
  rw [if_neg (by omega), if_neg (by omega), if_neg (by omega)]
  show [UInt8.ofNat _, UInt8.ofNat _, UInt8.ofNat _, UInt8.ofNat _] = _
  rw [bt_nat _ (240 + c / 262144) (by omega), bt_nat _ (128 + c / 4096 % 64) (by omega), bt_nat _ (128 + c / 64 % 64) (by omega), bt_nat _ (128 + c % 64) (by omega)]
theorem enc_bad {c : Int} (h : c < 0 ∨ (55296 ≤ c ∧ c ≤ 57343) ∨ 1114111 < c) : (Utf8.encode c).data.toList = [bt 239, bt 191, bt 189] := by
  have hv : Utf8.valid c = false := by simp [Utf8.valid]; omega
  unfold Utf8.encode
  simp only [hv, Bool.false_eq_true, if_false]
  decide
theorem enc_1 {c : Int} (h0 : 0 ≤ c) (h1 : c ≤ 127) : (Utf8.encode c).data.toList = [bt c] := by
  have hv : Utf8.valid c = true := by simp [Utf8.valid]; omega
  unfold Utf8.encode
  simp only [hv, if_true]
  rw [if_pos (by omega)]
  rfl
end Go.KL

/- Touches there and back: what is printed of leads is read as these. -/
namespace Go.KL
open Go.RowKit Go.Lib
structure Sgn (cs : List BCall) : Prop where
  lo : ∀ k, k < cs.length → 58 ≤ (cs.getD k D0).1 ∧ (cs.getD k D0).1 < 128
  un : ∀ j k, j < k → k < cs.length → (cs.getD j D0).1 ≠ (cs.getD k D0).1
def sgn (cs : List BCall) (x : Int) : Int := (cs.getD x.toNat D0).1
def pcL (cs : List BCall) (n : Nat) (x : Int) : List UInt8 := (if 1 < n then decL n else []) ++ [bt (sgn cs x)]
def prL (cs : List BCall) : Nat → List Int → List UInt8
  | _, [] => []
  | n, x :: r => if (r ≠ [] ∧ r.getD 0 0 = x) ∧ n + 1 < 99 then prL cs (n + 1) r else pcL cs (n + 1) x ++ prL cs 0 r
def rn (l : List UInt8) : List Int := l.map fun b => ((b.toNat : Nat) : Int)
theorem rn_app (a b : List UInt8) : rn (a ++ b) = rn a ++ rn b := List.map_append
theorem bsL_app (a b : List UInt8) : bsL (a ++ b) = bsL a ++ bsL b := by apply ByteArray.ext; simp [bsL]
theorem bt_toNat {c : Int} (h0 : 0 ≤ c) (h : c < 256) : (((bt c).toNat : Nat) : Int) = c := by
  unfold bt
  have : c.toNat.toUInt8.toNat = c.toNat := by simp; omega
  rw [this, Int.toNat_of_nonneg h0]
section
variable {cs : List BCall}
theorem prR_L (hs : Sgn cs) : ∀ (n : Nat) (l : List Int), (∀ k, k < l.length → 0 ≤ l.getD k 0 ∧ l.getD k 0 < (cs.length : Int)) → prR cs n l = bsL (prL cs n l)
  | _, [], _ => rfl
  | n, x :: r, h => by
    have hr : ∀ k, k < r.length → 0 ≤ r.getD k 0 ∧ r.getD k 0 < (cs.length : Int) := fun k hk => by
      have := h (k + 1) (by simp; omega)
      simpa using this
    have hx := h 0 (by simp)
    simp only [List.getD_cons_zero] at hx
    rw [prR, prL]
    split
    · exact prR_L hs (n + 1) r hr
    · have hl := hs.lo x.toNat (by omega)
      have e : Utf8.encode (cs.getD x.toNat D0).1 = bsL [bt (sgn cs x)] := by
        apply ByteArray.ext
        apply Array.ext'
        rw [enc_1 (by omega) (by omega)]
        rfl
      rw [prR_L hs 0 r hr, bsL_app]
      congr 1
      unfold pcB pcL
      rw [bsL_app, e]
      congr 1
      split
      · rfl
      · rfl
theorem decL_lo (n : Nat) (h : n < 100) : ∀ b ∈ decL n, b.toNat < 128 := by
  have : ∀ m : Fin 100, ∀ b ∈ decL m.val, b.toNat < 128 := by decide +kernel
  exact this ⟨n, h⟩
theorem pcL_lo (hs : Sgn cs) {n : Nat} {x : Int} (hn : n < 100) (hx : 0 ≤ x ∧ x < (cs.length : Int)) : ∀ b ∈ pcL cs n x, b.toNat < 128 := by
  intro b hb
  have hl := hs.lo x.toNat (by omega)
  unfold pcL at hb
  rcases List.mem_append.1 hb with h | h
  · split at h
    · exact decL_lo n hn b h
    · cases h
  · rw [List.mem_singleton.1 h]
    have := bt_toNat (c := sgn cs x) (by unfold sgn; omega) (by unfold sgn; omega)
    have h2 : sgn cs x < 128 := hl.2
    omega
theorem prL_lo (hs : Sgn cs) : ∀ (n : Nat) (l : List Int), n ≤ 98 → (∀ k, k < l.length → 0 ≤ l.getD k 0 ∧ l.getD k 0 < (cs.length : Int)) → ∀ b ∈ prL cs n l, b.toNat < 128
  | _, [], _, _ => fun b hb => by cases hb
  | n, x :: r, hn, h => by
    have hr : ∀ k, k < r.length → 0 ≤ r.getD k 0 ∧ r.getD k 0 < (cs.length : Int) := fun k hk => by
      have := h (k + 1) (by simp; omega)
      simpa using this
    have hx := h 0 (by simp)
    simp only [List.getD_cons_zero] at hx
    intro b hb
    rw [prL] at hb
    split at hb
    · exact prL_lo hs (n + 1) r (by omega) hr b hb
    · rcases List.mem_append.1 hb with h1 | h1
      · exact pcL_lo hs (by omega) hx b h1
      · exact prL_lo hs 0 r (by omega) hr b h1
theorem num_none {c : Int} {r : List Int} (h : ¬ (48 ≤ c ∧ c ≤ 57)) (n : Int) (b : Bool) : numR n b (c :: r) = ⟨0, n, b, c :: r⟩ := by rw [numR, if_neg h]
theorem num_dec {n : Nat} {c : Int} {r : List Int} (h1 : 1 ≤ n) (h : n < 100) (hc : ¬ (48 ≤ c ∧ c ≤ 57)) : numR 0 false (rn (decL n) ++ c :: r) = ⟨0, (n : Int), true, c :: r⟩ := by
  by_cases hn : n < 10
  · have e : rn (decL n) = [48 + (n : Int)] := by
      have : ∀ m : Fin 10, rn (decL m.val) = [48 + (m.val : Int)] := by decide +kernel
      exact this ⟨n, hn⟩
    rw [e, List.singleton_append, numR, if_pos (by omega), if_neg (by omega), num_none hc]
    congr 1; omega
  · have e : rn (decL n) = [48 + ((n / 10 : Nat) : Int), 48 + ((n % 10 : Nat) : Int)] := by
      have : ∀ m : Fin 100, ¬ m.val < 10 → rn (decL m.val) = [48 + ((m.val / 10 : Nat) : Int), 48 + ((m.val % 10 : Nat) : Int)] := by decide +kernel
      exact this ⟨n, h⟩ hn
    rw [e, List.cons_append, numR, if_pos (by omega), if_neg (by omega), List.singleton_append, numR, if_pos (by omega), if_neg (by omega), num_none hc]
    congr 1; omega
theorem sgn_at (hs : Sgn cs) {x : Int} (hx : 0 ≤ x ∧ x < (cs.length : Int)) : sgn cs x ∈ sgOf cs ∧ indexL (sgOf cs) (sgn cs x) = x := by
  have := sign_at (cs := cs) (c := sgn cs x) (k := x.toNat) (by omega) (fun j hj => hs.un j x.toNat hj (by omega)) rfl
  exact ⟨this.1, by rw [this.2]; omega⟩
theorem repL_single (n : Nat) (x : Int) : repL n [x] = List.replicate n x := by
  induction n with
  | zero => rfl
  | succ n ih => rw [repL_succ, ih, List.replicate_succ']
theorem it_piece (hs : Sgn cs) {deep n : Nat} {x : Int} {tl : List Int} (h1 : 1 ≤ n) (h : n < 100) (hx : 0 ≤ x ∧ x < (cs.length : Int)) :
    itM (sgOf cs) deep (rn (pcL cs n x) ++ tl) = ⟨0, List.replicate n x, tl⟩ := by
  have hl := hs.lo x.toNat (by omega)
  have hsg : 58 ≤ sgn cs x ∧ sgn cs x < 128 := hl
  have e : rn (pcL cs n x) ++ tl = rn (if 1 < n then decL n else []) ++ sgn cs x :: tl := by
    unfold pcL
    rw [rn_app, List.append_assoc]
    congr 1
    show (((bt (sgn cs x)).toNat : Nat) : Int) :: tl = _
    rw [bt_toNat (by omega) (by omega)]
  have hs1 := sgn_at hs hx
  have one : oneM (sgOf cs) (parM (sgOf cs)) deep (sgn cs x :: tl) = ⟨0, [x], tl⟩ := by
    have h40 : ¬ (sgn cs x :: tl).getD 0 0 = 40 := by show ¬ sgn cs x = 40; omega
    rw [one_sign h40 (by
      show ¬ (sgn cs x ∉ sgOf cs ∨ sgn cs x < 0)
      rintro (h_ | h_)
      · exact h_ hs1.1
      · omega)]
    show (⟨0, [indexL (sgOf cs) (sgn cs x)], tl⟩ : ItP) = _
    rw [hs1.2]
  rw [e]
  by_cases hn : 1 < n
  · rw [if_pos hn]
    have hnum := num_dec (n := n) (c := sgn cs x) (r := tl) h1 h (by omega)
    rw [it_rp hnum (by simp) (by rw [one]), one, if_pos rfl, rp_ok (by simp; omega), Int.toNat_natCast, repL_single]
  · rw [if_neg hn]
    have hn1 : n = 1 := by omega
    have hnum : numR 0 false (rn [] ++ sgn cs x :: tl) = ⟨0, 0, false, sgn cs x :: tl⟩ := num_none (by omega) 0 false
    rw [it_rp hnum (by simp) (by rw [one]), one, if_neg (by simp), rp_ok (by simp), hn1]
    rfl
theorem rn_piece_ne (hs : Sgn cs) {n : Nat} {x : Int} {tl : List Int} (h : n < 100) (hx : 0 ≤ x ∧ x < (cs.length : Int)) : ¬ (rn (pcL cs n x) ++ tl = [] ∨ (rn (pcL cs n x) ++ tl).getD 0 0 = 41) := by
  have hl := hs.lo x.toNat (by omega)
  have hsg : 58 ≤ sgn cs x ∧ sgn cs x < 128 := hl
  unfold pcL
  split
  · rename_i hn
    have hd : ∀ m : Fin 100, 1 < m.val → rn (decL m.val) ≠ [] ∧ (rn (decL m.val)).getD 0 0 ≠ 41 := by decide +kernel
    have h2 := hd ⟨n, h⟩ hn
    simp only at h2
    obtain ⟨c, r, e⟩ := List.exists_cons_of_ne_nil h2.1
    have h3 := h2.2
    rw [e] at h3
    rw [rn_app, e]
    rintro (h_ | h_)
    · simp at h_
    · exact h3 h_
  · rintro (h_ | h_)
    · simp [rn] at h_
    · have : (((bt (sgn cs x)).toNat : Nat) : Int) = 41 := h_
      rw [bt_toNat (by omega) (by omega)] at this
      omega
theorem par_print (hs : Sgn cs) {deep : Nat} {tl : List Int} : ∀ (l : List Int) (n : Nat) (out : List Int), n ≤ 98 → (0 < n → l ≠ []) → (∀ k, k < l.length → 0 ≤ l.getD k 0 ∧ l.getD k 0 < (cs.length : Int)) → out.length + n + l.length ≤ 400 →
    parM (sgOf cs) deep out (rn (prL cs n l) ++ tl) = parM (sgOf cs) deep (out ++ List.replicate n (l.getD 0 0) ++ l) tl
  | [], n, out, _, hn, _, _ => by
    have : n = 0 := by
      rcases Nat.eq_zero_or_pos n with h | h
      · exact h
      · exact absurd rfl (hn h)
    subst this
    simp [prL, rn]
  | x :: r, n, out, hn, _, h, hlen => by
    have hr : ∀ k, k < r.length → 0 ≤ r.getD k 0 ∧ r.getD k 0 < (cs.length : Int) := fun k hk => by
      have := h (k + 1) (by simp; omega)
      simpa using this
    have hx := h 0 (by simp)
    simp only [List.getD_cons_zero] at hx ⊢
    simp only [List.length_cons] at hlen
    rw [prL]
    split
    · rename_i hc
      rw [par_print hs r (n + 1) out (by omega) (fun _ => hc.1.1) hr (by omega), hc.1.2]
      congr 1
      rw [List.replicate_succ']
      simp
    · have hp := it_piece hs (deep := deep) (n := n + 1) (x := x) (tl := rn (prL cs 0 r) ++ tl) (by omega) (by omega) hx
      have hne := rn_piece_ne hs (n := n + 1) (x := x) (tl := rn (prL cs 0 r) ++ tl) (by omega) hx
      rw [rn_app, List.append_assoc]
      have hg := x_go (deep := deep) (out := out) rfl hne hp (by simp; omega)
      rw [← hg, par_print hs r 0 (out ++ List.replicate (n + 1) x) (by omega) (fun h => absurd h (by omega)) hr (by simp; omega)]
      congr 1
      rw [List.replicate_succ']
      simp
theorem prL_len (n : Nat) (l : List Int) : (prL cs n l).length ≤ 3 * l.length := by
  induction l generalizing n with
  | nil => simp [prL]
  | cons x r ih =>
    rw [prL]
    split
    · have := ih (n + 1); simp; omega
    · have h1 := ih 0
      have h2 : (pcL cs (n + 1) x).length ≤ 3 := by
        unfold pcL
        split
        · have : (decL (n + 1)).length ≤ 2 := by unfold decL; split <;> simp
          simp; omega
        · simp
      simp only [List.length_append, List.length_cons]; omega
theorem there {l : List Int} (hs : Sgn cs) (h1 : 1 ≤ l.length) (h2 : l.length ≤ 60) (hv : ∀ k, k < l.length → 0 ≤ l.getD k 0 ∧ l.getD k 0 < (cs.length : Int)) :
    (ptM (sgOf cs) (ptT cs l)).err = 0 ∧ (ptM (sgOf cs) (ptT cs l)).out = l := by
  have hg := pt_good (cs := cs) (l := l) (by omega) hv
  rw [hg.2, prR_L hs 0 l hv]
  have hL := asc_runs (prL_lo hs 0 l (by omega) hv)
  have hsz : ¬ 4000 < (bsL (prL cs 0 l)).size := by rw [bsL_size]; have := prL_len (cs := cs) 0 l; omega
  have hp : parM (sgOf cs) 0 [] (runsL (bsL (prL cs 0 l))) = ⟨0, l, []⟩ := by
    rw [hL]
    have := par_print hs (deep := 0) (tl := []) l 0 [] (by omega) (fun h => absurd h (by omega)) hv (by simp; omega)
    rw [List.append_nil] at this
    show parM _ _ _ (rn _) = _
    rw [this, par_stop (.inl rfl)]
    simp
  rw [pt_ok hsz hp.symm rfl rfl (by intro e; simp only at e; rw [e] at h1; simp at h1)]
  exact ⟨rfl, rfl⟩
end
end Go.KL
namespace Go.KL
end Go.KL

/- From a row's reading of its arguments to semantic types, and from a law's contract back to the row. -/
namespace Go.KL
open Go.ChangeShapes Go.WideShapes Go.ChangeAt Go.RowKit Go.Deep
variable {P : Program}

def GW.all (W : World) : GW := ⟨W, fun b => if b < W.heap.size then 1 else 0, fun b h => by
  by_cases hb : b < W.heap.size
  · exact hb
  · simp [hb] at h⟩

structure Bulk {H : Type} (B : DataW H → Nat) (BA : List (DataW H) → Nat) : Prop where
  one : ∀ d, 1 ≤ B d
  str : ∀ l, B (.lit (.string l)) = l.length + 1
  slice : ∀ es sp, B (.slice es sp) = BA es + BA sp + 1
  agg : ∀ ps, B (.agg ps) = BA ps + 1
  nil : BA [] = 0
  cons : ∀ d r, BA (d :: r) = B d + BA r

def Rd (P : Program) (t : TypeId) {α : Type} (cells : α → List Ty) (wf : α → Prop) (sz : α → Nat) (rc : α → Prop) : Prop :=
  ∀ (H : Type) (enc : TypeId × Value → H) (B : DataW H → Nat) (BA : List (DataW H) → Nat), Bulk B BA → ∀ (W : World) (fuel : Nat) (cs : List Value) (d : DataW H) (ps : List MemPlace),
    DataW.trod enc P W 0 (fun _ => true) true fuel t cs = some (d, ps) → ∃ x : α, wf x ∧ sz x ≤ B d ∧ ((d.weights P t).all (· ≤ reachBytes) = true → rc x) ∧ cs.length = (cells x).length ∧
      ∀ (j : Nat) (T : Ty) (u : Value), (cells x)[j]? = some T → cs[j]? = some u → T.has (GW.all W) u

theorem one_cell {T : Ty} {v : Value} {σ : GW} (h : T.has σ v) : ∀ (j : Nat) (U : Ty) (u : Value), [T][j]? = some U → [v][j]? = some u → U.has σ u := by
  intro j U u h1 h2
  match j with
  | 0 => simp at h1 h2; subst h1; subst h2; exact h
  | j + 1 => simp at h1

theorem rd_int {t : TypeId} {k : IntKind} (ht : P.underlying t = some (.int k)) : Rd P t (fun n : Int => [Ty.val (.int k n)]) (fun n => (Lit.int k n).wf = true) (fun _ => 1) (fun _ => True) := by
  intro H enc B BA hB W fuel cs d ps h
  obtain ⟨n, rfl, e, hw⟩ := DataW.trod_int ht h
  obtain ⟨rfl, rfl⟩ := Prod.mk.inj e
  exact ⟨n, hw, hB.one _, fun _ => trivial, rfl, one_cell rfl⟩
theorem rd_str {t : TypeId} (ht : P.underlying t = some .string) : Rd P t (fun s : ByteArray => [Ty.val (.string s)]) (fun s => s.size ≤ maxLen) (fun s => s.size + 1) (fun s => s.size ≤ reachBytes) := by
  intro H enc B BA hB W fuel cs d ps h
  obtain ⟨s, rfl, e, hw⟩ := DataW.trod_string ht h
  obtain ⟨rfl, rfl⟩ := Prod.mk.inj e
  refine ⟨s, hw, by rw [hB.str]; simp, fun h => ?_, rfl, one_cell rfl⟩
  simpa [DataW.weights] using h

theorem BA_map {H : Type} {B : DataW H → Nat} {BA : List (DataW H) → Nat} (hB : Bulk B BA) {α : Type} (sz : α → Nat) : ∀ (xs : List α) (D : List (DataW H)), xs.length = D.length → (∀ (i : Nat) x d, xs[i]? = some x → D[i]? = some d → sz x ≤ B d) → (xs.map sz).sum ≤ BA D
  | [], [], _, _ => by simp
  | x :: xs, d :: D, hl, h => by
    rw [hB.cons, List.map_cons, List.sum_cons]
    have h0 := h 0 x d rfl rfl
    have := BA_map hB sz xs D (by simpa using hl) (fun i y e hy he => h (i + 1) y e (by simpa using hy) (by simpa using he))
    omega

theorem weightsAll_mem {H : Type} {e : TypeId} : ∀ {D : List (DataW H)} {d : DataW H}, d ∈ D → ∀ n, n ∈ d.weights P e → n ∈ DataW.weightsAll P e D
  | x :: D, d, h, n, hn => by
    simp only [DataW.weightsAll, List.mem_append]
    rcases List.mem_cons.1 h with rfl | h
    · exact .inl hn
    · exact .inr (weightsAll_mem h n hn)

theorem spot_none {w : World} {a : Addr} {v : Value} (h : w.cell? a = some v) : a.spot = none := by
  unfold World.cell? at h
  split at h
  · split at h
    · cases h
    · rename_i hs; simpa using hs
  · cases h

theorem rd_slice {t e c : TypeId} {α : Type} {cells : α → List Ty} {wf : α → Prop} {sz : α → Nat} {rc : α → Prop} (ht : P.underlying t = some (.slice e)) (hc : P.cellsOf e = c) (hc0 : 0 < c) (he : Rd P e cells wf sz rc) (hcl : ∀ x, wf x → (cells x).length = c) :
    Rd P t (fun xs : List α => [Ty.sl c xs.length (xs.flatMap cells)]) (fun xs => xs.length ≤ maxLen ∧ ∀ x ∈ xs, wf x) (fun xs => (xs.map sz).sum + 1) (fun xs => xs.length * P.bytesOf e ≤ reachBytes ∧ ∀ x ∈ xs, rc x) := by
  intro H enc B BA hB W fuel cs d ps h
  rcases open_slice ht h with ⟨rfl, e1⟩ | ⟨a, len, cap, m, n, D, Pl, rfl, _, hlen, hcap, hm, e1, hel⟩
  · obtain ⟨rfl, rfl⟩ := Prod.mk.inj e1
    exact ⟨[], ⟨Nat.zero_le _, fun x h => by cases h⟩, by simpa using hB.one _, fun _ => ⟨by simp, fun x h => by cases h⟩, rfl, one_cell ⟨none, 0, 0, 0, rfl, ⟨Nat.le_refl _, by decide⟩, by simp, .inl rfl, fun j T hj => by simp at hj⟩⟩
  · obtain ⟨rfl, rfl⟩ := Prod.mk.inj e1
    subst hc
    simp only [if_true] at hm
    subst hm
    have hx : ∀ i : Fin len, ∃ x : α, ∃ cs' : List Value, W.cells? 0 (a.add (i * P.cellsOf e)) (P.cellsOf e) = some cs' ∧ wf x ∧ sz x ≤ B (D i) ∧ (((D i).weights P e).all (· ≤ reachBytes) = true → rc x) ∧ cs'.length = (cells x).length ∧
        ∀ (j : Nat) (T : Ty) (u : Value), (cells x)[j]? = some T → cs'[j]? = some u → T.has (GW.all W) u := by
      intro i
      obtain ⟨cs', h1, h2⟩ := hel i (by omega)
      obtain ⟨x, hx⟩ := he H enc B BA hB W n cs' _ _ h2
      exact ⟨x, cs', h1, hx⟩
    let f : Fin len → α := fun i => Classical.choose (hx i)
    have hf : ∀ i : Fin len, ∃ cs' : List Value, W.cells? 0 (a.add (i * P.cellsOf e)) (P.cellsOf e) = some cs' ∧ wf (f i) ∧ sz (f i) ≤ B (D i) ∧ (((D i).weights P e).all (· ≤ reachBytes) = true → rc (f i)) ∧ cs'.length = (cells (f i)).length ∧
        ∀ (j : Nat) (T : Ty) (u : Value), (cells (f i))[j]? = some T → cs'[j]? = some u → T.has (GW.all W) u := fun i => Classical.choose_spec (hx i)
    have hlf : (List.ofFn f).length = len := by simp
    have hget : ∀ (i : Nat) (x : α), (List.ofFn f)[i]? = some x → ∃ hi : i < len, x = f ⟨i, hi⟩ := fun i x h => by
      have hi : i < len := by have := (List.getElem?_eq_some_iff.1 h).1; simpa using this
      refine ⟨hi, ?_⟩
      rw [List.getElem?_ofFn] at h
      simp [hi] at h
      exact h.symm
    have hmem : ∀ x ∈ List.ofFn f, ∃ i : Fin len, x = f i := fun x h => by
      obtain ⟨i, hi⟩ := List.mem_iff_getElem?.1 h
      obtain ⟨hi', rfl⟩ := hget i x hi
      exact ⟨⟨i, hi'⟩, rfl⟩
    have hwf : ∀ x ∈ List.ofFn f, wf x := fun x h => by
      obtain ⟨i, rfl⟩ := hmem x h
      obtain ⟨_, _, h1, _⟩ := hf i
      exact h1
    have hflat : ∀ (xs : List α), (∀ x ∈ xs, wf x) → (xs.flatMap cells).length = xs.length * P.cellsOf e := fun xs h => by
      induction xs with
      | nil => simp
      | cons x xs ih =>
        rw [List.flatMap_cons, List.length_append, hcl x (h x (by simp)), ih (fun y hy => h y (by simp [hy])), List.length_cons, Nat.succ_mul]; omega
    refine ⟨List.ofFn f, ⟨by rw [hlf]; omega, hwf⟩, ?_, fun hr => ⟨?_, fun x h => ?_⟩, rfl, one_cell ?_⟩
    · rw [hB.slice]
      have := BA_map hB sz (List.ofFn f) ((List.range len).map D) (by simp) (fun i x d hx hd => by
        obtain ⟨hi, rfl⟩ := hget i x hx
        obtain ⟨_, _, _, h2, _⟩ := hf ⟨i, hi⟩
        rw [List.getElem?_map, List.getElem?_range hi] at hd
        simp at hd; subst hd; exact h2)
      show (List.map sz (List.ofFn f)).sum + 1 ≤ _
      omega
    · rw [hlf]
      have : (((List.range len).map D).length + ((List.range (m - len)).map fun j => D (len + j)).length) * P.bytesOf e ≤ reachBytes := by
        have := List.all_eq_true.1 hr _ (by simp only [DataW.weights, ht]; exact List.mem_cons_self)
        simpa using this
      refine Nat.le_trans (Nat.mul_le_mul_right _ ?_) this
      simp
    · obtain ⟨i, rfl⟩ := hmem x h
      obtain ⟨_, _, _, _, h3, _⟩ := hf i
      refine h3 (List.all_eq_true.2 fun k hk => ?_)
      refine List.all_eq_true.1 hr k ?_
      simp only [DataW.weights, ht]
      refine List.mem_cons_of_mem _ (List.mem_append.2 (.inl (weightsAll_mem (D := List.map D (List.range len)) (d := D i.val) (List.mem_map.2 ⟨i.val, List.mem_range.2 i.2, rfl⟩) k hk)))
    · -- the cells
      by_cases h0 : len = 0
      · have e0 : List.ofFn f = [] := List.eq_nil_of_length_eq_zero (by rw [hlf, h0])
        rw [e0, h0]
        exact ⟨some a, m, 0, 0, rfl, ⟨Nat.zero_le _, hcap⟩, by simp, .inl rfl, fun j T hj => by simp at hj⟩
      · have hcell : ∀ (i : Fin len) (k : Nat) (T : Ty), (cells (f i))[k]? = some T → ∃ u, W.cell? ((a.add (i * P.cellsOf e)).add k) = some u ∧ T.has (GW.all W) u := fun i k T hT => by
          obtain ⟨cs', h1, h2, _, _, h5, h6⟩ := hf i
          have hk : k < cs'.length := by rw [h5]; exact (List.getElem?_eq_some_iff.1 hT).1
          refine ⟨cs'[k], ?_, h6 k T _ hT (by simp [hk])⟩
          have hkc : k < P.cellsOf e := by rw [← hcl _ h2, ← h5]; exact hk
          unfold World.cells? at h1
          rw [if_pos (Nat.zero_le _)] at h1
          have := mapM_some_get h1 k k (by rw [List.getElem?_range hkc])
          rw [this]; simp [hk]
        have hspot : a.spot = none := by
          obtain ⟨cs', h1, h2, _, _, h5, h6⟩ := hf ⟨0, by omega⟩
          have h7 : 0 < (cells (f ⟨0, by omega⟩)).length := by rw [hcl _ h2]; exact hc0
          obtain ⟨u, hu, _⟩ := hcell ⟨0, by omega⟩ 0 _ (List.getElem?_eq_getElem h7)
          simp [Addr.add] at hu
          exact spot_none hu
        obtain ⟨ab, ao, asp⟩ := a
        simp only at hspot
        subst hspot
        have hlt : ab < W.heap.size := by
          obtain ⟨cs', h1, h2, _, _, h5, h6⟩ := hf ⟨0, by omega⟩
          have h7 : 0 < (cells (f ⟨0, by omega⟩)).length := by rw [hcl _ h2]; exact hc0
          obtain ⟨u, hu, _⟩ := hcell ⟨0, by omega⟩ 0 _ (List.getElem?_eq_getElem h7)
          simp [Addr.add] at hu
          exact World.block_lt_of_cell? _ _ hu
        refine ⟨some ⟨ab, ao, none⟩, m, ab, ao, by rw [hlf], ⟨by omega, hcap⟩, hflat _ hwf, .inr ⟨rfl, by simp [GW.all, hlt]⟩, fun j T hj => ?_⟩
        -- cell j is cell j % c of element j / c
        have key : ∀ (xs : List α) (o : Nat), (∀ x ∈ xs, wf x) → (∀ (i : Nat) x, xs[i]? = some x → ∀ (k : Nat) (T : Ty), (cells x)[k]? = some T → ∃ u, W.cell? ⟨ab, o + i * P.cellsOf e + k, none⟩ = some u ∧ T.has (GW.all W) u) →
            ∀ (j : Nat) (T : Ty), (xs.flatMap cells)[j]? = some T → ∃ u, W.cell? ⟨ab, o + j, none⟩ = some u ∧ T.has (GW.all W) u := by
          intro xs
          induction xs with
          | nil => intro o _ _ j T hj; simp at hj
          | cons x xs ih =>
            intro o hw hc j T hj
            rw [List.flatMap_cons] at hj
            have hlx := hcl x (hw x (by simp))
            by_cases hjl : j < (cells x).length
            · rw [List.getElem?_append_left hjl] at hj
              have := hc 0 x rfl j T hj
              simpa using this
            · rw [List.getElem?_append_right (by omega)] at hj
              have := ih (o + P.cellsOf e) (fun y hy => hw y (by simp [hy])) (fun i y hy k T hT => by
                have := hc (i + 1) y (by simpa using hy) k T hT
                rw [Nat.succ_mul] at this
                rw [show o + P.cellsOf e + i * P.cellsOf e + k = o + (i * P.cellsOf e + P.cellsOf e) + k by omega]
                exact this) _ T hj
              rw [hlx] at this hjl
              rwa [show o + P.cellsOf e + (j - P.cellsOf e) = o + j by omega] at this
        refine key (List.ofFn f) ao hwf (fun i x hx k T hT => ?_) j T hj
        obtain ⟨hi, rfl⟩ := hget i x hx
        have := hcell ⟨i, hi⟩ k T hT
        simp only [Addr.add_lit] at this
        exact this

theorem Rd.conv {t : TypeId} {α β : Type} {cells : α → List Ty} {wf : α → Prop} {sz : α → Nat} {rc : α → Prop} {cells' : β → List Ty} {wf' : β → Prop} {sz' : β → Nat} {rc' : β → Prop} (h : Rd P t cells wf sz rc) (g : α → β)
    (hg : ∀ x, wf x → wf' (g x) ∧ sz' (g x) ≤ sz x ∧ (rc x → rc' (g x)) ∧ cells' (g x) = cells x) : Rd P t cells' wf' sz' rc' := by
  intro H enc B BA hB W fuel cs d ps ht
  obtain ⟨x, h1, h2, h3, h4, h5⟩ := h H enc B BA hB W fuel cs d ps ht
  obtain ⟨g1, g2, g3, g4⟩ := hg x h1
  exact ⟨g x, g1, Nat.le_trans g2 h2, fun h => g3 (h3 h), by rw [g4]; exact h4, by rw [g4]; exact h5⟩

theorem flatMap_one {α : Type} (f : α → Ty) (xs : List α) : xs.flatMap (fun x => [f x]) = xs.map f := by
  induction xs with
  | nil => rfl
  | cons x xs ih => simp [ih]

theorem rd_lst {t e : TypeId} {α : Type} {f : α → Ty} {wf : α → Prop} {sz : α → Nat} {rc : α → Prop} (ht : P.underlying t = some (.slice e)) (hc : P.cellsOf e = 1) (he : Rd P e (fun x => [f x]) wf sz rc) :
    Rd P t (fun xs : List α => [Ty.lst f xs]) (fun xs => xs.length ≤ maxLen ∧ ∀ x ∈ xs, wf x) (fun xs => (xs.map sz).sum + 1) (fun xs => xs.length * P.bytesOf e ≤ reachBytes ∧ ∀ x ∈ xs, rc x) :=
  (rd_slice ht hc (by decide) he (fun _ _ => rfl)).conv id fun x h => ⟨h, Nat.le_refl _, id, by simp [flatMap_one, Ty.lst]⟩

/-! ### Back to the row -/
theorem trodAll_stays {H : Type} {enc : TypeId × Value → H} (hl : laidOutB P = true) {W W' : World} (hb : Below W.heap.size W W') : ∀ {ts : List TypeId} {vs : List Value} {ds : List (DataW H)} {ps : List MemPlace},
    DataW.TrodAll enc P W 0 (fun _ => true) true ts vs ds ps → (ts.all fun t => P.readableRec t && decide (t < P.types.size)) = true → (∀ x ∈ ps, x.block < W.heap.size) → DataW.TrodAll enc P W' 0 (fun b => decide (b < W.heap.size)) true ts vs ds ps
  | [], [], [], ps, h, _, _ => h
  | t :: ts, v :: vs, d :: ds, ps, h, ha, hp => by
    obtain ⟨p, q, h1, h2, rfl⟩ := h
    simp only [List.all_cons, Bool.and_eq_true, decide_eq_true_eq] at ha
    exact ⟨p, q, Below.trod hl ha.1.1 ha.1.2 h1 hb (fun x hx => hp x (List.mem_append.2 (.inl hx))), trodAll_stays hl hb h2 ha.2 (fun x hx => hp x (List.mem_append.2 (.inr hx))), rfl⟩
  | [], [], _ :: _, _, h, _, _ => h.elim
  | [], _ :: _, _, _, h, _, _ => h.elim
  | _ :: _, [], _, _, h, _, _ => h.elim
  | _ :: _, _ :: _, [], _, h, _, _ => h.elim

theorem law_post {H : Type} {enc : TypeId × Value → H} {fn : Func} {f : FuncId} {s : ChangeSpec} {W : World} {args : Array Value} {ds gs : List (DataW H)} {before : List MemPlace} {tb : TypeId}
    (hres : fn.resultTypes = #[tb]) (hb : P.underlying tb = some .bool) (hl : laidOutB P = true) (hr : (fn.params.toList.all fun t => P.readableRec t && decide (t < P.types.size)) = true)
    (hW : DataW.Whole enc P fn.params.toList s.vars false W args.toList ds gs before) (hv : s.vars = []) (hs : s.fn H (ds ++ gs) = { results := [.lit (.bool true)], args := ds })
    (hc : FnC P f args (GW.all W) (Ty.bool true)) : Calls P f args W fun e W' => ∃ v, e = .returned v ∧ s.post enc P fn false true false false W args v W' := by
  refine Calls.mono hc ?_
  rintro e W' ⟨v, τ, rfl, hstp, rfl, hvv⟩
  have hbel : Below W.heap.size W τ.w := ⟨hstp.os, hstp.tape, hstp.output, hstp.size, fun k hk => hstp.blk k hk (.inl rfl)⟩
  have hW' := hW
  obtain ⟨p, q, hA, hV, rfl, _, _⟩ := hW
  have hq : q = [] := by
    rw [hv] at hV
    cases gs with
    | nil => exact hV
    | cons _ _ => exact hV.elim
  subst hq
  have hgs : gs = [] := by
    rw [hv] at hV
    cases gs with
    | nil => rfl
    | cons _ _ => exact hV.elim
  subst hgs
  have hvv' : v = .bool true := hvv
  subst hvv'
  refine ⟨_, rfl, ds, [], _, [], p, [], hW', ?_, ?_, ?_, hbel.frame _, fun h => by cases h⟩
  · rw [hs, hres]
    exact trodAll_mk1 (shut_bool hb true)
  · rw [hs]
    exact trodAll_stays hl hbel hA hr (fun x hx => hW'.lt x (List.mem_append.2 (.inl hx)))
  · rw [hs, hv]; rfl

theorem arg_one {H : Type} {enc : TypeId × Value → H} {B : DataW H → Nat} {BA : List (DataW H) → Nat} (hB : Bulk B BA) {W : World} {t : TypeId} {v : Value} {d : DataW H} {ps : List MemPlace} {α : Type} {T : α → Ty} {wf : α → Prop} {sz : α → Nat} {rc : α → Prop}
    (h : Rd P t (fun x => [T x]) wf sz rc) (hone : v.cells = #[v]) (ht : DataW.Trod enc P W 0 (fun _ => true) true t v d ps) : ∃ x : α, wf x ∧ sz x ≤ B d ∧ ((d.weights P t).all (· ≤ reachBytes) = true → rc x) ∧ (T x).has (GW.all W) v := by
  obtain ⟨fuel, hf⟩ := ht
  rw [hone] at hf
  obtain ⟨x, h1, h2, h3, _, h5⟩ := h H enc B BA hB W fuel _ d ps hf
  exact ⟨x, h1, h2, h3, h5 0 _ _ rfl rfl⟩
theorem one_slice {e : TypeId} {w : World} {r : Reach} {base : Nat} {t : TypeId} {v : Value} (ht : P.underlying t = some (.slice e)) (h : Value.okWide P w r base t v) : v.cells = #[v] := by
  obtain ⟨a, l, c, rfl⟩ := okWide_slice ht h; rfl
theorem one_int {k : IntKind} {w : World} {r : Reach} {base : Nat} {t : TypeId} {v : Value} (ht : P.underlying t = some (.int k)) (h : Value.okWide P w r base t v) : v.cells = #[v] := by
  obtain ⟨s, rfl⟩ := okWide_int ht h; rfl
theorem weightsEach_cons {H : Type} {t : TypeId} {ts : List TypeId} {d : DataW H} {ds : List (DataW H)} (h : (DataW.weightsEach P (t :: ts) (d :: ds)).all (· ≤ reachBytes) = true) : (d.weights P t).all (· ≤ reachBytes) = true ∧ (DataW.weightsEach P ts ds).all (· ≤ reachBytes) = true := by
  simpa [DataW.weightsEach, List.all_append] using h
theorem i64_bd {n : Int} (h : (Lit.int .i64 n).wf = true) : -9223372036854775808 ≤ n ∧ n ≤ 9223372036854775807 := by
  simp [Lit.wf, IntKind.min, IntKind.max, IntKind.signed, IntKind.bits] at h
  omega
end Go.KL

/- Arguments that are structs, and slices of these: how a row reads them. -/
namespace Go.KL
open Go.ChangeShapes Go.WideShapes Go.ChangeAt Go.RowKit Go.Deep
variable {P : Program}
theorem take_one {α : Type} {cs : List α} {o : Nat} (h : o < cs.length) : (cs.drop o).take 1 = [cs[o]] := by
  rw [List.drop_eq_getElem_cons h, List.take_succ_cons, List.take_zero]
theorem rd_s2 {t : TypeId} {f0 f1 : Field} {α β : Type} {T : α → Ty} {U : β → Ty} {wf0 : α → Prop} {wf1 : β → Prop} {sz0 : α → Nat} {sz1 : β → Nat} {rc0 : α → Prop} {rc1 : β → Prop} (ht : P.underlying t = some (.struct #[f0, f1])) (hc : P.cellsOf t = 2)
    (e0 : f0.offset = 0) (e1 : f1.offset = 1) (k0 : P.cellsOf f0.type = 1) (k1 : P.cellsOf f1.type = 1) (h0 : Rd P f0.type (fun x => [T x]) wf0 sz0 rc0) (h1 : Rd P f1.type (fun x => [U x]) wf1 sz1 rc1) :
    Rd P t (fun x : α × β => [T x.1, U x.2]) (fun x => wf0 x.1 ∧ wf1 x.2) (fun x => sz0 x.1 + sz1 x.2 + 1) (fun x => rc0 x.1 ∧ rc1 x.2) := by
  intro H enc B BA hB W fuel cs d ps h
  obtain ⟨y0, y1, n, e, hl, g0, g1⟩ := trod_struct2 ht h
  obtain ⟨rfl, rfl⟩ := Prod.mk.inj e
  rw [hc] at hl
  rw [e0, k0, take_one (by omega)] at g0
  rw [e1, k1, take_one (by omega)] at g1
  obtain ⟨x, a1, a2, a3, a4, a5⟩ := h0 H enc B BA hB W n _ _ _ g0
  obtain ⟨y, b1, b2, b3, b4, b5⟩ := h1 H enc B BA hB W n _ _ _ g1
  refine ⟨(x, y), ⟨a1, b1⟩, ?_, fun hw => ?_, by rw [hl]; rfl, fun j V u hj hu => ?_⟩
  · rw [hB.agg, hB.cons, hB.cons, hB.nil]; show sz0 x + sz1 y + 1 ≤ _; omega
  · simp only [DataW.weights, ht, List.map_cons, List.map_nil, DataW.weightsEach, List.append_nil, List.all_append, Bool.and_eq_true] at hw
    exact ⟨a3 hw.1, b3 hw.2⟩
  · match j with
    | 0 => simp at hj; subst hj; exact a5 0 _ u rfl (by rw [List.getElem?_eq_getElem (by omega)] at hu; exact hu)
    | 1 => simp at hj; subst hj; exact b5 0 _ u rfl (by rw [List.getElem?_eq_getElem (by omega)] at hu; exact hu)
    | j + 2 => simp at hj
theorem rd_s3 {t : TypeId} {f0 f1 f2 : Field} {α β γ : Type} {T : α → Ty} {U : β → Ty} {V : γ → Ty} {wf0 : α → Prop} {wf1 : β → Prop} {wf2 : γ → Prop} {sz0 : α → Nat} {sz1 : β → Nat} {sz2 : γ → Nat} {rc0 : α → Prop} {rc1 : β → Prop} {rc2 : γ → Prop}
    (ht : P.underlying t = some (.struct #[f0, f1, f2])) (hc : P.cellsOf t = 3)
    (e0 : f0.offset = 0) (e1 : f1.offset = 1) (e2 : f2.offset = 2) (k0 : P.cellsOf f0.type = 1) (k1 : P.cellsOf f1.type = 1) (k2 : P.cellsOf f2.type = 1) (h0 : Rd P f0.type (fun x => [T x]) wf0 sz0 rc0) (h1 : Rd P f1.type (fun x => [U x]) wf1 sz1 rc1) (h2 : Rd P f2.type (fun x => [V x]) wf2 sz2 rc2) :
    Rd P t (fun x : α × β × γ => [T x.1, U x.2.1, V x.2.2]) (fun x => wf0 x.1 ∧ wf1 x.2.1 ∧ wf2 x.2.2) (fun x => sz0 x.1 + sz1 x.2.1 + sz2 x.2.2 + 1) (fun x => rc0 x.1 ∧ rc1 x.2.1 ∧ rc2 x.2.2) := by
  intro H enc B BA hB W fuel cs d ps h
  obtain ⟨y0, y1, y2, n, e, hl, g0, g1, g2⟩ := trod_struct3 ht h
  obtain ⟨rfl, rfl⟩ := Prod.mk.inj e
  rw [hc] at hl
  rw [e0, k0, take_one (by omega)] at g0
  rw [e1, k1, take_one (by omega)] at g1
  rw [e2, k2, take_one (by omega)] at g2
  obtain ⟨x, a1, a2, a3, a4, a5⟩ := h0 H enc B BA hB W n _ _ _ g0
  obtain ⟨y, b1, b2, b3, b4, b5⟩ := h1 H enc B BA hB W n _ _ _ g1
  obtain ⟨z, c1, c2, c3, c4, c5⟩ := h2 H enc B BA hB W n _ _ _ g2
  refine ⟨(x, y, z), ⟨a1, b1, c1⟩, ?_, fun hw => ?_, by rw [hl]; rfl, fun j S u hj hu => ?_⟩
  · rw [hB.agg, hB.cons, hB.cons, hB.cons, hB.nil]; show sz0 x + sz1 y + sz2 z + 1 ≤ _; omega
  · simp only [DataW.weights, ht, List.map_cons, List.map_nil, DataW.weightsEach, List.append_nil, List.all_append, Bool.and_eq_true] at hw
    exact ⟨a3 hw.1, b3 hw.2.1, c3 hw.2.2⟩
  · match j with
    | 0 => simp at hj; subst hj; exact a5 0 _ u rfl (by rw [List.getElem?_eq_getElem (by omega)] at hu; exact hu)
    | 1 => simp at hj; subst hj; exact b5 0 _ u rfl (by rw [List.getElem?_eq_getElem (by omega)] at hu; exact hu)
    | 2 => simp at hj; subst hj; exact c5 0 _ u rfl (by rw [List.getElem?_eq_getElem (by omega)] at hu; exact hu)
    | j + 3 => simp at hj
theorem arg_agg {H : Type} {enc : TypeId × Value → H} {B : DataW H → Nat} {BA : List (DataW H) → Nat} (hB : Bulk B BA) {W : World} {t : TypeId} {v : Value} {d : DataW H} {ps : List MemPlace} {α : Type} {cells : α → List Ty} {wf : α → Prop} {sz : α → Nat} {rc : α → Prop}
    (h : Rd P t cells wf sz rc) {fs : Array Field} {w : World} {r : Reach} {base : Nat} (hu : P.underlying t = some (.struct fs)) (hok : Value.okWide P w r base t v) (ht : DataW.Trod enc P W 0 (fun _ => true) true t v d ps) :
    ∃ x : α, wf x ∧ sz x ≤ B d ∧ ((d.weights P t).all (· ≤ reachBytes) = true → rc x) ∧ (Ty.agg (cells x)).has (GW.all W) v := by
  unfold Value.okWide at hok
  rw [hu] at hok
  obtain ⟨cs, rfl, _, _⟩ := hok
  obtain ⟨fuel, hf⟩ := ht
  obtain ⟨x, h1, h2, h3, h4, h5⟩ := h H enc B BA hB W fuel _ d ps hf
  refine ⟨x, h1, h2, h3, cs, rfl, by have h6 : cs.toList.length = (cells x).length := h4; simpa using h6, fun j T u hj hu2 => h5 j T u hj (by show cs.toList[j]? = some u; simpa using hu2)⟩
theorem rd_lstc {t e c : TypeId} {α : Type} {cells : α → List Ty} {wf : α → Prop} {sz : α → Nat} {rc : α → Prop} (ht : P.underlying t = some (.slice e)) (hc : P.cellsOf e = c) (hc0 : 0 < c) (he : Rd P e cells wf sz rc) (hcl : ∀ x, (cells x).length = c) :
    Rd P t (fun xs : List α => [Ty.lstc c cells xs]) (fun xs => xs.length ≤ maxLen ∧ ∀ x ∈ xs, wf x) (fun xs => (xs.map sz).sum + 1) (fun xs => xs.length * P.bytesOf e ≤ reachBytes ∧ ∀ x ∈ xs, rc x) :=
  rd_slice ht hc hc0 he (fun x _ => hcl x)
theorem i32_bd {n : Int} (h : (Lit.int .i32 n).wf = true) : -2147483648 ≤ n ∧ n ≤ 2147483647 := by
  simp [Lit.wf, IntKind.min, IntKind.max, IntKind.signed, IntKind.bits] at h; omega
end Go.KL

