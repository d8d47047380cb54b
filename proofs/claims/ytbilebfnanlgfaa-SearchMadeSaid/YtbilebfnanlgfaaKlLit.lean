/- Literals of structs in rows of one's own. -/
import Derived.Test.YtbilebfnanlgfaaKlName
namespace Go.KL
open Go.RowKit
variable {P : Program} {d : Option Tmp} {ty : TypeId} {pos : String} {af : Array Edge} {g : Option (Nat × Bool)} {a : Act} {σ : GW}
theorem agg_cell {ts : List Ty} {v : Value} (j : Nat) {T : Ty} (U : Ty) (h : (Ty.agg ts).has σ v) (hj : ts[j]? = some T) (hT : ∀ σ v, T.has σ v → U.has σ v) : (Ty.agg (ts.set j U)).has σ v := by
  obtain ⟨cs, e1, h1, h2⟩ := h
  refine ⟨cs, e1, by simpa using h1, fun i V u hV hu => ?_⟩
  rw [List.getElem?_set] at hV
  by_cases e : j = i
  · subst e
    rw [if_pos rfl] at hV
    split at hV
    · cases hV; exact hT _ _ (h2 j T u hj hu)
    · cases hV
  · rw [if_neg e] at hV
    exact h2 i V u hV hu
theorem nil_sl0 {c : Nat} {σ : GW} {v : Value} (h : (Ty.val (.slice none 0 0)).has σ v) : (Ty.sl c 0 []).has σ v := by
  have e : v = .slice none 0 0 := h
  rw [e]; exact sl_nil
theorem y_lit1c {k c : Nat} {x : Operand} {t e : TypeId} {ts : List Ty} {z : Value} {b : Nat} (ht : P.underlying t = some (.slice e)) (he : Info P e z c b) (hz : z.cells.size = c) (hc : 0 < c) (hc2 : c ≤ 16777216) (hl : ts.length = c) (hx : At (.agg ts) σ a x) :
    Yld P ⟨d, .buildSlice t 1 #[(0, x)], ty, pos, af, g⟩ a σ (Pr.own k e c 1 ts) := by
  obtain ⟨cs, e1, hcs, hcl⟩ := hx
  have hsz : cs.size = c := by omega
  intro K Q hk
  have hr : (execOp a.eval ⟨d, .buildSlice t 1 #[(0, x)], ty, pos, af, g⟩).run P σ.w = .ok (.value (.slice (some ⟨σ.w.heap.size, 0, none⟩) 1 1)) (σ.w.alloc (.cells cs e)) := by
    simp only [execOp, List.map_toArray, List.map_cons, List.map_nil, e1]
    have hw : ∀ q : Array Value, q.size = c → cs.zipIdx.foldl (fun (q : Array Value) (p : Value × Nat) => q.setIfInBounds p.2 p.1) q = cs := fun q hq => fold_whole (by omega)
    have h1 : ¬ c > 16777216 := by omega
    have h2 : ¬ c = 0 := by omega
    simp [Instr.buildSlice, run_underlying ht, he.size, he.zero, Instr.fill, Value.cells, hsz, h2, newRow, newObj, Sem.run, Sem.run_bind, show ¬ 16777216 < c by omega]
    generalize hq : Array.map _ (Array.range c) = q
    have hqs : q.size = c := by rw [← hq]; simp
    have h5 := hw q hqs
    simp only [Array.size_zipIdx] at h5
    first | rw [h5] | (rw [hsz] at h5; rw [h5])
  unfold Oper.wp
  rw [hr]
  refine hk _ (σ.mk' k (.cells cs e)) (Stp.mk' σ k _) (Own.intro (us := cs.toList) (heap_alloc_new σ.w _) (by show (if _ = _ then k else _) = k; rw [if_pos rfl]) (Nat.le_refl _) (by decide) (by omega) ?_ (by simpa using hcs) ?_)
  · rw [List.take_of_length_le (by simp; omega)]
  · intro j U u hU hu
    exact U.up (Stp.mk' σ k _).le0 (hcl j U u hU (by simpa using hu))
theorem wrap_i32 {c : Int} (h0 : -2147483648 ≤ c) (h1 : c < 2147483648) : IntKind.i32.wrap c = c := by
  simp [IntKind.wrap, IntKind.bits, IntKind.signed]; omega
def cOf (raw : List Int) (n m : Nat) : List BCall := (112, []) :: (List.range m).map fun i => (((97 + (i + 1) : Nat) : Int), changesOf raw (11 * (i + 1)) n 1)
theorem cOf_len (raw : List Int) (n m : Nat) : (cOf raw n m).length = m + 1 := by simp [cOf]
theorem cOf_succ (raw : List Int) (n m : Nat) : cOf raw n (m + 1) = cOf raw n m ++ [(((97 + (m + 1) : Nat) : Int), changesOf raw (11 * (m + 1)) n 1)] := by
  unfold cOf; rw [List.range_succ, List.map_append]; rfl
end Go.KL
