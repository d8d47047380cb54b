/- Strings: their bytes, and what a loop over one meets. -/
import Derived.Test.YtbilebfnanlgfaaKlStruct
namespace Go.KL
open Go.RowKit
variable {P : Program} {d : Option Tmp} {ty : TypeId} {pos : String} {af : Array Edge} {g : Option (Nat × Bool)} {a : Act} {σ : GW}

theorem grd_part {p q : Prop} {T : Ty} {σ : GW} {v : Value} (hp : p) (h : (Ty.grd (p ∧ q) T).has σ v) : (Ty.grd q T).has σ v := ⟨fun hq => h.1 ⟨hp, hq⟩, fun hq => h.2 fun k => hq k.2⟩
theorem y_sindex {x y : Operand} {t : TypeId} {s : ByteArray} {k : IntKind} {i : Int} (ht : P.underlying t = some .string) (hx : a.eval x = .string s) (hy : a.eval y = .int k i) (h0 : 0 ≤ i) (h1 : i < s.size) :
    Yld P ⟨d, .index t x y, ty, pos, af, g⟩ a σ (Ty.val (.int .u8 ((s.get! i.toNat).toNat : Int))).pr := by
  have hlt : i.toNat < s.size := by omega
  have e : s[i.toNat]? = some (s.get! i.toNat) := by
    rw [getElem?_pos s i.toNat hlt]
    congr 1
    show s.get _ hlt = _
    have hlt' : i.toNat < s.data.size := hlt
    simp [ByteArray.get!, ByteArray.get]
    exact (getElem!_pos s.data i.toNat hlt').symm
  refine Yld.of_run (v := .int .u8 ((s.get! i.toNat).toNat : Int)) ?_ rfl
  simp only [execOp, hx, hy]
  simp [Instr.index, Sem.run_bind, asIntOf, run_underlying ht, h0, e]

def Iter (σ : GW) (k : Nat) (v : Value) (s : ByteArray) (p : Nat) : Prop :=
  ∃ g, v = .pointer (some ⟨g, 0, none⟩) ∧ σ.st g = k ∧ σ.w.heap[g]? = some (.stringIter s p)
theorem Iter.keep {m k : Nat} {σ τ : GW} {v : Value} {s : ByteArray} {p : Nat} (h : Iter σ k v s p) (hs : Stp m σ τ) (_hm : m ≠ 1) (hk : m = 0 ∨ k ≠ m) : Iter τ k v s p := by
  obtain ⟨g, h1, h2, h3⟩ := h
  have hlt := (Array.getElem?_eq_some_iff.1 h3).1
  have hq : m = 0 ∨ σ.st g ≠ m := by rw [h2]; omega
  exact ⟨g, h1, (hs.st g hlt hq).trans h2, (hs.blk g hlt hq).trans h3⟩
def Pr.iter (k : Nat) (s : ByteArray) (p : Nat) : Pr := ⟨fun σ v => Iter σ k v s p, fun hs h => h.keep hs (by decide) (.inl rfl)⟩
theorem y_range (k : Nat) {x : Operand} {t : TypeId} {s : ByteArray} (ht : P.underlying t = some .string) (hx : a.eval x = .string s) :
    Yld P ⟨d, .range t x, ty, pos, af, g⟩ a σ (Pr.iter k s 0) := by
  intro K Q hk
  have hr : (execOp a.eval ⟨d, .range t x, ty, pos, af, g⟩).run P σ.w = .ok (.value (.pointer (some ⟨σ.w.heap.size, 0, none⟩))) (σ.w.alloc (.stringIter s 0)) := by
    simp only [execOp, hx]
    simp [Instr.range, Sem.run_bind, run_underlying ht, newObj, Sem.run]
  unfold Oper.wp
  rw [hr]
  exact hk _ (σ.mk' k (.stringIter s 0)) (Stp.mk' σ k _) ⟨σ.w.heap.size, rfl, by show (if _ = _ then k else _) = k; rw [if_pos rfl], heap_alloc_new σ.w _⟩
def Ty.nxt (b : Bool) (p : Nat) (c : Nat) : Ty := .val (if b then .tuple #[.bool true, .int .i64 p, .int .i32 c] else .tuple #[.bool false])
theorem y_ext_n0 {x : Operand} {b : Bool} {p c : Nat} (hx : At (.nxt b p c) σ a x) : Yld P ⟨d, .extract x 0, ty, pos, af, g⟩ a σ (Ty.bool b).pr := by
  have e : a.eval x = _ := hx
  cases b with
  | true => exact Yld.of_run (v := .bool true) (by simp only [execOp, e]; simp [Instr.extract]) rfl
  | false => exact Yld.of_run (v := .bool false) (by simp only [execOp, e]; simp [Instr.extract]) rfl
theorem y_ext_n2 {x : Operand} {b : Bool} {p c : Nat} (hx : At (.nxt b p c) σ a x) (hb : b = true) : Yld P ⟨d, .extract x 2, ty, pos, af, g⟩ a σ (Ty.val (.int .i32 (c : Int))).pr := by
  subst hb
  have e : a.eval x = _ := hx
  exact Yld.of_run (v := .int .i32 c) (by simp only [execOp, e]; simp [Instr.extract]) rfl
def wid (s : ByteArray) (p : Nat) : Nat := (Utf8.decode s p).2
def run1 (s : ByteArray) (p : Nat) : Nat := (Utf8.decode s p).1
theorem wid_pos (s : ByteArray) (p : Nat) : 1 ≤ wid s p := by
  unfold wid Utf8.decode
  simp only
  repeat' split
  all_goals (show 1 ≤ _; simp)
def stepTo (s : ByteArray) (p : Nat) : Nat := if p < s.size then p + wid s p else p
theorem m_next {k : Nat} {x : Operand} {s : ByteArray} {p : Nat} {v : Value} (hk : 2 ≤ k) (h : Iter σ k v s p) (hx : a.eval x = v) :
    YldM k P ⟨d, .next x true, ty, pos, af, g⟩ a σ (fun u τ => (Ty.nxt (decide (p < s.size)) p (run1 s p)).has τ u ∧ Iter τ k v s (stepTo s p)) := by
  obtain ⟨gg, rfl, h2, h3⟩ := h
  have hg := (Array.getElem?_eq_some_iff.1 h3).1
  intro K Q hK
  by_cases hp : p < s.size
  · have hr : (execOp a.eval ⟨d, .next x true, ty, pos, af, g⟩).run P σ.w = .ok (.value (.tuple #[.bool true, .int .i64 p, .int .i32 (run1 s p)])) { σ.w with heap := σ.w.heap.setIfInBounds gg (.stringIter s (p + wid s p)) } := by
      simp only [execOp, hx]
      simp [Instr.next, Sem.run_bind, getObj, setObj, Sem.run, h3, hp, goInt, run1, wid]
    unfold Oper.wp
    rw [hr]
    have hstp : Stp k σ ⟨{ σ.w with heap := σ.w.heap.setIfInBounds gg (.stringIter s (p + wid s p)) }, σ.st, fun b hb => by have := σ.lt b hb; simpa using this⟩ :=
      ⟨rfl, rfl, rfl, Nat.le_refl _, by simp, fun b hb hm => by simp only []; rw [Array.getElem?_setIfInBounds_ne (by rintro rfl; omega)], fun _ _ _ => rfl⟩
    refine hK _ _ hstp ⟨by rw [decide_eq_true hp]; rfl, gg, rfl, h2, ?_⟩
    simp only [stepTo, if_pos hp]
    simp [hg]
  · have hr : (execOp a.eval ⟨d, .next x true, ty, pos, af, g⟩).run P σ.w = .ok (.value (.tuple #[.bool false])) σ.w := by
      simp only [execOp, hx]
      simp [Instr.next, Sem.run_bind, getObj, Sem.run, h3, hp]
    unfold Oper.wp
    rw [hr]
    refine hK _ σ ⟨rfl, rfl, rfl, Nat.le_refl _, Nat.le_refl _, fun _ _ _ => rfl, fun _ _ _ => rfl⟩ ⟨by rw [decide_eq_false hp]; rfl, gg, rfl, h2, ?_⟩
    rw [stepTo, if_neg hp]; exact h3

/-! ### The runes of a string -/
def runesF (s : ByteArray) : Nat → Nat → List Nat
  | 0, _ => []
  | f + 1, p => if p < s.size then run1 s p :: runesF s f (p + wid s p) else []
def runesL (s : ByteArray) : List Nat := runesF s s.size 0
theorem runesF_end {s : ByteArray} {f p : Nat} (h : s.size ≤ p) : runesF s f p = [] := by cases f <;> simp [runesF, show ¬ p < s.size by omega]
theorem runesF_step {s : ByteArray} {f p : Nat} {xs zs : List Nat} (h : xs ++ runesF s f p = zs) (hp : p < s.size) (hf : s.size ≤ f + p) : (xs ++ [run1 s p]) ++ runesF s (f - 1) (p + wid s p) = zs := by
  obtain ⟨f, rfl⟩ : ∃ g, f = g + 1 := ⟨f - 1, by omega⟩
  rw [runesF, if_pos hp] at h
  rw [← h]; simp
end Go.KL
