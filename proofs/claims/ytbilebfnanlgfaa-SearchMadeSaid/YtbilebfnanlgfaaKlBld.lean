/- What package strings' Builder meets: pointers held against each other, a row of bytes that becomes a string. -/
import Derived.Test.YtbilebfnanlgfaaKlSigns
import Derived.Lib.Builder
import Derived.Lib.UnsafeStr
namespace Go.KL
open Go.RowKit
variable {P : Program} {d : Option Tmp} {ty : TypeId} {pos : String} {af : Array Edge} {g : Option (Nat × Bool)} {a : Act} {σ : GW}

abbrev Ty.byte (b : UInt8) : Ty := .val (.int .u8 ((b.toNat : Nat) : Int))
def OwnPT (E : TypeId) (σ : GW) (k : Nat) (v : Value) (ts : List Ty) : Prop :=
  ∃ g cur, v = .pointer (some ⟨g, 0, none⟩) ∧ σ.st g = k ∧ σ.w.heap[g]? = some (.cells cur E (0, 0)) ∧ cur.size = ts.length ∧ ∀ (j : Nat) (T : Ty) (u : Value), ts[j]? = some T → cur[j]? = some u → T.has σ u
theorem OwnPT.toP {E : TypeId} {k : Nat} {v : Value} {ts : List Ty} (h : OwnPT E σ k v ts) : OwnP σ k v ts := by
  obtain ⟨g, cur, h1, h2, h3, h4, h5⟩ := h; exact ⟨g, E, cur, h1, h2, h3, h4, h5⟩
theorem OwnPT.keepL {E : TypeId} {L : List Nat} {k : Nat} {σ τ : GW} {v : Value} {ts : List Ty} (h : OwnPT E σ k v ts) (hs : StpL L σ τ) (h1 : 1 ∉ L) (hk : k ∉ L) : OwnPT E τ k v ts := by
  obtain ⟨g, cur, rfl, r2, r3, r4, r5⟩ := h
  have hg := (Array.getElem?_eq_some_iff.1 r3).1
  have hq : σ.st g ∉ L := by rw [r2]; exact hk
  exact ⟨g, cur, rfl, (hs.st g hg hq).trans r2, (hs.blk g hg hq).trans r3, r4, fun j T u hj hu => T.up (hs.le h1) (r5 j T u hj hu)⟩
theorem OwnPT.k0 {E : TypeId} {k : Nat} {σ τ : GW} {v : Value} {ts : List Ty} (h : OwnPT E σ k v ts) (hs : Stp 0 σ τ) : OwnPT E τ k v ts := h.keepL (L := []) hs.toL0 (by simp) (by simp)
theorem OwnPT.ren {E : TypeId} {k k' : Nat} {σ τ : GW} {v : Value} {ts : List Ty} (h : OwnPT E σ k v ts) (r : Ren k k' σ τ) : OwnPT E τ k' v ts := by
  obtain ⟨g, cur, rfl, r2, r3, r4, r5⟩ := h
  exact ⟨g, cur, rfl, r.st g r2, by rw [r.w]; exact r3, r4, fun j T u hj hu => T.up r.le (r5 j T u hj hu)⟩
theorem OwnPT.one {E : TypeId} {k : Nat} {v : Value} {ts : List Ty} (h : OwnPT E σ k v ts) : v.oneCell' = true := h.toP.one
end Go.KL
namespace Go.KL
end Go.KL
