/- slices.Reverse at numbers: the library's numbers here; it and slices.Sort, at a row that is owned. -/
import Derived.Shelf.SlicesG.Reverse
import Derived.Ground.SlgnProg
import Derived.Test.YtkjifbgofckfeaaGroupMadeLayG
import Derived.Test.YtkjifbgofckfeaaGroupMadeK3
namespace Go.Proofs.Ytkjifbgofckfeaa
open Go.KL Go.RowKit Go.Sort Go.Shelf
def revA_ren : Go.Shelf.Ren := ⟨fun | 35 => 109 | n => n, fun | 22 => 22 | 23 => 3 | 3 => 3 | 4 => 4 | 0 => 0 | n => n, fun | n => n⟩
theorem revA : Go.Proofs.SlLaysN.n35 Try.prog revA_ren := {
  mixed := by kernel_rfl
  f35 := ⟨Try.f109.name, by decide, Try.func109.trans (congrArg some (by kernel_rfl))⟩
  t0 := Try.underlying0
  a0 := Try.isAgg0
  z0 := Try.sizeOf0
  v0 := Try.zeroValue0
  t3 := Try.underlying3
  a3 := Try.isAgg3
  z3 := Try.sizeOf3
  v3 := Try.zeroValue3
  t4 := Try.underlying4
  a4 := Try.isAgg4
  z4 := Try.sizeOf4
  v4 := Try.zeroValue4
  t22 := Try.underlying22
  a22 := Try.isAgg22
  z22 := Try.sizeOf22
  v22 := Try.zeroValue22
  t23 := Try.underlying3
  a23 := Try.isAgg3
  z23 := Try.sizeOf3
  v23 := Try.zeroValue3 }
theorem sortI_fn (x : Value) (xs : List Int) (σ : GW) (_hlow : Low [41] σ) (v0 : Value) (hv0 : Ty.has (Ty.val x) σ v0) (ho_x : Own σ 41 3 1 x (List.length xs) (List.map Ty.int xs)) (hl : xs.length ≤ 1000000) :
    FnL Try.prog 93 #[v0] σ [41] (fun _ τ => True ∧ (Own τ 41 3 1 x (List.length (sortI xs)) (List.map Ty.int (sortI xs)))) := by
  obtain rfl : v0 = x := hv0
  rcases own_ints (by omega) ho_x with ⟨rfl, rfl⟩ | ⟨gb, cap, rfl, hb, hH, hw⟩
  · refine Calls.mono (AnyM.slices_Sort_int_none sortA none 0 σ.w) ?_
    rintro e w' ⟨rfl, rfl⟩
    exact ⟨_, σ, rfl, StpL.refl _ _, rfl, trivial, by simpa [sortI] using ho_x⟩
  · refine Calls.mono (AnyM.slices_Sort_int sortA gb 0 cap xs σ.w hH hb (by omega)) ?_
    rintro e w' ⟨rfl, m, os, rfl⟩
    obtain ⟨τ, h1, h2, h3⟩ := hw (sortI xs) m os (by simp [sortI])
    exact ⟨_, τ, h1, h2, rfl, trivial, h3⟩
theorem revI_fn (x : Value) (xs : List Int) (σ : GW) (_hlow : Low [41] σ) (v0 : Value) (hv0 : Ty.has (Ty.val x) σ v0) (ho_x : Own σ 41 3 1 x (List.length xs) (List.map Ty.int xs)) (hl : xs.length ≤ 1000000) :
    FnL Try.prog 109 #[v0] σ [41] (fun _ τ => True ∧ (Own τ 41 3 1 x (List.length xs.reverse) (List.map Ty.int xs.reverse))) := by
  obtain rfl : v0 = x := hv0
  rcases own_ints (by omega) ho_x with ⟨rfl, rfl⟩ | ⟨gb, cap, rfl, hb, hH, hw⟩
  · refine Calls.mono (AnyG.slices_Reverse_int_empty revA none 0 σ.w) ?_
    rintro e w' ⟨rfl, rfl⟩
    exact ⟨_, σ, rfl, StpL.refl _ _, rfl, trivial, ho_x⟩
  · refine Calls.mono (AnyG.slices_Reverse_int revA gb 0 cap xs σ.w hH (by omega)) ?_
    rintro e w' ⟨rfl, m, rfl⟩
    obtain ⟨τ, h1, h2, h3⟩ := hw xs.reverse m #[] (by simp)
    exact ⟨_, τ, by rw [h1, sortWorld, grow_empty], h2, rfl, trivial, h3⟩
end Go.Proofs.Ytkjifbgofckfeaa
