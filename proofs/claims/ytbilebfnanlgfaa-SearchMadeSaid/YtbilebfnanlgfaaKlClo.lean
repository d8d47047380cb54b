/- Closures over one variable; slices.Grow of nothing; cuts of rows of structs. -/
import Derived.Test.YtbilebfnanlgfaaKlTouch
import Derived.Test.YtbilebfnanlgfaaKlWalk
namespace Go.KL
open Go.RowKit
variable {P : Program} {d : Option Tmp} {ty : TypeId} {pos : String} {af : Array Edge} {g : Option (Nat × Bool)} {a : Act} {σ : GW}
def Ty.clo (f : FuncId) (ts : List Ty) : Ty := ⟨fun σ v => ∃ p, v = .func (.func f) #[] #[p] ∧ (Ty.ref ts).has σ p, fun h ⟨p, e, hp⟩ => ⟨p, e, Ty.up _ h hp⟩⟩
theorem y_clo {f : FuncId} {ts : List Ty} {x : Operand} (hx : At (.ref ts) σ a x) : Yld P ⟨d, .makeFunc (.func f) #[] #[x], ty, pos, af, g⟩ a σ (Ty.clo f ts).pr :=
  Yld.of_run (v := .func (.func f) #[] #[a.eval x]) (by simp [execOp, Instr.makeFunc, Sem.run_bind]) ⟨_, rfl, hx⟩
theorem y_callv {f : FuncId} {fn : Func} {q : Operand} {xs : Array Operand} {tys : Array TypeId} {R : Ty} {ts : List Ty} (args : Value → Array Value) (hq : At (.clo f ts) σ a q) (hf : P.funcs[f]? = some fn) (hn : (fn.name == "runtime.NumGoroutine") = false) (hb : fn.body.isNone = false)
    (hargs : ∀ p, xs.map a.eval ++ #[p] = args p) (hc : ∀ p, (Ty.ref ts).has σ p → FnC P f (args p) σ R) :
    Yld P ⟨d, .call ⟨.value q, xs, tys⟩, ty, pos, af, g⟩ a σ R.pr := by
  intro K Q hk
  obtain ⟨p, e, hp⟩ := hq
  have hr : (execOp a.eval ⟨d, .call ⟨.value q, xs, tys⟩, ty, pos, af, g⟩).run P σ.w = .ok (.enter f (args p)) σ.w := by
    have hn' : ¬ fn.name = "runtime.NumGoroutine" := by simpa using hn
    have hb' : ¬ fn.body = none := by intro e; simp [e] at hb
    rw [← hargs p]
    simp only [execOp, resolve, e]
    simp [Deferred.ofValue, invoke, callFunc, hf, hn', hb', program, Sem.run, Sem.run_bind]
  unfold Oper.wp
  rw [hr]
  refine Calls.mono (hc p hp) ?_
  rintro e w' ⟨v, τ, rfl, hs, rfl, hv⟩
  exact hk v τ hs hv
/-! ### slices.Grow of nothing -/
theorem y_capnil {x : Operand} {t e : TypeId} (ht : P.underlying t = some (.slice e)) (hx : At (.val (.slice none 0 0)) σ a x) :
    Yld P ⟨d, .call ⟨.builtin .cap, #[x], #[t]⟩, ty, pos, af, g⟩ a σ (Ty.int ((0 : Nat) : Int)).pr :=
  Yld.of_run (v := .int .i64 0) (run_builtin1 hx (fun cs => by simp [builtin, Builtin.cap_, run_underlying ht, goInt])) rfl
theorem y_slicenil {x y : Operand} {t e : TypeId} {z : Value} {b c : Nat} {ki : IntKind} (ht : P.underlying t = some (.slice e)) (he : Info P e z c b) (hx : At (.val (.slice none 0 0)) σ a x) (hy : a.eval y = .int ki ((0 : Nat) : Int)) :
    Yld P ⟨d, .slice t x none (some y) none, ty, pos, af, g⟩ a σ (Ty.val (.slice none 0 0)).pr := by
  refine Yld.of_run (v := sliced none 0 0 0 c) ?_ ?_
  · have h1 := run_slice_h (P := P) σ.w t none 0 0 (elem_of ht) ki ((0 : Nat) : Int) (by omega) (by omega)
    rw [elem_eq ht, he.size] at h1
    have hx' : a.eval x = .slice none 0 0 := hx
    simp only [execOp, hx', hy, Option.map_some, Option.map_none, Sem.run_bind, run_sliceAt_slice σ.w t _ _ _ _ (elem_of ht), h1, Result.andThen_ok, Sem.run_pure, Int.toNat_natCast]
  · show sliced none 0 0 0 c = _
    unfold sliced; simp
theorem m_appendn {k : Nat} {t u e : TypeId} {z : Value} {by_ : Nat} {x y : Operand} {n : Nat} {ki : IntKind} {T : Ty} (ht : P.underlying t = some (.slice e)) (hu : P.underlying u = some (.int ki)) (he : Info P e z 1 by_) (hz : z.cells = #[z]) (hT : ∀ σ, T.has σ z)
    (hx : At (.val (.slice none 0 0)) σ a x) (hy : a.eval y = .int .i64 ((n : Nat) : Int)) (hn : 1 ≤ n) (hlen : n ≤ 9223372036854775807) (hb : n * by_ ≤ 140737488355328) :
    YldM k P ⟨d, .call ⟨.builtin .append, #[x, y], #[t, u]⟩, ty, pos, af, g⟩ a σ (fun v τ => Own τ k e 1 v n (List.replicate n T)) := by
  intro K Q hk'
  obtain ⟨i, hi, hi1, hi2, rfl⟩ := he.get
  have hx' : a.eval x = .slice none 0 0 := hx
  have hcap : grownCap σ.w n 0 e ≥ n := grownCap_ge σ.w n 0 e
  have hcm : grownCap σ.w n 0 e ≤ maxLen := grownCap_le_maxLen σ.w n 0 e hlen
  have hr : (Builtin.append_ #[t, u] ty #[.slice none 0 0, .int .i64 ((n : Nat) : Int)]).run P σ.w = .ok (.slice (some ⟨σ.w.heap.size, 0, none⟩) n (grownCap σ.w n 0 e)) (σ.w.drew.alloc (.cells (Builtin.zeroCells z.cells n ++ Builtin.zeroCells z.cells (grownCap σ.w n 0 e - n)) e)) := by
    have h0 : n ≠ 0 := by omega
    have hw : IntKind.i64.wrap ((n : Nat) : Int) = n := w64 (by omega) (by omega)
    have h1 : ¬ ((n : Nat) : Int) < 0 := by omega
    have h2 : ¬ (281474976710656 < ((n : Nat) : Int) * (i.bytes : Int)) := by
      have h3 : ((n * i.bytes : Nat) : Int) ≤ 281474976710656 := by omega
      rw [Int.natCast_mul] at h3; omega
    have h48 : ¬ (281474976710656 < Builtin.nextslicecap n 0 * i.bytes) := by rw [nextslicecap_zero (by omega)]; omega
    have h63 : ¬ (9223372036854775807 < (n : Int)) := by omega
    simp [Builtin.append_, run_underlying ht, run_underlying hu, sizeOf, typeInfo, zeroValue, hi, hi1, hi2, asInt, asIntOf, hw, h1, h2, h0, h48, h63, Question.forced, run_firstCells_none, newRow, grownCap]
  have hr' : (execOp a.eval ⟨d, .call ⟨.builtin .append, #[x, y], #[t, u]⟩, ty, pos, af, g⟩).run P σ.w = .ok (.value (.slice (some ⟨σ.w.heap.size, 0, none⟩) n (grownCap σ.w n 0 e))) (σ.w.drew.alloc (.cells (Builtin.zeroCells z.cells n ++ Builtin.zeroCells z.cells (grownCap σ.w n 0 e - n)) e)) := by
    simp only [execOp, resolve, Sem.run_bind, Sem.run_pure, Result.andThen_ok, invoke, List.map_toArray, List.map_cons, List.map_nil, builtin, hx', hy, hr]
  unfold Oper.wp
  rw [hr']
  have hstp : Stp 0 σ (σ.drew.mk' k (.cells (Builtin.zeroCells z.cells n ++ Builtin.zeroCells z.cells (grownCap σ.w n 0 e - n)) e)) := (Stp.drew σ).trans (Stp.mk' σ.drew k _)
  have hzl : (Builtin.zeroCells z.cells n).toList = List.replicate n z := by
    rw [hz]; unfold Builtin.zeroCells
    refine List.ext_getElem (by simp) fun j h1 h2 => ?_
    simp [Nat.mod_one]
  refine hk' _ _ hstp.of0 (Own.intro (us := List.replicate n z) (heap_alloc_new σ.w.drew _) (by show (if _ = _ then k else _) = k; rw [if_pos]; rfl) hcap hcm ?_ ?_ (by simp) ?_)
  · simp only [Array.size_append, size_zeroCells, hz]; simp; omega
  · simp only [Array.toList_append, hzl]
    rw [List.take_append_of_le_length (by simp)]; simp
  · intro j U u hU hu
    simp only [List.getElem?_replicate] at hU hu
    split at hU
    · cases hU; rw [if_pos (by assumption)] at hu; cases hu; exact hT _
    · cases hU
/-! ### Cuts of rows of structs -/
theorem flat_take {α : Type} {c : Nat} {F : α → List Ty} (hF : ∀ x, (F x).length = c) : ∀ (xs : List α) (h : Nat), (xs.flatMap F).take (h * c) = (xs.take h).flatMap F
  | [], h => by simp
  | x :: xs, 0 => by simp
  | x :: xs, h + 1 => by
    rw [List.flatMap_cons, List.take_succ_cons, List.flatMap_cons, List.take_append, hF, ← flat_take hF xs h, List.take_of_length_le (by rw [hF, Nat.succ_mul]; omega), Nat.succ_mul, Nat.add_sub_cancel]
theorem y_takec {α : Type} {c : Nat} {F : α → List Ty} {xs : List α} {x y : Operand} {t e : TypeId} {z : Value} {b : Nat} {k : IntKind} {l : Nat} (ht : P.underlying t = some (.slice e)) (he : Info P e z c b) (hx : At (Ty.lstc c F xs) σ a x) (hy : a.eval y = .int k l) (hl : l ≤ xs.length) (hF : ∀ x, (F x).length = c) :
    Yld P ⟨d, .slice t x none (some y) none, ty, pos, af, g⟩ a σ (Ty.lstc c F (xs.take l)).pr := (y_cut_h ht he hx hy hl).mono fun _ _ h => by
  rw [flat_take hF] at h
  show (Ty.sl c (xs.take l).length ((xs.take l).flatMap F)).has _ _
  rwa [show (xs.take l).length = l by simp [Nat.min_eq_left hl]]
/-! ### Signs of calls -/
theorem getD_fst (cs : List BCall) (j : Nat) : (cs.map (·.1)).getD j 0 = (cs.getD j D0).1 := by
  rw [List.getD_eq_getElem?_getD, List.getD_eq_getElem?_getD, List.getElem?_map]
  cases cs[j]? <;> rfl
theorem idxC_yes {cs : List BCall} {s : Int} {k : Nat} (hk : k < cs.length) (h : (cs.getD k D0).1 = s) (hno : ∀ j, j < k → (cs.getD j D0).1 ≠ s) : indexL (cs.map (·.1)) s = k :=
  indexL_yes (by rw [List.length_map]; exact hk) (by rw [getD_fst]; exact h.symm) (fun j hj => by rw [getD_fst]; exact hno j hj)
theorem idxC_no {cs : List BCall} {s : Int} (hno : ∀ j, j < cs.length → (cs.getD j D0).1 ≠ s) : indexL (cs.map (·.1)) s = -1 :=
  indexL_no (fun j hj => by rw [getD_fst]; rw [List.length_map] at hj; exact hno j hj)
theorem step_sign {n : Int} {L : Nat} {pre : List Int} {c : BCall} (h : signMay c.1 = false) : callStep n L pre c = 4 := by unfold callStep; rw [if_pos h]
theorem step_dbl {n : Int} {L : Nat} {pre : List Int} {c : BCall} (h : signMay c.1 = true) (h2 : c.1 ∈ pre) : callStep n L pre c = 8 := by unfold callStep; rw [if_neg (by rw [h]; simp), if_pos h2]
theorem step_long {n : Int} {L : Nat} {pre : List Int} {c : BCall} (h : signMay c.1 = true) (h2 : c.1 ∉ pre) (h3 : L < c.2.length) : callStep n L pre c = 1 := by unfold callStep; rw [if_neg (by rw [h]; simp), if_neg h2, if_pos h3]
theorem step_all {n : Int} {L : Nat} {pre : List Int} {c : BCall} (h : signMay c.1 = true) (h2 : c.1 ∉ pre) (h3 : ¬ L < c.2.length) : callStep n L pre c = allMay n c.2 := by unfold callStep; rw [if_neg (by rw [h]; simp), if_neg h2, if_neg h3]
theorem calls_at {n : Int} {L : Nat} {cs : List BCall} {i : Nat} {e v : Int} (h : callsTo n L ((cs.take i).map (·.1)) (cs.drop i) = e) (hi : i < cs.length) (hs : callStep n L ((cs.take i).map (·.1)) (cs.getD i D0) = v) (hv : v ≠ 0) : e = v := by
  rw [calls_stop h hi (by rw [hs]; exact hv), hs]
theorem callsMay_meth {nm : ByteArray} {n : Int} {l : List (List Int)} {cs : List BCall} (h : methMay nm n l ≠ 0) : callsMay nm n l cs = methMay nm n l := by unfold callsMay; rw [if_pos h]
theorem callsMay_cnt {nm : ByteArray} {n : Int} {l : List (List Int)} {cs : List BCall} (h : ¬ methMay nm n l ≠ 0) (h2 : cs.length < 1 ∨ 8 < cs.length) : callsMay nm n l cs = 1 := by unfold callsMay; rw [if_neg h, if_pos h2]
theorem callsMay_all {nm : ByteArray} {n : Int} {l : List (List Int)} {cs : List BCall} (h : ¬ methMay nm n l ≠ 0) (h2 : ¬ (cs.length < 1 ∨ 8 < cs.length)) : callsMay nm n l cs = callsTo n l.length [] cs := by unfold callsMay; rw [if_neg h, if_neg h2]
theorem flatten_le {α : Type} (xss : List (List α)) (k : Nat) : (xss.take k).flatten.length ≤ xss.flatten.length := by
  have h := congrArg (fun l : List (List α) => l.flatten.length) (List.take_append_drop k xss)
  simp only [List.flatten_append, List.length_append] at h
  omega
theorem flatten_succ {α : Type} {xss : List (List α)} {k : Nat} (h : k < xss.length) : (xss.take (k + 1)).flatten = (xss.take k).flatten ++ xss.getD k [] := by
  rw [take_snocD [] h, List.flatten_append]; simp
end Go.KL
