/- What single operations yield. -/
import Derived.Test.YtbilebfnanlgfaaKlCore
import Derived.Deep.MidRow
namespace Go.KL
variable {P : Program} {d : Option Tmp} {ty : TypeId} {pos : String} {af : Array Edge} {g : Option (Nat × Bool)} {a : Act} {σ : GW}

theorem y_move {x : Operand} {R : Pr} (h : R.has σ (a.eval x)) : Yld P ⟨d, .move x, ty, pos, af, g⟩ a σ R := Yld.of_run rfl h
theorem y_assign {x : Operand} {R : Pr} (h : R.has σ (a.eval x)) : Yld P ⟨d, .assign x, ty, pos, af, g⟩ a σ R := Yld.of_run rfl h

section ints
variable {t u : TypeId} {x y : Operand} {k : IntKind} {m n : Int} (hx : a.eval x = .int k m) (hy : a.eval y = .int k n)
include hx hy
theorem y_eql : Yld P ⟨d, .binOp .eql t x y u, ty, pos, af, g⟩ a σ (Ty.bool (decide (m = n))).pr :=
  Yld.of_run (v := .bool (m == n)) (by simp only [execOp, hx, hy]; simp [go_sem]) (by show Value.bool (m == n) = _; congr 1)
theorem y_neq : Yld P ⟨d, .binOp .neq t x y u, ty, pos, af, g⟩ a σ (Ty.bool (decide (m ≠ n))).pr :=
  Yld.of_run (v := .bool (m != n)) (by simp only [execOp, hx, hy]; simp [go_sem]) (by show Value.bool (m != n) = _; congr 1; rw [Bool.eq_iff_iff]; simp)
theorem y_lss : Yld P ⟨d, .binOp .lss t x y u, ty, pos, af, g⟩ a σ (Ty.bool (decide (m < n))).pr :=
  Yld.of_run (by simp only [execOp, hx, hy]; simp [go_sem]) rfl
theorem y_leq : Yld P ⟨d, .binOp .leq t x y u, ty, pos, af, g⟩ a σ (Ty.bool (decide (m ≤ n))).pr :=
  Yld.of_run (by simp only [execOp, hx, hy]; simp [go_sem]) rfl
theorem y_gtr : Yld P ⟨d, .binOp .gtr t x y u, ty, pos, af, g⟩ a σ (Ty.bool (decide (n < m))).pr :=
  Yld.of_run (by simp only [execOp, hx, hy]; simp [go_sem]) rfl
theorem y_geq : Yld P ⟨d, .binOp .geq t x y u, ty, pos, af, g⟩ a σ (Ty.bool (decide (n ≤ m))).pr :=
  Yld.of_run (by simp only [execOp, hx, hy]; simp [go_sem]) rfl
theorem y_add (h : k.wrap (m + n) = m + n) : Yld P ⟨d, .binOp .add t x y u, ty, pos, af, g⟩ a σ (Ty.val (.int k (m + n))).pr :=
  Yld.of_run (by simp only [execOp, hx, hy]; simp [go_sem]; rfl) (by rw [h]; rfl)
theorem y_sub (h : k.wrap (m - n) = m - n) : Yld P ⟨d, .binOp .sub t x y u, ty, pos, af, g⟩ a σ (Ty.val (.int k (m - n))).pr :=
  Yld.of_run (by simp only [execOp, hx, hy]; simp [go_sem]; rfl) (by rw [h]; rfl)
theorem y_mul (h : k.wrap (m * n) = m * n) : Yld P ⟨d, .binOp .mul t x y u, ty, pos, af, g⟩ a σ (Ty.val (.int k (m * n))).pr :=
  Yld.of_run (by simp only [execOp, hx, hy]; simp [go_sem]; rfl) (by rw [h]; rfl)
end ints

theorem w64 {n : Int} (h1 : -9223372036854775808 ≤ n) (h2 : n ≤ 9223372036854775807) : IntKind.i64.wrap n = n := IntWalk.i64_in n ⟨h1, h2⟩

theorem y_remN {t u : TypeId} {x y : Operand} {m n : Nat} (hx : a.eval x = .int .i64 m) (hy : a.eval y = .int .i64 n) (hn : 0 < n) : Yld P ⟨d, .binOp .rem t x y u, ty, pos, af, g⟩ a σ (Ty.nat (m % n)).pr := by
  refine Yld.of_run (v := .int .i64 ((m : Int).tmod n)) ?_ ?_
  · simp only [execOp, hx, hy]; simp [go_sem]; omega
  · show Value.int .i64 ((m : Int).tmod n) = .int .i64 ((m % n : Nat) : Int)
    rw [Int.tmod_eq_emod_of_nonneg (by omega)]; rfl
theorem y_quoN {t u : TypeId} {x y : Operand} {m n : Nat} (hx : a.eval x = .int .i64 m) (hy : a.eval y = .int .i64 n) (hn : 0 < n) (hm : m ≤ 9223372036854775807) : Yld P ⟨d, .binOp .quo t x y u, ty, pos, af, g⟩ a σ (Ty.nat (m / n)).pr := by
  refine Yld.of_run (v := .int .i64 (IntKind.i64.wrap ((m : Int).tdiv n))) ?_ ?_
  · simp only [execOp, hx, hy]; simp [go_sem]; omega
  · show Value.int .i64 (IntKind.i64.wrap ((m : Int).tdiv n)) = .int .i64 ((m / n : Nat) : Int)
    have h1 : (m : Int).tdiv n = ((m / n : Nat) : Int) := by rw [Int.tdiv_eq_ediv_of_nonneg (by omega)]; rfl
    have h2 : m / n ≤ m := Nat.div_le_self _ _
    rw [h1]
    generalize m / n = q at *
    rw [w64 (by omega) (by omega)]
theorem y_neg {t : TypeId} {x : Operand} {m : Int} (hx : a.eval x = .int .i64 m) (h : IntKind.i64.wrap (-m) = -m) : Yld P ⟨d, .unOp .neg t x, ty, pos, af, g⟩ a σ (Ty.int (-m)).pr :=
  Yld.of_run (v := .int .i64 (IntKind.i64.wrap (-m))) (by simp only [execOp, hx]; simp [go_sem]) (by rw [h]; rfl)
theorem y_not {t : TypeId} {x : Operand} {b : Bool} (hx : a.eval x = .bool b) : Yld P ⟨d, .unOp .not t x, ty, pos, af, g⟩ a σ (Ty.bool (!b)).pr :=
  Yld.of_run (v := .bool (!b)) (by simp only [execOp, hx]; simp [go_sem]) rfl

theorem y_pick_or {c x y : Operand} {b e : Bool} (hc : a.eval c = .bool b) (hx : a.eval x = .bool true) (hy : (Ty.grd (b = false) (.bool e)).has σ (a.eval y)) :
    Yld P ⟨d, .pick c x y, ty, pos, af, g⟩ a σ (Ty.bool (b || e)).pr := by
  cases b with
  | true => exact Yld.of_run (v := .bool true) (by simp only [execOp, hc, hx]; simp [go_sem]) rfl
  | false =>
    have h : a.eval y = .bool e := hy.1 rfl
    exact Yld.of_run (v := .bool e) (by simp only [execOp, hc, h]; simp [go_sem]) rfl
theorem y_pick_and {c x y : Operand} {b e : Bool} (hc : a.eval c = .bool b) (hx : (Ty.grd (b = true) (.bool e)).has σ (a.eval x)) (hy : a.eval y = .bool false) :
    Yld P ⟨d, .pick c x y, ty, pos, af, g⟩ a σ (Ty.bool (b && e)).pr := by
  cases b with
  | true =>
    have h : a.eval x = .bool e := hx.1 rfl
    exact Yld.of_run (v := .bool e) (by simp only [execOp, hc, h]; simp [go_sem]) rfl
  | false => exact Yld.of_run (v := .bool false) (by simp only [execOp, hc, hy]; simp [go_sem]) rfl

theorem run_builtin1 {b : Builtin} {x : Operand} {v u : Value} {t : TypeId} {w w' : World} (hx : a.eval x = v) (h : ∀ cs, (builtin b #[t] ty cs #[v]).run P w = .ok (.value u) w') : (execOp a.eval ⟨d, .call ⟨.builtin b, #[x], #[t]⟩, ty, pos, af, g⟩).run P w = .ok (.value u) w' := by
  simp only [execOp, resolve, Sem.run_bind, Sem.run_pure, Result.andThen_ok, invoke, List.map_toArray, List.map_cons, List.map_nil, hx]
  exact h _
theorem y_len {x : Operand} {c n : Nat} {ts : List Ty} {t e : TypeId} (ht : P.underlying t = some (.slice e)) (hx : At (.sl c n ts) σ a x) :
    Yld P ⟨d, .call ⟨.builtin .len, #[x], #[t]⟩, ty, pos, af, g⟩ a σ (Ty.int n).pr := by
  obtain ⟨ad, cap, b, o, e1, _⟩ := hx
  exact Yld.of_run (v := .int .i64 n) (run_builtin1 e1 (fun cs => by simp [builtin, Builtin.len_, run_underlying ht, goInt])) rfl
theorem y_len_str {x : Operand} {s : ByteArray} {t : TypeId} (ht : P.underlying t = some .string) (hx : a.eval x = .string s) :
    Yld P ⟨d, .call ⟨.builtin .len, #[x], #[t]⟩, ty, pos, af, g⟩ a σ (Ty.int s.size).pr :=
  Yld.of_run (v := .int .i64 s.size) (run_builtin1 hx (fun cs => by simp [builtin, Builtin.len_, run_underlying ht, goInt])) rfl

def Info (P : Program) (e : TypeId) (z : Value) (c b : Nat) : Prop := (P.info? e).map (fun i => (i.zero, i.size, i.bytes)) = some (some z, c, b)
theorem Info.size {e : TypeId} {z : Value} {c b : Nat} (h : Info P e z c b) (w : World) : (sizeOf e).run P w = .ok c w := by
  unfold Info at h
  cases hi : P.info? e with
  | none => simp [hi] at h
  | some i =>
    rw [hi] at h; simp at h
    simp [sizeOf, typeInfo, hi, h.2.1]
theorem Info.zero {e : TypeId} {z : Value} {c b : Nat} (h : Info P e z c b) (w : World) : (zeroValue e).run P w = .ok z w := by
  unfold Info at h
  cases hi : P.info? e with
  | none => simp [hi] at h
  | some i =>
    rw [hi] at h; simp at h
    simp [zeroValue, typeInfo, hi, h.1]

theorem y_indexAddr {x y : Operand} {c n : Nat} {ts us : List Ty} {t e : TypeId} {z : Value} {b : Nat} {k : IntKind} {i : Int} (ht : P.underlying t = some (.slice e)) (he : Info P e z c b)
    (hx : At (.sl c n ts) σ a x) (hy : a.eval y = .int k i) (h0 : 0 ≤ i) (h1 : i < n) (hc : 0 < c) (hu : ∀ j, j < c → ts[i.toNat * c + j]? = us[j]?) (hl : us.length = c) :
    Yld P ⟨d, .indexAddr t x y, ty, pos, af, g⟩ a σ (Ty.ref us).pr := by
  obtain ⟨ad, cap, b, o, e1, hn, hlen, hs, hcl⟩ := hx
  have hne : ts ≠ [] := by
    intro h; subst h
    have hp : 0 < n * c := Nat.mul_pos (by omega) hc
    simp at hlen; omega
  obtain ⟨rfl, hst⟩ := hs.resolve_left hne
  refine Yld.of_run (v := .pointer (some ⟨b, o + i.toNat * c, none⟩)) ?_ ⟨b, o + i.toNat * c, rfl, hst, fun j T hj => ?_⟩
  · simp only [execOp, e1, hy]
    simp [Instr.indexAt, asIntOf, run_underlying ht, h0, h1, he.size, Addr.add_lit]
  · have hj' : j < c := by rw [← hl]; exact (List.getElem?_eq_some_iff.1 hj).1
    have := hcl (i.toNat * c + j) T (by rw [hu j hj']; exact hj)
    rwa [← Nat.add_assoc] at this
theorem y_index1 {x y : Operand} {n : Nat} {ts : List Ty} {T : Ty} {t e : TypeId} {z : Value} {b : Nat} {k : IntKind} {i : Int} (ht : P.underlying t = some (.slice e)) (he : Info P e z 1 b)
    (hx : At (.sl 1 n ts) σ a x) (hy : a.eval y = .int k i) (h0 : 0 ≤ i) (hT : ts[i.toNat]? = some T) :
    Yld P ⟨d, .indexAddr t x y, ty, pos, af, g⟩ a σ (Ty.ref [T]).pr := by
  have hlt := (List.getElem?_eq_some_iff.1 hT).1
  have hn : ts.length = n := by obtain ⟨_, _, _, _, _, _, h, _⟩ := hx; omega
  exact y_indexAddr ht he hx hy h0 (by omega) (by decide) (fun j hj => by
    obtain rfl : j = 0 := by omega
    simpa using hT) rfl

theorem y_load {x : Operand} {ts : List Ty} {T : Ty} {t : TypeId} {dd : TypeDesc} (ht : P.underlying t = some dd) (hd : dd.isRow = false) (hx : At (.ref ts) σ a x) (hT : ts[0]? = some T) :
    Yld P ⟨d, .load t x, ty, pos, af, g⟩ a σ T.pr := by
  obtain ⟨b, o, e1, hst, hc⟩ := hx
  obtain ⟨u, hu, hT⟩ := hc 0 T hT
  refine Yld.of_run (v := u) ?_ hT
  have hagg : (isAgg t).run P σ.w = .ok false σ.w := by
    unfold isAgg
    rw [Sem.run_bind, run_underlying ht σ.w]
    cases dd <;> simp_all
  have hu' : σ.w.cell? ⟨b, o, none⟩ = some u := hu
  simp only [execOp, e1]
  simp [Instr.loadAt, Instr.sureAddr, loadVar, Sem.run_bind, hagg, load, Sem.run, hu']

theorem y_call {f : FuncId} {fn : Func} {xs : Array Operand} {tys : Array TypeId} {R : Ty} (args : Array Value) (hf : P.funcs[f]? = some fn) (hn : (fn.name == "runtime.NumGoroutine") = false) (hb : fn.body.isNone = false) (hargs : xs.map a.eval = args) (hc : FnC P f args σ R) :
    Yld P ⟨d, .call ⟨.value (.func f), xs, tys⟩, ty, pos, af, g⟩ a σ R.pr := by
  intro K Q hk
  have hr : (execOp a.eval ⟨d, .call ⟨.value (.func f), xs, tys⟩, ty, pos, af, g⟩).run P σ.w = .ok (.enter f args) σ.w := by
    have hn' : ¬ fn.name = "runtime.NumGoroutine" := by simpa using hn
    have hb' : ¬ fn.body = none := by intro e; simp [e] at hb
    simp only [execOp, resolve, hargs]
    simp [Act.eval, Deferred.ofValue, invoke, callFunc, hf, hn', hb', program, Sem.run, Sem.run_bind]
  unfold Oper.wp
  rw [hr]
  refine Calls.mono hc ?_
  rintro e w' ⟨v, τ, rfl, hs, rfl, hv⟩
  exact hk v τ hs hv

theorem y_ext2_0 {x : Operand} {T U : Ty} (hx : At (.tup2 T U) σ a x) : Yld P ⟨d, .extract x 0, ty, pos, af, g⟩ a σ T.pr := by
  obtain ⟨v, w, e, h, _⟩ := hx
  exact Yld.of_run (v := v) (by simp only [execOp, e]; simp [Instr.extract]) h
theorem y_ext2_1 {x : Operand} {T U : Ty} (hx : At (.tup2 T U) σ a x) : Yld P ⟨d, .extract x 1, ty, pos, af, g⟩ a σ U.pr := by
  obtain ⟨v, w, e, _, h⟩ := hx
  exact Yld.of_run (v := w) (by simp only [execOp, e]; simp [Instr.extract]) h
def GW.seal (σ : GW) (o : Obj) : GW := ⟨σ.w.alloc o, fun b => if b = σ.w.heap.size then 1 else σ.st b, fun b hb => by
  by_cases e : b = σ.w.heap.size
  · subst e; simp
  · simp only [e, if_false] at hb
    have := σ.lt b hb
    simp; omega⟩
theorem Stp.seal (σ : GW) (o : Obj) : Stp 0 σ (σ.seal o) :=
  ⟨rfl, rfl, rfl, Nat.le_refl _, by simp [GW.seal], fun b hb _ => heap_alloc_old σ.w o hb, fun b hb _ => by simp only [GW.seal]; rw [if_neg (by omega)]⟩

theorem y_build1 {x : Operand} {t e : TypeId} {T : Ty} {z : Value} {b : Nat} (ht : P.underlying t = some (.slice e)) (he : Info P e z 1 b) (hz : z.cells.size = 1) (hx : At T σ a x) (h1 : (a.eval x).cells = #[a.eval x]) :
    Yld P ⟨d, .buildSlice t 1 #[(0, x)], ty, pos, af, g⟩ a σ (Ty.sl 1 1 [T]).pr := by
  intro K Q hk
  have hr : (execOp a.eval ⟨d, .buildSlice t 1 #[(0, x)], ty, pos, af, g⟩).run P σ.w = .ok (.value (.slice (some ⟨σ.w.heap.size, 0, none⟩) 1 1)) (σ.w.alloc (.cells #[a.eval x] e)) := by
    simp only [execOp, List.map_toArray, List.map_cons, List.map_nil]
    generalize a.eval x = v at h1 ⊢
    have hr : Array.range 1 = #[0] := rfl
    simp [Instr.buildSlice, run_underlying ht, he.size, he.zero, Instr.fill, h1, hz, newRow, newObj, Sem.run, Sem.run_bind, hr]
  unfold Oper.wp
  rw [hr]
  refine hk _ (σ.seal (.cells #[a.eval x] e)) (Stp.seal _ _) ⟨_, 1, σ.w.heap.size, 0, rfl, ⟨Nat.le_refl _, by decide⟩, rfl, .inr ⟨rfl, by simp [GW.seal]⟩, fun j U hj => ?_⟩
  match j, hj with
  | 0, hj =>
    simp at hj; subst hj
    refine ⟨a.eval x, ?_, T.up (Stp.seal _ _).le0 hx⟩
    show World.cell? (σ.w.alloc _) _ = _
    simp only [World.cell?, heap_alloc_new]
    rfl
end Go.KL
