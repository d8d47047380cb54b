/- A callee that answers with what is new, called with what is owned. -/
import Derived.Test.YtbilebfnanlgfaaKlSearch
namespace Go.KL
open Go.RowKit
variable {P : Program}
def Ty.frsh (N : Nat) (xs : List Int) : Ty := ⟨fun σ v => (Ty.lst Ty.int xs).has σ v ∧ ∀ b o m c g, v = .slice (some ⟨b, o, g⟩) m c → N ≤ b, fun h ⟨h1, h2⟩ => ⟨Ty.up _ h h1, h2⟩⟩
theorem fn_intro0w {f : FuncId} {fn : Func} {c : Code} {N : Nat} {args : Array Value} {σ : GW} {R : Ty} (hf : P.funcs[f]? = some fn) (hb : fn.body = some c) (hn : fn.ntmps = N) (ha : args.size ≤ N)
    (h : ∀ σ0 a, σ0.w = σ.w → σ.Le σ0 → FromL [] σ0 σ0 → Ok N a → (∀ i v, args.toList[i]? = some v → a.eval (.tmp i) = v) → c.wp P (bodyPost P fn (RetL σ0 [] (fun v τ => R.has τ v))) a σ0.w) : FnC P f args σ R :=
  (fn_introL (Low.hush σ) hf hb hn ha (fun a => h σ.hush a rfl σ.le_hush)).toC
theorem own_fresh {s0 τ : GW} {k : Nat} {e : TypeId} {c n : Nat} {v : Value} {ts : List Ty} (F : FromL [] s0 τ) (h : Own τ k e c v n ts) (hk : 2 ≤ k) : ∀ b o m c g, v = .slice (some ⟨b, o, g⟩) m c → s0.w.heap.size ≤ b := by
  intro b o m c g hv
  obtain ⟨us, h1, _, _, h4⟩ := h
  rcases Nat.lt_or_ge b s0.w.heap.size with hlt | hge
  · have hb : v.ownBlock = some b := by
      rcases h1.2 with ⟨e1, _⟩ | ⟨gg, cap, cur, e1, _⟩
      · rw [e1] at hv; cases hv
      · rw [e1] at hv; cases hv; rw [e1]; rfl
    have h5 := h4 b hb
    have h6 := F.stp.st b hlt (by simp)
    have h7 := F.low b (by simp)
    omega
  · exact hge
theorem frs_of {s0 τ : GW} {σ : GW} {xs : List Int} {v x : Value} (hw : s0.w = σ.w) (h : (Ty.lst Ty.int xs).has τ v) (e : v = x) (hf : ∀ b o m c g, x = .slice (some ⟨b, o, g⟩) m c → s0.w.heap.size ≤ b) : (Ty.frsh σ.w.heap.size xs).has τ v :=
  ⟨h, fun b o m c g hv => by rw [← hw]; exact hf b o m c g (e ▸ hv)⟩
variable {d : Option Tmp} {ty : TypeId} {pos : String} {af : Array Edge} {g : Option (Nat × Bool)} {a : Act} {σ : GW}
theorem y_slnil {x y : Operand} {t u : TypeId} {e' : TypeId} {c n : Nat} {ts : List Ty} (ht : P.underlying t = some (.slice e')) (h : At (.sl c n ts) σ a x) (hn : ts ≠ []) (hy : a.eval y = .slice none 0 0) :
    Yld P ⟨d, .binOp .eql t x y u, ty, pos, af, g⟩ a σ (Ty.bool false).pr := by
  obtain ⟨ad, cap, b, o, e1, _, _, hs, _⟩ := h
  obtain ⟨rfl, _⟩ := hs.resolve_left hn
  refine Yld.of_run (v := .bool false) ?_ rfl
  simp only [execOp, e1, hy]
  have h1 := Go.Lib.run_eql_slice_nil (P := P) σ.w t e' (some ⟨b, o, none⟩) n cap 0 0 ht
  simp [eqGuard, run_underlying ht, h1]
theorem y_callo {f : FuncId} {fn : Func} {x : Operand} {tys : Array TypeId} {k : Nat} {e : TypeId} {v : Value} {xs : List Int} (hk : 2 ≤ k) (h : Own σ k e 1 v xs.length (xs.map Ty.int)) (hx : a.eval x = v) (hf : P.funcs[f]? = some fn) (hn : (fn.name == "runtime.NumGoroutine") = false) (hb : fn.body.isNone = false)
    (hc : ∀ σ : GW, (Ty.lst Ty.int xs).has σ v → FnC P f #[v] σ (Ty.frsh σ.w.heap.size xs)) :
    Yld P ⟨d, .call ⟨.value (.func f), #[x], tys⟩, ty, pos, af, g⟩ a σ (Ty.lst Ty.int xs).pr := by
  intro K Q hk'
  have hr : (execOp a.eval ⟨d, .call ⟨.value (.func f), #[x], tys⟩, ty, pos, af, g⟩).run P σ.w = .ok (.enter f #[v]) σ.w := by
    have hn' : ¬ fn.name = "runtime.NumGoroutine" := by simpa using hn
    have hb' : ¬ fn.body = none := by intro e; simp [e] at hb
    simp only [execOp, resolve, List.map_toArray, List.map_cons, List.map_nil, hx]
    simp [Act.eval, Deferred.ofValue, invoke, callFunc, hf, hn', hb', program, Sem.run, Sem.run_bind]
  unfold Oper.wp
  rw [hr]
  obtain ⟨σ', hw, hs, hT⟩ := h.seal hk
  have hcc := hc σ' hT
  unfold FnC at hcc
  rw [hw] at hcc
  refine Calls.mono hcc ?_
  rintro e' w' ⟨v', τ, rfl, hs2, rfl, ⟨ad, cap, b, o, e1, e2, e3, e4, e5⟩, hfr⟩
  have hlt : ∀ b, b < σ.w.heap.size → b < τ.w.heap.size := fun b hb => Nat.lt_of_lt_of_le hb (by have := hs2.size; rw [hw] at this; exact this)
  let ρ : GW := ⟨τ.w, fun b => if b < σ.w.heap.size then σ.st b else τ.st b, fun b hb => by
    by_cases hb2 : b < σ.w.heap.size
    · exact hlt b hb2
    · simp only [hb2, if_false] at hb; exact τ.lt b hb⟩
  have hst : Stp 0 σ ρ := ⟨by rw [show ρ.w = τ.w from rfl, hs2.os, hw], by rw [show ρ.w = τ.w from rfl, hs2.tape, hw], by rw [show ρ.w = τ.w from rfl, hs2.output, hw], by have := hs2.dr; rw [hw] at this; exact this, by have := hs2.size; rw [hw] at this; exact this,
    fun b hb _ => by have := hs2.blk b (by rw [hw]; exact hb) (.inl rfl); rw [hw] at this; exact this, fun b hb _ => by show (if b < σ.w.heap.size then σ.st b else τ.st b) = σ.st b; rw [if_pos hb]⟩
  refine hk' v' ρ hst ⟨ad, cap, b, o, e1, e2, e3, ?_, fun j T hj => ?_⟩
  · rcases e4 with e4 | ⟨e4, e6⟩
    · exact .inl e4
    · refine .inr ⟨e4, ?_⟩
      have hge := hfr b o _ _ _ (by rw [e1, e4])
      show (if b < σ.w.heap.size then σ.st b else τ.st b) = 1
      rw [if_neg (by omega)]; exact e6
  · obtain ⟨u, h1, h2⟩ := e5 j T hj
    refine ⟨u, h1, ?_⟩
    obtain ⟨z, _, rfl⟩ := List.mem_map.1 (List.mem_of_getElem? hj)
    exact h2
end Go.KL
