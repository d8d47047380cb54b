/- Results of which the first lies in a struct's variable. -/
import Derived.Test.YtbilebfnanlgfaaKlWalk
namespace Go.KL
open Go.RowKit
variable {P : Program} {fn : Func} {σ0 σ : GW} {a : Act} {N d e f : Nat} {L : List Nat} {R : Value → GW → Prop}
theorem run_cell {t k : Nat} {T : TypeId} {fs : Array Field} {z : Value} {by_ : Nat} {ts : List Ty} (hT : P.underlying T = some (.struct fs)) (he : Info P T z ts.length by_) (h : OwnP σ k (a.eval (.tmp t)) ts) :
    ∃ ad cur, a.tmps.getD t undef = .pointer (some ad) ∧ (loadVar T ad).run P σ.w = .ok (.agg cur) σ.w ∧ (Ty.agg ts).has σ (.agg cur) := by
  obtain ⟨gg, e', cur, e1, h2, h3, h4, h5⟩ := h
  have hl := run_loadVar (P := P) hT he (w := σ.w) (ad := ⟨gg, 0, none⟩) (us := cur.toList) (by simp [h4]) (fun j u hj => by
    rw [Addr.add_lit, Nat.zero_add]
    simp at hj
    simp [World.cell?, h3, hj])
  exact ⟨_, cur, e1, by simpa using hl, cur, rfl, h4, h5⟩
theorem retL1c {t k : Nat} {T : TypeId} {fs : Array Field} {z : Value} {by_ : Nat} {ts : List Ty} (hr : fn.results = #[.cell t T]) (ok : Ok N a) (hF : FromL L σ0 σ) (hT : P.underlying T = some (.struct fs)) (he : Info P T z ts.length by_) (h : OwnP σ k (a.eval (.tmp t)) ts)
    (hR : ∀ v, (Ty.agg ts).has σ v → R v σ) : bodyPost P fn (RetL σ0 L R) .ret a σ.w := by
  obtain ⟨ad, cur, e2, hl, hv⟩ := run_cell hT he h
  refine bodyPost_ret (v := .agg cur) ?_ ok.defers ⟨_, σ, rfl, hF, rfl, hR _ hv⟩
  have e3 : a.tmps[t]?.getD undef = .pointer (some ad) := by rw [← e2, Array.getD_eq_getD_getElem?]
  simp [results, hr, e3, asAddr, hl]
end Go.KL
