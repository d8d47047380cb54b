/- What the walks of the second kind say: facts carried on, returns, cuts of rows that are owned. -/
import Derived.Test.YtbilebfnanlgfaaTruthMadeK1
import Derived.Lib.Bytealg
import Derived.Scope
import Derived.Lib.Builder
import Derived.Lib.UnsafeStr
import Derived.Lib.SliceRun
import Derived.Lib.DecodeN
import Derived.Shelf.GgSortFunc.Insertion
import Derived.Shelf.SlSortCmp.Whole1
import Derived.ProofKit
import Derived.JoinedCond
import Derived.SizedLaws
import Derived.Deep.Slices
import Derived.Deep.CondSized
namespace Go.KL
open Go.RowKit
variable {P : Program}

theorem Own.k0 {k : Nat} {σ τ : GW} {e : TypeId} {c : Nat} {v : Value} {n : Nat} {ts : List Ty} (h : Own σ k e c v n ts) (hs : Stp 0 σ τ) : Own τ k e c v n ts := h.keepL (L := []) hs.toL0 (by simp) (by simp)
theorem OwnP.k0 {k : Nat} {σ τ : GW} {v : Value} {ts : List Ty} (h : OwnP σ k v ts) (hs : Stp 0 σ τ) : OwnP τ k v ts := h.keepL (L := []) hs.toL0 (by simp) (by simp)
theorem OwnM.k0 {α β : Type} {F : β → Ty} {kv : α → Value} {k : Nat} {σ τ : GW} {v : Value} {f : α → Option β} (h : OwnM F kv σ k v f) (hs : Stp 0 σ τ) : OwnM F kv τ k v f := h.keepL (L := []) hs.toL0 (by simp) (by simp)
theorem al2 {R : Pr} {σ : GW} {u v : Value} (e : u = v) (h : R.has σ u) : R.has σ v := e ▸ h
theorem kpL {L : List Nat} {T : Ty} {σ σ' : GW} {a a' : Act} {x : Operand} (hs : StpL L σ σ') (hL : 1 ∉ L) (e : a'.eval x = a.eval x) (h : T.has σ (a.eval x)) : T.has σ' (a'.eval x) := by rw [e]; exact T.up (hs.le hL) h
variable {fn : Func} {σ0 σ : GW} {a : Act} {N d e f : Nat} {L : List Nat} {R : Value → GW → Prop}
theorem retL1 (hr : fn.results = #[.tmp d]) (ok : Ok N a) (hF : FromL L σ0 σ) (h : R (a.eval (.tmp d)) σ) : bodyPost P fn (RetL σ0 L R) .ret a σ.w :=
  bodyPost_ret (results_tmp hr _ _ _) ok.defers ⟨_, σ, rfl, hF, rfl, h⟩
theorem retL2 (hr : fn.results = #[.tmp d, .tmp e]) (ok : Ok N a) (hF : FromL L σ0 σ) (h : R (.tuple #[a.eval (.tmp d), a.eval (.tmp e)]) σ) : bodyPost P fn (RetL σ0 L R) .ret a σ.w :=
  bodyPost_ret (results_tmp2 hr _ _ _) ok.defers ⟨_, σ, rfl, hF, rfl, h⟩
theorem retL3 (hr : fn.results = #[.tmp d, .tmp e, .tmp f]) (ok : Ok N a) (hF : FromL L σ0 σ) (h : R (.tuple #[a.eval (.tmp d), a.eval (.tmp e), a.eval (.tmp f)]) σ) : bodyPost P fn (RetL σ0 L R) .ret a σ.w :=
  bodyPost_ret (v := .tuple #[a.tmps.getD d undef, a.tmps.getD e undef, a.tmps.getD f undef]) (by simp [results, hr]) ok.defers ⟨_, σ, rfl, hF, rfl, h⟩
theorem hasT2 {T U : Ty} {x y : Value} (h : T.has σ x) (k : U.has σ y) : (Ty.tup2 T U).has σ (.tuple #[x, y]) := ⟨x, y, rfl, h, k⟩
theorem hasT3 {T U V : Ty} {x y z : Value} (h : T.has σ x) (k : U.has σ y) (l : V.has σ z) : (Ty.tup3 T U V).has σ (.tuple #[x, y, z]) := ⟨x, y, z, rfl, h, k, l⟩
variable {dd : Option Tmp} {ty : TypeId} {pos : String} {af : Array Edge} {g : Option (Nat × Bool)}
theorem Own.cut {k : Nat} {e : TypeId} {c n : Nat} {v : Value} {ts : List Ty} (h : Own σ k e c v n ts) {m : Nat} (hm : m ≤ n) : ∃ ad cap, v = .slice ad n cap ∧ n ≤ cap ∧ Own σ k e c (.slice ad m cap) m (ts.take (m * c)) := by
  obtain ⟨us, r1, r2, r3, r4⟩ := h
  rcases r1.2 with ⟨rfl, rfl⟩ | ⟨g, cap, cur, rfl, hb, hg, hn, hm', hcs, htk⟩
  · obtain rfl : m = 0 := by omega
    have hts : ts = [] := List.eq_nil_of_length_eq_zero (by rw [← r2, r1.1]; simp)
    subst hts
    exact ⟨none, 0, rfl, Nat.le_refl _, by simpa using Own.nil σ k e c⟩
  · refine ⟨some ⟨g, 0, none⟩, cap, rfl, hn, ?_⟩
    refine Own.intro (us := us.take (m * c)) hg (r4 g rfl) (by omega) hm' hcs ?_ (by simp [r2]) ?_
    · rw [← htk, List.take_take, Nat.min_eq_left (Nat.mul_le_mul_right _ hm)]
    · intro j T u hT hu
      rw [List.getElem?_take] at hT hu
      split at hT
      · rw [if_pos (by assumption)] at hu
        exact r3 j T u hT hu
      · cases hT
theorem y_otake {k : Nat} {x y : Operand} {c n : Nat} {ts : List Ty} {t e e' : TypeId} {z v : Value} {b : Nat} {ki : IntKind} {h : Nat} (ht : P.underlying t = some (.slice e')) (he : Info P e' z c b) (ho : Own σ k e c v n ts) (hx : a.eval x = v) (hy : a.eval y = .int ki h) (hl : h ≤ n) :
    Yld P ⟨dd, .slice t x none (some y) none, ty, pos, af, g⟩ a σ (Pr.own k e c h (ts.take (h * c))) := by
  obtain ⟨ad, cap, rfl, hn, hO⟩ := ho.cut hl
  have hcap : cap ≤ 9223372036854775807 := by
    obtain ⟨us, r1, _⟩ := ho
    rcases r1.2 with ⟨e1, _⟩ | ⟨g, cap', cur, e1, _, _, _, hm', _⟩
    · cases e1; omega
    · cases e1; exact hm'
  refine Yld.of_run (v := sliced ad 0 h cap c) ?_ ?_
  · have h1 := run_slice_h (P := P) σ.w t ad n cap (elem_of ht) ki (h : Int) (by omega) (by omega)
    rw [elem_eq ht, he.size] at h1
    simp only [execOp, hx, hy, Option.map_some, Option.map_none, Sem.run_bind, run_sliceAt_slice σ.w t _ _ _ _ (elem_of ht), h1, Result.andThen_ok, Sem.run_pure, Int.toNat_natCast]
  · show Own σ k e c (sliced ad 0 h cap c) h _
    have : sliced ad 0 h cap c = .slice ad h cap := by
      unfold sliced
      cases ad with
      | none => simp
      | some ad => simp [Addr.add_zero']
    rw [this]; exact hO
theorem own_lst_take {α : Type} {f : α → Ty} {xs : List α} {k : Nat} {e : TypeId} {v : Value} {h : Nat} (hl : h ≤ xs.length) (ho : Own σ k e 1 v h ((xs.map f).take (h * 1))) : Own σ k e 1 v (xs.take h).length ((xs.take h).map f) := by
  rw [Nat.mul_one, ← List.map_take] at ho
  rwa [show (xs.take h).length = h by simp [Nat.min_eq_left hl]]
end Go.KL
namespace Go.KL
variable {P : Program}
theorem nil_sl {σ : GW} {v : Value} (h : (Ty.val (.slice none 0 0)).has σ v) : (Ty.sl 1 0 []).has σ v := by
  have e : v = .slice none 0 0 := h
  rw [e]; exact sl_nil
theorem Own.one {σ : GW} {k : Nat} {e : TypeId} {c n : Nat} {v : Value} {ts : List Ty} (h : Own σ k e c v n ts) : v.oneCell' = true := by
  obtain ⟨us, r1, _⟩ := h
  rcases r1.2 with ⟨rfl, _⟩ | ⟨g, cap, cur, rfl, _⟩ <;> rfl
theorem OwnP.one {σ : GW} {k : Nat} {v : Value} {ts : List Ty} (h : OwnP σ k v ts) : v.oneCell' = true := by
  obtain ⟨g, e', cur, rfl, _⟩ := h; rfl
theorem OwnM.one {α β : Type} {F : β → Ty} {kv : α → Value} {σ : GW} {k : Nat} {v : Value} {f : α → Option β} (h : OwnM F kv σ k v f) : v.oneCell' = true := by
  obtain ⟨r, es, clock, rfl, _⟩ := h; rfl
end Go.KL
namespace Go.KL
variable {P : Program}
def Typed (σ : GW) (cs : Array Value) (ts : List Ty) : Prop := cs.size = ts.length ∧ ∀ (j : Nat) (T : Ty) (u : Value), ts[j]? = some T → cs[j]? = some u → T.has σ u
def bldT (l : List (Nat × Nat)) : List (Nat × Operand × Ty) → List Ty → List Ty
  | [], ts => ts
  | p :: ps, ts => bldT l ps (match l[p.1]? with | some (off, _) => ts.set off p.2.2 | none => ts)
def bldOk (l : List (Nat × Nat)) (n : Nat) (is : List Nat) : Bool := is.all fun i => match l[i]? with | some (off, 1) => decide (off < n) | _ => false
theorem Typed.set {σ : GW} {cs : Array Value} {ts : List Ty} (h : Typed σ cs ts) {off : Nat} {v : Value} {T : Ty} (hv : T.has σ v) : Typed σ (cs.setIfInBounds off v) (ts.set off T) := by
  refine ⟨by simp [h.1], fun j U u hU hu => ?_⟩
  by_cases hj : j = off
  · subst hj
    have hlt : j < cs.size := by have := (Array.getElem?_eq_some_iff.1 hu).1; simpa using this
    rw [List.getElem?_set_self (by rw [← h.1]; exact hlt)] at hU
    rw [Array.getElem?_setIfInBounds_self_of_lt hlt] at hu
    cases hU; cases hu; exact hv
  · rw [List.getElem?_set_ne (Ne.symm hj)] at hU
    rw [Array.getElem?_setIfInBounds_ne (Ne.symm hj)] at hu
    exact h.2 j U u hU hu
theorem fill_typed {σ : GW} {a : Act} {l : List (Nat × Nat)} {n : Nat} : ∀ (ps : List (Nat × Operand × Ty)) (cur : Array Value) (ts : List Ty), cur.size = n → Typed σ cur ts → (∀ p ∈ ps, One p.2.2 ∧ At p.2.2 σ a p.2.1) → bldOk l n (ps.map (·.1)) = true →
    ∃ cells, Instr.fill (fun i => l[i]?) cur (ps.map fun p => (p.1, a.eval p.2.1)) = some cells ∧ Typed σ cells (bldT l ps ts)
  | [], cur, ts, _, h, _, _ => ⟨cur, rfl, h⟩
  | p :: ps, cur, ts, hn, h, hp, hb => by
    obtain ⟨h1, h2⟩ := hp p (by simp)
    have hc := cells_of_one (h1 _ _ h2)
    rw [bldOk, List.map_cons, List.all_cons, Bool.and_eq_true] at hb
    obtain ⟨hb1, hb2⟩ := hb
    cases hl : l[p.1]? with
    | none => rw [hl] at hb1; cases hb1
    | some q =>
      obtain ⟨off, sz⟩ := q
      rw [hl] at hb1
      have hsz : sz = 1 ∧ off < n := by
        split at hb1
        · rename_i e; cases e; exact ⟨rfl, by simpa using hb1⟩
        · cases hb1
      obtain ⟨rfl, hoff⟩ := hsz
      obtain ⟨cells, e1, e2⟩ := fill_typed ps (cur.setIfInBounds off (a.eval p.2.1)) (ts.set off p.2.2) (by simpa using hn) (h.set h2) (fun q hq => hp q (by simp [hq])) hb2
      refine ⟨cells, ?_, ?_⟩
      · rw [List.map_cons, Instr.fill]
        generalize a.eval p.2.1 = v at hc e1 ⊢
        simp only [hl, hc]
        have : ¬ (off + 1 > cur.size) := by omega
        simp [this]
        simpa using e1
      · rw [bldT, hl]; exact e2
variable {d : Option Tmp} {ty : TypeId} {pos : String} {af : Array Edge} {g : Option (Nat × Bool)} {a : Act} {σ : GW}
theorem y_bld {t : TypeId} {l : List (Nat × Nat)} {z : Value} {c by_ : Nat} (ps : List (Nat × Operand × Ty)) (ts : List Ty) (hp : placesOk P t l = true) (he : Info P t z c by_) (hz : z.cells.size = ts.length) (hT : ∀ (j : Nat) (T : Ty) (u : Value), ts[j]? = some T → z.cells[j]? = some u → ∀ σ, T.has σ u)
    (hok : bldOk l z.cells.size (ps.map (·.1)) = true) (hps : ∀ p ∈ ps, One p.2.2 ∧ At p.2.2 σ a p.2.1) :
    Yld P ⟨d, .build t (ps.map fun p => (p.1, p.2.1)).toArray, ty, pos, af, g⟩ a σ (Ty.agg (bldT l ps ts)).pr := by
  obtain ⟨cells, e1, e2⟩ := fill_typed (σ := σ) ps z.cells ts rfl ⟨hz, fun j T u h1 h2 => hT j T u h1 h2 σ⟩ hps hok
  refine Yld.of_run (v := .agg cells) ?_ ⟨cells, rfl, e2.1, e2.2⟩
  simp only [execOp]
  have := run_build (P := P) (parts := (ps.map fun p => (p.1, a.eval p.2.1)).toArray) (cells := cells) hp he (by simpa using e1) σ.w
  simp only [List.map_toArray, List.map_map]
  have e : (fun (p : Nat × Operand) => (p.1, a.eval p.2)) ∘ (fun (p : Nat × Operand × Ty) => (p.1, p.2.1)) = fun p => (p.1, a.eval p.2.1) := rfl
  rw [e]
  simp [this]
end Go.KL

/- Strings: cut, joined, compared, made of runes; numbers converted; joins of branches; scopes; functions without a body. -/
namespace Go.KL
open Go.RowKit
variable {P : Program} {d : Option Tmp} {ty : TypeId} {pos : String} {af : Array Edge} {g : Option (Nat × Bool)} {a : Act} {σ : GW}

/-! ### Ways on -/
theorem join_then {c : Code} {N Q' : Act → World → Prop} {Q : Exit → Act → World → Prop} {a : Act} {w : World} (h1 : c.wp P (Exit.then Q' Q) a w) (h2 : ∀ a w, Q' a w → N a w) : c.wp P (Exit.then N Q) a w :=
  Code.wp_mono (fun e a' w' hq => by cases e <;> first | exact h2 _ _ hq | exact hq) h1
section
variable {Q : Exit → Act → World → Prop} {w : World}
end

/-! ### Numbers -/
theorem y_conv {x : Operand} {t u : TypeId} {k j : IntKind} {n m : Int} (hu : P.underlying u = some (.int j)) (hx : a.eval x = .int k n) (hm : j.wrap n = m) (ht : (P.underlying t).isSome = true) :
    Yld P ⟨d, .convert t u x, ty, pos, af, g⟩ a σ (Ty.val (.int j m)).pr := by
  obtain ⟨td, htd⟩ := Option.isSome_iff_exists.1 ht
  refine Yld.of_run (v := .int j m) ?_ rfl
  simp only [execOp, hx]
  subst hm
  simp [convert, Sem.run_bind, run_underlying hu, run_underlying htd, Conv.intToInt]
/-! ### Strings -/
theorem y_sfrom {x y : Operand} {t : TypeId} {s : ByteArray} {k : IntKind} {l : Nat} (ht : P.underlying t = some .string) (hx : a.eval x = .string s) (hy : a.eval y = .int k l) (hl : l ≤ s.size) :
    Yld P ⟨d, .slice t x (some y) none none, ty, pos, af, g⟩ a σ (Ty.val (.string (s.extract l s.size))).pr := by
  refine Yld.of_run (v := .string (s.extract l s.size)) ?_ rfl
  simp only [execOp, hx, hy, Option.map_some, Option.map_none]
  have hl' : (0 : Int) ≤ (l : Int) ∧ (l : Int) ≤ ((s.size : Nat) : Int) := by omega
  simp [Instr.sliceAt, Instr.slice, Sem.run_bind, run_underlying ht, Instr.sliceBounds, Instr.sliceBound, asIntOf, hl]
/-! ### A function without a body -/
end Go.KL

/- Plain maths: the sign of a row. -/
namespace Go.KL

theorem par_add (a b : Nat) : decide ((a + b) % 2 = 1) = (decide (a % 2 = 1) != decide (b % 2 = 1)) := by
  rcases Nat.mod_two_eq_zero_or_one a with h | h <;> rcases Nat.mod_two_eq_zero_or_one b with k | k <;> rw [Nat.add_mod, h, k] <;> decide
theorem row_perm {r : List Int} (h : IsRow r) : r.Perm (roundsL r.length) := by
  rw [List.perm_ext_iff_of_nodup h.nodup (roundsL_row h.pos h.le).nodup]
  intro x
  constructor
  · intro hx
    have := h.bound x hx
    exact List.mem_map.2 ⟨x.toNat, List.mem_range.2 (by omega), by omega⟩
  · intro hx
    obtain ⟨k, hk, rfl⟩ := List.mem_map.1 hx
    exact h.mem (List.mem_range.1 hk)
end Go.KL

/- Plain maths: a row's sign, by its cycles and by its inversions. -/
namespace Go.KL

/-! ### Inversions -/
/-! ### Cycles -/
theorem oddF (l : List (List Int)) : oddTo l l.length = decide ((l.flatten.length + l.length) % 2 = 1) := by
  have key : ∀ (l : List (List Int)) (b : Bool), l.foldl (fun b c => b != decide (((c.length % 2 : Nat) : Int) = (0 : Int))) b = (b != decide ((l.flatten.length + l.length) % 2 = 1)) := by
    intro l
    induction l with
    | nil => intro b; simp
    | cons c l ih =>
      intro b
      rw [List.foldl_cons, ih, List.flatten_cons, List.length_append, List.length_cons]
      rw [show c.length + l.flatten.length + (l.length + 1) = (c.length + 1) + (l.flatten.length + l.length) by omega, par_add (c.length + 1) (l.flatten.length + l.length)]
      have e : decide (((c.length % 2 : Nat) : Int) = (0 : Int)) = decide ((c.length + 1) % 2 = 1) := by rw [decide_eq_decide]; omega
      rw [e]
      generalize decide ((c.length + 1) % 2 = 1) = p
      generalize decide ((l.flatten.length + l.length) % 2 = 1) = q
      revert b p q; decide
  unfold oddTo
  rw [List.take_length, key]
  simp
theorem orb_mem {r : List Int} {b : Nat} {x : Int} : x ∈ orb r b ↔ ∃ m, m < per r b ∧ ((itr r b m : Nat) : Int) = x := by
  unfold orb; simp
theorem orb_nodup {r : List Int} (hr : IsRow r) {b : Nat} (hb : b < r.length) : (orb r b).Nodup := by
  unfold orb
  rw [List.nodup_iff_pairwise_ne, List.pairwise_map]
  refine List.Pairwise.imp_of_mem ?_ List.pairwise_lt_range
  intro i j hi hj hij e
  exact itr_inj hr hb hij (List.mem_range.1 hj) (by omega)
theorem cycles_perm {r : List Int} (hr : IsRow r) : (cyclesL r).flatten.Perm (roundsL r.length) := by
  rw [List.perm_ext_iff_of_nodup ?_ (roundsL_row hr.pos hr.le).nodup]
  · intro x
    rw [List.mem_flatten]
    constructor
    · rintro ⟨c, hc, hx⟩
      obtain ⟨b, hb, _, rfl⟩ := cyc_mem hc
      obtain ⟨m, _, rfl⟩ := orb_mem.1 hx
      exact List.mem_map.2 ⟨itr r b m, List.mem_range.2 (itr_lt hr hb m), rfl⟩
    · intro hx
      obtain ⟨k, hk, rfl⟩ := List.mem_map.1 hx
      have hk := List.mem_range.1 hk
      obtain ⟨b, hb, hl, hle⟩ := least_of hr k hk
      obtain ⟨m, hm, e⟩ := hle.small hr hb
      exact ⟨orb r b, List.mem_map.2 ⟨b, List.mem_filter.2 ⟨List.mem_range.2 hb, hl⟩, rfl⟩, orb_mem.2 ⟨m, hm, by rw [e]⟩⟩
  · rw [List.nodup_iff_pairwise_ne, List.pairwise_flatten]
    constructor
    · intro c hc
      obtain ⟨b, hb, _, rfl⟩ := cyc_mem hc
      exact List.nodup_iff_pairwise_ne.1 (orb_nodup hr hb)
    · unfold cyclesL cyclesTo
      rw [List.pairwise_map]
      refine List.Pairwise.imp_of_mem ?_ (List.Pairwise.filter _ List.pairwise_lt_range)
      intro b c hb hc hbc x hx y hy e
      subst e
      obtain ⟨hb1, hb2⟩ := List.mem_filter.1 hb
      obtain ⟨hc1, hc2⟩ := List.mem_filter.1 hc
      have hb1 := List.mem_range.1 hb1
      have hc1 := List.mem_range.1 hc1
      obtain ⟨m, _, e1⟩ := orb_mem.1 hx
      obtain ⟨m', _, e2⟩ := orb_mem.1 hy
      have e3 : itr r b m = itr r c m' := by omega
      have h1 : Leads r b (itr r c m') := ⟨m, e3⟩
      have h2 : Leads r c b := Leads.trans ⟨m', rfl⟩ (h1.symm hr hb1)
      have := (least_iff hr hc1).1 hc2 b h2
      omega
theorem oddL_count {r : List Int} (hr : IsRow r) : oddL r = decide ((r.length + (List.range r.length).countP (least r)) % 2 = 1) := by
  unfold oddL
  rw [oddF]
  have h1 := (cycles_perm hr).length_eq
  rw [roundsL_len] at h1
  have h2 : (cyclesL r).length = (List.range r.length).countP (least r) := by
    unfold cyclesL cyclesTo
    rw [List.length_map, List.countP_eq_length_filter]
  rw [h1, h2]
end Go.KL

/- Plain maths: the largest bell is taken out; the sign by cycles is that by inversions. -/
namespace Go.KL

def cutR (r : List Int) (n p : Nat) : List Int := (r.take n).set p (r.getD n 0)
structure Cut (r : List Int) (n p : Nat) : Prop where
  row : IsRow r
  len : r.length = n + 1
  pos : 1 ≤ n
  at' : r.getD p 0 = n
  le : p ≤ n
theorem Cut.len' {r : List Int} {n p : Nat} (h : Cut r n p) : (cutR r n p).length = n := by
  have := h.len
  simp [cutR]; omega
theorem Cut.get {r : List Int} {n p : Nat} (h : Cut r n p) {k : Nat} (hk : k < n) : (cutR r n p).getD k 0 = if k = p then r.getD n 0 else r.getD k 0 := by
  have hl := h.len
  unfold cutR
  rw [List.getD_eq_getElem?_getD, List.getElem?_set]
  by_cases e : p = k
  · subst e
    rw [if_pos rfl, if_pos rfl, if_pos (by simp; omega)]; rfl
  · rw [if_neg e, if_neg (fun q => e q.symm), List.getElem?_take, if_pos hk, ← List.getD_eq_getElem?_getD]
theorem Cut.only {r : List Int} {n p : Nat} (h : Cut r n p) {k : Nat} (hk : k ≤ n) : r.getD k 0 = n ↔ k = p := by
  have hl := h.len
  constructor
  · intro e
    have h1 := idxOf_at h.row.nodup (k := k) (by omega)
    have h2 := idxOf_at h.row.nodup (k := p) (by have := h.le; omega)
    rw [e] at h1; rw [h.at'] at h2; omega
  · rintro rfl; exact h.at'
theorem Cut.nxt {r : List Int} {n p : Nat} (h : Cut r n p) {k : Nat} (hk : k < n) : nxt (cutR r n p) k = if nxt r k = n then nxt r n else nxt r k := by
  have hl := h.len
  have hb := h.row.at (i := k) (by omega)
  have ho := h.only (k := k) (by omega)
  unfold Go.KL.nxt
  rw [h.get hk]
  by_cases e : k = p
  · have := ho.2 e
    rw [if_pos e, if_pos (by omega)]
  · have : r.getD k 0 ≠ n := fun q => e (ho.1 q)
    rw [if_neg e, if_neg (by omega)]
theorem Cut.row' {r : List Int} {n p : Nat} (h : Cut r n p) : IsRow (cutR r n p) := by
  have hl := h.len
  have hl' := h.len'
  have hle := h.row.le
  have hpos := h.pos
  have hbd : ∀ k, k < n → 0 ≤ (cutR r n p).getD k 0 ∧ (cutR r n p).getD k 0 < n := by
    intro k hk
    rw [h.get hk]
    have hb := h.row.at (i := k) (by omega)
    have hbn := h.row.at (i := n) (by omega)
    have ho := h.only (k := k) (by omega)
    have hon := h.only (k := n) (Nat.le_refl _)
    split
    · rename_i e
      have : ¬ r.getD n 0 = n := fun q => by have := hon.1 q; omega
      omega
    · rename_i e
      have : ¬ r.getD k 0 = n := fun q => e (ho.1 q)
      omega
  apply rowMay_ok.1
  refine rowMay_of (by omega) (by omega) ?_ ?_
  · rw [List.nodup_iff_pairwise_ne, List.pairwise_iff_getElem]
    intro i j hi hj hij
    rw [gd _ i hi, gd _ j hj, h.get (by omega), h.get (by omega)]
    have inj : ∀ a b, a < n + 1 → b < n + 1 → r.getD a 0 = r.getD b 0 → a = b := fun a b ha hb e => by
      have h1 := idxOf_at h.row.nodup (k := a) (by omega)
      have h2 := idxOf_at h.row.nodup (k := b) (by omega)
      rw [e] at h1; omega
    intro e
    split at e <;> split at e
    · omega
    · have := inj _ _ (by omega) (by omega) e; omega
    · have := inj _ _ (by omega) (by omega) e; omega
    · have := inj _ _ (by omega) (by omega) e; omega
  · intro x hx
    obtain ⟨k, hk, e⟩ := List.getElem_of_mem hx
    rw [gd _ k hk] at e
    have := hbd k (by omega)
    omega
theorem itr_one (r : List Int) (b : Nat) : itr r b 1 = nxt r b := rfl
theorem itr_step (r : List Int) (b m : Nat) : itr r b (m + 1) = nxt r (itr r b m) := rfl
theorem Cut.leads {r : List Int} {n p : Nat} (h : Cut r n p) {b : Nat} (hb : b < n) : ∀ m, Leads r b (itr (cutR r n p) b m)
  | 0 => ⟨0, rfl⟩
  | m + 1 => by
    have hi := itr_lt h.row' (b := b) (by rw [h.len']; exact hb) m
    rw [h.len'] at hi
    have ih := h.leads hb m
    rw [itr_step, h.nxt hi]
    split
    · rename_i e
      refine Leads.trans ih ⟨2, ?_⟩
      rw [itr_step, itr_one, e]
    · exact Leads.trans ih ⟨1, rfl⟩
theorem Cut.back {r : List Int} {n p : Nat} (h : Cut r n p) {b : Nat} (hb : b < n) : ∀ m, (itr r b m < n → Leads (cutR r n p) b (itr r b m)) ∧ (itr r b m = n → Go.KL.nxt r n < n → Leads (cutR r n p) b (Go.KL.nxt r n))
  | 0 => ⟨fun _ => ⟨0, rfl⟩, fun e => by have : itr r b 0 = b := rfl; omega⟩
  | m + 1 => by
    obtain ⟨i1, i2⟩ := h.back hb m
    have hl := h.len
    have hlt := itr_lt h.row (b := b) (by omega) m
    rw [itr_step]
    by_cases e : itr r b m = n
    · rw [e]
      refine ⟨fun hn => i2 e hn, fun e2 hn => by omega⟩
    · have hm : itr r b m < n := by omega
      have hx := h.nxt hm
      refine ⟨fun hn => ?_, fun e2 hn => ?_⟩
      · rw [if_neg (by omega)] at hx
        exact Leads.trans (i1 hm) ⟨1, hx⟩
      · rw [if_pos e2] at hx
        exact Leads.trans (i1 hm) ⟨1, hx⟩
theorem Cut.least {r : List Int} {n p : Nat} (h : Cut r n p) {b : Nat} (hb : b < n) : least (cutR r n p) b = Go.KL.least r b := by
  have hl := h.len
  have hl' := h.len'
  rw [Bool.eq_iff_iff, least_iff h.row' (by omega), least_iff h.row (by omega)]
  constructor
  · rintro hc k ⟨m, rfl⟩
    by_cases e : itr r b m < n
    · exact hc _ ((h.back hb m).1 e)
    · omega
  · rintro hc k ⟨m, rfl⟩
    exact hc _ (h.leads hb m)
theorem Cut.top {r : List Int} {n p : Nat} (h : Cut r n p) : Go.KL.least r n = decide (p = n) := by
  have hl := h.len
  have hle := h.le
  rw [Bool.eq_iff_iff, least_iff h.row (by omega), decide_eq_true_iff]
  have hon := h.only (k := n) (Nat.le_refl _)
  have hb := h.row.at (i := n) (by omega)
  constructor
  · intro hc
    have h1 := hc _ ⟨1, rfl⟩
    rw [itr_one] at h1
    unfold Go.KL.nxt at h1
    exact (hon.1 (by omega)).symm
  · rintro rfl k ⟨m, rfl⟩
    have : ∀ m, itr r p m = p := by
      intro m
      induction m with
      | zero => rfl
      | succ m ih => rw [itr_step, ih]; unfold Go.KL.nxt; rw [h.at']; rfl
    rw [this m]; exact Nat.le_refl _
theorem Cut.oddL {r : List Int} {n p : Nat} (h : Cut r n p) : Go.KL.oddL r = (Go.KL.oddL (cutR r n p) != decide (p ≠ n)) := by
  rw [oddL_count h.row, oddL_count h.row', h.len, h.len', List.range_succ, List.countP_append, List.countP_cons, List.countP_nil, h.top]
  have e : (List.range n).countP (Go.KL.least (cutR r n p)) = (List.range n).countP (Go.KL.least r) := by
    apply List.countP_congr
    intro b hb
    rw [h.least (List.mem_range.1 hb)]
  rw [e]
  generalize (List.range n).countP (Go.KL.least r) = c
  by_cases e : p = n
  · have e1 : (n + 1 + (c + (0 + if decide (p = n) = true then 1 else 0))) = (n + c) + 2 := by rw [decide_eq_true e, if_pos rfl]; omega
    rw [e1, Nat.add_mod_right, decide_eq_false (Classical.not_not.2 e)]
    simp
  · have e1 : (n + 1 + (c + (0 + if decide (p = n) = true then 1 else 0))) = (n + c) + 1 := by rw [decide_eq_false e, if_neg (by simp)]; omega
    rw [e1, decide_eq_true e, par_add]
    simp
end Go.KL

/- The place of a row among all of its bells, counted in two ways; the row at a place. -/
namespace Go.KL
def fct : Nat → Nat
  | 0 => 1
  | n + 1 => (n + 1) * fct n
theorem fct_pos : ∀ n, 1 ≤ fct n
  | 0 => by decide
  | n + 1 => Nat.mul_pos (by omega) (fct_pos n)
theorem fct_le_succ (n : Nat) : fct n ≤ fct (n + 1) := by
  have := fct_pos n
  rw [fct, Nat.succ_mul]; omega
theorem fct_mono {m n : Nat} (h : m ≤ n) : fct m ≤ fct n := by
  induction h with
  | refl => exact Nat.le_refl _
  | step _ ih => exact Nat.le_trans ih (fct_le_succ _)
theorem fct_12 : fct 12 = 479001600 := by decide
theorem fct_le12 {n : Nat} (h : n ≤ 12) : fct n ≤ 479001600 := by rw [← fct_12]; exact fct_mono h
def lessN (b : Int) (r : List Int) : Nat := r.countP fun c => decide (c < b)
theorem lessN_le (b : Int) (r : List Int) : lessN b r ≤ r.length := List.countP_le_length
def rankL : List Int → Nat
  | [] => 0
  | b :: r => lessN b r * fct r.length + rankL r
theorem rankL_lt : ∀ r : List Int, rankL r < fct r.length
  | [] => by decide
  | b :: r => by
    have h1 := rankL_lt r
    have h2 : lessN b r * fct r.length ≤ r.length * fct r.length := Nat.mul_le_mul_right _ (lessN_le b r)
    rw [rankL, List.length_cons, fct, Nat.succ_mul]; omega
theorem rank_step {r : List Int} {i : Nat} (h : i < r.length) : rankL (r.drop i) = lessN (r.getD i 0) (r.drop (i + 1)) * fct (r.length - i - 1) + rankL (r.drop (i + 1)) := by
  rw [List.drop_eq_getElem_cons h, rankL]
  have e : r[i] = r.getD i 0 := by simp [h]
  rw [e, List.length_drop, Nat.sub_add_eq]
theorem place_step {r : List Int} {i k : Nat} (h : i < r.length) (hk : k * fct (r.length - i) + rankL (r.drop i) = rankL r) :
    (k * (r.length - i) + lessN (r.getD i 0) (r.drop (i + 1))) * fct (r.length - (i + 1)) + rankL (r.drop (i + 1)) = rankL r := by
  rw [rank_step h] at hk
  obtain ⟨m, hm⟩ : ∃ m, r.length - i = m + 1 := ⟨r.length - i - 1, by omega⟩
  rw [show r.length - (i + 1) = m by omega]
  rw [show r.length - i - 1 = m by omega, hm, fct] at hk
  rw [hm, Nat.add_mul, Nat.mul_assoc]; omega
theorem place_le {r : List Int} {i k : Nat} (hk : k * fct (r.length - i) + rankL (r.drop i) = rankL r) : k ≤ rankL r := by
  have h1 := fct_pos (r.length - i)
  have : k * 1 ≤ k * fct (r.length - i) := Nat.mul_le_mul_left _ h1
  omega
theorem place_end {r : List Int} {k : Nat} (hk : k * fct (r.length - r.length) + rankL (r.drop r.length) = rankL r) : k = rankL r := by
  rw [Nat.sub_self, List.drop_length, fct, Nat.mul_one] at hk
  exact hk
theorem lessN_snoc (b : Int) (r : List Int) (j : Nat) (h : j < r.length) : lessN b (r.take (j + 1)) = lessN b (r.take j) + (if r.getD j 0 < b then 1 else 0) := by
  unfold lessN
  rw [take_snoc r 0 j h, List.countP_append]
  simp
theorem lessN_rounds {n : Nat} (b : Nat) (hb : b ≤ n) : lessN b (roundsL n) = b := by
  unfold lessN roundsL
  rw [List.countP_map]
  have : (List.range n).countP ((fun c : Int => decide (c < (b : Int))) ∘ fun (i : Nat) => (i : Int)) = (List.range n).countP (fun i => decide (i < b)) := List.countP_congr fun i _ => by simp
  rw [this]
  clear this
  induction n with
  | zero => simp; omega
  | succ n ih =>
    rw [List.range_succ, List.countP_append]
    by_cases h : b ≤ n
    · rw [ih h]; simp; omega
    · have : b = n + 1 := by omega
      subst this
      have e : (List.range n).countP (fun i => decide (i < n + 1)) = n := by
        rw [List.countP_eq_length.2 (fun x hx => by have := List.mem_range.1 hx; simp; omega)]; simp
      rw [e]; simp
theorem lessN_perm {b : Int} {r s : List Int} (h : r.Perm s) : lessN b r = lessN b s := h.countP_eq _
theorem lessN_row {r : List Int} (hr : IsRow r) {i : Nat} (hi : i < r.length) : ((lessN (r.getD i 0) r : Nat) : Int) = r.getD i 0 := by
  have hb := hr.at hi
  obtain ⟨b, hb'⟩ : ∃ b : Nat, r.getD i 0 = (b : Int) := ⟨(r.getD i 0).toNat, by omega⟩
  rw [hb', lessN_perm (row_perm hr), lessN_rounds b (by omega)]
theorem lessN_split (b : Int) (r : List Int) (i : Nat) : lessN b r = lessN b (r.take i) + lessN b (r.drop i) := by
  unfold lessN; rw [← List.countP_append, List.take_append_drop]
theorem less_after {r : List Int} (hr : IsRow r) {i : Nat} (hi : i < r.length) : r.getD i 0 - ((lessN (r.getD i 0) (r.take i) : Nat) : Int) = ((lessN (r.getD i 0) (r.drop (i + 1)) : Nat) : Int) := by
  have h1 := lessN_row hr hi
  have h2 := lessN_split (r.getD i 0) r i
  have h3 : lessN (r.getD i 0) (r.drop i) = lessN (r.getD i 0) (r.drop (i + 1)) := by
    rw [List.drop_eq_getElem_cons hi]
    unfold lessN
    rw [List.countP_cons]
    have e : r[i] = r.getD i 0 := by simp [hi]
    rw [e]; simp
  omega
theorem rank_step' {r : List Int} {i k : Nat} (h : i < r.length) (hk : k + rankL (r.drop i) = rankL r) : (k + lessN (r.getD i 0) (r.drop (i + 1)) * fct (r.length - 1 - i)) + rankL (r.drop (i + 1)) = rankL r := by
  rw [rank_step h] at hk
  rw [show r.length - 1 - i = r.length - i - 1 by omega]; omega
theorem rankL_inj : ∀ (r s : List Int), r.Perm s → rankL r = rankL s → r = s
  | [], s, h, _ => by
    have := h.length_eq
    exact (List.eq_nil_of_length_eq_zero (by simpa using this.symm)).symm
  | b :: r, [], h, _ => by have := h.length_eq; simp at this
  | b :: r, c :: s, h, e => by
    have hl : r.length = s.length := by have := h.length_eq; simpa using this
    rw [rankL, rankL, hl] at e
    have h1 := rankL_lt r
    have h2 := rankL_lt s
    rw [hl] at h1
    have hp := fct_pos s.length
    have e1 : lessN b r = lessN c s := by
      have ha : (lessN b r * fct s.length + rankL r) / fct s.length = lessN b r := by rw [Nat.add_comm, Nat.add_mul_div_right _ _ hp, Nat.div_eq_of_lt h1, Nat.zero_add]
      have hb : (lessN c s * fct s.length + rankL s) / fct s.length = lessN c s := by rw [Nat.add_comm, Nat.add_mul_div_right _ _ hp, Nat.div_eq_of_lt h2, Nat.zero_add]
      rw [← ha, e, hb]
    have e2 : rankL r = rankL s := by rw [e1] at e; omega
    have hb : lessN b r = lessN b (b :: r) := by simp [lessN]
    have hc : lessN c s = lessN c (c :: s) := by simp [lessN]
    have e3 : lessN b (b :: r) = lessN c (b :: r) := by rw [← hb, e1, hc]; exact (lessN_perm h).symm
    have lt : ∀ (x y : Int) (l : List Int), x ∈ l → x < y → lessN x l < lessN y l := by
      intro x y l hx hxy
      unfold lessN
      induction l with
      | nil => cases hx
      | cons z l ih =>
        have mono : l.countP (fun c => decide (c < x)) ≤ l.countP (fun c => decide (c < y)) := List.countP_mono_left fun w _ hw => by simp at hw ⊢; omega
        rw [List.countP_cons, List.countP_cons]
        by_cases hz : z = x
        · subst hz
          simp [hxy]; omega
        · have := ih (by simpa [Ne.symm hz] using hx)
          by_cases h1 : z < x
          · have h2 : z < y := by omega
            simp [h1, h2]; omega
          · simp [h1]; split <;> omega
    have hbc : b = c := by
      rcases Int.lt_trichotomy b c with h3 | h3 | h3
      · have := lt b c (b :: r) (by simp) h3; omega
      · exact h3
      · have := lt c b (b :: r) (h.mem_iff.2 (by simp)) h3; omega
    subst hbc
    rw [rankL_inj r s (List.perm_cons b |>.1 h) e2]
theorem rank_row_inj {r s : List Int} (hr : IsRow r) (hs : IsRow s) (hl : r.length = s.length) (e : rankL r = rankL s) : r = s :=
  rankL_inj r s ((row_perm hr).trans (by rw [hl]; exact (row_perm hs).symm)) e
theorem lessN_zero_of {b : Int} {l : List Int} (h : ∀ x ∈ l, b ≤ x) : lessN b l = 0 := by
  unfold lessN
  rw [List.countP_eq_zero]
  intro x hx
  have := h x hx
  simp; omega
theorem rank_sorted : ∀ (l : List Int), l.Pairwise (· ≤ ·) → rankL l = 0
  | [], _ => rfl
  | b :: l, h => by
    rw [List.pairwise_cons] at h
    rw [rankL, lessN_zero_of (fun x hx => h.1 x hx), rank_sorted l h.2]; simp
theorem roundsL_sorted (n : Nat) : (roundsL n).Pairwise (· ≤ ·) := by
  unfold roundsL
  rw [List.pairwise_map]
  exact List.pairwise_le_range.imp (by intro a b h; omega)
theorem rank_rounds (n : Nat) : rankL (roundsL n) = 0 := rank_sorted _ (roundsL_sorted n)
theorem rank_zero_iff {r : List Int} (hr : IsRow r) : rankL r = 0 ↔ r = roundsL r.length := by
  constructor
  · intro h
    exact rankL_inj _ _ (row_perm hr) (by rw [h, rank_rounds])
  · intro h; rw [h]; exact rank_rounds _
/-! ### The row at a place -/
end Go.KL

/- The signs of bells: where a rune stands among them. -/
namespace Go.KL
theorem get_list {s : ByteArray} {i : Nat} (h : i < s.size) : s.get! i = s.data.toList[i]'(by simpa using h) := by
  have h' : i < s.data.size := h
  simp only [ByteArray.get!]
  rw [getElem!_pos s.data i h']
  simp
end Go.KL

/- What package strings' Builder meets: pointers held against each other, a row of bytes that becomes a string. -/
namespace Go.KL
open Go.RowKit
variable {P : Program} {d : Option Tmp} {ty : TypeId} {pos : String} {af : Array Edge} {g : Option (Nat × Bool)} {a : Act} {σ : GW}

abbrev Ty.byte (b : UInt8) : Ty := .val (.int .u8 ((b.toNat : Nat) : Int))
def OwnPT (E : TypeId) (σ : GW) (k : Nat) (v : Value) (ts : List Ty) : Prop :=
  ∃ g cur, v = .pointer (some ⟨g, 0, none⟩) ∧ σ.st g = k ∧ σ.w.heap[g]? = some (.cells cur E (0, 0)) ∧ cur.size = ts.length ∧ ∀ (j : Nat) (T : Ty) (u : Value), ts[j]? = some T → cur[j]? = some u → T.has σ u
theorem OwnPT.toP {E : TypeId} {k : Nat} {v : Value} {ts : List Ty} (h : OwnPT E σ k v ts) : OwnP σ k v ts := by
  obtain ⟨g, cur, h1, h2, h3, h4, h5⟩ := h; exact ⟨g, E, cur, h1, h2, h3, h4, h5⟩
theorem OwnPT.one {E : TypeId} {k : Nat} {v : Value} {ts : List Ty} (h : OwnPT E σ k v ts) : v.oneCell' = true := h.toP.one
end Go.KL
namespace Go.KL
end Go.KL

/- Cutting one out of a row that is owned: its two ends, joined in place, and the rest made zero. -/
namespace Go.KL
open Go.RowKit
variable {P : Program} {d : Option Tmp} {ty : TypeId} {pos : String} {af : Array Edge} {g : Option (Nat × Bool)} {a : Act} {σ : GW}
def capGe (v : Value) (n : Nat) : Prop := match v with | .slice _ _ cap => n ≤ cap | _ => False

theorem Own.form {k : Nat} {e : TypeId} {n : Nat} {v : Value} {ts : List Ty} (h : Own σ k e 1 v n ts) : ∃ ad cap, v = .slice ad n cap ∧ n ≤ cap ∧ cap ≤ 9223372036854775807 := by
  obtain ⟨us, r1, _⟩ := h
  rcases r1.2 with ⟨rfl, rfl⟩ | ⟨gg, cap, cur, rfl, _, _, hn, hm, _⟩
  · exact ⟨none, 0, rfl, Nat.le_refl _, by decide⟩
  · exact ⟨_, cap, rfl, hn, hm⟩
theorem Own.cap {k : Nat} {e : TypeId} {n : Nat} {v : Value} {ts : List Ty} (h : Own σ k e 1 v n ts) : capGe v n := by
  obtain ⟨ad, cap, rfl, hn, _⟩ := h.form; exact hn
section
variable {k : Nat} {x y y' y'' : Operand} {n : Nat} {ts : List Ty} {t e e' : TypeId} {z v : Value} {b : Nat} {ki kj kk : IntKind} (ht : P.underlying t = some (.slice e')) (he : Info P e' z 1 b) (ho : Own σ k e 1 v n ts) (hx : a.eval x = v)
include ht he ho hx
end
theorem one_map {α : Type} {f : α → Ty} {xs : List α} (h : ∀ x, One (f x)) : ∀ U, U ∈ xs.map f → One U := fun U hU => by
  obtain ⟨x, _, rfl⟩ := List.mem_map.1 hU; exact h x
end Go.KL

/- All rows, each once: the way that is looked for; what rows may generate. -/
namespace Go.KL
theorem place_mul {r : List Int} {i k : Nat} (h12 : r.length ≤ 12) (h : i < r.length) (hk : k * fct (r.length - i) + rankL (r.drop i) = rankL r) :
    0 ≤ ((k : Nat) : Int) * (((r.length - i : Nat)) : Int) ∧ ((k : Nat) : Int) * (((r.length - i : Nat)) : Int) ≤ 479001600 ∧ k * (r.length - i) ≤ 479001600 := by
  have h1 := place_step h hk
  have h2 := fct_pos (r.length - (i + 1))
  have h3 := rankL_lt r
  have h4 := fct_le12 h12
  have h5 : (k * (r.length - i) + lessN (r.getD i 0) (r.drop (i + 1))) * 1 ≤ (k * (r.length - i) + lessN (r.getD i 0) (r.drop (i + 1))) * fct (r.length - (i + 1)) := Nat.mul_le_mul_left _ h2
  rw [← Int.natCast_mul]
  omega
theorem rank_mul {r : List Int} {i k : Nat} (h12 : r.length ≤ 12) (h : i < r.length) (hk : k + rankL (r.drop i) = rankL r) :
    lessN (r.getD i 0) (r.drop (i + 1)) * fct (r.length - 1 - i) ≤ 479001600 ∧ ((lessN (r.getD i 0) (r.drop (i + 1)) : Nat) : Int) * ((fct (r.length - 1 - i) : Nat) : Int) ≤ 479001600 ∧ 0 ≤ ((lessN (r.getD i 0) (r.drop (i + 1)) : Nat) : Int) * ((fct (r.length - 1 - i) : Nat) : Int) := by
  have h1 := rank_step' h hk
  have h3 := rankL_lt r
  have h4 := fct_le12 h12
  rw [← Int.natCast_mul]
  omega
theorem fct_small {n : Nat} (h : n < 2) : fct n = 1 := by
  match n, h with
  | 0, _ => rfl
  | 1, _ => rfl
theorem fct_rec {n : Nat} (h : ¬ n < 2) : n * fct (n - 1) = fct n := by
  obtain ⟨q, rfl⟩ : ∃ q, n = q + 1 := ⟨n - 1, by omega⟩
  rfl
theorem rank_le12 {r : List Int} (h : r.length ≤ 12) : rankL r < 479001600 := Nat.lt_of_lt_of_le (rankL_lt r) (fct_le12 h)

/-! ### What may generate -/
/-! ### The order of a row, taken again and again -/
/-! ### The way -/
structure Tour (n : Nat) (cs : List (List Int)) (rows : List (List Int)) (path : List Int) (r : List Int) : Prop where
  len : rows.length = path.length + 1
  row : ∀ x ∈ rows, IsRow x ∧ x.length = n
  nd : rows.Nodup
  last : rows.getD (rows.length - 1) [] = r
  csr : ∀ k, k < cs.length → IsRow (cs.getD k []) ∧ (cs.getD k []).length = n
  nn : 1 ≤ n ∧ n ≤ 4
  cl : cs.length ≤ 8
theorem Tour.rr {n : Nat} {cs rows : List (List Int)} {path r : List Int} (h : Tour n cs rows path r) : IsRow r ∧ r.length = n := by
  refine h.row r ?_
  have hl : rows.length - 1 < rows.length := by have := h.len; omega
  rw [← h.last]
  have e : rows.getD (rows.length - 1) [] = rows[rows.length - 1] := by simp [hl]
  rw [e]; exact List.getElem_mem hl
theorem Tour.x {n : Nat} {cs rows : List (List Int)} {path r : List Int} (h : Tour n cs rows path r) {k : Nat} (hk : k < cs.length) : IsRow (byL r (cs.getD k [])) ∧ (byL r (cs.getD k [])).length = n := by
  have h1 := h.rr
  have h2 := h.csr k hk
  exact ⟨byL_row h1.1 h2.1 (by omega), by rw [byL_len]; exact h2.2⟩
theorem rows_le {n : Nat} {rows : List (List Int)} (h : ∀ x ∈ rows, IsRow x ∧ x.length = n) (hn : rows.Nodup) : rows.length ≤ fct n := by
  have := nodup_len (fct n) (rows.map fun x => ((rankL x : Nat) : Int)) (by
    refine List.pairwise_map.2 (hn.imp_of_mem ?_)
    intro a b ha hb hab e
    refine hab (rank_row_inj (h a ha).1 (h b hb).1 (by rw [(h a ha).2, (h b hb).2]) (by omega))) (fun x hx => by
    obtain ⟨y, hy, rfl⟩ := List.mem_map.1 hx
    have := rankL_lt y
    rw [(h y hy).2] at this
    omega)
  simpa using this
theorem Tour.full {n : Nat} {cs rows : List (List Int)} {path r : List Int} (h : Tour n cs rows path r) {x : List Int} (hx : IsRow x ∧ x.length = n) (hn : x ∉ rows) : path.length + 1 < fct n := by
  have := rows_le (n := n) (rows := rows ++ [x]) (fun y hy => by
    rcases List.mem_append.1 hy with hm | hm
    · exact h.row y hm
    · simp at hm; subst hm; exact hx) (List.nodup_append.2 ⟨h.nd, by simp, fun a ha b hb => by simp at hb; subst hb; rintro rfl; exact hn ha⟩)
  simp at this
  have := h.len
  omega
theorem Tour.lt {n : Nat} {cs rows : List (List Int)} {path r : List Int} (h : Tour n cs rows path r) : path.length < fct n ∧ fct n ≤ 24 := by
  have h1 := rows_le h.row h.nd
  have h2 := h.len
  have h3 : fct n ≤ fct 4 := fct_mono h.nn.2
  have h4 : fct 4 = 24 := by decide
  omega
def SeenT (n : Nat) (rows : List (List Int)) (f : Int → Option Int) : Prop := ∀ x, IsRow x → x.length = n → (f ((rankL x : Nat) : Int)).getD 0 = if x ∈ rows then 1 else 0
theorem SeenT.put {n : Nat} {rows : List (List Int)} {f : Int → Option Int} (h : SeenT n rows f) {x : List Int} (hx : IsRow x ∧ x.length = n) : SeenT n (rows ++ [x]) (fun p => if p = ((rankL x : Nat) : Int) then some 1 else f p) := by
  intro y hy hl
  by_cases e : y = x
  · subst e; simp
  · have hne : rankL y ≠ rankL x := fun hh => e (rank_row_inj hy hx.1 (by omega) hh)
    simp only [Int.natCast_inj, if_neg hne]
    rw [h y hy hl]
    simp [e]
theorem SeenT.drop {n : Nat} {rows : List (List Int)} {f : Int → Option Int} {x : List Int} (h : SeenT n (rows ++ [x]) f) (hx : IsRow x ∧ x.length = n) (hn : x ∉ rows) : SeenT n rows (fun p => if p = ((rankL x : Nat) : Int) then some 0 else f p) := by
  intro y hy hl
  by_cases e : y = x
  · subst e; simp [hn]
  · have hne : rankL y ≠ rankL x := fun hh => e (rank_row_inj hy hx.1 (by omega) hh)
    simp only [Int.natCast_inj, if_neg hne]
    rw [h y hy hl]
    simp [e]
end Go.KL
namespace Go.KL
section
variable {F : List (List Int) → List Int → Option (List Int)} {cs : List (List Int)} {N : Nat} {rows : List (List Int)} {path r : List Int} {k : Nat} (hl : rows.getD (rows.length - 1) [] = r)
include hl
end
theorem opt_nof {α : Type} {o : Option α} (h : o.isSome = false) : o = none := by cases o <;> simp at h ⊢
end Go.KL
namespace Go.KL
end Go.KL

/- All rows, each once: what is found rings, and nothing ahead of it does. -/
namespace Go.KL
def belowL : List Int → List Int → Bool
  | [], b => decide (0 < b.length)
  | _ :: _, [] => false
  | x :: a, y :: b => if x = y then belowL a b else decide (x < y)
theorem below_step {a b : List Int} {i : Nat} {z : Bool} (h : belowL (a.drop i) (b.drop i) = z) (h1 : i < a.length) (h2 : i < b.length) (e : ¬ a.getD i 0 ≠ b.getD i 0) : belowL (a.drop (i + 1)) (b.drop (i + 1)) = z := by
  rw [List.drop_eq_getElem_cons h1, List.drop_eq_getElem_cons h2, belowL, if_pos (by simpa [h1, h2] using e)] at h
  exact h
theorem below_ne {a b : List Int} {i : Nat} {z : Bool} (h : belowL (a.drop i) (b.drop i) = z) (h1 : i < a.length) (h2 : i < b.length) (e : a.getD i 0 ≠ b.getD i 0) : decide (a.getD i 0 < b.getD i 0) = z := by
  rw [List.drop_eq_getElem_cons h1, List.drop_eq_getElem_cons h2, belowL, if_neg (by simpa [h1, h2] using e)] at h
  simpa [h1, h2] using h
theorem below_end {a b : List Int} {i : Nat} {z : Bool} (h : belowL (a.drop i) (b.drop i) = z) (hi : i ≤ a.length) (hj : i ≤ b.length) (hc : ¬ (i < a.length ∧ i < b.length)) : decide (((a.length : Nat) : Int) < ((b.length : Nat) : Int)) = z := by
  by_cases h1 : i < a.length
  · have h2 : i = b.length := by omega
    subst h2
    rw [List.drop_eq_getElem_cons h1, List.drop_length, belowL] at h
    rw [← h, decide_eq_false (by omega)]
  · have h2 : i = a.length := by omega
    subst h2
    rw [List.drop_length, belowL, List.length_drop] at h
    rw [← h, decide_eq_decide]; omega

theorem below_irr : ∀ a : List Int, belowL a a = false
  | [] => rfl
  | x :: a => by rw [belowL, if_pos rfl]; exact below_irr a
def SeenB (n : Nat) (vis : List (List Int)) (f : Int → Option Bool) : Prop := ∀ x, IsRow x → x.length = n → (f ((rankL x : Nat) : Int)).getD false = decide (x ∈ vis)
theorem SeenB.put {n : Nat} {vis : List (List Int)} {f : Int → Option Bool} (h : SeenB n vis f) {x : List Int} (hx : IsRow x) (hl : x.length = n) : SeenB n (vis ++ [x]) (fun p => if p = ((rankL x : Nat) : Int) then some true else f p) := by
  intro y hy hly
  by_cases e : y = x
  · subst e; simp
  · have hne : rankL y ≠ rankL x := fun hh => e (rank_row_inj hy hx (by omega) hh)
    simp only [Int.natCast_inj, if_neg hne]
    rw [h y hy hly]
    simp [e]
def leadsOf (raw : List Int) (many calls : Nat) : List Int := (List.range many).map fun i => ((pick (rawAt raw i) calls : Nat) : Int)
theorem leadsOf_len (raw : List Int) (many calls : Nat) : (leadsOf raw many calls).length = many := by simp [leadsOf]
theorem leadsOf_succ (raw : List Int) (k calls : Nat) : leadsOf raw (k + 1) calls = leadsOf raw k calls ++ [((pick (rawAt raw k) calls : Nat) : Int)] := by simp [leadsOf, List.range_succ]
end Go.KL

/- Rows read and written as text; the row at a place; the laws of rows. -/
namespace Go.KL
theorem undo_row {r : List Int} (h : IsRow r) : IsRow (undoL r) ∧ byL r (undoL r) = roundsL r.length := by
  have hget : ∀ b, b < r.length → (undoL r).getD b 0 = ((r.idxOf (b : Int) : Nat) : Int) := fun b hb => undoL_get hb
  have hidx : ∀ b, b < r.length → r.idxOf (b : Int) < r.length := fun b hb => List.idxOf_lt_length_of_mem (h.mem hb)
  have hat : ∀ b, b < r.length → r.getD (r.idxOf (b : Int)) 0 = (b : Int) := fun b hb => by
    have hlt := hidx b hb
    rw [List.getD_eq_getElem?_getD, List.getElem?_eq_getElem hlt, Option.getD_some]
    exact List.getElem_idxOf hlt
  have hl := undoL_len r
  have hby : byL r (undoL r) = roundsL r.length := by
    refine list_ext (by rw [byL_len, hl, roundsL_len]) (fun j hj => ?_)
    rw [byL_len, hl] at hj
    rw [byL_get _ _ _ (by rw [hl]; exact hj), hget j hj, roundsL_get hj, Int.toNat_natCast, hat j hj]
  refine ⟨?_, hby⟩
  refine rowMay_ok.1 (rowMay_of (by rw [hl]; exact h.pos) (by rw [hl]; exact h.le) ?_ ?_)
  · rw [List.nodup_iff_pairwise_ne, List.pairwise_iff_getElem]
    intro i j hi hj hij e
    rw [hl] at hi hj
    have e1 : (undoL r).getD i 0 = (undoL r).getD j 0 := by simpa [hl, hi, hj] using e
    rw [hget i hi, hget j hj] at e1
    have := hat i hi
    rw [Int.natCast_inj.1 e1, hat j hj] at this
    omega
  · intro x hx
    obtain ⟨i, hi, rfl⟩ := List.getElem_of_mem hx
    rw [hl] at hi
    have e1 : (undoL r)[i] = (undoL r).getD i 0 := by simp [hl, hi]
    rw [e1, hget i hi, hl]
    have := hidx i hi
    omega
end Go.KL
namespace Go.KL
end Go.KL

/- Runes as the document reads them: -1 for a byte that is none. -/
namespace Go.KL
def runM (s : ByteArray) (p : Nat) : Int := if run1 s p = 65533 ∧ wid s p = 1 then -1 else run1 s p
def nB (b : Nat) : Nat := if 194 ≤ b ∧ b < 224 then 2 else if 224 ≤ b ∧ b < 240 then 3 else if 240 ≤ b ∧ b < 245 then 4 else 0
def cB (b : Nat) : Nat := if 194 ≤ b ∧ b < 224 then b - 192 else if 224 ≤ b ∧ b < 240 then b - 224 else if 240 ≤ b ∧ b < 245 then b - 240 else b
def lowB (b : Nat) : Nat := if 194 ≤ b ∧ b < 224 then 128 else if 224 ≤ b ∧ b < 240 then 2048 else if 240 ≤ b ∧ b < 245 then 65536 else 0
def accR (s : ByteArray) (c : Nat) : Nat → Nat
  | 0 => c
  | j + 1 => accR s c j * 64 + ((s.get! (j + 1)).toNat - 128)
theorem accR1 (s : ByteArray) (c : Nat) : accR s c 1 = c * 64 + ((s.get! 1).toNat - 128) := rfl
theorem accR2 (s : ByteArray) (c : Nat) : accR s c 2 = (c * 64 + ((s.get! 1).toNat - 128)) * 64 + ((s.get! 2).toNat - 128) := rfl
theorem accR3 (s : ByteArray) (c : Nat) : accR s c 3 = ((c * 64 + ((s.get! 1).toNat - 128)) * 64 + ((s.get! 2).toNat - 128)) * 64 + ((s.get! 3).toNat - 128) := rfl
def decP (s : ByteArray) (N : Nat) : Nat × Nat := Lib.decodeN N (s.get! 0).toNat (s.get! 1).toNat (s.get! 2).toNat (s.get! 3).toNat
theorem dec0 (s : ByteArray) : Utf8.decode s 0 = decP s s.size := by rw [Lib.decode_at]; rfl
theorem runM_of {s : ByteArray} {c n : Nat} (h : decP s s.size = (c, n)) (hn : n ≠ 1 ∨ c ≠ 65533) : runM s 0 = c ∧ wid s 0 = n := by
  unfold runM run1 wid
  rw [dec0, h]
  refine ⟨if_neg ?_, rfl⟩
  simp only; omega
theorem runM_no {s : ByteArray} (h : decP s s.size = (65533, 1)) : runM s 0 = -1 ∧ wid s 0 = 1 := by
  unfold runM run1 wid
  rw [dec0, h]
  exact ⟨if_pos ⟨rfl, rfl⟩, rfl⟩
theorem rn_low {s : ByteArray} (h : (s.get! 0).toNat < 128) : runM s 0 = (s.get! 0).toNat ∧ wid s 0 = 1 :=
  runM_of (by unfold decP Lib.decodeN; rw [if_pos h]) (by omega)
theorem nB_cases {b j : Nat} (h0 : nB b ≠ 0) (hj : j + 1 = nB b) : (j = 1 ∧ 194 ≤ b ∧ b < 224) ∨ (j = 2 ∧ 224 ≤ b ∧ b < 240) ∨ (j = 3 ∧ 240 ≤ b ∧ b < 245) := by
  unfold nB at hj h0
  by_cases h1 : 194 ≤ b ∧ b < 224
  · rw [if_pos h1] at hj; exact .inl ⟨by omega, h1⟩
  · rw [if_neg h1] at hj h0
    by_cases h2 : 224 ≤ b ∧ b < 240
    · rw [if_pos h2] at hj; exact .inr (.inl ⟨by omega, h2⟩)
    · rw [if_neg h2] at hj h0
      by_cases h3 : 240 ≤ b ∧ b < 245
      · rw [if_pos h3] at hj; exact .inr (.inr ⟨by omega, h3⟩)
      · rw [if_neg h3] at h0; omega
section
variable {s : ByteArray} (h128 : ¬ (s.get! 0).toNat < 128)
include h128 in
set_option maxRecDepth 100000 in
set_option maxHeartbeats 4000000 in
theorem rn_short (h : nB (s.get! 0).toNat = 0 ∨ s.size < nB (s.get! 0).toNat) (h1 : 1 ≤ s.size) : runM s 0 = -1 ∧ wid s 0 = 1 := by
  refine runM_no ?_
  have l1 := UInt8.toNat_lt (s.get! 1)
  have l2 := UInt8.toNat_lt (s.get! 2)
  have l3 := UInt8.toNat_lt (s.get! 3)
  have l0 := UInt8.toNat_lt (s.get! 0)
  unfold decP
  generalize (s.get! 0).toNat = b0 at *
  generalize (s.get! 1).toNat = b1 at *
  generalize (s.get! 2).toNat = b2 at *
  generalize (s.get! 3).toNat = b3 at *
  unfold nB at h
  unfold Lib.decodeN
  repeat' split
  all_goals first | rfl | (exfalso; split at h <;> (try split at h) <;> (try split at h) <;> omega)
set_option maxRecDepth 100000 in
set_option maxHeartbeats 4000000 in
theorem rn_cont {j : Nat} (hj : j + 1 < nB (s.get! 0).toNat) (h : (s.get! (j + 1)).toNat < 128 ∨ 192 ≤ (s.get! (j + 1)).toNat) : runM s 0 = -1 ∧ wid s 0 = 1 := by
  refine runM_no ?_
  have l1 := UInt8.toNat_lt (s.get! 1)
  have l2 := UInt8.toNat_lt (s.get! 2)
  have l3 := UInt8.toNat_lt (s.get! 3)
  have l0 := UInt8.toNat_lt (s.get! 0)
  have hj4 : j = 0 ∨ j = 1 ∨ j = 2 := by
    unfold nB at hj
    repeat' split at hj
    all_goals omega
  unfold decP
  rcases hj4 with rfl | rfl | rfl <;> simp only [Nat.zero_add, Nat.reduceAdd] at h hj <;> generalize (s.get! 0).toNat = b0 at * <;> generalize (s.get! 1).toNat = b1 at * <;> generalize (s.get! 2).toNat = b2 at * <;> generalize (s.get! 3).toNat = b3 at * <;> unfold nB at hj <;> unfold Lib.decodeN
  all_goals repeat' split
  all_goals first | rfl | (exfalso; split at hj <;> (try split at hj) <;> (try split at hj) <;> omega)
set_option maxRecDepth 2000 in
set_option maxHeartbeats 4000000 in
theorem rn_all (h0 : nB (s.get! 0).toNat ≠ 0) (hs : nB (s.get! 0).toNat ≤ s.size) {j : Nat} (hj : j + 1 = nB (s.get! 0).toNat) (hc : ∀ i, i < j → 128 ≤ (s.get! (i + 1)).toNat ∧ (s.get! (i + 1)).toNat < 192) :
    decP s s.size = if accR s (cB (s.get! 0).toNat) j < lowB (s.get! 0).toNat ∨ 1114111 < accR s (cB (s.get! 0).toNat) j ∨ (55296 ≤ accR s (cB (s.get! 0).toNat) j ∧ accR s (cB (s.get! 0).toNat) j < 57344) then (65533, 1) else (accR s (cB (s.get! 0).toNat) j, nB (s.get! 0).toNat) := by
  have l0 := UInt8.toNat_lt (s.get! 0)
  have hj4 := nB_cases h0 hj
  refine hj4.elim (fun ⟨e, q⟩ => ?_) (fun h => h.elim (fun ⟨e, q⟩ => ?_) (fun ⟨e, q⟩ => ?_))
  · rw [e]
    have c1 := hc 0 (by rw [e]; exact Nat.one_pos)
    rw [Nat.zero_add] at c1
    rw [accR1]
    unfold decP
    clear hc hj h0
    generalize (s.get! 0).toNat = b0 at *
    generalize (s.get! 1).toNat = b1 at *
    have e1 : nB b0 = 2 := by unfold nB; rw [if_pos q]
    have e2 : cB b0 = b0 - 192 := by unfold cB; rw [if_pos q]
    have e3 : lowB b0 = 128 := by unfold lowB; rw [if_pos q]
    rw [e1] at hs
    rw [e1, e2, e3]
    unfold Lib.decodeN
    repeat' split
    all_goals first | (exfalso; omega) | (apply Prod.ext <;> simp only <;> omega)
  · rw [e]
    have c1 := hc 0 (by omega)
    have c2 := hc 1 (by omega)
    simp only [Nat.zero_add, Nat.reduceAdd] at c1 c2
    rw [accR2]
    clear hc hj h0
    unfold decP
    generalize (s.get! 0).toNat = b0 at *
    generalize (s.get! 1).toNat = b1 at *
    generalize (s.get! 2).toNat = b2 at *
    have e1 : nB b0 = 3 := by unfold nB; rw [if_neg (by omega), if_pos q]
    have e2 : cB b0 = b0 - 224 := by unfold cB; rw [if_neg (by omega), if_pos q]
    have e3 : lowB b0 = 2048 := by unfold lowB; rw [if_neg (by omega), if_pos q]
    rw [e1] at hs
    rw [e1, e2, e3]
    unfold Lib.decodeN
    repeat' split
    all_goals first | (exfalso; omega) | (apply Prod.ext <;> simp only <;> omega)
  · rw [e]
    have c1 := hc 0 (by omega)
    have c2 := hc 1 (by omega)
    have c3 := hc 2 (by omega)
    simp only [Nat.zero_add, Nat.reduceAdd] at c1 c2 c3
    rw [accR3]
    clear hc hj h0
    unfold decP
    generalize (s.get! 0).toNat = b0 at *
    generalize (s.get! 1).toNat = b1 at *
    generalize (s.get! 2).toNat = b2 at *
    generalize (s.get! 3).toNat = b3 at *
    have e1 : nB b0 = 4 := by unfold nB; rw [if_neg (by omega), if_neg (by omega), if_pos q]
    have e2 : cB b0 = b0 - 240 := by unfold cB; rw [if_neg (by omega), if_neg (by omega), if_pos q]
    have e3 : lowB b0 = 65536 := by unfold lowB; rw [if_neg (by omega), if_neg (by omega), if_pos q]
    rw [e1] at hs
    rw [e1, e2, e3]
    unfold Lib.decodeN
    repeat' split
    all_goals first | (exfalso; omega) | (apply Prod.ext <;> simp only <;> omega)
end
theorem nb2 {b : Nat} (h : 194 ≤ b ∧ b < 224) : nB b = 2 ∧ cB b = b - 192 ∧ lowB b = 128 := by unfold nB cB lowB; rw [if_pos h, if_pos h, if_pos h]; exact ⟨rfl, rfl, rfl⟩
theorem nb3 {b : Nat} (h : 224 ≤ b ∧ b < 240) : nB b = 3 ∧ cB b = b - 224 ∧ lowB b = 2048 := by
  have h1 : ¬ (194 ≤ b ∧ b < 224) := by omega
  unfold nB cB lowB; rw [if_neg h1, if_neg h1, if_neg h1, if_pos h, if_pos h, if_pos h]; exact ⟨rfl, rfl, rfl⟩
theorem nb4 {b : Nat} (h : 240 ≤ b ∧ b < 245) : nB b = 4 ∧ cB b = b - 240 ∧ lowB b = 65536 := by
  have h1 : ¬ (194 ≤ b ∧ b < 224) := by omega
  have h2 : ¬ (224 ≤ b ∧ b < 240) := by omega
  unfold nB cB lowB; rw [if_neg h1, if_neg h1, if_neg h1, if_neg h2, if_neg h2, if_neg h2, if_pos h, if_pos h, if_pos h]; exact ⟨rfl, rfl, rfl⟩
theorem nb0 {b : Nat} (h1 : ¬ (194 ≤ b ∧ b < 224)) (h2 : ¬ (224 ≤ b ∧ b < 240)) (h3 : ¬ (240 ≤ b ∧ b < 245)) : nB b = 0 ∧ cB b = b ∧ lowB b = 0 := by
  unfold nB cB lowB; rw [if_neg h1, if_neg h1, if_neg h1, if_neg h2, if_neg h2, if_neg h2, if_neg h3, if_neg h3, if_neg h3]; exact ⟨rfl, rfl, rfl⟩
theorem nb_bd (b : Nat) : nB b ≤ 4 ∧ (nB b ≠ 0 → cB b ≤ 31) := by
  by_cases h1 : 194 ≤ b ∧ b < 224
  · have := nb2 h1; omega
  · by_cases h2 : 224 ≤ b ∧ b < 240
    · have := nb3 h2; omega
    · by_cases h3 : 240 ≤ b ∧ b < 245
      · have := nb4 h3; omega
      · have := nb0 h1 h2 h3; omega
theorem acc_bd {s : ByteArray} {c j : Nat} (hc : c ≤ 63) (h : ∀ i, i < j → 128 ≤ (s.get! (i + 1)).toNat ∧ (s.get! (i + 1)).toNat < 192) (hj : j ≤ 3) : accR s c j < 16777216 := by
  have h3 : j = 0 ∨ j = 1 ∨ j = 2 ∨ j = 3 := by omega
  rcases h3 with e | e | e | e
  · rw [e]; show c < _; omega
  · have h0 := h 0 (by omega)
    rw [e, accR1]; simp only [Nat.zero_add] at h0; omega
  · have h0 := h 0 (by omega); have h1 := h 1 (by omega)
    rw [e, accR2]; simp only [Nat.zero_add, Nat.reduceAdd] at h0 h1; omega
  · have h0 := h 0 (by omega); have h1 := h 1 (by omega); have h2 := h 2 (by omega)
    rw [e, accR3]; simp only [Nat.zero_add, Nat.reduceAdd] at h0 h1 h2; omega
theorem acc_snoc {s : ByteArray} {j : Nat} (h : ∀ i, i < j → 128 ≤ (s.get! (i + 1)).toNat ∧ (s.get! (i + 1)).toNat < 192) (h1 : 128 ≤ (s.get! (j + 1)).toNat) (h2 : (s.get! (j + 1)).toNat < 192) : ∀ i, i < j + 1 → 128 ≤ (s.get! (i + 1)).toNat ∧ (s.get! (i + 1)).toNat < 192 := by
  intro i hi
  by_cases e : i = j
  · rw [e]; exact ⟨h1, h2⟩
  · exact h i (by omega)
theorem rn_bad {s : ByteArray} (h0 : nB (s.get! 0).toNat ≠ 0) (hs : nB (s.get! 0).toNat ≤ s.size) {j : Nat} (hj : j + 1 = nB (s.get! 0).toNat) (hc : ∀ i, i < j → 128 ≤ (s.get! (i + 1)).toNat ∧ (s.get! (i + 1)).toNat < 192)
    (h : accR s (cB (s.get! 0).toNat) j < lowB (s.get! 0).toNat ∨ 1114111 < accR s (cB (s.get! 0).toNat) j ∨ (55296 ≤ accR s (cB (s.get! 0).toNat) j ∧ accR s (cB (s.get! 0).toNat) j < 57344)) : runM s 0 = -1 ∧ wid s 0 = 1 :=
  runM_no (by rw [rn_all h0 hs hj hc, if_pos h])
theorem rn_ok {s : ByteArray} (h0 : nB (s.get! 0).toNat ≠ 0) (hs : nB (s.get! 0).toNat ≤ s.size) {j : Nat} (hj : j + 1 = nB (s.get! 0).toNat) (hc : ∀ i, i < j → 128 ≤ (s.get! (i + 1)).toNat ∧ (s.get! (i + 1)).toNat < 192)
    (h : ¬ (accR s (cB (s.get! 0).toNat) j < lowB (s.get! 0).toNat ∨ 1114111 < accR s (cB (s.get! 0).toNat) j ∨ (55296 ≤ accR s (cB (s.get! 0).toNat) j ∧ accR s (cB (s.get! 0).toNat) j < 57344))) : runM s 0 = accR s (cB (s.get! 0).toNat) j ∧ wid s 0 = nB (s.get! 0).toNat :=
  runM_of (by rw [rn_all h0 hs hj hc, if_neg h]) (by have := nB_cases h0 hj; omega)
/-! ### All runes of a text -/
def runsF (s : ByteArray) : Nat → Nat → List Int
  | 0, _ => []
  | f + 1, p => if p < s.size then runM s p :: runsF s f (p + wid s p) else []
def runsL (s : ByteArray) : List Int := runsF s s.size 0
theorem runsF_end {s : ByteArray} {f p : Nat} (h : s.size ≤ p) : runsF s f p = [] := by cases f <;> simp [runsF, show ¬ p < s.size by omega]
theorem runsF_step {s : ByteArray} {f p : Nat} {xs zs : List Int} (h : xs ++ runsF s f p = zs) (hp : p < s.size) (hf : s.size ≤ f + p) : (xs ++ [runM s p]) ++ runsF s (f - 1) (p + wid s p) = zs := by
  obtain ⟨f, rfl⟩ : ∃ g, f = g + 1 := ⟨f - 1, by omega⟩
  rw [runsF, if_pos hp] at h
  rw [← h]; simp
theorem get_ext {s : ByteArray} {p i : Nat} : (s.extract p s.size).get! i = s.get! (p + i) := by
  have hsz : (s.extract p s.size).size = s.size - p := by rw [ByteArray.size_extract]; omega
  by_cases h : i < s.size - p
  · have h1 : i < (s.extract p s.size).size := by omega
    rw [get_list h1, get_list (s := s) (i := p + i) (by omega)]
    simp [ByteArray.data_extract]
  · have a1 : (s.extract p s.size).get! i = default := by
      show (s.extract p s.size).data[i]! = default
      rw [getElem!_neg]
      show ¬ i < (s.extract p s.size).size
      omega
    have a2 : s.get! (p + i) = default := by
      show s.data[p + i]! = default
      rw [getElem!_neg]
      show ¬ p + i < s.size
      omega
    rw [a1, a2]
theorem dec_ext (s : ByteArray) (p : Nat) : Utf8.decode (s.extract p s.size) 0 = Utf8.decode s p := by
  have hsz : (s.extract p s.size).size = s.size - p := by rw [ByteArray.size_extract]; omega
  rw [Lib.decode_at, Lib.decode_at, hsz, get_ext, get_ext, get_ext, get_ext]
  simp only [Nat.add_zero, Nat.zero_add, Nat.sub_zero]
theorem ext_run (s : ByteArray) (p : Nat) : runM (s.extract p s.size) 0 = runM s p ∧ wid (s.extract p s.size) 0 = wid s p := by
  unfold runM run1 wid; rw [dec_ext]; exact ⟨rfl, rfl⟩
theorem wid_in {s : ByteArray} {p : Nat} (h : p < s.size) : p + wid s p ≤ s.size := by
  have hw : wid s p ≤ s.size - p := by
    unfold wid
    rw [Lib.decode_at]
    unfold Lib.decodeN
    repeat' split
    all_goals (simp only; omega)
  omega
theorem ext_ext {s : ByteArray} {p n : Nat} (h : p + n ≤ s.size) : (s.extract p s.size).extract n (s.extract p s.size).size = s.extract (p + n) s.size := by
  rw [ByteArray.extract_extract, ByteArray.size_extract]
  congr 1
  omega
end Go.KL

/- What the law RowSays wants beside: cycles as the document finds them, text by signs. -/
namespace Go.KL
theorem lists_ext {a b : List (List Int)} (hl : a.length = b.length) (h : ∀ j, j < a.length → a.getD j [] = b.getD j []) : a = b := by
  refine List.ext_getElem hl fun j h1 h2 => ?_
  have := h j h1
  simpa [h1, h2] using this
theorem all_snocs {xs ys : List (List Int)} {k : Nat} (h : ∀ j, j < k → xs.getD j [] = ys.getD j []) (e : xs.getD k [] = ys.getD k []) : ∀ j, j < k + 1 → xs.getD j [] = ys.getD j [] := by
  intro j hj
  by_cases hjk : j = k
  · subst hjk; exact e
  · exact h j (by omega)
end Go.KL

/- Patterns of bells: the maths. -/
namespace Go.KL
theorem runsF_cons {s : ByteArray} {f p : Nat} (hp : p < s.size) (hf : s.size ≤ f + p) : runsF s f p = runM s p :: runsF s (f - 1) (p + wid s p) := by
  obtain ⟨f, rfl⟩ : ∃ g, f = g + 1 := ⟨f - 1, by omega⟩
  rw [runsF, if_pos hp]; rfl
/-! ### Signs -/
theorem run_m (s : ByteArray) (p : Nat) : runM s p = ((run1 s p : Nat) : Int) ∨ (runM s p = -1 ∧ run1 s p = 65533) := by
  unfold runM
  split
  · rename_i h; exact .inr ⟨rfl, h.1⟩
  · exact .inl rfl
/-! ### Ahead of the star and behind it -/
/-! ### What was seen -/
/-! ### Like a pattern -/
/-! ### Steps -/
/-! ### A pattern that may be -/
/-! ### The walks of Like and fits -/
end Go.KL

/- Results of which the first lies in a struct's variable. -/
namespace Go.KL
open Go.RowKit
variable {P : Program} {fn : Func} {σ0 σ : GW} {a : Act} {N d e f : Nat} {L : List Nat} {R : Value → GW → Prop}
theorem run_cell {t k : Nat} {T : TypeId} {fs : Array Field} {z : Value} {by_ : Nat} {ts : List Ty} (hT : P.underlying T = some (.struct fs)) (he : Info P T z ts.length by_) (h : OwnP σ k (a.eval (.tmp t)) ts) :
    ∃ ad cur, a.tmps.getD t undef = .pointer (some ad) ∧ (loadVar T ad).run P σ.w = .ok (.agg cur) σ.w ∧ (Ty.agg ts).has σ (.agg cur) := by
  obtain ⟨gg, e', cur, e1, h2, h3, h4, h5⟩ := h
  have hl := run_loadVar (P := P) hT he (w := σ.w) (ad := ⟨gg, 0, none⟩) (us := cur.toList) (by simp [h4]) (fun j u hj => by
    rw [Addr.add_lit, Nat.zero_add]
    simp at hj
    simp [World.cell?, h3, hj])
  exact ⟨_, cur, e1, by simpa using hl, cur, rfl, h4, h5⟩
theorem retL1c {t k : Nat} {T : TypeId} {fs : Array Field} {z : Value} {by_ : Nat} {ts : List Ty} (hr : fn.results = #[.cell t T]) (ok : Ok N a) (hF : FromL L σ0 σ) (hT : P.underlying T = some (.struct fs)) (he : Info P T z ts.length by_) (h : OwnP σ k (a.eval (.tmp t)) ts)
    (hR : ∀ v, (Ty.agg ts).has σ v → R v σ) : bodyPost P fn (RetL σ0 L R) .ret a σ.w := by
  obtain ⟨ad, cur, e2, hl, hv⟩ := run_cell hT he h
  refine bodyPost_ret (v := .agg cur) ?_ ok.defers ⟨_, σ, rfl, hF, rfl, hR _ hv⟩
  have e3 : a.tmps[t]?.getD undef = .pointer (some ad) := by rw [← e2, Array.getD_eq_getD_getElem?]
  simp [results, hr, e3, asAddr, hl]
theorem retL2c {t k : Nat} {T : TypeId} {fs : Array Field} {z : Value} {by_ : Nat} {ts : List Ty} (hr : fn.results = #[.cell t T, .tmp e]) (ok : Ok N a) (hF : FromL L σ0 σ) (hT : P.underlying T = some (.struct fs)) (he : Info P T z ts.length by_) (h : OwnP σ k (a.eval (.tmp t)) ts)
    (hR : ∀ v, (Ty.agg ts).has σ v → R (.tuple #[v, a.eval (.tmp e)]) σ) : bodyPost P fn (RetL σ0 L R) .ret a σ.w := by
  obtain ⟨ad, cur, e2, hl, hv⟩ := run_cell hT he h
  refine bodyPost_ret (v := .tuple #[.agg cur, a.eval (.tmp e)]) ?_ ok.defers ⟨_, σ, rfl, hF, rfl, hR _ hv⟩
  have e3 : a.tmps[t]?.getD undef = .pointer (some ad) := by rw [← e2, Array.getD_eq_getD_getElem?]
  simp [results, hr, e3, asAddr, hl, Act.eval]
theorem nil_has {α : Type} {f : α → Ty} {xs : List α} {σ : GW} (e : xs = []) : (Ty.lst f xs).has σ (.slice none 0 0) := by subst e; exact sl_nil
end Go.KL

/- How many rows are like patterns. -/
namespace Go.KL
abbrev Ty.str (s : ByteArray) : Ty := Ty.val (.string s)
end Go.KL

/- Rows whose elements are structs of c cells. -/
namespace Go.KL
open Go.RowKit
variable {P : Program} {d : Option Tmp} {ty : TypeId} {pos : String} {af : Array Edge} {g : Option (Nat × Bool)} {a : Act} {σ : GW}
abbrev Ty.lstc {α : Type} (c : Nat) (F : α → List Ty) (xs : List α) : Ty := Ty.sl c xs.length (xs.flatMap F)
theorem flat_get {α : Type} {c : Nat} {F : α → List Ty} (hF : ∀ x, (F x).length = c) (dd : α) : ∀ {xs : List α} {i : Nat}, i < xs.length → ∀ j, j < c → (xs.flatMap F)[i * c + j]? = (F (xs.getD i dd))[j]?
  | [], i, h, _, _ => by simp at h
  | x :: xs, 0, _, j, hj => by
    rw [List.flatMap_cons, Nat.zero_mul, Nat.zero_add, List.getElem?_append_left (by rw [hF]; exact hj)]
    simp
  | x :: xs, i + 1, h, j, hj => by
    rw [List.flatMap_cons, List.getElem?_append_right (by rw [hF, Nat.succ_mul]; omega), hF, show (i + 1) * c + j - c = i * c + j by rw [Nat.succ_mul]; omega, flat_get hF dd (by simpa using h) j hj]
    simp
theorem y_indexc {α : Type} {c : Nat} {F : α → List Ty} {xs : List α} (dd : α) {x y : Operand} {t e : TypeId} {z : Value} {b : Nat} {k : IntKind} {i : Int} (ht : P.underlying t = some (.slice e)) (he : Info P e z c b)
    (hx : At (Ty.lstc c F xs) σ a x) (hy : a.eval y = .int k i) (h0 : 0 ≤ i) (h1 : i.toNat < xs.length) (hc : 0 < c) (hF : ∀ x, (F x).length = c) :
    Yld P ⟨d, .indexAddr t x y, ty, pos, af, g⟩ a σ (Ty.ref (F (xs.getD i.toNat dd))).pr :=
  y_indexAddr ht he hx hy h0 (by omega) hc (fun j hj => flat_get hF dd h1 j hj) (hF _)
theorem fold_set : ∀ (vs : List Value) (o : Nat) (cur : Array Value), o + vs.length ≤ cur.size → ((vs.zipIdx o).foldl (fun (q : Array Value) (p : Value × Nat) => q.setIfInBounds p.2 p.1) cur).size = cur.size ∧
      (∀ j, j < vs.length → ((vs.zipIdx o).foldl (fun (q : Array Value) (p : Value × Nat) => q.setIfInBounds p.2 p.1) cur)[o + j]? = vs[j]?) ∧ ∀ i, i < o → ((vs.zipIdx o).foldl (fun (q : Array Value) (p : Value × Nat) => q.setIfInBounds p.2 p.1) cur)[i]? = cur[i]?
  | [], o, cur, _ => ⟨rfl, fun j hj => by simp at hj, fun i _ => rfl⟩
  | v :: vs, o, cur, h => by
    simp only [List.length_cons] at h
    obtain ⟨k1, k2, k3⟩ := fold_set vs (o + 1) (cur.setIfInBounds o v) (by simp; omega)
    simp only [List.zipIdx_cons, List.foldl_cons]
    refine ⟨by rw [k1]; simp, fun j hj => ?_, fun i hi => ?_⟩
    · cases j with
      | zero =>
        have := k3 o (by omega)
        rw [Array.getElem?_setIfInBounds_self_of_lt (by omega)] at this
        simpa using this
      | succ j =>
        have := k2 j (by simpa using hj)
        rw [show o + (j + 1) = o + 1 + j by omega, this]; simp
    · rw [k3 i (by omega), Array.getElem?_setIfInBounds_ne (by omega)]
theorem fold_whole {cs z : Array Value} (h : z.size = cs.size) : (cs.zipIdx.foldl (fun (q : Array Value) (p : Value × Nat) => q.setIfInBounds p.2 p.1) z) = cs := by
  rw [← Array.foldl_toList, Array.toList_zipIdx]
  obtain ⟨k1, k2, _⟩ := fold_set cs.toList 0 z (by simp [h])
  refine Array.ext (by rw [k1, h]) fun j h1 h2 => ?_
  have := k2 j (by simpa using h2)
  rw [Nat.zero_add] at this
  simp only [Array.getElem?_toList] at this
  rw [Array.getElem?_eq_getElem h1, Array.getElem?_eq_getElem h2] at this
  exact Option.some.inj this
theorem y_build1c {c : Nat} {x : Operand} {t e : TypeId} {ts : List Ty} {z : Value} {b : Nat} (ht : P.underlying t = some (.slice e)) (he : Info P e z c b) (hz : z.cells.size = c) (hc : 0 < c) (hc2 : c ≤ 16777216) (hl : ts.length = c) (hx : At (.agg ts) σ a x) :
    Yld P ⟨d, .buildSlice t 1 #[(0, x)], ty, pos, af, g⟩ a σ (Ty.sl c 1 ts).pr := by
  obtain ⟨cs, e1, hcs, hcl⟩ := hx
  have hsz : cs.size = c := by omega
  intro K Q hk
  have hr : (execOp a.eval ⟨d, .buildSlice t 1 #[(0, x)], ty, pos, af, g⟩).run P σ.w = .ok (.value (.slice (some ⟨σ.w.heap.size, 0, none⟩) 1 1)) (σ.w.alloc (.cells cs e)) := by
    simp only [execOp, List.map_toArray, List.map_cons, List.map_nil, e1]
    have hw : ∀ q : Array Value, q.size = c → cs.zipIdx.foldl (fun (q : Array Value) (p : Value × Nat) => q.setIfInBounds p.2 p.1) q = cs := fun q hq => fold_whole (by omega)
    have h1 : ¬ c > 16777216 := by omega
    have h2 : ¬ c = 0 := by omega
    simp [Instr.buildSlice, run_underlying ht, he.size, he.zero, Instr.fill, Value.cells, hsz, h2, newRow, newObj, Sem.run, Sem.run_bind, show ¬ 16777216 < c by omega]
    generalize hq : Array.map _ (Array.range c) = q
    have hqs : q.size = c := by rw [← hq]; simp
    have h5 := hw q hqs
    simp only [Array.size_zipIdx] at h5
    first | rw [h5] | (rw [hsz] at h5; rw [h5])
  unfold Oper.wp
  rw [hr]
  refine hk _ (σ.seal (.cells cs e)) (Stp.seal _ _) ⟨_, 1, σ.w.heap.size, 0, rfl, ⟨Nat.le_refl _, by decide⟩, by omega, .inr ⟨rfl, by simp [GW.seal]⟩, fun j V hj => ?_⟩
  have hj2 : j < cs.size := by rw [hsz, ← hl]; exact (List.getElem?_eq_some_iff.1 hj).1
  refine ⟨cs[j], ?_, V.up (Stp.seal _ _).le0 (hcl j V _ hj (by simp [hj2]))⟩
  show World.cell? (σ.w.alloc _) _ = _
  simp only [World.cell?, heap_alloc_new]
  simp [hj2]
theorem one_flat {α : Type} {F : α → List Ty} {xs : List α} (h : ∀ x, ∀ U ∈ F x, One U) : ∀ U, U ∈ xs.flatMap F → One U := fun U hU => by
  obtain ⟨x, _, hx⟩ := List.mem_flatMap.1 hU; exact h x U hx
/-! ### Patterns -/
end Go.KL

/- Plain maths: calls and touches. -/
namespace Go.KL
abbrev BCall := Int × List (List Int)
def callC (c : BCall) : List Ty := [Ty.val (.int .i32 c.1), Ty.rows c.2]
theorem callOne : ∀ x, ∀ U ∈ callC x, One U := fun x U hU => by
  simp only [callC, List.mem_cons, List.not_mem_nil, or_false] at hU
  rcases hU with rfl | rfl
  · exact one_val rfl
  · exact one_sl
def signMay (c : Int) : Bool := decide (33 ≤ c ∧ c ≤ 12287 ∧ c ≠ 40 ∧ c ≠ 41 ∧ ¬ (48 ≤ c ∧ c ≤ 57) ∧ (c < 127 ∨ 160 < c))
/-! ### Which calls may be -/
def callStep (n : Int) (L : Nat) (pre : List Int) (c : BCall) : Int :=
  if signMay c.1 = false then 4 else if c.1 ∈ pre then 8 else if L < c.2.length then 1 else allMay n c.2
def callsTo (n : Int) (L : Nat) : List Int → List BCall → Int
  | _, [] => 0
  | pre, c :: cs => if callStep n L pre c ≠ 0 then callStep n L pre c else callsTo n L (pre ++ [c.1]) cs
def callsMay (nm : ByteArray) (n : Int) (l : List (List Int)) (cs : List BCall) : Int :=
  if methMay nm n l ≠ 0 then methMay nm n l else if cs.length < 1 ∨ 8 < cs.length then 1 else callsTo n l.length [] cs
abbrev D0 : BCall := (0, [])
theorem drop_consD {α : Type} (d : α) {l : List α} {k : Nat} (h : k < l.length) : l.drop k = l.getD k d :: l.drop (k + 1) := by
  rw [List.drop_eq_getElem_cons h]; simp [h]
theorem take_snocD {α : Type} (d : α) {l : List α} {k : Nat} (h : k < l.length) : l.take (k + 1) = l.take k ++ [l.getD k d] := by
  rw [List.take_add_one]; simp [h]
theorem calls_step {n : Int} {L : Nat} {cs : List BCall} {i : Nat} {e : Int} (h : callsTo n L ((cs.take i).map (·.1)) (cs.drop i) = e) (hi : i < cs.length) (hc : callStep n L ((cs.take i).map (·.1)) (cs.getD i D0) = 0) :
    callsTo n L ((cs.take (i + 1)).map (·.1)) (cs.drop (i + 1)) = e := by
  rw [drop_consD D0 hi, callsTo, if_neg (by rw [hc]; simp)] at h
  rw [take_snocD D0 hi, List.map_append]; exact h
theorem calls_stop {n : Int} {L : Nat} {cs : List BCall} {i : Nat} {e : Int} (h : callsTo n L ((cs.take i).map (·.1)) (cs.drop i) = e) (hi : i < cs.length) (hc : callStep n L ((cs.take i).map (·.1)) (cs.getD i D0) ≠ 0) :
    e = callStep n L ((cs.take i).map (·.1)) (cs.getD i D0) := by
  rw [drop_consD D0 hi, callsTo, if_pos hc] at h; exact h.symm
theorem calls_end {n : Int} {L : Nat} {cs : List BCall} {i : Nat} {e : Int} (h : callsTo n L ((cs.take i).map (·.1)) (cs.drop i) = e) (hi : cs.length ≤ i) : e = 0 := by
  rw [List.drop_eq_nil_of_le hi] at h; exact h.symm
structure CallsOk (nm : ByteArray) (n : Nat) (l : List (List Int)) (cs : List BCall) : Prop where
  meth : MethOk nm n l
  c1 : 1 ≤ cs.length
  c8 : cs.length ≤ 8
  short : ∀ i, i < cs.length → (cs.getD i D0).2.length ≤ l.length
  ok : ∀ i, i < cs.length → ∀ k, k < (cs.getD i D0).2.length → okL 0 ((cs.getD i D0).2.getD k []) n
theorem callStep_ok {n : Int} {L : Nat} {pre : List Int} {c : BCall} (h : callStep n L pre c = 0) : c.2.length ≤ L ∧ allMay n c.2 = 0 := by
  unfold callStep at h
  split at h
  · cases h
  · split at h
    · cases h
    · split at h
      · cases h
      · exact ⟨by omega, h⟩
theorem callsTo_ok {n : Int} {L : Nat} : ∀ {cs : List BCall} {pre : List Int}, callsTo n L pre cs = 0 → ∀ c ∈ cs, c.2.length ≤ L ∧ allMay n c.2 = 0
  | [], _, _, c, h => by simp at h
  | d :: cs, pre, h, c, hc => by
    rw [callsTo] at h
    split at h
    · rename_i h2; exact absurd h h2
    · rename_i h2
      rcases List.mem_cons.1 hc with e | e
      · subst e; exact callStep_ok (Classical.not_not.1 h2)
      · exact callsTo_ok h c e
theorem mem_getDD {α : Type} (d : α) {l : List α} {k : Nat} (h : k < l.length) : l.getD k d ∈ l := by
  rw [List.getD_eq_getElem?_getD, List.getElem?_eq_getElem h]; exact List.getElem_mem _
theorem callsMay_ok {nm : ByteArray} {n : Int} {l : List (List Int)} {cs : List BCall} (h : callsMay nm n l cs = 0) : CallsOk nm n.toNat l cs ∧ ((n.toNat : Nat) : Int) = n := by
  unfold callsMay at h
  split at h
  · rename_i h1; exact absurd h h1
  · rename_i h1
    split at h
    · omega
    · rename_i h2
      obtain ⟨m, hnm, hm⟩ := methMay_ok.1 (Classical.not_not.1 h1)
      have hn : n.toNat = m := by omega
      rw [hn]
      refine ⟨⟨hm, by omega, by omega, fun i hi => (callsTo_ok h _ (mem_getDD D0 hi)).1, fun i hi k hk => ?_⟩, by omega⟩
      have h3 := allMay_zero.1 (callsTo_ok h _ (mem_getDD D0 hi)).2 _ (mem_getDD [] hk)
      have h4 := okL_of_chgMay h3
      rwa [hnm] at h4
/-! ### The changes of a lead -/
def endsL (l : List (List Int)) (c : BCall) : List (List Int) := l.take (l.length - c.2.length) ++ c.2
theorem endsL_len {l : List (List Int)} {c : BCall} (h : c.2.length ≤ l.length) : (endsL l c).length = l.length := by
  unfold endsL; rw [List.length_append, List.length_take]; omega
theorem endsL_ok {n : Nat} {l : List (List Int)} {c : BCall} (h : c.2.length ≤ l.length) (hl : ∀ k, k < l.length → okL 0 (l.getD k []) n) (hc : ∀ k, k < c.2.length → okL 0 (c.2.getD k []) n) :
    ∀ k, k < (endsL l c).length → okL 0 ((endsL l c).getD k []) n := fun k hk => by
  rw [endsL_len h] at hk
  unfold endsL
  rw [List.getD_eq_getElem?_getD, List.getElem?_append]
  have htl : (l.take (l.length - c.2.length)).length = l.length - c.2.length := by rw [List.length_take]; omega
  by_cases e : k < l.length - c.2.length
  · rw [if_pos (by omega), List.getElem?_take_of_lt e, ← List.getD_eq_getElem?_getD]; exact hl k hk
  · rw [if_neg (by omega), htl, ← List.getD_eq_getElem?_getD]; exact hc _ (by omega)
/-! ### The rows of a touch -/
def leadE (l : List (List Int)) (cs : List BCall) (leads : List Int) (k : Nat) : List (List Int) := endsL l (cs.getD (leads.getD k 0).toNat D0)
def tHd (n : Nat) (l : List (List Int)) (cs : List BCall) (leads : List Int) : Nat → List Int
  | 0 => roundsL n
  | k + 1 => curL (tHd n l cs leads k) (leadE l cs leads k) l.length
def tRows (n : Nat) (l : List (List Int)) (cs : List BCall) (leads : List Int) : Nat → List (List Int)
  | 0 => [roundsL n]
  | k + 1 => tRows n l cs leads k ++ (fromL (tHd n l cs leads k) (leadE l cs leads k)).drop 1
def inCalls (cs : List BCall) (leads : List Int) : Prop := ∀ k, k < leads.length → 0 ≤ leads.getD k 0 ∧ leads.getD k 0 < cs.length
section
variable {nm : ByteArray} {n : Nat} {l : List (List Int)} {cs : List BCall} {leads : List Int}
theorem leadE_len (h : CallsOk nm n l cs) (hi : inCalls cs leads) {k : Nat} (hk : k < leads.length) : (leadE l cs leads k).length = l.length :=
  endsL_len (h.short _ (by have := hi k hk; omega))
theorem leadE_ok (h : CallsOk nm n l cs) (hi : inCalls cs leads) {k : Nat} (hk : k < leads.length) : ∀ j, j < (leadE l cs leads k).length → okL 0 ((leadE l cs leads k).getD j []) n :=
  have hb : (leads.getD k 0).toNat < cs.length := by have := hi k hk; omega
  endsL_ok (h.short _ hb) h.meth.ok (h.ok _ hb)
theorem curL_row' {r : List Int} {l : List (List Int)} (hr : IsRow r) (h : ∀ k, k < l.length → okL 0 (l.getD k []) r.length) : ∀ k, k ≤ l.length → IsRow (curL r l k) ∧ (curL r l k).length = r.length
  | 0, _ => ⟨hr, rfl⟩
  | k + 1, hk => by
    obtain ⟨h1, h2⟩ := curL_row' hr h k (by omega)
    have ho := h k (by omega)
    have hc := (ord_inv ho hr.pos hr.le).1
    rw [curL_succ _ l k (by omega), h2]
    exact ⟨byL_row h1 hc (by rw [h2, chgRow_len ho]), by rw [byL_len, chgRow_len ho]⟩
theorem tHd_row (h : CallsOk nm n l cs) (hi : inCalls cs leads) : ∀ k, k ≤ leads.length → IsRow (tHd n l cs leads k) ∧ (tHd n l cs leads k).length = n
  | 0, _ => ⟨roundsL_row (by have := h.meth.n1; omega) h.meth.n2, roundsL_len n⟩
  | k + 1, hk => by
    obtain ⟨h1, h2⟩ := tHd_row h hi k (by omega)
    have hc := curL_row' h1 (l := leadE l cs leads k) (by rw [h2]; exact leadE_ok h hi (by omega)) l.length (by rw [leadE_len h hi (by omega)]; exact Nat.le_refl _)
    exact ⟨hc.1, by rw [tHd, hc.2, h2]⟩
theorem tRows_len (h : CallsOk nm n l cs) (hi : inCalls cs leads) : ∀ k, k ≤ leads.length → (tRows n l cs leads k).length = k * l.length + 1
  | 0, _ => by simp [tRows]
  | k + 1, hk => by
    rw [tRows, List.length_append, tRows_len h hi k (by omega), List.length_drop, fromL, fromTo_len, leadE_len h hi (by omega), Nat.succ_mul]; omega
theorem fromL_getj {r : List Int} {l : List (List Int)} {j : Nat} (h : j ≤ l.length) : (fromL r l).getD j [] = curL r l j := by
  unfold fromL fromTo
  rw [List.getD_eq_getElem?_getD]; simp [show j < l.length + 1 by omega]
theorem tRows_last (h : CallsOk nm n l cs) (hi : inCalls cs leads) : ∀ k, k ≤ leads.length → (tRows n l cs leads k).getD (k * l.length) [] = tHd n l cs leads k
  | 0, _ => by simp [tRows, tHd]
  | k + 1, hk => by
    have hl1 := h.meth.l1
    have hll := leadE_len h hi (k := k) (by omega)
    rw [tRows, List.getD_eq_getElem?_getD, List.getElem?_append_right (by rw [tRows_len h hi k (by omega), Nat.succ_mul]; omega), tRows_len h hi k (by omega), List.getElem?_drop, ← List.getD_eq_getElem?_getD, tHd, Nat.succ_mul,
      show 1 + (k * l.length + l.length - (k * l.length + 1)) = l.length by omega, fromL_getj (by omega)]
theorem tRows_pre (n : Nat) (l : List (List Int)) (cs : List BCall) (leads : List Int) (k : Nat) : ∀ m, k ≤ m → ∃ x, tRows n l cs leads m = tRows n l cs leads k ++ x
  | 0, hm => ⟨[], by rw [show k = 0 by omega, List.append_nil]⟩
  | m + 1, hm => by
    by_cases e : k = m + 1
    · exact ⟨[], by rw [e, List.append_nil]⟩
    · obtain ⟨x, hx⟩ := tRows_pre n l cs leads k m (by omega)
      exact ⟨x ++ _, by rw [tRows, hx, List.append_assoc]⟩
theorem tRows_get (h : CallsOk nm n l cs) (hi : inCalls cs leads) {m k j : Nat} (hm : m ≤ leads.length) (hk : k < m) (hj : j ≤ l.length) : (tRows n l cs leads m).getD (k * l.length + j) [] = curL (tHd n l cs leads k) (leadE l cs leads k) j := by
  have hll := leadE_len h hi (k := k) (by omega)
  obtain ⟨x, hx⟩ := tRows_pre n l cs leads (k + 1) m (by omega)
  have h1 := tRows_len h hi k (by omega)
  have h2 := tRows_len h hi (k + 1) (by omega)
  rw [Nat.succ_mul] at h2
  rw [hx, List.getD_eq_getElem?_getD, List.getElem?_append_left (by omega), tRows]
  by_cases e : j = 0
  · subst e
    rw [List.getElem?_append_left (by omega), ← List.getD_eq_getElem?_getD, Nat.add_zero, tRows_last h hi k (by omega)]; rfl
  · rw [List.getElem?_append_right (by omega), h1, List.getElem?_drop, ← List.getD_eq_getElem?_getD, show 1 + (k * l.length + j - (k * l.length + 1)) = j by omega, fromL_getj (by omega)]
theorem tRows_row (h : CallsOk nm n l cs) (hi : inCalls cs leads) {i : Nat} (hk : i ≤ leads.length * l.length) : IsRow ((tRows n l cs leads leads.length).getD i []) ∧ ((tRows n l cs leads leads.length).getD i []).length = n := by
  have hl1 := h.meth.l1
  by_cases e : i = leads.length * l.length
  · rw [e, tRows_last h hi _ (Nat.le_refl _)]; exact tHd_row h hi _ (Nat.le_refl _)
  · have h1 : i / l.length < leads.length := Nat.div_lt_of_lt_mul (by rw [Nat.mul_comm]; omega)
    have h2 := Nat.mod_lt i (show 0 < l.length by omega)
    have h3 := Nat.div_add_mod i l.length
    rw [Nat.mul_comm] at h3
    rw [← h3, tRows_get h hi (Nat.le_refl _) h1 (by omega)]
    obtain ⟨h4, h5⟩ := tHd_row h hi _ (Nat.le_of_lt h1)
    have := curL_row' h4 (l := leadE l cs leads (i / l.length)) (by rw [h5]; exact leadE_ok h hi h1) (i % l.length) (by rw [leadE_len h hi h1]; omega)
    exact ⟨this.1, by rw [this.2, h5]⟩
end
/-! ### Which touches may be -/
def touchMay (nm : ByteArray) (n : Int) (l : List (List Int)) (cs : List BCall) (leads : List Int) : Int :=
  if callsMay nm n l cs ≠ 0 then callsMay nm n l cs else if leads.length < 1 ∨ 400 < leads.length then 1
  else if ∀ k, k < leads.length → 0 ≤ leads.getD k 0 ∧ leads.getD k 0 < cs.length then (if 20000 < leads.length * l.length then 3 else 0) else 12
theorem touchMay_ok {nm : ByteArray} {n : Int} {l : List (List Int)} {cs : List BCall} {leads : List Int} (h : touchMay nm n l cs leads = 0) :
    CallsOk nm n.toNat l cs ∧ ((n.toNat : Nat) : Int) = n ∧ 1 ≤ leads.length ∧ leads.length ≤ 400 ∧ inCalls cs leads ∧ leads.length * l.length ≤ 20000 := by
  unfold touchMay at h
  split at h
  · rename_i h1; exact absurd h h1
  · rename_i h1
    have h0 := callsMay_ok (Classical.not_not.1 h1)
    split at h
    · omega
    · split at h
      · rename_i h3
        split at h
        · omega
        · exact ⟨h0.1, h0.2, by omega, by omega, h3, by omega⟩
      · omega
theorem touchMay_calls {nm : ByteArray} {n : Int} {l : List (List Int)} {cs : List BCall} {leads : List Int} (h : callsMay nm n l cs ≠ 0) : touchMay nm n l cs leads = callsMay nm n l cs := by unfold touchMay; rw [if_pos h]
theorem touchMay_cnt {nm : ByteArray} {n : Int} {l : List (List Int)} {cs : List BCall} {leads : List Int} (h : callsMay nm n l cs = 0) (h2 : leads.length < 1 ∨ 400 < leads.length) : touchMay nm n l cs leads = 1 := by unfold touchMay; rw [if_neg (by omega), if_pos h2]
theorem touchMay_val {nm : ByteArray} {n : Int} {l : List (List Int)} {cs : List BCall} {leads : List Int} (h : callsMay nm n l cs = 0) (h2 : ¬ (leads.length < 1 ∨ 400 < leads.length)) {k : Nat} (hk : k < leads.length) (h3 : ¬ (0 ≤ leads.getD k 0 ∧ leads.getD k 0 < cs.length)) : touchMay nm n l cs leads = 12 := by
  unfold touchMay; rw [if_neg (by omega), if_neg h2, if_neg (fun h4 => h3 (h4 k hk))]
theorem touchMay_lim {nm : ByteArray} {n : Int} {l : List (List Int)} {cs : List BCall} {leads : List Int} (h : callsMay nm n l cs = 0) (h2 : ¬ (leads.length < 1 ∨ 400 < leads.length)) (h3 : ∀ k, k < leads.length → 0 ≤ leads.getD k 0 ∧ leads.getD k 0 < cs.length) (h4 : 20000 < leads.length * l.length) : touchMay nm n l cs leads = 3 := by
  unfold touchMay; rw [if_neg (by omega), if_neg h2, if_pos h3, if_pos h4]
theorem touchMay_yes {nm : ByteArray} {n : Int} {l : List (List Int)} {cs : List BCall} {leads : List Int} (h : callsMay nm n l cs = 0) (h2 : ¬ (leads.length < 1 ∨ 400 < leads.length)) (h3 : ∀ k, k < leads.length → 0 ≤ leads.getD k 0 ∧ leads.getD k 0 < cs.length) (h4 : ¬ 20000 < leads.length * l.length) : touchMay nm n l cs leads = 0 := by
  unfold touchMay; rw [if_neg (by omega), if_neg h2, if_pos h3, if_neg h4]
end Go.KL

/- Closures over one variable; slices.Grow of nothing; cuts of rows of structs. -/
namespace Go.KL
open Go.RowKit
variable {P : Program} {d : Option Tmp} {ty : TypeId} {pos : String} {af : Array Edge} {g : Option (Nat × Bool)} {a : Act} {σ : GW}
def Ty.clo (f : FuncId) (ts : List Ty) : Ty := ⟨fun σ v => ∃ p, v = .func (.func f) #[] #[p] ∧ (Ty.ref ts).has σ p, fun h ⟨p, e, hp⟩ => ⟨p, e, Ty.up _ h hp⟩⟩
theorem y_clo {f : FuncId} {ts : List Ty} {x : Operand} (hx : At (.ref ts) σ a x) : Yld P ⟨d, .makeFunc (.func f) #[] #[x], ty, pos, af, g⟩ a σ (Ty.clo f ts).pr :=
  Yld.of_run (v := .func (.func f) #[] #[a.eval x]) (by simp [execOp, Instr.makeFunc, Sem.run_bind]) ⟨_, rfl, hx⟩
theorem y_callv {f : FuncId} {fn : Func} {q : Operand} {xs : Array Operand} {tys : Array TypeId} {R : Ty} {ts : List Ty} (args : Value → Array Value) (hq : At (.clo f ts) σ a q) (hf : P.funcs[f]? = some fn) (hn : (fn.name == "runtime.NumGoroutine") = false) (hb : fn.body.isNone = false)
    (hargs : ∀ p, xs.map a.eval ++ #[p] = args p) (hc : ∀ p, (Ty.ref ts).has σ p → FnC P f (args p) σ R) :
    Yld P ⟨d, .call ⟨.value q, xs, tys⟩, ty, pos, af, g⟩ a σ R.pr := by
  intro K Q hk
  obtain ⟨p, e, hp⟩ := hq
  have hr : (execOp a.eval ⟨d, .call ⟨.value q, xs, tys⟩, ty, pos, af, g⟩).run P σ.w = .ok (.enter f (args p)) σ.w := by
    have hn' : ¬ fn.name = "runtime.NumGoroutine" := by simpa using hn
    have hb' : ¬ fn.body = none := by intro e; simp [e] at hb
    rw [← hargs p]
    simp only [execOp, resolve, e]
    simp [Deferred.ofValue, invoke, callFunc, hf, hn', hb', program, Sem.run, Sem.run_bind]
  unfold Oper.wp
  rw [hr]
  refine Calls.mono (hc p hp) ?_
  rintro e w' ⟨v, τ, rfl, hs, rfl, hv⟩
  exact hk v τ hs hv
/-! ### slices.Grow of nothing -/
theorem y_capnil {x : Operand} {t e : TypeId} (ht : P.underlying t = some (.slice e)) (hx : At (.val (.slice none 0 0)) σ a x) :
    Yld P ⟨d, .call ⟨.builtin .cap, #[x], #[t]⟩, ty, pos, af, g⟩ a σ (Ty.int ((0 : Nat) : Int)).pr :=
  Yld.of_run (v := .int .i64 0) (run_builtin1 hx (fun cs => by simp [builtin, Builtin.cap_, run_underlying ht, goInt])) rfl
theorem y_slicenil {x y : Operand} {t e : TypeId} {z : Value} {b c : Nat} {ki : IntKind} (ht : P.underlying t = some (.slice e)) (he : Info P e z c b) (hx : At (.val (.slice none 0 0)) σ a x) (hy : a.eval y = .int ki ((0 : Nat) : Int)) :
    Yld P ⟨d, .slice t x none (some y) none, ty, pos, af, g⟩ a σ (Ty.val (.slice none 0 0)).pr := by
  refine Yld.of_run (v := sliced none 0 0 0 c) ?_ ?_
  · have h1 := run_slice_h (P := P) σ.w t none 0 0 (elem_of ht) ki ((0 : Nat) : Int) (by omega) (by omega)
    rw [elem_eq ht, he.size] at h1
    have hx' : a.eval x = .slice none 0 0 := hx
    simp only [execOp, hx', hy, Option.map_some, Option.map_none, Sem.run_bind, run_sliceAt_slice σ.w t _ _ _ _ (elem_of ht), h1, Result.andThen_ok, Sem.run_pure, Int.toNat_natCast]
  · show sliced none 0 0 0 c = _
    unfold sliced; simp
theorem m_appendn {k : Nat} {t u e : TypeId} {z : Value} {by_ : Nat} {x y : Operand} {n : Nat} {ki : IntKind} {T : Ty} (ht : P.underlying t = some (.slice e)) (hu : P.underlying u = some (.int ki)) (he : Info P e z 1 by_) (hz : z.cells = #[z]) (hT : ∀ σ, T.has σ z)
    (hx : At (.val (.slice none 0 0)) σ a x) (hy : a.eval y = .int .i64 ((n : Nat) : Int)) (hn : 1 ≤ n) (hlen : n ≤ 9223372036854775807) (hb : n * by_ ≤ 140737488355328) :
    YldM k P ⟨d, .call ⟨.builtin .append, #[x, y], #[t, u]⟩, ty, pos, af, g⟩ a σ (fun v τ => Own τ k e 1 v n (List.replicate n T)) := by
  intro K Q hk'
  obtain ⟨i, hi, hi1, hi2, rfl⟩ := he.get
  have hx' : a.eval x = .slice none 0 0 := hx
  have hcap : grownCap σ.w n 0 e ≥ n := grownCap_ge σ.w n 0 e
  have hcm : grownCap σ.w n 0 e ≤ maxLen := grownCap_le_maxLen σ.w n 0 e hlen
  have hr : (Builtin.append_ #[t, u] ty #[.slice none 0 0, .int .i64 ((n : Nat) : Int)]).run P σ.w = .ok (.slice (some ⟨σ.w.heap.size, 0, none⟩) n (grownCap σ.w n 0 e)) (σ.w.drew.alloc (.cells (Builtin.zeroCells z.cells n ++ Builtin.zeroCells z.cells (grownCap σ.w n 0 e - n)) e)) := by
    have h0 : n ≠ 0 := by omega
    have hw : IntKind.i64.wrap ((n : Nat) : Int) = n := w64 (by omega) (by omega)
    have h1 : ¬ ((n : Nat) : Int) < 0 := by omega
    have h2 : ¬ (281474976710656 < ((n : Nat) : Int) * (i.bytes : Int)) := by
      have h3 : ((n * i.bytes : Nat) : Int) ≤ 281474976710656 := by omega
      rw [Int.natCast_mul] at h3; omega
    have h48 : ¬ (281474976710656 < Builtin.nextslicecap n 0 * i.bytes) := by rw [nextslicecap_zero (by omega)]; omega
    have h63 : ¬ (9223372036854775807 < (n : Int)) := by omega
    simp [Builtin.append_, run_underlying ht, run_underlying hu, sizeOf, typeInfo, zeroValue, hi, hi1, hi2, asInt, asIntOf, hw, h1, h2, h0, h48, h63, Question.forced, run_firstCells_none, newRow, grownCap]
  have hr' : (execOp a.eval ⟨d, .call ⟨.builtin .append, #[x, y], #[t, u]⟩, ty, pos, af, g⟩).run P σ.w = .ok (.value (.slice (some ⟨σ.w.heap.size, 0, none⟩) n (grownCap σ.w n 0 e))) (σ.w.drew.alloc (.cells (Builtin.zeroCells z.cells n ++ Builtin.zeroCells z.cells (grownCap σ.w n 0 e - n)) e)) := by
    simp only [execOp, resolve, Sem.run_bind, Sem.run_pure, Result.andThen_ok, invoke, List.map_toArray, List.map_cons, List.map_nil, builtin, hx', hy, hr]
  unfold Oper.wp
  rw [hr']
  have hstp : Stp 0 σ (σ.drew.mk' k (.cells (Builtin.zeroCells z.cells n ++ Builtin.zeroCells z.cells (grownCap σ.w n 0 e - n)) e)) := (Stp.drew σ).trans (Stp.mk' σ.drew k _)
  have hzl : (Builtin.zeroCells z.cells n).toList = List.replicate n z := by
    rw [hz]; unfold Builtin.zeroCells
    refine List.ext_getElem (by simp) fun j h1 h2 => ?_
    simp [Nat.mod_one]
  refine hk' _ _ hstp.of0 (Own.intro (us := List.replicate n z) (heap_alloc_new σ.w.drew _) (by show (if _ = _ then k else _) = k; rw [if_pos]; rfl) hcap hcm ?_ ?_ (by simp) ?_)
  · simp only [Array.size_append, size_zeroCells, hz]; simp; omega
  · simp only [Array.toList_append, hzl]
    rw [List.take_append_of_le_length (by simp)]; simp
  · intro j U u hU hu
    simp only [List.getElem?_replicate] at hU hu
    split at hU
    · cases hU; rw [if_pos (by assumption)] at hu; cases hu; exact hT _
    · cases hU
/-! ### Cuts of rows of structs -/
theorem flat_take {α : Type} {c : Nat} {F : α → List Ty} (hF : ∀ x, (F x).length = c) : ∀ (xs : List α) (h : Nat), (xs.flatMap F).take (h * c) = (xs.take h).flatMap F
  | [], h => by simp
  | x :: xs, 0 => by simp
  | x :: xs, h + 1 => by
    rw [List.flatMap_cons, List.take_succ_cons, List.flatMap_cons, List.take_append, hF, ← flat_take hF xs h, List.take_of_length_le (by rw [hF, Nat.succ_mul]; omega), Nat.succ_mul, Nat.add_sub_cancel]
theorem y_takec {α : Type} {c : Nat} {F : α → List Ty} {xs : List α} {x y : Operand} {t e : TypeId} {z : Value} {b : Nat} {k : IntKind} {l : Nat} (ht : P.underlying t = some (.slice e)) (he : Info P e z c b) (hx : At (Ty.lstc c F xs) σ a x) (hy : a.eval y = .int k l) (hl : l ≤ xs.length) (hF : ∀ x, (F x).length = c) :
    Yld P ⟨d, .slice t x none (some y) none, ty, pos, af, g⟩ a σ (Ty.lstc c F (xs.take l)).pr := (y_cut_h ht he hx hy hl).mono fun _ _ h => by
  rw [flat_take hF] at h
  show (Ty.sl c (xs.take l).length ((xs.take l).flatMap F)).has _ _
  rwa [show (xs.take l).length = l by simp [Nat.min_eq_left hl]]
/-! ### Signs of calls -/
theorem getD_fst (cs : List BCall) (j : Nat) : (cs.map (·.1)).getD j 0 = (cs.getD j D0).1 := by
  rw [List.getD_eq_getElem?_getD, List.getD_eq_getElem?_getD, List.getElem?_map]
  cases cs[j]? <;> rfl
theorem idxC_yes {cs : List BCall} {s : Int} {k : Nat} (hk : k < cs.length) (h : (cs.getD k D0).1 = s) (hno : ∀ j, j < k → (cs.getD j D0).1 ≠ s) : indexL (cs.map (·.1)) s = k :=
  indexL_yes (by rw [List.length_map]; exact hk) (by rw [getD_fst]; exact h.symm) (fun j hj => by rw [getD_fst]; exact hno j hj)
theorem idxC_no {cs : List BCall} {s : Int} (hno : ∀ j, j < cs.length → (cs.getD j D0).1 ≠ s) : indexL (cs.map (·.1)) s = -1 :=
  indexL_no (fun j hj => by rw [getD_fst]; rw [List.length_map] at hj; exact hno j hj)
theorem step_sign {n : Int} {L : Nat} {pre : List Int} {c : BCall} (h : signMay c.1 = false) : callStep n L pre c = 4 := by unfold callStep; rw [if_pos h]
theorem step_dbl {n : Int} {L : Nat} {pre : List Int} {c : BCall} (h : signMay c.1 = true) (h2 : c.1 ∈ pre) : callStep n L pre c = 8 := by unfold callStep; rw [if_neg (by rw [h]; simp), if_pos h2]
theorem step_long {n : Int} {L : Nat} {pre : List Int} {c : BCall} (h : signMay c.1 = true) (h2 : c.1 ∉ pre) (h3 : L < c.2.length) : callStep n L pre c = 1 := by unfold callStep; rw [if_neg (by rw [h]; simp), if_neg h2, if_pos h3]
theorem step_all {n : Int} {L : Nat} {pre : List Int} {c : BCall} (h : signMay c.1 = true) (h2 : c.1 ∉ pre) (h3 : ¬ L < c.2.length) : callStep n L pre c = allMay n c.2 := by unfold callStep; rw [if_neg (by rw [h]; simp), if_neg h2, if_neg h3]
theorem calls_at {n : Int} {L : Nat} {cs : List BCall} {i : Nat} {e v : Int} (h : callsTo n L ((cs.take i).map (·.1)) (cs.drop i) = e) (hi : i < cs.length) (hs : callStep n L ((cs.take i).map (·.1)) (cs.getD i D0) = v) (hv : v ≠ 0) : e = v := by
  rw [calls_stop h hi (by rw [hs]; exact hv), hs]
theorem callsMay_meth {nm : ByteArray} {n : Int} {l : List (List Int)} {cs : List BCall} (h : methMay nm n l ≠ 0) : callsMay nm n l cs = methMay nm n l := by unfold callsMay; rw [if_pos h]
theorem callsMay_cnt {nm : ByteArray} {n : Int} {l : List (List Int)} {cs : List BCall} (h : ¬ methMay nm n l ≠ 0) (h2 : cs.length < 1 ∨ 8 < cs.length) : callsMay nm n l cs = 1 := by unfold callsMay; rw [if_neg h, if_pos h2]
theorem callsMay_all {nm : ByteArray} {n : Int} {l : List (List Int)} {cs : List BCall} (h : ¬ methMay nm n l ≠ 0) (h2 : ¬ (cs.length < 1 ∨ 8 < cs.length)) : callsMay nm n l cs = callsTo n l.length [] cs := by unfold callsMay; rw [if_neg h, if_neg h2]
theorem flatten_le {α : Type} (xss : List (List α)) (k : Nat) : (xss.take k).flatten.length ≤ xss.flatten.length := by
  have h := congrArg (fun l : List (List α) => l.flatten.length) (List.take_append_drop k xss)
  simp only [List.flatten_append, List.length_append] at h
  omega
theorem flatten_succ {α : Type} {xss : List (List α)} {k : Nat} (h : k < xss.length) : (xss.take (k + 1)).flatten = (xss.take k).flatten ++ xss.getD k [] := by
  rw [take_snocD [] h, List.flatten_append]; simp
end Go.KL

/- Plain maths: is a touch true? -/
namespace Go.KL
def mapOf (rows : List (List Int)) : Nat → Int → Option Int
  | 0 => fun _ => none
  | i + 1 => fun x_ => if x_ = ((rankL (rows.getD i []) : Nat) : Int) then some ((i : Nat) : Int) else mapOf rows i x_
def prF (rows : List (List Int)) : Nat → Nat → Option (Nat × Int)
  | 0, _ => none
  | f + 1, i => match mapOf rows i ((rankL (rows.getD i []) : Nat) : Int) with | some j => some (i, j) | none => prF rows f (i + 1)
def prO (rows : List (List Int)) : Option (Nat × Int) := prF rows (rows.length - 1) 0
def rndB (rows : List (List Int)) : Bool := decide (((rankL (rows.getD (rows.length - 1) []) : Nat) : Int) = (0 : Int))
def agnL (rows : List (List Int)) : Nat := ((prO rows).map (·.1)).getD 0
def befL (rows : List (List Int)) : Int := ((prO rows).map (·.2)).getD 0
theorem pr_end {rows : List (List Int)} {f i : Nat} (h : prF rows f i = prO rows) (hf : f = 0) : prO rows = none := by subst hf; exact h.symm
theorem pr_hit {rows : List (List Int)} {f i : Nat} {j : Int} (h : prF rows f i = prO rows) (hf : 0 < f) (hm : mapOf rows i ((rankL (rows.getD i []) : Nat) : Int) = some j) : prO rows = some (i, j) := by
  obtain ⟨f, rfl⟩ : ∃ g, f = g + 1 := ⟨f - 1, by omega⟩
  rw [← h, prF, hm]
theorem pr_next {rows : List (List Int)} {f i : Nat} (h : prF rows f i = prO rows) (hf : 0 < f) (hm : mapOf rows i ((rankL (rows.getD i []) : Nat) : Int) = none) : prF rows (f - 1) (i + 1) = prO rows := by
  obtain ⟨f, rfl⟩ : ∃ g, f = g + 1 := ⟨f - 1, by omega⟩
  rw [← h, prF, hm]; rfl
theorem mapOf_some {rows : List (List Int)} {x : Int} {j : Int} : ∀ {i : Nat}, mapOf rows i x = some j → ∃ k : Nat, k < i ∧ j = k ∧ ((rankL (rows.getD k []) : Nat) : Int) = x
  | 0, h => by simp [mapOf] at h
  | i + 1, h => by
    replace h : (if x = ((rankL (rows.getD i []) : Nat) : Int) then some ((i : Nat) : Int) else mapOf rows i x) = some j := h
    by_cases e : x = ((rankL (rows.getD i []) : Nat) : Int)
    · rw [if_pos e] at h; cases h; exact ⟨i, by omega, rfl, e.symm⟩
    · rw [if_neg e] at h
      obtain ⟨k, h1, h2, h3⟩ := mapOf_some h
      exact ⟨k, by omega, h2, h3⟩
theorem mapOf_none {rows : List (List Int)} {x : Int} : ∀ {i : Nat}, mapOf rows i x = none ↔ ∀ k, k < i → ((rankL (rows.getD k []) : Nat) : Int) ≠ x
  | 0 => by simp [mapOf]
  | i + 1 => by
    show (if x = ((rankL (rows.getD i []) : Nat) : Int) then some ((i : Nat) : Int) else mapOf rows i x) = none ↔ _
    by_cases e : x = ((rankL (rows.getD i []) : Nat) : Int)
    · rw [if_pos e]
      constructor
      · intro h; cases h
      · intro h; exact absurd e.symm (h i (by omega))
    · rw [if_neg e, mapOf_none]
      constructor
      · intro h k hk
        by_cases e2 : k = i
        · subst e2; exact fun h => e h.symm
        · exact h k (by omega)
      · intro h k hk; exact h k (by omega)
def Sep (rows : List (List Int)) (n : Nat) : Prop := ∀ i j, i < j → j < n → rankL (rows.getD i []) ≠ rankL (rows.getD j [])
theorem prF_none {rows : List (List Int)} : ∀ {f i : Nat}, prF rows f i = none ↔ ∀ j, i ≤ j → j < i + f → ∀ k, k < j → rankL (rows.getD k []) ≠ rankL (rows.getD j [])
  | 0, i => by
    constructor
    · intro _ j h1 h2; omega
    · intro _; rfl
  | f + 1, i => by
    rw [prF]
    cases hm : mapOf rows i ((rankL (rows.getD i []) : Nat) : Int) with
    | some j =>
      simp only
      obtain ⟨k, h1, h2, h3⟩ := mapOf_some hm
      constructor
      · intro h; cases h
      · intro h; exact absurd (by omega) (h i (Nat.le_refl _) (by omega) k h1)
    | none =>
      simp only
      have h0 := mapOf_none.1 hm
      rw [prF_none]
      constructor
      · intro h j h1 h2 k hk
        by_cases e : j = i
        · subst e; have := h0 k hk; omega
        · exact h j (by omega) (by omega) k hk
      · intro h j h1 h2 k hk; exact h j (by omega) (by omega) k hk
theorem prO_none {rows : List (List Int)} : prO rows = none ↔ Sep rows (rows.length - 1) := by
  unfold prO
  rw [prF_none]
  constructor
  · intro h i j hij hj; exact h j (Nat.zero_le _) (by omega) i hij
  · intro h j _ hj k hk; exact h k j hk (by omega)
end Go.KL
namespace Go.KL
theorem getD_takeD {α : Type} (d : α) {l : List α} {m k : Nat} (h : k < m) : (l.take m).getD k d = l.getD k d := by
  rw [List.getD_eq_getElem?_getD, List.getD_eq_getElem?_getD, List.getElem?_take_of_lt h]
def tHds (n : Nat) (l : List (List Int)) (cs : List BCall) (leads : List Int) (k : Nat) : List (List Int) := (List.range k).map (tHd n l cs leads)
theorem tHds_len (n : Nat) (l : List (List Int)) (cs : List BCall) (leads : List Int) (k : Nat) : (tHds n l cs leads k).length = k := by simp [tHds]
theorem tHds_succ (n : Nat) (l : List (List Int)) (cs : List BCall) (leads : List Int) (k : Nat) : tHds n l cs leads (k + 1) = tHds n l cs leads k ++ [tHd n l cs leads k] := by simp [tHds, List.range_succ]
theorem tRows_head {nm : ByteArray} {n : Nat} {l : List (List Int)} {cs : List BCall} {leads : List Int} (h : CallsOk nm n l cs) (hi : inCalls cs leads) {k : Nat} (hk : k ≤ leads.length) : (tRows n l cs leads leads.length).getD (k * l.length) [] = tHd n l cs leads k := by
  by_cases e : k = leads.length
  · rw [e]; exact tRows_last h hi _ (Nat.le_refl _)
  · have := tRows_get h hi (Nat.le_refl _) (show k < leads.length by omega) (Nat.zero_le l.length)
    rw [Nat.add_zero] at this; exact this
end Go.KL

/- Plain maths: names by their runes. -/
namespace Go.KL
theorem run0_facts {s : ByteArray} (h1 : 1 ≤ s.size) : ((s.get! 0).toNat < 128 ∧ runM s 0 = (s.get! 0).toNat ∧ wid s 0 = 1) ∨ (runM s 0 ≠ 32 ∧ 128 ≤ (s.get! (wid s 0 - 1)).toNat) := by
  by_cases hb : (s.get! 0).toNat < 128
  · exact .inl ⟨hb, rn_low hb⟩
  · refine .inr ?_
    have bad : runM s 0 = -1 ∧ wid s 0 = 1 → runM s 0 ≠ 32 ∧ 128 ≤ (s.get! (wid s 0 - 1)).toNat := fun ⟨a, b⟩ => by rw [a, b]; exact ⟨by decide, by simpa using hb⟩
    by_cases h2 : nB (s.get! 0).toNat = 0 ∨ s.size < nB (s.get! 0).toNat
    · exact bad (rn_short hb h2 h1)
    · have h0 : nB (s.get! 0).toNat ≠ 0 := fun e => h2 (.inl e)
      have hs : nB (s.get! 0).toNat ≤ s.size := by omega
      obtain ⟨j, hj⟩ : ∃ j, j + 1 = nB (s.get! 0).toNat := ⟨nB (s.get! 0).toNat - 1, by omega⟩
      have hjc := nB_cases h0 hj
      by_cases hc : ∀ i, i < j → 128 ≤ (s.get! (i + 1)).toNat ∧ (s.get! (i + 1)).toNat < 192
      · by_cases hv : accR s (cB (s.get! 0).toNat) j < lowB (s.get! 0).toNat ∨ 1114111 < accR s (cB (s.get! 0).toNat) j ∨ (55296 ≤ accR s (cB (s.get! 0).toNat) j ∧ accR s (cB (s.get! 0).toNat) j < 57344)
        · exact bad (rn_bad h0 hs hj hc hv)
        · obtain ⟨a, b⟩ := rn_ok h0 hs hj hc hv
          have hlow : 128 ≤ lowB (s.get! 0).toNat := by
            rcases hjc with ⟨_, h⟩ | ⟨_, h⟩ | ⟨_, h⟩
            · rw [(nb2 h).2.2]; omega
            · rw [(nb3 h).2.2]; omega
            · rw [(nb4 h).2.2]; omega
          rw [a, b]
          refine ⟨by omega, ?_⟩
          have := hc (j - 1) (by omega)
          rw [show nB (s.get! 0).toNat - 1 = j - 1 + 1 by omega]; exact this.1
      · obtain ⟨i, hi⟩ := Classical.not_forall.1 hc
        obtain ⟨hi1, hi2⟩ := Classical.not_imp.1 hi
        exact bad (rn_cont (j := i) (by omega) (by omega))
theorem run_facts {s : ByteArray} {p : Nat} (h : p < s.size) : ((s.get! p).toNat < 128 ∧ runM s p = (s.get! p).toNat ∧ wid s p = 1) ∨ (runM s p ≠ 32 ∧ 128 ≤ (s.get! (p + (wid s p - 1))).toNat) := by
  have h0 := run0_facts (s := s.extract p s.size) (by rw [ByteArray.size_extract]; omega)
  rwa [(ext_run s p).1, (ext_run s p).2, get_ext, get_ext, Nat.add_zero] at h0
theorem letter_m (s : ByteArray) (p : Nat) : letterB (runM s p) = letterB ((run1 s p : Nat) : Int) := by
  rcases run_m s p with h | ⟨h1, h2⟩
  · rw [h]
  · rw [h1, h2]; rfl
theorem runs_all (s : ByteArray) : ∀ (f p : Nat), (runsF s f p).all letterB = (runesF s f p).all (fun (c : Nat) => letterB (c : Int)) ∧ (runsF s f p).length = (runesF s f p).length
  | 0, p => ⟨rfl, rfl⟩
  | f + 1, p => by
    rw [runsF, runesF]
    obtain ⟨h1, h2⟩ := runs_all s f (p + wid s p)
    split
    · exact ⟨by rw [List.all_cons, List.all_cons, h1, letter_m], by rw [List.length_cons, List.length_cons, h2]⟩
    · exact ⟨rfl, rfl⟩
theorem runs_last {s : ByteArray} : ∀ (f p : Nat), p < s.size → s.size ≤ f + p → ((runsF s f p).getD ((runsF s f p).length - 1) 0 = 32 ↔ (s.get! (s.size - 1)).toNat = 32)
  | 0, p, h1, h2 => by omega
  | f + 1, p, h1, h2 => by
    have hw := wid_pos s p
    have hi := wid_in h1
    rw [runsF, if_pos h1]
    by_cases e : p + wid s p < s.size
    · have ih := runs_last f (p + wid s p) e (by omega)
      have hne : 1 ≤ (runsF s f (p + wid s p)).length := by
        rw [runsF_cons e (by omega), List.length_cons]; omega
      rw [List.length_cons, Nat.add_sub_cancel]
      obtain ⟨m, hm⟩ : ∃ m, (runsF s f (p + wid s p)).length = m + 1 := ⟨_, (Nat.sub_add_cancel hne).symm⟩
      rw [hm, List.getD_cons_succ]
      rw [hm, Nat.add_sub_cancel] at ih
      exact ih
    · rw [runsF_end (by omega)]
      show runM s p = 32 ↔ _
      rcases run_facts h1 with ⟨_, h4, h5⟩ | ⟨h3, h4⟩
      · rw [h4, show s.size - 1 = p by omega]; omega
      · rw [show p + (wid s p - 1) = s.size - 1 by omega] at h4
        constructor
        · intro h; exact absurd h h3
        · intro h; omega
def nameI (l : List Int) : Bool := decide (1 ≤ l.length ∧ l.length ≤ 20 ∧ l.getD 0 0 ≠ 32 ∧ l.getD (l.length - 1) 0 ≠ 32) && l.all letterB
theorem name_eq (s : ByteArray) : nameI (runsL s) = nameL s := by
  obtain ⟨h1, h2⟩ := runs_all s s.size 0
  unfold nameI nameL runsL runesL
  rw [h1, ← h2, Bool.and_comm]
  congr 1
  by_cases hz : s.size = 0
  · rw [runsF_end (s := s) (f := s.size) (p := 0) (by omega)]
    simp
  · have hl := runs_last (s := s) s.size 0 (by omega) (by omega)
    have hf : (runsF s s.size 0).getD 0 0 = 32 ↔ (s.get! 0).toNat = 32 := by
      rw [runsF_cons (s := s) (f := s.size) (p := 0) (by omega) (by omega), List.getD_cons_zero]
      rcases run_facts (s := s) (p := 0) (by omega) with ⟨_, h4, _⟩ | ⟨h3, h4⟩
      · rw [h4]; omega
      · constructor
        · intro h; exact absurd h h3
        · intro h
          have := (rn_low (s := s) (by omega)).1
          rw [h] at this; exact absurd this h3
    rw [Bool.eq_iff_iff]
    simp only [Bool.and_eq_true, decide_eq_true_eq]
    constructor
    · rintro ⟨a, b, c, d⟩
      exact ⟨⟨⟨by omega, by omega⟩, fun h => c (hf.2 (by omega))⟩, fun h => d (hl.2 (by omega))⟩
    · rintro ⟨⟨⟨a, b⟩, c⟩, d⟩
      exact ⟨by omega, by omega, fun h => c (by have := hf.1 h; omega), fun h => d (by have := hl.1 h; omega)⟩
theorem name_bad {l : List Int} (h : l.length < 1 ∨ 20 < l.length ∨ l.getD 0 0 = 32 ∨ l.getD (l.length - 1) 0 = 32) : nameI l = false := by
  unfold nameI
  rw [decide_eq_false (by omega), Bool.false_and]
theorem name_let {l : List Int} {i : Nat} (hi : i < l.length) (h : letterB (l.getD i 0) = false) : nameI l = false := by
  unfold nameI
  rw [Bool.and_eq_false_iff]; right
  rw [List.all_eq_false]
  exact ⟨_, mem_getDD 0 hi, by rw [h]; exact Bool.false_ne_true⟩
theorem name_good {l : List Int} (h : ¬ (l.length < 1 ∨ 20 < l.length ∨ l.getD 0 0 = 32 ∨ l.getD (l.length - 1) 0 = 32)) (h2 : ∀ i, i < l.length → letterB (l.getD i 0) = true) : nameI l = true := by
  unfold nameI
  rw [decide_eq_true (by omega), Bool.true_and, List.all_eq_true]
  intro x hx
  obtain ⟨i, hi, rfl⟩ := List.getElem_of_mem hx
  have := h2 i hi
  rw [List.getD_eq_getElem?_getD, List.getElem?_eq_getElem hi] at this; exact this
theorem pre_in {cs : List BCall} {i k : Nat} {s : Int} (hi : i ≤ cs.length) (hk : k < i) (h : (cs.getD k D0).1 = s) : s ∈ (cs.take i).map (·.1) := by
  rw [← h]
  refine List.mem_map.2 ⟨_, ?_, rfl⟩
  have := mem_getDD D0 (l := cs.take i) (k := k) (by rw [List.length_take]; omega)
  rwa [getD_takeD D0 hk] at this
theorem pre_out {cs : List BCall} {i : Nat} {s : Int} (hno : ∀ j, j < i → (cs.getD j D0).1 ≠ s) : s ∉ (cs.take i).map (·.1) := fun h => by
  obtain ⟨c, hc, e⟩ := List.mem_map.1 h
  obtain ⟨j, hj, hj2⟩ := List.getElem_of_mem hc
  have hj' : j < i := by rw [List.length_take] at hj; omega
  refine hno j hj' ?_
  rw [← getD_takeD D0 hj', List.getD_eq_getElem?_getD, List.getElem?_eq_getElem hj, Option.getD_some, hj2]; exact e
end Go.KL

/- Literals of structs in rows of one's own. -/
namespace Go.KL
open Go.RowKit
variable {P : Program} {d : Option Tmp} {ty : TypeId} {pos : String} {af : Array Edge} {g : Option (Nat × Bool)} {a : Act} {σ : GW}
theorem agg_cell {ts : List Ty} {v : Value} (j : Nat) {T : Ty} (U : Ty) (h : (Ty.agg ts).has σ v) (hj : ts[j]? = some T) (hT : ∀ σ v, T.has σ v → U.has σ v) : (Ty.agg (ts.set j U)).has σ v := by
  obtain ⟨cs, e1, h1, h2⟩ := h
  refine ⟨cs, e1, by simpa using h1, fun i V u hV hu => ?_⟩
  rw [List.getElem?_set] at hV
  by_cases e : j = i
  · subst e
    rw [if_pos rfl] at hV
    split at hV
    · cases hV; exact hT _ _ (h2 j T u hj hu)
    · cases hV
  · rw [if_neg e] at hV
    exact h2 i V u hV hu
theorem nil_sl0 {c : Nat} {σ : GW} {v : Value} (h : (Ty.val (.slice none 0 0)).has σ v) : (Ty.sl c 0 []).has σ v := by
  have e : v = .slice none 0 0 := h
  rw [e]; exact sl_nil
theorem y_lit1c {k c : Nat} {x : Operand} {t e : TypeId} {ts : List Ty} {z : Value} {b : Nat} (ht : P.underlying t = some (.slice e)) (he : Info P e z c b) (hz : z.cells.size = c) (hc : 0 < c) (hc2 : c ≤ 16777216) (hl : ts.length = c) (hx : At (.agg ts) σ a x) :
    Yld P ⟨d, .buildSlice t 1 #[(0, x)], ty, pos, af, g⟩ a σ (Pr.own k e c 1 ts) := by
  obtain ⟨cs, e1, hcs, hcl⟩ := hx
  have hsz : cs.size = c := by omega
  intro K Q hk
  have hr : (execOp a.eval ⟨d, .buildSlice t 1 #[(0, x)], ty, pos, af, g⟩).run P σ.w = .ok (.value (.slice (some ⟨σ.w.heap.size, 0, none⟩) 1 1)) (σ.w.alloc (.cells cs e)) := by
    simp only [execOp, List.map_toArray, List.map_cons, List.map_nil, e1]
    have hw : ∀ q : Array Value, q.size = c → cs.zipIdx.foldl (fun (q : Array Value) (p : Value × Nat) => q.setIfInBounds p.2 p.1) q = cs := fun q hq => fold_whole (by omega)
    have h1 : ¬ c > 16777216 := by omega
    have h2 : ¬ c = 0 := by omega
    simp [Instr.buildSlice, run_underlying ht, he.size, he.zero, Instr.fill, Value.cells, hsz, h2, newRow, newObj, Sem.run, Sem.run_bind, show ¬ 16777216 < c by omega]
    generalize hq : Array.map _ (Array.range c) = q
    have hqs : q.size = c := by rw [← hq]; simp
    have h5 := hw q hqs
    simp only [Array.size_zipIdx] at h5
    first | rw [h5] | (rw [hsz] at h5; rw [h5])
  unfold Oper.wp
  rw [hr]
  refine hk _ (σ.mk' k (.cells cs e)) (Stp.mk' σ k _) (Own.intro (us := cs.toList) (heap_alloc_new σ.w _) (by show (if _ = _ then k else _) = k; rw [if_pos rfl]) (Nat.le_refl _) (by decide) (by omega) ?_ (by simpa using hcs) ?_)
  · rw [List.take_of_length_le (by simp; omega)]
  · intro j U u hU hu
    exact U.up (Stp.mk' σ k _).le0 (hcl j U u hU (by simpa using hu))
theorem wrap_i32 {c : Int} (h0 : -2147483648 ≤ c) (h1 : c < 2147483648) : IntKind.i32.wrap c = c := by
  simp [IntKind.wrap, IntKind.bits, IntKind.signed]; omega
def cOf (raw : List Int) (n m : Nat) : List BCall := (112, []) :: (List.range m).map fun i => (((97 + (i + 1) : Nat) : Int), changesOf raw (11 * (i + 1)) n 1)
theorem cOf_len (raw : List Int) (n m : Nat) : (cOf raw n m).length = m + 1 := by simp [cOf]
theorem cOf_succ (raw : List Int) (n m : Nat) : cOf raw n (m + 1) = cOf raw n m ++ [(((97 + (m + 1) : Nat) : Int), changesOf raw (11 * (m + 1)) n 1)] := by
  unfold cOf; rw [List.range_succ, List.map_append]; rfl
end Go.KL

/- Structs that are built of structs; 'append' of what is owned. -/
namespace Go.KL
open Go.RowKit
variable {P : Program}
variable {d : Option Tmp} {ty : TypeId} {pos : String} {af : Array Edge} {g : Option (Nat × Bool)} {a : Act} {σ : GW}
/-! ### Structs of structs -/
end Go.KL

/- Plain maths: touches that are searched. -/
namespace Go.KL
structure Qst where
  met : Nat
  found : List (List Int)
  full : Bool
section
variable (n : Nat) (l : List (List Int)) (cs : List BCall) (leads many : Nat)
def trueP (p : List Int) : Bool := (prO (tRows n l cs p p.length)).isNone
end
section
variable {n : Nat} {l : List (List Int)} {cs : List BCall} {leads many : Nat}
/-! ### One lead more -/
/-! ### What was met -/
def seenS (S : List Int) : Int → Option Int := fun x_ => if x_ ∈ S then some 1 else none
theorem seenS_cons (S : List Int) (a : Int) : (fun x_ => if x_ = a then some (1 : Int) else seenS S x_) = seenS (a :: S) := by
  funext x; unfold seenS
  by_cases e : x = a
  · simp [e]
  · simp [e]
abbrev rkI (r : List Int) : Int := ((rankL r : Nat) : Int)
def addS : List Int → List (List Int) → List Int
  | S, [] => S
  | S, r :: rs => addS (rkI r :: S) rs
theorem addS_snoc : ∀ (rows : List (List Int)) (S : List Int) (r : List Int), addS S (rows ++ [r]) = rkI r :: addS S rows
  | [], _, _ => rfl
  | x :: rows, S, r => by rw [List.cons_append, addS, addS_snoc rows, addS]
theorem mem_addS : ∀ {rows : List (List Int)} {S : List Int} {x : Int}, x ∈ addS S rows ↔ x ∈ S ∨ ∃ r ∈ rows, rkI r = x
  | [], S, x => by simp [addS]
  | r :: rows, S, x => by
    rw [addS, mem_addS, List.mem_cons]
    constructor
    · rintro ((h | h) | ⟨r', h1, h2⟩)
      · exact .inr ⟨r, by simp, h.symm⟩
      · exact .inl h
      · exact .inr ⟨r', by simp [h1], h2⟩
    · rintro (h | ⟨r', h1, h2⟩)
      · exact .inl (.inr h)
      · rcases List.mem_cons.1 h1 with e | e
        · subst e; exact .inl (.inl h2.symm)
        · exact .inr ⟨r', e, h2⟩
variable {nm : ByteArray}
theorem trueP_sep (h : CallsOk nm n l cs) {p : List Int} (hi : inCalls cs p) : trueP n l cs p = true ↔ Sep (tRows n l cs p p.length) (p.length * l.length) := by
  unfold trueP
  rw [Option.isNone_iff_eq_none, prO_none, tRows_len h hi _ (Nat.le_refl _), Nat.add_sub_cancel]
/-! ### What is answered -/
end
end Go.KL
namespace Go.KL
section
variable {n : Nat} {l : List (List Int)} {cs : List BCall} {leads many f k : Nat} {path : List Int} {s0 s : Qst}
end
end Go.KL
namespace Go.KL
section
variable {n : Nat} {l : List (List Int)} {cs : List BCall} {leads many f k : Nat} {path : List Int} {s0 s : Qst} {nm : ByteArray}
end
end Go.KL

/- A callee that answers with what is new, called with what is owned. -/
namespace Go.KL
open Go.RowKit
variable {P : Program}
variable {d : Option Tmp} {ty : TypeId} {pos : String} {af : Array Edge} {g : Option (Nat × Bool)} {a : Act} {σ : GW}
end Go.KL

/- A region in whatever order, one operation of which writes: the others neither read nor write what it writes. -/
namespace Go.KL
open Go.RowKit
variable {P : Program}

def Ty.any : Ty := ⟨fun _ _ => True, fun _ h => h⟩

def Obl3 (P : Program) (N : Nat) (W : List Nat) (ops : Array Oper) (Φ : Nat → Ty) (a0 : Act) (σ0 : GW) (i : Nat) (o : Oper) : Prop :=
  ∀ a σ, StpL W σ0 σ → Ok N a → (∀ t, free ops i t = true → a.eval (.tmp t) = a0.eval (.tmp t)) → Deps ops (fun i => (Φ i).pr) a σ o.after.toList (Run P ops o a σ (Φ i).pr)
def OblW (P : Program) (N : Nat) (W : List Nat) (B : Pr) (ops : Array Oper) (Φ : Nat → Ty) (a0 : Act) (σ0 : GW) (i : Nat) (o : Oper) : Prop :=
  ∀ a σ, Stp 0 σ0 σ → Ok N a → (∀ t, free ops i t = true → a.eval (.tmp t) = a0.eval (.tmp t)) → Deps ops (fun i => (Φ i).pr) a σ o.after.toList (YldL W P o a σ (fun v τ => B.has τ v))
def Obls3 (P : Program) (p N : Nat) (W : List Nat) (B : Pr) (ops : Array Oper) (Φ : Nat → Ty) (a0 : Act) (σ0 : GW) : Nat → List Oper → Prop
  | _, [] => True
  | i, o :: l => (if i = p then OblW P N W B ops Φ a0 σ0 i o else Obl3 P N W ops Φ a0 σ0 i o) ∧ Obls3 P p N W B ops Φ a0 σ0 (i + 1) l
theorem Obls3.get {p N : Nat} {W : List Nat} {B : Pr} {ops : Array Oper} {Φ : Nat → Ty} {a0 : Act} {σ0 : GW} : ∀ (l : List Oper) (k : Nat), Obls3 P p N W B ops Φ a0 σ0 k l → ∀ j o, l[j]? = some o → (if k + j = p then OblW P N W B ops Φ a0 σ0 (k + j) o else Obl3 P N W ops Φ a0 σ0 (k + j) o)
  | [], _, _, j, o, h => by simp at h
  | x :: l, k, h, 0, o, hj => by simp at hj; subst hj; exact h.1
  | x :: l, k, h, j + 1, o, hj => by
    have := Obls3.get l (k + 1) h.2 j o (by simpa using hj)
    rwa [show k + 1 + j = k + (j + 1) by omega] at this
theorem Obls3.up {p N : Nat} {W : List Nat} {B : Pr} {ops : Array Oper} {Φ : Nat → Ty} {a0 : Act} {σ0 σ1 : GW} (hs : Stp 0 σ0 σ1) : ∀ (l : List Oper) (k : Nat), Obls3 P p N W B ops Φ a0 σ0 k l → Obls3 P p N W B ops Φ a0 σ1 k l
  | [], _, _ => trivial
  | x :: l, k, h => by
    refine ⟨?_, Obls3.up hs l (k + 1) h.2⟩
    have h1 := h.1
    split at h1
    · rename_i e; rw [if_pos e]; exact fun a σ hs' => h1 a σ (hs.trans hs')
    · rename_i e; rw [if_neg e]; exact fun a σ hs' => h1 a σ (hs.toL0.trans hs')

structure Half3 (m d N : Nat) (W : List Nat) (B : Pr) (ops : Array Oper) (Φ : Nat → Ty) (a0 : Act) (σ0 : GW) (a : Act) (σ : GW) : Prop where
  stp : StpL W σ0 σ
  ok : Ok N a
  done : ∀ j, j < m → rd ops (fun i => (Φ i).pr) j a σ
  donep : B.has σ (a.eval (.tmp d))
  same : ∀ t, ((ops.toList.take m).all fun o => o.dst != some t) = true → a.eval (.tmp t) = a0.eval (.tmp t)

theorem Half3.kt {m d N : Nat} {W : List Nat} {B : Pr} {ops : Array Oper} {Φ : Nat → Ty} {a0 a : Act} {σ0 σ : GW} {T : Ty} {t : Nat} (h : Half3 m d N W B ops Φ a0 σ0 a σ) (h1 : 1 ∉ W) (k : T.has σ0 (a0.eval (.tmp t))) (ht : ((ops.toList.take m).all fun o => o.dst != some t) = true) : T.has σ (a.eval (.tmp t)) := by
  rw [h.same t ht]; exact T.up (h.stp.le h1) k
end Go.KL

/- A region in whatever order, of which one operation stores into what another one has made. -/
namespace Go.KL
open Go.RowKit
variable {P : Program}

/-! ### The operation that writes is a store into what an operation of the region has made -/
def OblQ (P : Program) (N : Nat) (A : Pr) (ops : Array Oper) (Φ : Nat → Ty) (a0 : Act) (σ0 : GW) (i : Nat) (o : Oper) : Prop :=
  ∀ a σ, Stp 0 σ0 σ → Ok N a → (∀ t, free ops i t = true → a.eval (.tmp t) = a0.eval (.tmp t)) → Deps ops (fun i => (Φ i).pr) a σ o.after.toList (Run P ops o a σ A)
def OblS (P : Program) (N d : Nat) (W : List Nat) (A B : Pr) (ops : Array Oper) (Φ : Nat → Ty) (a0 : Act) (σ0 : GW) (i : Nat) (o : Oper) : Prop :=
  ∀ a σ, Stp 0 σ0 σ → Ok N a → (∀ t, free ops i t = true → a.eval (.tmp t) = a0.eval (.tmp t)) → A.has σ (a.eval (.tmp d)) → Deps ops (fun i => (Φ i).pr) a σ o.after.toList (YldL W P o a σ (fun _ τ => B.has τ (a.eval (.tmp d))))
def Obls4 (P : Program) (p q d N : Nat) (W : List Nat) (A B : Pr) (ops : Array Oper) (Φ : Nat → Ty) (a0 : Act) (σ0 : GW) : Nat → List Oper → Prop
  | _, [] => True
  | i, o :: l => (if i = p then OblS P N d W A B ops Φ a0 σ0 i o else if i = q then OblQ P N A ops Φ a0 σ0 i o else Obl3 P N W ops Φ a0 σ0 i o) ∧ Obls4 P p q d N W A B ops Φ a0 σ0 (i + 1) l
theorem Obls4.get {p q d N : Nat} {W : List Nat} {A B : Pr} {ops : Array Oper} {Φ : Nat → Ty} {a0 : Act} {σ0 : GW} : ∀ (l : List Oper) (k : Nat), Obls4 P p q d N W A B ops Φ a0 σ0 k l → ∀ j o, l[j]? = some o →
    (if k + j = p then OblS P N d W A B ops Φ a0 σ0 (k + j) o else if k + j = q then OblQ P N A ops Φ a0 σ0 (k + j) o else Obl3 P N W ops Φ a0 σ0 (k + j) o)
  | [], _, _, j, o, h => by simp at h
  | x :: l, k, h, 0, o, hj => by simp at hj; subst hj; exact h.1
  | x :: l, k, h, j + 1, o, hj => by
    have := Obls4.get l (k + 1) h.2 j o (by simpa using hj)
    rwa [show k + 1 + j = k + (j + 1) by omega] at this
theorem Obls4.up {p q d N : Nat} {W : List Nat} {A B : Pr} {ops : Array Oper} {Φ : Nat → Ty} {a0 : Act} {σ0 σ1 : GW} (hs : Stp 0 σ0 σ1) : ∀ (l : List Oper) (k : Nat), Obls4 P p q d N W A B ops Φ a0 σ0 k l → Obls4 P p q d N W A B ops Φ a0 σ1 k l
  | [], _, _ => trivial
  | x :: l, k, h => by
    refine ⟨?_, Obls4.up hs l (k + 1) h.2⟩
    have h1 := h.1
    split at h1
    · rename_i e; rw [if_pos e]; exact fun a σ hs' => h1 a σ (hs.trans hs')
    · rename_i e
      rw [if_neg e]
      split at h1
      · rename_i e; rw [if_pos e]; exact fun a σ hs' => h1 a σ (hs.trans hs')
      · rename_i e; rw [if_neg e]; exact fun a σ hs' => h1 a σ (hs.toL0.trans hs')

end Go.KL

/- What a search finds: all, in order. -/
namespace Go.KL
section
variable {nm : ByteArray} {n : Nat} {l : List (List Int)} {cs : List BCall} {leads many : Nat}
end
theorem pair_getD {L : List (List Int)} {R : List Int → List Int → Prop} (h : L.Pairwise R) {i j : Nat} (hij : i < j) (hj : j < L.length) : R (L.getD i []) (L.getD j []) := by
  have := List.pairwise_iff_getElem.1 h i j (by omega) hj hij
  simpa [show i < L.length by omega, hj] using this
theorem behind {L : List (List Int)} (h : L.Pairwise fun a b => belowL a b = true) {m : Nat} (hm : 1 ≤ m) {g : List Int} (hg : g ∈ L) (hn : g ∉ L.take m) : (L.take m).length = m ∧ belowL ((L.take m).getD (m - 1) []) g = true := by
  have hg2 : g ∈ L.drop m := by
    rw [← List.take_append_drop m L, List.mem_append] at hg
    exact hg.resolve_left hn
  obtain ⟨j, hj, rfl⟩ := List.getElem_of_mem hg2
  rw [List.length_drop] at hj
  have hlen : (L.take m).length = m := by rw [List.length_take]; omega
  refine ⟨hlen, ?_⟩
  have := pair_getD h (i := m - 1) (j := m + j) (by omega) (by omega)
  rw [List.getElem_drop]
  rw [getD_takeD [] (by omega)]
  simpa [show m + j < L.length by omega] using this
/-! ### What is made of raw numbers -/
end Go.KL

/- Rows that share an array: 'append' leaves alone what is ahead. -/
namespace Go.KL
open Go.RowKit
variable {P : Program}

variable {d : Option Tmp} {ty : TypeId} {pos : String} {af : Array Edge} {g : Option (Nat × Bool)} {a : Act} {σ : GW}

end Go.KL

/- 'append' to a fresh empty row, in any order with what stands beside it. -/
namespace Go.KL
open Go.RowKit
variable {P : Program}

theorem own_append0 {σ : GW} {k : Nat} {t ty e : TypeId} {z : Value} {c by_ : Nat} {v src : Value} {n m : Nat} {ts us : List Ty} (hk : 2 ≤ k) (ht : P.underlying t = some (.slice e)) (he : Info P e z c by_) (hz : z.cells.size = c) (hc : 0 < c)
    (h : Own σ k e c v n ts) (hx : (Ty.sl c m us).has σ src) (h1 : ∀ U, U ∈ us → One U) (hlen : n + m ≤ 9223372036854775807) (hbytes : (n + m) * by_ ≤ 140737488355328) (hv0 : ∃ ad, v = .slice ad n 0) :
    ∃ v' τ, (Builtin.append_ #[t, t] ty #[v, src]).run P σ.w = .ok v' τ.w ∧ Stp 0 σ τ ∧ Own τ k e c v' (n + m) (ts ++ us) := by
  have h0 := h
  obtain ⟨vs, r1, r2, r3, r4⟩ := h
  obtain ⟨ad, cap0, b, o, rfl, hcap0, hl, hs, hcl⟩ := hx
  obtain ⟨i, hi, hi1, rfl, rfl⟩ := he.get
  obtain ⟨ws, w1, w2, w3⟩ := sl_news hcl
  have hone : ∀ u ∈ ws, u.oneCell' = true := fun u hu => by
    obtain ⟨j, hj⟩ := List.mem_iff_getElem?.1 hu
    obtain ⟨T, hT⟩ : ∃ T, us[j]? = some T := ⟨us[j]'(by rw [← w1]; exact (List.getElem?_eq_some_iff.1 hj).1), by simp⟩
    exact h1 T (List.mem_of_getElem? hT) σ u (w3 j T u hT hj)
  have hlw : ws.length = m * i.size := by rw [w1]; exact hl
  have hl' : (vs ++ ws).length = (ts ++ us).length := by simp [r2, w1]
  -- a new array
  have new : ∀ (old : Nat) (τw : World), old < n + m → τw = σ.w.drew.alloc (.cells (vs.toArray ++ ws.toArray ++ Builtin.zeroCells z.cells (grownCap σ.w (n + m) old e - (n + m))) e) →
      ∃ τ : GW, τ.w = τw ∧ Stp 0 σ τ ∧ Own τ k e i.size (.slice (some ⟨σ.w.heap.size, 0, none⟩) (n + m) (grownCap σ.w (n + m) old e)) (n + m) (ts ++ us) := by
    intro old τw _ hτ
    subst hτ
    have hge := grownCap_ge σ.w (n + m) old e
    have hcm : grownCap σ.w (n + m) old e ≤ maxLen := grownCap_le_maxLen σ.w (n + m) old e hlen
    have hstp : Stp 0 σ (σ.drew.mk' k (.cells (vs.toArray ++ ws.toArray ++ Builtin.zeroCells z.cells (grownCap σ.w (n + m) old e - (n + m))) e)) := (Stp.drew σ).trans (Stp.mk' σ.drew k _)
    refine ⟨_, rfl, hstp, Own.intro (us := vs ++ ws) (heap_alloc_new σ.w.drew _) (by show (if _ = _ then k else _) = k; rw [if_pos]; rfl) hge hcm ?_ ?_ hl' ?_⟩
    · simp only [Array.size_append, List.size_toArray, size_zeroCells, hz, r1.1, hlw, ← Nat.add_mul]
      congr 1; omega
    · simp only [Array.toList_append, List.append_assoc]
      rw [← List.append_assoc, show (n + m) * i.size = (vs ++ ws).length by rw [List.length_append, r1.1, hlw, Nat.add_mul]]
      exact List.take_left
    · exact typed_append r2 (fun j T u hT hu => T.up hstp.le0 (r3 j T u hT hu)) (fun j T u hT hu => T.up hstp.le0 (w3 j T u hT hu))
  rcases r1.2 with ⟨rfl, rfl⟩ | ⟨g, cap, cur, rfl, _, hg, hn, hm, hcs, htk⟩
  · have hvs : vs = [] := List.eq_nil_of_length_eq_zero (by rw [r1.1]; simp)
    by_cases hm0 : m = 0
    · subst hm0
      have hus : us = [] := List.eq_nil_of_length_eq_zero (by rw [hl]; simp)
      subst hus
      refine ⟨.slice none 0 0, σ, ?_, Stp.refl _ _, by simpa using h0⟩
      cases ad <;> simp [Builtin.append_, run_underlying ht, sizeOf, typeInfo, hi, Builtin.lenOf, Builtin.firstCells, loadCells, loadCellsFrom]
    · have hus : us ≠ [] := by
        intro e; subst e
        have : 0 < m * i.size := Nat.mul_pos (by omega) hc
        simp only [List.length_nil] at hl
        omega
      obtain ⟨rfl, hst⟩ := hs.resolve_left hus
      have hr := run_append_nil (P := P) σ.w t ty e i z ht hi hi1 ⟨b, o, none⟩ m cap0 ws hlw (fun j u hj => by rw [Addr.add_lit]; exact w2 j u hj) (by omega) (by omega) (by simp only [Nat.zero_add] at hbytes; omega)
      obtain ⟨τ, e1, e2, e3⟩ := new 0 _ (by omega) rfl
      simp only [Nat.zero_add] at e1 e3 ⊢
      exact ⟨_, τ, by rw [hr, e1, hvs]; simp, e2, e3⟩
  · have hlt : g < σ.w.heap.size := (Array.getElem?_eq_some_iff.1 hg).1
    have hgk := r4 g rfl
    by_cases hnone : ad = none
    · subst hnone
      have hus : us = [] := hs.resolve_right (fun h => by cases h.1)
      have hm0 : m = 0 := by
        subst hus
        rcases Nat.eq_zero_or_pos m with h | h
        · exact h
        · have : 0 < m * i.size := Nat.mul_pos h hc
          simp only [List.length_nil] at hl
          omega
      subst hm0; subst hus
      refine ⟨_, σ, ?_, Stp.refl _ _, by simpa using h0⟩
      simp [Builtin.append_, run_underlying ht, sizeOf, typeInfo, hi, Builtin.lenOf, Builtin.firstCells, hn, storeCells, loadCells]
    · obtain ⟨ad', rfl⟩ := Option.ne_none_iff_exists'.1 hnone
      have hnews : ∀ (j : Nat) (u : Value), ws[j]? = some u → σ.w.cell? (ad'.add j) = some u := fun j u hj => by
        rcases hs with rfl | ⟨he', _⟩
        · have : ws = [] := List.eq_nil_of_length_eq_zero w1
          subst this; simp at hj
        · cases he'; rw [Addr.add_lit]; exact w2 j u hj
      have hcap : cap = 0 := by
        obtain ⟨ad0, e0⟩ := hv0
        cases e0; rfl
      by_cases hroom : n + m ≤ cap
      · have hm0 : m = 0 := by omega
        have hn0 : n = 0 := by omega
        have hfit : n * i.size + ws.length ≤ cur.size := by rw [hlw, hcs, ← Nat.add_mul]; exact Nat.mul_le_mul_right _ hroom
        have hr := run_append_room (P := P) σ.w t ty e i ht hi g n cap cur hg ad' m cap0 ws hlw hnews hone hroom hfit
        have hc0 : cur.size = 0 := by rw [hcs, hcap, Nat.zero_mul]
        have hw0 : ws = [] := List.eq_nil_of_length_eq_zero (by rw [hlw, hm0, Nat.zero_mul])
        have hcur : (cur.toList.take (n * i.size) ++ ws ++ cur.toList.drop (n * i.size + ws.length)).toArray = cur := by
          have : cur = #[] := Array.eq_empty_of_size_eq_zero hc0
          subst this; subst hw0; simp
        rw [hcur] at hr
        have hstp : Stp 0 σ (σ.setRow g cur) := ⟨rfl, rfl, rfl, Nat.le_refl _, by simp [GW.setRow, World.setRow], fun b hb _ => by
          by_cases e : b = g
          · subst e; rw [hg]; exact setRow_heap σ.w b cur cur _ (0, 0) hg
          · exact setRow_other σ.w g b cur e, fun _ _ _ => rfl⟩
        refine ⟨_, _, hr, hstp, Own.intro (us := vs ++ ws) (setRow_heap σ.w g cur _ e (0, 0) hg) hgk hroom hm hcs ?_ hl' ?_⟩
        · rw [hw0, List.append_nil, hm0, Nat.add_zero]; exact htk
        · exact typed_append r2 (fun j T u hT hu => T.up hstp.le0 (r3 j T u hT hu)) (fun j T u hT hu => T.up hstp.le0 (w3 j T u hT hu))
      · have holds : ∀ (j : Nat) (u : Value), vs[j]? = some u → σ.w.cell? ((⟨g, 0, none⟩ : Addr).add j) = some u := r1.cells (g := g) rfl
        have hr := run_append_grow (P := P) σ.w t ty e i z ht hi hi1 ⟨g, 0, none⟩ n cap vs r1.1 holds ad' m cap0 ws hlw hnews (by omega) (by omega) (growslice_fits (by omega) hbytes)
        obtain ⟨τ, e1, e2, e3⟩ := new cap _ (by omega) rfl
        exact ⟨_, τ, by rw [hr, e1], e2, e3⟩


variable {d : Option Tmp} {ty : TypeId} {pos : String} {af : Array Edge} {g : Option (Nat × Bool)} {a : Act} {σ : GW}
def Pr.own0 (k : Nat) (e : TypeId) : Pr := ⟨fun σ v => Own σ k e 1 v 0 [] ∧ ∃ ad, v = .slice ad 0 0, fun hs h => ⟨h.1.keep hs (by decide) (.inl rfl), h.2⟩⟩
theorem y_lit00 {k : Nat} {t e : TypeId} {z : Value} {b : Nat} (ht : P.underlying t = some (.slice e)) (he : Info P e z 1 b) :
    Yld P ⟨d, .buildSlice t 0 #[], ty, pos, af, g⟩ a σ (Pr.own0 k e) := by
  intro K Q hk
  have hr : (execOp a.eval ⟨d, .buildSlice t 0 #[], ty, pos, af, g⟩).run P σ.w = .ok (.value (.slice (some ⟨σ.w.heap.size, 0, none⟩) 0 0)) (σ.w.alloc (.cells #[] e)) := by
    simp only [execOp, List.map_toArray, List.map_nil]
    simp [Instr.buildSlice, run_underlying ht, he.size, Instr.fill, newRow, newObj, Sem.run, Sem.run_bind, Array.range_zero']
  unfold Oper.wp
  rw [hr]
  exact hk _ (σ.mk' k (.cells #[] e)) (Stp.mk' σ k _) ⟨Own.intro (us := []) (heap_alloc_new σ.w _) (by show (if _ = _ then k else _) = k; rw [if_pos rfl]) (Nat.le_refl _) (Nat.zero_le _) rfl rfl rfl (fun j T u h => by simp at h), _, rfl⟩
theorem y_append0 {k : Nat} {t e : TypeId} {z : Value} {by_ : Nat} {x y : Operand} {m : Nat} {us : List Ty} (ht : P.underlying t = some (.slice e)) (he : Info P e z 1 by_) (hk : 2 ≤ k) (hz : z.cells.size = 1)
    (h : (Pr.own0 k e).has σ (a.eval x)) (hx : At (.sl 1 m us) σ a y) (h1 : ∀ U, U ∈ us → One U) (hlen : m ≤ 9223372036854775807) (hbytes : m * by_ ≤ 140737488355328) :
    Yld P ⟨d, .call ⟨.builtin .append, #[x, y], #[t, t]⟩, ty, pos, af, g⟩ a σ (Pr.own k e 1 m us) := by
  intro K Q hk'
  obtain ⟨v', τ, hr, hs, ho⟩ := own_append0 (ty := ty) hk ht he hz (by decide) h.1 hx h1 (by omega) (by rw [Nat.zero_add]; exact hbytes) h.2
  have hr' : (execOp a.eval ⟨d, .call ⟨.builtin .append, #[x, y], #[t, t]⟩, ty, pos, af, g⟩).run P σ.w = .ok (.value v') τ.w := by
    simp only [execOp, resolve, Sem.run_bind, Sem.run_pure, Result.andThen_ok, invoke, List.map_toArray, List.map_cons, List.map_nil, builtin, hr]
  unfold Oper.wp
  rw [hr']
  exact hk' v' τ hs (by rw [Nat.zero_add, List.nil_append] at ho; exact ho)
end Go.KL

/- Plain maths: lists in order, false heads. -/
namespace Go.KL
/-! ### The order of lists -/
theorem below_trans : ∀ {a b c : List Int}, belowL a b = true → belowL b c = true → belowL a c = true
  | [], b, [], h1, h2 => by cases b <;> simp [belowL] at h1 h2
  | [], _, _ :: _, _, _ => by simp [belowL]
  | x :: a, [], _, h1, _ => by simp [belowL] at h1
  | x :: a, y :: b, [], _, h2 => by simp [belowL] at h2
  | x :: a, y :: b, z :: c, h1, h2 => by
    rw [belowL] at h1 h2 ⊢
    by_cases e1 : x = y
    · subst e1
      rw [if_pos rfl] at h1
      by_cases e2 : x = z
      · rw [if_pos e2] at h2 ⊢; exact below_trans h1 h2
      · rw [if_neg e2] at h2 ⊢; exact h2
    · rw [if_neg e1, decide_eq_true_eq] at h1
      by_cases e2 : y = z
      · subst e2; rw [if_neg e1, decide_eq_true_eq]; exact h1
      · rw [if_neg e2, decide_eq_true_eq] at h2
        rw [if_neg (by omega), decide_eq_true_eq]; omega
theorem below_tri : ∀ {a b : List Int}, a ≠ b → belowL a b = true ∨ belowL b a = true
  | [], [], h => absurd rfl h
  | [], _ :: _, _ => by simp [belowL]
  | _ :: _, [], _ => by simp [belowL]
  | x :: a, y :: b, h => by
    rw [belowL, belowL]
    by_cases e : x = y
    · subst e
      rw [if_pos rfl, if_pos rfl]
      exact below_tri fun e => h (by rw [e])
    · rw [if_neg e, if_neg (Ne.symm e), decide_eq_true_eq, decide_eq_true_eq]; omega
theorem below_asym {a b : List Int} (h : belowL a b = true) : belowL b a = false := by
  cases e : belowL b a with
  | false => rfl
  | true => have := below_trans h e; rw [below_irr] at this; cases this
def leL (a b : List Int) : Bool := !belowL b a
theorem leL_total (a b : List Int) : (leL a b || leL b a) = true := by
  unfold leL
  cases e : belowL b a with
  | false => rfl
  | true => rw [below_asym e]; rfl
theorem leL_cases {a b : List Int} (h : leL a b = true) : a = b ∨ belowL a b = true := by
  by_cases e : a = b
  · exact .inl e
  · rcases below_tri e with h1 | h1
    · exact .inr h1
    · unfold leL at h; rw [h1] at h; cases h
theorem le_lt {a b c : List Int} (h : leL a b = true) (k : belowL b c = true) : belowL a c = true := by
  rcases leL_cases h with rfl | h
  · exact k
  · exact below_trans h k
theorem leL_trans (a b c : List Int) (h : leL a b = true) (k : leL b c = true) : leL a c = true := by
  rcases leL_cases k with rfl | k
  · exact h
  · have := le_lt h k
    unfold leL; rw [below_asym this]; rfl
theorem strict_one : ∀ {a b : List (List Int)}, a.Pairwise (fun x y => belowL x y = true) → b.Pairwise (fun x y => belowL x y = true) → (∀ x, x ∈ a ↔ x ∈ b) → a = b
  | [], b, _, _, h => by
    cases b with
    | nil => rfl
    | cons y b => have := (h y).2 (by simp); simp at this
  | x :: a, [], _, _, h => by have := (h x).1 (by simp); simp at this
  | x :: a, y :: b, h1, h2, h => by
    rw [List.pairwise_cons] at h1 h2
    have e : x = y := by
      rcases List.mem_cons.1 ((h x).1 (by simp)) with e | hx
      · exact e
      · rcases List.mem_cons.1 ((h y).2 (by simp)) with e | hy
        · exact e.symm
        · have := below_trans (h1.1 y hy) (h2.1 x hx)
          rw [below_irr] at this; cases this
    subst e
    rw [strict_one h1.2 h2.2 fun z => ?_]
    constructor
    · intro hz
      rcases List.mem_cons.1 ((h z).1 (by simp [hz])) with e | h3
      · subst e; have := h1.1 z hz; rw [below_irr] at this; cases this
      · exact h3
    · intro hz
      rcases List.mem_cons.1 ((h z).2 (by simp [hz])) with e | h3
      · subst e; have := h2.1 z hz; rw [below_irr] at this; cases this
      · exact h3
/-! ### Lists in order, merged -/
def ordF : Nat → List (List Int) → List (List Int)
  | 0, l => l
  | f + 1, l => if l.length < 2 then l else List.merge (ordF f (l.take (l.length / 2))) (ordF f (l.drop (l.length / 2))) leL
def ordS (l : List (List Int)) : List (List Int) := ordF l.length l
theorem ordF_any : ∀ (f : Nat) (l : List (List Int)) (g : Nat), l.length ≤ f → l.length ≤ g → ordF f l = ordF g l
  | 0, l, g, h1, _ => by
    obtain rfl : l = [] := List.eq_nil_of_length_eq_zero (by omega)
    cases g with
    | zero => rfl
    | succ g => rw [ordF, ordF, if_pos (by simp)]
  | f + 1, l, 0, _, h2 => by
    obtain rfl : l = [] := List.eq_nil_of_length_eq_zero (by omega)
    rw [ordF, ordF, if_pos (by simp)]
  | f + 1, l, g + 1, h1, h2 => by
    rw [ordF, ordF]
    by_cases h : l.length < 2
    · rw [if_pos h, if_pos h]
    · rw [if_neg h, if_neg h, ordF_any f (l.take (l.length / 2)) g (by rw [List.length_take]; omega) (by rw [List.length_take]; omega), ordF_any f (l.drop (l.length / 2)) g (by rw [List.length_drop]; omega) (by rw [List.length_drop]; omega)]
theorem ordS_small {l : List (List Int)} (h : l.length < 2) : ordS l = l := by
  unfold ordS
  cases e : l.length with
  | zero => rfl
  | succ k => rw [ordF, if_pos h]
theorem ordS_big {l : List (List Int)} (h : ¬ l.length < 2) : ordS l = List.merge (ordS (l.take (l.length / 2))) (ordS (l.drop (l.length / 2))) leL := by
  unfold ordS
  rw [ordF_any l.length l ((l.length - 1) + 1) (Nat.le_refl _) (by omega), ordF, if_neg h, ordF_any (l.length - 1) (l.take (l.length / 2)) (l.take (l.length / 2)).length (by rw [List.length_take]; omega) (Nat.le_refl _),
    ordF_any (l.length - 1) (l.drop (l.length / 2)) (l.drop (l.length / 2)).length (by rw [List.length_drop]; omega) (Nat.le_refl _)]
theorem ordS_facts : ∀ (n : Nat) (l : List (List Int)), l.length = n → (ordS l).Perm l ∧ (ordS l).Pairwise (fun x y => leL x y = true) := by
  intro n
  induction n using Nat.strongRecOn with
  | _ n ih =>
  intro l hl
  by_cases h : l.length < 2
  · rw [ordS_small h]
    refine ⟨List.Perm.refl _, ?_⟩
    match l, h with
    | [], _ => exact List.Pairwise.nil
    | [x], _ => exact List.pairwise_singleton _ _
    | _ :: _ :: _, h => simp at h; omega
  · rw [ordS_big h]
    obtain ⟨p1, s1⟩ := ih (l.take (l.length / 2)).length (by rw [List.length_take]; omega) _ rfl
    obtain ⟨p2, s2⟩ := ih (l.drop (l.length / 2)).length (by rw [List.length_drop]; omega) _ rfl
    refine ⟨(List.merge_perm_append leL).trans ?_, List.pairwise_merge leL_trans leL_total _ _ s1 s2⟩
    have := p1.append p2
    rwa [List.take_append_drop] at this
theorem ordS_perm (l : List (List Int)) : (ordS l).Perm l := (ordS_facts _ l rfl).1
theorem ordS_sort (l : List (List Int)) : (ordS l).Pairwise (fun x y => leL x y = true) := (ordS_facts _ l rfl).2
theorem ordS_len (l : List (List Int)) : (ordS l).length = l.length := (ordS_perm l).length_eq
/-! The steps of merging -/
theorem merge_left {a b : List (List Int)} {i k : Nat} (h1 : i < a.length) (h : b.length ≤ k ∨ belowL (b.getD k []) (a.getD i []) = false) : List.merge (a.drop i) (b.drop k) leL = a.getD i [] :: List.merge (a.drop (i + 1)) (b.drop k) leL := by
  rw [drop_consD [] h1]
  by_cases hk : b.length ≤ k
  · rw [List.drop_eq_nil_of_le hk]; simp
  · have h3 := h.resolve_left hk
    rw [drop_consD [] (show k < b.length by omega), List.cons_merge_cons, if_pos (by unfold leL; rw [h3]; rfl)]
theorem merge_right {a b : List (List Int)} {i k : Nat} (h1 : k < b.length) (h : a.length ≤ i ∨ belowL (b.getD k []) (a.getD i []) = true) : List.merge (a.drop i) (b.drop k) leL = b.getD k [] :: List.merge (a.drop i) (b.drop (k + 1)) leL := by
  rw [drop_consD [] h1]
  by_cases hk : a.length ≤ i
  · rw [List.drop_eq_nil_of_le hk]; simp
  · have h3 := h.resolve_left hk
    rw [drop_consD [] (show i < a.length by omega), List.cons_merge_cons, if_neg (by unfold leL; rw [h3]; simp)]
theorem merge_end {a b : List (List Int)} {i k : Nat} (h1 : a.length ≤ i) (h2 : b.length ≤ k) : List.merge (a.drop i) (b.drop k) leL = [] := by
  rw [List.drop_eq_nil_of_le h1, List.drop_eq_nil_of_le h2]; simp
theorem out_left {a b out T : List (List Int)} {i k : Nat} (h : out ++ List.merge (a.drop i) (b.drop k) leL = T) (h1 : i < a.length) (h2 : b.length ≤ k ∨ belowL (b.getD k []) (a.getD i []) = false) : (out ++ [a.getD i []]) ++ List.merge (a.drop (i + 1)) (b.drop k) leL = T := by
  rw [merge_left h1 h2] at h; rw [← h]; simp
theorem out_right {a b out T : List (List Int)} {i k : Nat} (h : out ++ List.merge (a.drop i) (b.drop k) leL = T) (h1 : k < b.length) (h2 : a.length ≤ i ∨ belowL (b.getD k []) (a.getD i []) = true) : (out ++ [b.getD k []]) ++ List.merge (a.drop i) (b.drop (k + 1)) leL = T := by
  rw [merge_right h1 h2] at h; rw [← h]; simp
theorem out_end {a b out T : List (List Int)} {i k : Nat} (h : out ++ List.merge (a.drop i) (b.drop k) leL = T) (h1 : a.length ≤ i) (h2 : b.length ≤ k) : out = T := by
  rw [merge_end h1 h2, List.append_nil] at h; exact h
/-! ### Each once -/
def onceTo (l : List (List Int)) : Nat → List (List Int)
  | 0 => []
  | k + 1 => if k = 0 ∨ l.getD k [] ≠ l.getD (k - 1) [] then onceTo l k ++ [l.getD k []] else onceTo l k
theorem mem_takeD {l : List (List Int)} {k : Nat} {x : List Int} : x ∈ l.take k ↔ ∃ j, j < k ∧ j < l.length ∧ l.getD j [] = x := by
  constructor
  · intro h
    obtain ⟨j, hj, rfl⟩ := List.getElem_of_mem h
    rw [List.length_take] at hj
    exact ⟨j, by omega, by omega, by rw [List.getElem_take]; simp [show j < l.length by omega]⟩
  · rintro ⟨j, h1, h2, rfl⟩
    rw [List.mem_take_iff_getElem]
    exact ⟨j, by omega, by simp [h2]⟩
theorem pair_getD' {L : List (List Int)} {R : List Int → List Int → Prop} (h : L.Pairwise R) {i j : Nat} (hij : i < j) (hj : j < L.length) : R (L.getD i []) (L.getD j []) := by
  have := List.pairwise_iff_getElem.1 h i j (by omega) hj hij
  simpa [show i < L.length by omega, hj] using this
theorem once_facts {l : List (List Int)} (h : l.Pairwise (fun x y => leL x y = true)) : ∀ k, k ≤ l.length → (onceTo l k).Pairwise (fun x y => belowL x y = true) ∧ ∀ x, x ∈ onceTo l k ↔ x ∈ l.take k
  | 0, _ => ⟨List.Pairwise.nil, fun x => by simp [onceTo]⟩
  | k + 1, hk => by
    obtain ⟨i1, i2⟩ := once_facts h k (by omega)
    rw [onceTo]
    split
    · rename_i hc
      refine ⟨?_, fun x => ?_⟩
      · rw [List.pairwise_append]
        refine ⟨i1, List.pairwise_singleton _ _, fun x hx y hy => ?_⟩
        rw [List.mem_singleton] at hy
        subst hy
        obtain ⟨j, h1, h2, rfl⟩ := mem_takeD.1 ((i2 x).1 hx)
        have hne := hc.resolve_left (by omega)
        have hle : leL (l.getD (k - 1) []) (l.getD k []) = true := pair_getD' h (by omega) (by omega)
        have hlt := (leL_cases hle).resolve_left (Ne.symm hne)
        by_cases e : j = k - 1
        · rw [e]; exact hlt
        · exact le_lt (pair_getD' h (show j < k - 1 by omega) (by omega)) hlt
      · rw [List.mem_append, List.mem_singleton, i2, take_snocD [] (by omega), List.mem_append, List.mem_singleton]
    · rename_i hc
      refine ⟨i1, fun x => ?_⟩
      rw [i2, take_snocD [] (by omega), List.mem_append, List.mem_singleton]
      refine ⟨.inl, fun h => h.elim id fun e => ?_⟩
      have hk0 : k ≠ 0 := fun e => hc (.inl e)
      have he : l.getD k [] = l.getD (k - 1) [] := Classical.byContradiction fun e => hc (.inr e)
      rw [e, he]
      exact mem_takeD.2 ⟨k - 1, by omega, by omega, rfl⟩
def onceL (E : List (List Int)) : List (List Int) := onceTo (ordS E) (ordS E).length
theorem onceL_sort (E : List (List Int)) : (onceL E).Pairwise (fun x y => belowL x y = true) := (once_facts (ordS_sort E) _ (Nat.le_refl _)).1
theorem mem_onceL {E : List (List Int)} {x : List Int} : x ∈ onceL E ↔ x ∈ E := by
  unfold onceL
  rw [(once_facts (ordS_sort E) _ (Nat.le_refl _)).2, List.take_length, (ordS_perm E).mem_iff]
theorem onceTo_len (l : List (List Int)) : ∀ k, (onceTo l k).length ≤ k
  | 0 => Nat.le_refl _
  | k + 1 => by
    have := onceTo_len l k
    rw [onceTo]; split
    · rw [List.length_append, List.length_singleton]; omega
    · omega
/-! ### False heads -/
def hhL (rows : List (List Int)) (i k : Nat) : List Int := byL (rows.getD i []) (undoL (rows.getD k []))
def enRow (rows : List (List Int)) (i k : Nat) : List (List Int) := ((List.range k).map (hhL rows i)).filter fun h => decide (rankL h ≠ 0)
def enTo (rows : List (List Int)) (m i : Nat) : List (List Int) := (List.range i).flatMap fun i => enRow rows i m
def sfRow (rows : List (List Int)) (i k : Nat) : Bool := (List.range k).any fun j => decide (rankL (hhL rows i j) = 0) && decide (i ≠ j)
def sfTo (rows : List (List Int)) (m i : Nat) : Bool := (List.range i).any fun i => sfRow rows i m
section
variable {rows : List (List Int)} {m i k : Nat}
theorem enRow_zero : enRow rows i 0 = [] := rfl
theorem enRow_no (h : rankL (hhL rows i k) = 0) : enRow rows i (k + 1) = enRow rows i k := by
  unfold enRow; rw [List.range_succ, List.map_append, List.filter_append]; simp [h]
theorem enRow_yes (h : ¬ rankL (hhL rows i k) = 0) : enRow rows i (k + 1) = enRow rows i k ++ [hhL rows i k] := by
  unfold enRow; rw [List.range_succ, List.map_append, List.filter_append]; simp [h]
theorem enTo_zero : enTo rows m 0 = [] := rfl
theorem enTo_succ : enTo rows m (i + 1) = enTo rows m i ++ enRow rows i m := by unfold enTo; rw [List.range_succ, List.flatMap_append]; simp
theorem sfRow_zero : sfRow rows i 0 = false := rfl
theorem sfRow_no (h : ¬ rankL (hhL rows i k) = 0) : sfRow rows i (k + 1) = sfRow rows i k := by
  unfold sfRow; rw [List.range_succ, List.any_append]; simp [h]
theorem sfRow_yes (h : rankL (hhL rows i k) = 0) : sfRow rows i (k + 1) = (sfRow rows i k || decide (((i : Nat) : Int) ≠ ((k : Nat) : Int))) := by
  unfold sfRow; rw [List.range_succ, List.any_append]
  have e : decide (((i : Nat) : Int) ≠ ((k : Nat) : Int)) = decide (i ≠ k) := by rw [decide_eq_decide]; omega
  rw [e]; simp [h]
theorem sfTo_succ : sfTo rows m (i + 1) = (sfTo rows m i || sfRow rows i m) := by unfold sfTo; rw [List.range_succ, List.any_append]; simp
theorem enRow_len : (enRow rows i k).length ≤ k := by
  unfold enRow
  refine Nat.le_trans (List.length_filter_le _ _) ?_
  simp
theorem enTo_len : ∀ i, (enTo rows m i).length ≤ i * m
  | 0 => by simp [enTo_zero]
  | i + 1 => by
    rw [enTo_succ, List.length_append, Nat.succ_mul]
    have h1 := enTo_len i
    have h2 := enRow_len (rows := rows) (i := i) (k := m)
    omega
theorem mem_enRow {x : List Int} : x ∈ enRow rows i k ↔ ∃ j, j < k ∧ hhL rows i j = x ∧ rankL x ≠ 0 := by
  unfold enRow
  rw [List.mem_filter, List.mem_map]
  constructor
  · rintro ⟨⟨j, h1, rfl⟩, h2⟩; exact ⟨j, List.mem_range.1 h1, rfl, by simpa using h2⟩
  · rintro ⟨j, h1, rfl, h2⟩; exact ⟨⟨j, List.mem_range.2 h1, rfl⟩, by simpa using h2⟩
theorem mem_enTo {x : List Int} {i : Nat} : x ∈ enTo rows m i ↔ ∃ a b, a < i ∧ b < m ∧ hhL rows a b = x ∧ rankL x ≠ 0 := by
  unfold enTo
  rw [List.mem_flatMap]
  constructor
  · rintro ⟨a, h1, h2⟩
    obtain ⟨j, h3, h4⟩ := mem_enRow.1 h2
    exact ⟨a, j, List.mem_range.1 h1, h3, h4⟩
  · rintro ⟨a, b, h1, h2, h3⟩
    exact ⟨a, List.mem_range.2 h1, mem_enRow.2 ⟨b, h2, h3⟩⟩
end
theorem hh_row {rows : List (List Int)} {i k n : Nat} (hi : IsRow (rows.getD i [])) (hk : IsRow (rows.getD k [])) (hl : (rows.getD i []).length = (rows.getD k []).length) (hn : (rows.getD k []).length = n) : IsRow (hhL rows i k) ∧ (hhL rows i k).length = n := by
  refine ⟨byL_row hi (undo_row hk).1 (by rw [undoL_len]; exact hl), ?_⟩
  show (List.map _ _).length = n
  rw [List.length_map, undoL_len]; exact hn
theorem hh_rows {rows : List (List Int)} {n : Nat} (h : ∀ i, i < rows.length → IsRow (rows.getD i []) ∧ (rows.getD i []).length = n) : ∀ x ∈ enTo rows rows.length rows.length, IsRow x ∧ x.length = n := fun x hx => by
  obtain ⟨a, b, h1, h2, rfl, _⟩ := mem_enTo.1 hx
  exact hh_row (h a h1).1 (h b h2).1 (by rw [(h a h1).2, (h b h2).2]) (h b h2).2
/-! ### Counted by rank -/
structure Cnt (E D : List (List Int)) (f : Int → Option Int) (c : Nat) : Prop where
  lo : ∀ x, 0 ≤ (f x).getD 0
  hi : ∀ x, (f x).getD 0 ≤ c
  pos : ∀ x, 0 < (f x).getD 0 ↔ ∃ h ∈ D, rkI h = x
  sub : ∀ h ∈ D, h ∈ E
  all : ∀ h ∈ E, ∃ d ∈ D, rankL d = rankL h
  apart : D.Pairwise fun a b => rankL a ≠ rankL b
theorem cnt_zero : Cnt [] [] (fun _ => none) 0 := ⟨fun _ => Int.le_refl _, fun _ => Int.le_refl _, fun x => by simp, fun h hh => by simp at hh, fun h hh => by simp at hh, List.Pairwise.nil⟩
theorem cnt_more {E D : List (List Int)} {f : Int → Option Int} {c c' : Nat} (h : Cnt E D f c) (hc : c ≤ c') : Cnt E D f c' := ⟨h.lo, fun x => by have := h.hi x; omega, h.pos, h.sub, h.all, h.apart⟩
theorem cnt_new {E D : List (List Int)} {f : Int → Option Int} {c : Nat} {r : List Int} (h : Cnt E D f c) (h1 : (f (rkI r)).getD 0 + 1 = 1) : Cnt (E ++ [r]) (D ++ [r]) (fun x_ => if x_ = rkI r then some ((f (rkI r)).getD 0 + 1) else f x_) (c + 1) := by
  have hn : ¬ ∃ d ∈ D, rkI d = rkI r := fun he => by have := (h.pos (rkI r)).2 he; omega
  refine ⟨fun x => ?_, fun x => ?_, fun x => ?_, fun d hd => ?_, fun d hd => ?_, ?_⟩
  · split
    · simp; omega
    · exact h.lo x
  · have := h.hi x
    split
    · simp; omega
    · omega
  · split
    · rename_i e
      simp only [Option.getD_some]
      exact ⟨fun _ => ⟨r, by simp, e.symm⟩, fun _ => by omega⟩
    · rename_i e
      rw [h.pos x]
      constructor
      · rintro ⟨d, h2, h3⟩; exact ⟨d, by simp [h2], h3⟩
      · rintro ⟨d, h2, h3⟩
        rcases List.mem_append.1 h2 with h2 | h2
        · exact ⟨d, h2, h3⟩
        · rw [List.mem_singleton] at h2; subst h2; exact absurd h3.symm e
  · rcases List.mem_append.1 hd with hd | hd
    · exact List.mem_append.2 (.inl (h.sub d hd))
    · exact List.mem_append.2 (.inr hd)
  · rcases List.mem_append.1 hd with hd | hd
    · obtain ⟨y, h2, h3⟩ := h.all d hd; exact ⟨y, by simp [h2], h3⟩
    · rw [List.mem_singleton] at hd; subst hd; exact ⟨d, by simp, rfl⟩
  · rw [List.pairwise_append]
    refine ⟨h.apart, List.pairwise_singleton _ _, fun x hx y hy e => ?_⟩
    rw [List.mem_singleton] at hy; subst hy
    exact hn ⟨x, hx, by unfold rkI; rw [e]⟩
theorem cnt_again {E D : List (List Int)} {f : Int → Option Int} {c : Nat} {r : List Int} (h : Cnt E D f c) (h1 : ¬ (f (rkI r)).getD 0 + 1 = 1) : Cnt (E ++ [r]) D (fun x_ => if x_ = rkI r then some ((f (rkI r)).getD 0 + 1) else f x_) (c + 1) := by
  have h0 := h.lo (rkI r)
  have hp : 0 < (f (rkI r)).getD 0 := by omega
  refine ⟨fun x => ?_, fun x => ?_, fun x => ?_, fun d hd => List.mem_append.2 (.inl (h.sub d hd)), fun d hd => ?_, h.apart⟩
  · split
    · simp; omega
    · exact h.lo x
  · have := h.hi x
    split
    · rename_i e; subst e; simp; omega
    · omega
  · split
    · rename_i e
      rw [e, ← h.pos (rkI r)]
      simp only [Option.getD_some]
      exact ⟨fun _ => hp, fun _ => by omega⟩
    · exact h.pos x
  · rcases List.mem_append.1 hd with hd | hd
    · exact h.all d hd
    · rw [List.mem_singleton] at hd; subst hd
      obtain ⟨y, h2, h3⟩ := (h.pos (rkI d)).1 hp
      exact ⟨y, h2, by unfold rkI at h3; omega⟩
theorem cnt_sorted {E D S : List (List Int)} {f : Int → Option Int} {c n : Nat} (h : Cnt E D f c) (hr : ∀ x ∈ E, IsRow x ∧ x.length = n) (hp : S.Perm D) (hs : S.Pairwise fun x y => leL x y = true) : S = onceL E := by
  have hd : S.Pairwise fun a b => rankL a ≠ rankL b := (hp.pairwise_iff (fun h => Ne.symm h)).2 h.apart
  refine strict_one ?_ (onceL_sort E) fun x => ?_
  · refine (hs.and hd).imp fun {a b} ⟨h1, h2⟩ => (leL_cases h1).resolve_left fun e => h2 (by rw [e])
  · rw [hp.mem_iff, mem_onceL]
    refine ⟨h.sub x, fun hx => ?_⟩
    obtain ⟨d, h1, h2⟩ := h.all x hx
    have e : d = x := rank_row_inj (hr d (h.sub d h1)).1 (hr x hx).1 (by rw [(hr d (h.sub d h1)).2, (hr x hx).2]) h2
    rw [← e]; exact h1
end Go.KL

/- Lists compared; a world that a reader leaves behind. -/
namespace Go.KL
open Go.RowKit Go.Sort
def cmpI (x y : Int) : Int := if x < y then -1 else if y < x then 1 else 0
def cmpL : List Int → List Int → Int
  | [], [] => 0
  | [], _ :: _ => -1
  | _ :: _, [] => 1
  | x :: a, y :: b => if cmpI x y ≠ 0 then cmpI x y else cmpL a b
theorem cmpI_zero {x y : Int} : cmpI x y = 0 ↔ x = y := by unfold cmpI; split <;> (try split) <;> omega
theorem cmpI_neg {x y : Int} : cmpI x y < 0 ↔ x < y := by unfold cmpI; split <;> (try split) <;> omega
theorem cmpL_lt : ∀ a b : List Int, decide (cmpL a b < 0) = belowL a b
  | [], [] => rfl
  | [], _ :: _ => by simp [cmpL, belowL]
  | _ :: _, [] => by simp [cmpL, belowL]
  | x :: a, y :: b => by
    rw [cmpL, belowL]
    by_cases h : x = y
    · rw [if_neg (by rw [Classical.not_not]; exact cmpI_zero.2 h), if_pos h]; exact cmpL_lt a b
    · rw [if_pos (fun e => h (cmpI_zero.1 e)), if_neg h, decide_eq_decide]; exact cmpI_neg
theorem cmp_step {a b : List Int} {i : Nat} {z : Int} (h : cmpL (a.drop i) (b.drop i) = z) (h1 : i < a.length) (h2 : i < b.length) (e : ¬ cmpI (a.getD i 0) (b.getD i 0) ≠ 0) : cmpL (a.drop (i + 1)) (b.drop (i + 1)) = z := by
  rw [drop_consD 0 h1, drop_consD 0 h2, cmpL, if_neg e] at h; exact h
theorem cmp_ne {a b : List Int} {i : Nat} {z : Int} (h : cmpL (a.drop i) (b.drop i) = z) (h1 : i < a.length) (h2 : i < b.length) (e : cmpI (a.getD i 0) (b.getD i 0) ≠ 0) : cmpI (a.getD i 0) (b.getD i 0) = z := by
  rw [drop_consD 0 h1, drop_consD 0 h2, cmpL, if_pos e] at h; exact h
theorem cmp_long {a b : List Int} {i : Nat} {z : Int} (h : cmpL (a.drop i) (b.drop i) = z) (h1 : i < a.length) (h2 : b.length ≤ i) : z = 1 := by
  rw [drop_consD 0 h1, List.drop_eq_nil_of_le h2, cmpL] at h; exact h.symm
theorem cmp_short {a b : List Int} {i : Nat} {z : Int} (h : cmpL (a.drop i) (b.drop i) = z) (h1 : a.length ≤ i) (h2 : i < b.length) : z = -1 := by
  rw [drop_consD 0 h2, List.drop_eq_nil_of_le h1, cmpL] at h; exact h.symm
theorem cmp_same {a b : List Int} {i : Nat} {z : Int} (h : cmpL (a.drop i) (b.drop i) = z) (h1 : a.length ≤ i) (h2 : b.length ≤ i) : z = 0 := by
  rw [List.drop_eq_nil_of_le h1, List.drop_eq_nil_of_le h2, cmpL] at h; exact h.symm
theorem world_grown {w w' : World} (h1 : w'.os = w.os) (h2 : w'.tape = w.tape) (h3 : w'.output = w.output) (h4 : w.drawn ≤ w'.drawn) (h5 : w.heap.size ≤ w'.heap.size) (h6 : ∀ b, b < w.heap.size → w'.heap[b]? = w.heap[b]?) :
    ∃ q os', w' = grow (w.drewN q) os' := by
  refine ⟨w'.drawn - w.drawn, w'.heap.extract w.heap.size w'.heap.size, ?_⟩
  obtain ⟨hp, tp, dr, os, op⟩ := w
  obtain ⟨hp', tp', dr', os', op'⟩ := w'
  simp only at h1 h2 h3 h4 h5 h6
  subst h1; subst h2; subst h3
  simp only [grow, World.drewN]
  have e : hp' = hp ++ hp'.extract hp.size hp'.size := by
    apply Array.ext_getElem?
    intro b
    rw [Array.getElem?_append]
    split
    · rename_i h; exact h6 b h
    · rename_i h
      rw [Array.getElem?_extract]
      by_cases hb : b < hp'.size
      · rw [if_pos (by omega)]; congr 1; omega
      · rw [if_neg (by omega), Array.getElem?_eq_none (by omega)]
  have e2 : dr' = dr + (dr' - dr) := by omega
  congr 1
end Go.KL

/- slices.SortFunc of a row of lists that is owned. -/
namespace Go.KL
open Go.RowKit Go.Sort Go.Shelf Go.Lib Go.Proofs
variable {P : Program}
def Elt (σ : GW) : Type := { p : Value × List Int // (Ty.ints p.2).has σ p.1 }
instance (σ : GW) : Inhabited (Elt σ) := ⟨⟨(.slice none 0 0, []), nil_has rfl⟩⟩
def Elt.enc {σ : GW} (x : Elt σ) : Value := x.1.1
def Elt.cf {σ : GW} (x y : Elt σ) : Int := cmpL x.1.2 y.1.2
theorem Elt.lt {σ : GW} (x y : Elt σ) : ltOf Elt.cf x y = belowL x.1.2 y.1.2 := cmpL_lt _ _
theorem Elt.swo (σ : GW) : SWO (ltOf (Elt.cf (σ := σ))) where
  irrefl x := by rw [Elt.lt, below_irr]
  trans x y z h1 h2 := by rw [Elt.lt] at *; exact below_trans h1 h2
  ntrans x y z h1 h2 := by
    rw [Elt.lt] at *
    have := leL_trans z.1.2 y.1.2 x.1.2 (by unfold leL; rw [h2]; rfl) (by unfold leL; rw [h1]; rfl)
    unfold leL at this; simpa using this
theorem Elt.one {σ : GW} : OneCell (Elt.enc (σ := σ)) := fun x => by
  obtain ⟨_, _, _, _, e, _⟩ := x.2
  unfold Elt.enc; rw [e]; rfl
theorem heap_sortWorld {α : Type} [Inhabited α] {enc : α → Value} {w : World} {blk off m : Nat} {dk : Array α} {os : Array Obj} {b : Nat} (hb : b < w.heap.size) : (sortWorld enc w blk off m dk os).heap[b]? = if blk = b then (w.heap[b]?).map (onCells (putCells enc off dk)) else w.heap[b]? := by
  unfold sortWorld
  rw [heap_grow_old _ _ (by simpa using hb)]
  unfold putRow mapBlock
  simp only [Array.getElem?_modify, heap_ahead]
theorem size_sortWorld {α : Type} [Inhabited α] {enc : α → Value} {w : World} {blk off m : Nat} {dk : Array α} {os : Array Obj} : w.heap.size ≤ (sortWorld enc w blk off m dk os).heap.size := by
  unfold sortWorld; rw [size_grow, Sort.size_putRow]; simp only [heap_ahead]; omega
theorem m_sort {d : Option Tmp} {ty : TypeId} {pos : String} {af : Array Edge} {gd : Option (Nat × Bool)} {a : Act} {σ : GW} {f g : FuncId} {fn : Func} {x : Operand} {tys : Array TypeId} {k : Nat} {e : TypeId} {v : Value} {D : List (List Int)} (hk : 2 ≤ k) (h : Own σ k e 1 v D.length (D.map Ty.ints)) (hx : a.eval x = v) (hD : D.length < 4611686018427387904)
    (hf : P.funcs[f]? = some fn) (hn : (fn.name == "runtime.NumGoroutine") = false) (hb : fn.body.isSome = true)
    (hS : ∀ (α : Type) [Inhabited α] (enc : α → Value), OneCell enc → ∀ (cf : α → α → Int), SWO (ltOf cf) → ∀ (blk off cap : Nat) (d : Array α) (w : World), CmpLays1 P g #[] enc cf blk off d.size w → Holds enc w blk off d → blk < w.heap.size → d.size < 4611686018427387904 →
      Calls P f #[.slice (some ⟨blk, off, none⟩) d.size cap, .func (.func g) #[] #[]] w fun e w' => e = .returned (.tuple #[]) ∧ ∃ d' n os, PermIn 0 d.size d d' ∧ SortedIn (ltOf cf) 0 d.size d' ∧ w' = sortWorld enc w blk off n d' os)
    (hN : ∀ (p : Option Addr) (cap : Nat) (fv : Value) (w : World), Calls P f #[.slice p 0 cap, fv] w fun e w' => e = .returned (.tuple #[]) ∧ w' = w)
    (hcmp : ∀ (σ : GW) (u w : Value) (xs ys : List Int), (Ty.ints xs).has σ u → (Ty.ints ys).has σ w → FnC P g #[u, w] σ (Ty.int (cmpL xs ys))) :
    YldL [k] P ⟨d, .call ⟨.value (.func f), #[x, .func g], tys⟩, ty, pos, af, gd⟩ a σ (fun _ τ => ∃ S : List (List Int), S.Perm D ∧ S.Pairwise (fun x y => leL x y = true) ∧ Own τ k e 1 v D.length (S.map Ty.ints)) := by
  intro K Q hk'
  have hr : (execOp a.eval ⟨d, .call ⟨.value (.func f), #[x, .func g], tys⟩, ty, pos, af, gd⟩).run P σ.w = .ok (.enter f #[v, .func (.func g) #[] #[]]) σ.w := by
    have hn' : ¬ fn.name = "runtime.NumGoroutine" := by simpa using hn
    have hb' : ¬ fn.body = none := by intro e; simp [e] at hb
    simp only [execOp, resolve, List.map_toArray, List.map_cons, List.map_nil, hx]
    simp [Act.eval, Deferred.ofValue, invoke, callFunc, hf, hn', hb', program, Sem.run, Sem.run_bind]
  unfold Oper.wp
  rw [hr]
  obtain ⟨us, ⟨hl, hc⟩, hl2, hty, hst⟩ := h
  rcases hc with ⟨rfl, hn0⟩ | ⟨gb, cap, cur, rfl, _, hg, hnc, hcm, hcs, htk⟩
  · refine Calls.mono (hN none 0 _ σ.w) ?_
    rintro e' w' ⟨rfl, rfl⟩
    have hD0 : D = [] := List.eq_nil_of_length_eq_zero hn0
    subst hD0
    exact hk' _ σ (StpL.refl _ _) ⟨[], List.Perm.refl _, List.Pairwise.nil, us, ⟨hl, .inl ⟨rfl, rfl⟩⟩, hl2, hty, hst⟩
  · have hgk := hst gb rfl
    have hgs := (Array.getElem?_eq_some_iff.1 hg).1
    rw [Nat.mul_one] at hl hcs htk
    rw [List.length_map] at hl2
    have hel : ∀ i : Fin D.length, (Ty.ints (D[i.1]'i.2)).has σ (us[i.1]'(by omega)) := fun i => hty i.1 _ _ (by simp) (by simp [hl])
    let dd : Array (Elt σ) := (List.ofFn fun i : Fin D.length => (⟨(us[i.1]'(by omega), D[i.1]'i.2), hel i⟩ : Elt σ)).toArray
    have hds : dd.size = D.length := by show (List.ofFn _).length = _; exact List.length_ofFn
    have hdg : ∀ j (hj : j < D.length), dd[j]! = ⟨(us[j]'(by omega), D[j]), hel ⟨j, hj⟩⟩ := fun j hj => by
      rw [getElem!_pos dd j (by omega)]; show (List.ofFn _)[j]'_ = _; exact List.getElem_ofFn _
    have hcu : ∀ j, j < D.length → cur[j]? = us[j]? := fun j hj => by
      rw [← htk, List.getElem?_take, if_pos hj]; simp
    have hH : Holds (Elt.enc (σ := σ)) σ.w gb 0 dd := fun j hj => by
      rw [hds] at hj
      rw [Nat.zero_add]
      constructor
      · rw [hdg j hj]
        simp only [World.cell?, hg]
        rw [hcu j hj]
        simp [Elt.enc, show j < us.length by omega]
      · simp [World.frozen?, hg]
    have hC : CmpLays1 P g #[] (Elt.enc (σ := σ)) Elt.cf gb 0 dd.size σ.w := fun m os dk _ x y => by
      let σ' : GW := ⟨sortWorld Elt.enc σ.w gb 0 m dk os, fun b => if σ.st b = 1 then 1 else 0, fun b hb => by
        refine Nat.lt_of_lt_of_le (σ.lt b ?_) size_sortWorld
        intro e; rw [e] at hb; simp at hb⟩
      have hle : σ.Le σ' := ⟨fun b hb => by show (if σ.st b = 1 then 1 else 0) = 1; rw [if_pos hb], fun b hb => by
        have := σ.lt b (by omega)
        show (sortWorld _ _ _ _ _ _ _).heap[b]? = _
        rw [heap_sortWorld this, if_neg (by rintro rfl; omega)]⟩
      refine Calls.mono (hcmp σ' x.1.1 y.1.1 x.1.2 y.1.2 (Ty.up _ hle x.2) (Ty.up _ hle y.2)) ?_
      rintro e' w' ⟨v', τ, rfl, hs, rfl, hv⟩
      have hv' : v' = .int .i64 (cmpL x.1.2 y.1.2) := hv
      subst hv'
      exact ⟨rfl, world_grown hs.os hs.tape hs.output hs.dr hs.size fun b hb => hs.blk b hb (.inl rfl)⟩
    have hcon := hS (Elt σ) Elt.enc Elt.one Elt.cf (Elt.swo σ) gb 0 cap dd σ.w hC hH hgs (by omega)
    rw [hds] at hcon
    refine Calls.mono hcon ?_
    rintro e' w' ⟨rfl, d', n', os, ⟨p1, _, p3⟩, hso, rfl⟩
    have hex : ∀ q : Array (Elt σ), q.size = D.length → (q.extract 0 D.length).toList = q.toList := fun q hq => by
      rw [← hq, Array.extract_size]
    rw [hex d' (by omega), hex dd hds] at p3
    have hmap : dd.toList.map (fun z => z.1.2) = D := by
      apply List.ext_getElem
      · rw [List.length_map]; exact hds
      · intro i h1 h2
        have h3 := hdg i h2
        rw [getElem!_pos dd i (by omega)] at h3
        rw [List.getElem_map, Array.getElem_toList, h3]
    have hlt : ∀ b, b < σ.w.heap.size → b < (sortWorld Elt.enc σ.w gb 0 n' d' os).heap.size := fun b hb => Nat.lt_of_lt_of_le hb size_sortWorld
    let ρ : GW := ⟨sortWorld Elt.enc σ.w gb 0 n' d' os, fun b => σ.st b, fun b hb => hlt b (σ.lt b hb)⟩
    have hne : ∀ b, σ.st b ≠ k → gb ≠ b := fun b hb e => hb (e ▸ hgk)
    have hst2 : StpL [k] σ ρ := ⟨rfl, rfl, rfl, by show σ.w.drawn ≤ σ.w.drawn + n'; omega, size_sortWorld, fun b hb hm => by
      show (sortWorld _ _ _ _ _ _ _).heap[b]? = _
      rw [heap_sortWorld hb, if_neg (hne b (by simpa using hm))], fun _ _ _ => rfl⟩
    refine hk' _ ρ hst2 ⟨d'.toList.map (fun z => z.1.2), ?_, ?_, ?_⟩
    · have := p3.map (fun z : Elt σ => z.1.2)
      rwa [hmap] at this
    · rw [List.pairwise_map, List.pairwise_iff_getElem]
      intro i j hi hj hij
      have hj' : j < d'.size := by simpa using hj
      have := hso i j (Nat.zero_le _) hij (by omega)
      rw [getElem!_pos d' i (by omega), getElem!_pos d' j hj', Elt.lt] at this
      unfold leL
      simp only [Array.getElem_toList, this, Bool.not_false]
    · have hd's : d'.size = D.length := by omega
      have hg2 : ρ.w.heap[gb]? = some (.cells (putCells Elt.enc 0 d' cur) e (0, 0)) := by
        show (sortWorld _ _ _ _ _ _ _).heap[gb]? = _
        rw [heap_sortWorld hgs, if_pos rfl, hg]; rfl
      have htake : (putCells Elt.enc 0 d' cur).toList.take (D.length * 1) = d'.toList.map Elt.enc := by
        rw [Nat.mul_one]
        apply List.ext_getElem
        · simp [putCells]; omega
        · intro i h1 h2
          simp only [List.length_map, Array.length_toList] at h2
          simp [putCells, h2]
      refine Own.intro (us := d'.toList.map Elt.enc) hg2 hgk hnc hcm (by simp [putCells, hcs]) htake (by simp) fun j T u hT hu => ?_
      rw [List.getElem?_map, List.getElem?_map] at hT
      rw [List.getElem?_map] at hu
      obtain ⟨z, hz⟩ : ∃ z, d'.toList[j]? = some z := by
        cases hq : d'.toList[j]? with
        | none => rw [hq] at hu; simp at hu
        | some z => exact ⟨z, rfl⟩
      rw [hz] at hT hu
      simp at hT hu
      subst hT; subst hu
      exact Ty.up _ (hst2.le (by simp; omega)) z.2
end Go.KL

/- Both proofs agree: a touch is true row by row just when it is by the heads of its leads. -/
namespace Go.KL
/-! ### Rows as a group -/
structure RowN (n : Nat) (r : List Int) : Prop where
  row : IsRow r
  len : r.length = n
theorem RowN.bd {n : Nat} {r : List Int} (h : RowN n r) : In n r := by have := h.row.bds; rwa [h.len] at this
theorem RowN.undo {n : Nat} {r : List Int} (h : RowN n r) : RowN n (undoL r) := ⟨(undo_row h.row).1, by rw [undoL_len, h.len]⟩
theorem RowN.by {n : Nat} {a b : List Int} (h : RowN n a) (k : RowN n b) : RowN n (byL a b) := ⟨byL_row h.row k.row (by rw [h.len, k.len]), by rw [byL_len, k.len]⟩
theorem by_as {n : Nat} (a : List Int) {b c : List Int} (hb : RowN n b) (hc : RowN n c) : byL a (byL b c) = byL (byL a b) c := byL_assoc a b c (by rw [hb.len]; exact hc.bd)
theorem undo_right {n : Nat} {r : List Int} (h : RowN n r) : byL r (undoL r) = roundsL n := by rw [(undo_row h.row).2, h.len]
theorem undo_undo {n : Nat} {r : List Int} (h : RowN n r) : undoL (undoL r) = r := by
  have e1 : byL r (byL (undoL r) (undoL (undoL r))) = r := by rw [undo_right h.undo, byL_rounds_right h.len]
  rw [by_as r h.undo h.undo.undo, undo_right h, byL_rounds_left h.undo.undo.bd] at e1
  exact e1
theorem undo_left {n : Nat} {r : List Int} (h : RowN n r) : byL (undoL r) r = roundsL n := by
  have := undo_right h.undo
  rwa [undo_undo h] at this
theorem by_cancel {n : Nat} {r x y : List Int} (hr : RowN n r) (hx : RowN n x) (hy : RowN n y) (h : byL r x = byL r y) : x = y := by
  have := congrArg (byL (undoL r)) h
  rwa [by_as _ hr hx, by_as _ hr hy, undo_left hr, byL_rounds_left hx.bd, byL_rounds_left hy.bd] at this
theorem by_move {n : Nat} {r s x y : List Int} (hr : RowN n r) (hs : RowN n s) (hx : RowN n x) (hy : RowN n y) : byL (undoL r) s = byL x (undoL y) ↔ byL s y = byL r x := by
  constructor
  · intro h
    have h1 := congrArg (fun z => byL (byL r z) y) h
    rw [by_as r hr.undo hs, undo_right hr, byL_rounds_left hs.bd, ← by_as r (hx.by hy.undo) hy, ← by_as x hy.undo hy, undo_left hy, byL_rounds_right hx.len] at h1
    exact h1
  · intro h
    have h1 := congrArg (fun z => byL (undoL r) (byL z (undoL y))) h
    rw [← by_as s hy hy.undo, undo_right hy, byL_rounds_right hs.len, ← by_as r hx hy.undo, by_as _ hr (hx.by hy.undo), undo_left hr, byL_rounds_left (hx.by hy.undo).bd] at h1
    exact h1
theorem rank_eq {n : Nat} {r s : List Int} (hr : RowN n r) (hs : RowN n s) (h : rankL r = rankL s) : r = s := rank_row_inj hr.row hs.row (by rw [hr.len, hs.len]) h
theorem rank_zero {n : Nat} {r : List Int} (hr : RowN n r) (h : rankL r = 0) : r = roundsL n := by rw [(rank_zero_iff hr.row).1 h, hr.len]
/-! ### A lead from its head -/
theorem curL_by {n : Nat} {l : List (List Int)} {r : List Int} (h1 : 1 ≤ n) (h2 : n ≤ 12) (hr : RowN n r) (h : ∀ k, k < l.length → okL 0 (l.getD k []) n) : ∀ k, k ≤ l.length → curL r l k = byL r (curL (roundsL n) l k)
  | 0, _ => by
    show r = byL r (roundsL n)
    rw [byL_rounds_right hr.len]
  | k + 1, hk => by
    have hc := curL_row h1 h2 h k (by omega)
    have hg : RowN n (chgRow n (l.getD k [])) := ⟨(ord_inv (h k (by omega)) h1 h2).1, chgRow_len (h k (by omega))⟩
    have hh : (curL r l k).length = n := by rw [curL_by h1 h2 hr h k (by omega), byL_len, hc.2]
    rw [curL_succ r l k (by omega), curL_succ (roundsL n) l k (by omega), hh, hc.2, curL_by h1 h2 hr h k (by omega), by_as r ⟨hc.1, hc.2⟩ hg]
theorem curL_take {r : List Int} {l l' : List (List Int)} {k : Nat} (h : l.take k = l'.take k) : curL r l k = curL r l' k := by unfold curL; rw [h]
def oneB (cs : List BCall) (leads : List Int) : Bool := leads.all fun k => decide ((cs.getD k.toNat D0).2.length < 2)
section
variable {nm : ByteArray} {n : Nat} {l : List (List Int)} {cs : List BCall} {p : List Int}
theorem row_at (h : CallsOk nm n l cs) (hi : inCalls cs p) (ho : ∀ a, a < p.length → (cs.getD (p.getD a 0).toNat D0).2.length < 2) {a j : Nat} (ha : a < p.length) (hj : j < l.length) :
    (tRows n l cs p p.length).getD (a * l.length + j) [] = byL (tHd n l cs p a) (((fromL (roundsL n) l).take l.length).getD j []) := by
  have h1 := h.meth.n1
  have h2 := h.meth.n2
  have hH := tHd_row h hi a (by omega)
  rw [tRows_get h hi (Nat.le_refl _) ha (by omega), getD_takeD [] hj, fromL_get (by omega), ← curL_by (by omega) h2 ⟨hH.1, hH.2⟩ h.meth.ok j (by omega)]
  refine curL_take ?_
  unfold leadE endsL
  have hl := ho a ha
  rw [List.take_append_of_le_length (by rw [List.length_take]; omega), List.take_take, Nat.min_eq_left (by omega)]
def bhRow (S : List Int) (H : List (List Int)) (i j : Nat) : Bool := (List.range j).all fun b => decide (rkI (byL (undoL (H.getD i [])) (H.getD b [])) ∉ S)
def bhTo (S : List Int) (H : List (List Int)) (i : Nat) : Bool := (List.range i).all fun a => bhRow S H a a
theorem bhRow_zero {S : List Int} {H : List (List Int)} {i : Nat} : bhRow S H i 0 = true := rfl
theorem bhRow_succ {S : List Int} {H : List (List Int)} {i j : Nat} : bhRow S H i (j + 1) = (bhRow S H i j && decide (rkI (byL (undoL (H.getD i [])) (H.getD j [])) ∉ S)) := by unfold bhRow; rw [List.range_succ, List.all_append]; simp
theorem bhTo_succ {S : List Int} {H : List (List Int)} {i : Nat} : bhTo S H (i + 1) = (bhTo S H i && bhRow S H i i) := by unfold bhTo; rw [List.range_succ, List.all_append]; simp
theorem bhTo_iff {S : List Int} {H : List (List Int)} {i : Nat} : bhTo S H i = true ↔ ∀ a b, a < i → b < a → rkI (byL (undoL (H.getD a [])) (H.getD b [])) ∉ S := by
  unfold bhTo bhRow
  simp only [List.all_eq_true, List.mem_range, decide_eq_true_eq]
  exact ⟨fun h a b ha hb => h a ha b hb, fun h a ha b hb => h a b ha hb⟩
theorem sfTo_iff {rows : List (List Int)} {m i : Nat} : sfTo rows m i = true ↔ ∃ a b, a < i ∧ b < m ∧ rankL (hhL rows a b) = 0 ∧ a ≠ b := by
  unfold sfTo sfRow
  simp only [List.any_eq_true, List.mem_range, Bool.and_eq_true, decide_eq_true_eq]
  exact ⟨fun ⟨a, h1, b, h2, h3⟩ => ⟨a, b, h1, h2, h3⟩, fun ⟨a, b, h1, h2, h3⟩ => ⟨a, h1, b, h2, h3⟩⟩
theorem tHds_get {k a : Nat} (h : a < k) : (tHds n l cs p k).getD a [] = tHd n l cs p a := by unfold tHds; simp [h]
theorem by_heads (h : CallsOk nm n l cs) (hi : inCalls cs p) (hp : 1 ≤ p.length) (ho : ∀ a, a < p.length → (cs.getD (p.getD a 0).toNat D0).2.length < 2) {R : List (List Int)} (hR : R = (fromL (roundsL n) l).take l.length) :
    ((!(sfTo R R.length R.length)) && bhTo (addS [0] (onceL (enTo R R.length R.length))) (tHds n l cs p p.length) p.length) = trueP n l cs p := by
  have hm := h.meth.l1
  have h1 := h.meth.n1
  have h2 := h.meth.n2
  have hRl : R.length = l.length := by rw [hR, List.length_take, fromL_len]; omega
  have hx : ∀ j, j < l.length → RowN n (R.getD j []) := fun j hj => by
    have := curL_row (by omega) h2 h.meth.ok j (by omega)
    rw [hR, getD_takeD [] hj, fromL_get (by omega)]; exact ⟨this.1, this.2⟩
  have hh : ∀ a, a < p.length → RowN n (tHd n l cs p a) := fun a ha => by
    have := tHd_row h hi a (by omega); exact ⟨this.1, this.2⟩
  have hat : ∀ a j, a < p.length → j < l.length → (tRows n l cs p p.length).getD (a * l.length + j) [] = byL (tHd n l cs p a) (R.getD j []) := fun a j ha hj => by rw [row_at h hi ho ha hj, hR]
  have hhh : ∀ i k, i < l.length → k < l.length → RowN n (hhL R i k) := fun i k a b => (hx i a).by (hx k b).undo
  have hS : ∀ x, x ∈ addS [0] (onceL (enTo R R.length R.length)) ↔ x = 0 ∨ ∃ i k, i < l.length ∧ k < l.length ∧ rkI (hhL R i k) = x := fun x => by
    rw [mem_addS, List.mem_singleton]
    constructor
    · rintro (e | ⟨r, hr, e⟩)
      · exact .inl e
      · obtain ⟨a, b, ha, hb, hab, _⟩ := mem_enTo.1 (mem_onceL.1 hr)
        exact .inr ⟨a, b, by omega, by omega, by rw [hab]; exact e⟩
    · rintro (e | ⟨i, k, a, b, e⟩)
      · exact .inl e
      · by_cases h0 : rankL (hhL R i k) = 0
        · left; rw [← e]; unfold rkI; rw [h0]; rfl
        · exact .inr ⟨_, mem_onceL.2 (mem_enTo.2 ⟨i, k, by omega, by omega, rfl, h0⟩), e⟩
  rw [Bool.eq_iff_iff, trueP_sep h hi, Bool.and_eq_true, Bool.not_eq_true', ← Bool.not_eq_true, sfTo_iff, bhTo_iff]
  constructor
  · rintro ⟨hs, hb⟩ i j hij hj e
    obtain ⟨a, i', rfl, hi'⟩ : ∃ a i', i = a * l.length + i' ∧ i' < l.length := ⟨i / l.length, i % l.length, by rw [Nat.mul_comm]; exact (Nat.div_add_mod i l.length).symm, Nat.mod_lt _ (by omega)⟩
    obtain ⟨b, j', rfl, hj'⟩ : ∃ a i', j = a * l.length + i' ∧ i' < l.length := ⟨j / l.length, j % l.length, by rw [Nat.mul_comm]; exact (Nat.div_add_mod j l.length).symm, Nat.mod_lt _ (by omega)⟩
    have hbp : b < p.length := by
      rcases Nat.lt_or_ge b p.length with h | h
      · exact h
      · have := Nat.mul_le_mul_right l.length h; omega
    have hab : a ≤ b := by
      rcases Nat.lt_or_ge b a with h | h
      · have := Nat.mul_le_mul_right l.length (show b + 1 ≤ a from h); rw [Nat.succ_mul] at this; omega
      · exact h
    rw [hat a i' (by omega) hi', hat b j' hbp hj'] at e
    have e2 := rank_eq ((hh a (by omega)).by (hx i' hi')) ((hh b hbp).by (hx j' hj')) e
    by_cases hab2 : a = b
    · subst hab2
      have e3 := by_cancel (hh a hbp) (hx i' hi') (hx j' hj') e2
      refine hs ⟨i', j', by omega, by omega, ?_, by omega⟩
      unfold hhL
      rw [e3, undo_right (hx j' hj')]; exact rank_rounds n
    · have e3 := (by_move (hh b hbp) (hh a (by omega)) (hx j' hj') (hx i' hi')).2 e2
      refine hb b a hbp (by omega) ((hS _).2 (.inr ⟨j', i', hj', hi', ?_⟩))
      rw [tHds_get hbp, tHds_get (by omega), e3]; rfl
  · intro hsep
    have hne : ∀ a i b k, a < p.length → b < p.length → i < l.length → k < l.length → a * l.length + i < b * l.length + k → byL (tHd n l cs p a) (R.getD i []) ≠ byL (tHd n l cs p b) (R.getD k []) := fun a i b k ha hb hi' hk hlt e => by
      have hbl : b * l.length + k < p.length * l.length := by
        have := Nat.mul_le_mul_right l.length (show b + 1 ≤ p.length from hb); rw [Nat.succ_mul] at this; omega
      have := hsep _ _ hlt hbl
      rw [hat a i ha hi', hat b k hb hk, e] at this
      exact this rfl
    constructor
    · rintro ⟨a, b, ha, hb, e, hab⟩
      have e1 := rank_zero (hhh a b (by omega) (by omega)) e
      have e2 : R.getD a [] = R.getD b [] := by
        have h3 := congrArg (fun z => byL z (R.getD b [])) e1
        unfold hhL at h3
        rw [← by_as _ (hx b (by omega)).undo (hx b (by omega)), undo_left (hx b (by omega)), byL_rounds_right (hx a (by omega)).len, byL_rounds_left (hx b (by omega)).bd] at h3
        exact h3
      rcases Nat.lt_or_ge a b with hlt | hge
      · exact hne 0 a 0 b (by omega) (by omega) (by omega) (by omega) (by omega) (by rw [e2])
      · exact hne 0 b 0 a (by omega) (by omega) (by omega) (by omega) (by omega) (by rw [e2])
    · intro a b ha hb hm
      rw [tHds_get ha, tHds_get (by omega)] at hm
      have hbp : b < p.length := by omega
      have hlt : ∀ i k, i < l.length → k < l.length → b * l.length + k < a * l.length + i := fun i k h3 h4 => by
        have := Nat.mul_le_mul_right l.length (show b + 1 ≤ a from hb); rw [Nat.succ_mul] at this; omega
      rcases (hS _).1 hm with e | ⟨i, k, hi', hk, e⟩
      · have e1 := rank_zero ((hh a ha).undo.by (hh b hbp)) (by unfold rkI at e; omega)
        have e2 : tHd n l cs p b = tHd n l cs p a := by
          have h3 := congrArg (byL (tHd n l cs p a)) e1
          rw [by_as _ (hh a ha).undo (hh b hbp), undo_right (hh a ha), byL_rounds_left (hh b hbp).bd, byL_rounds_right (hh a ha).len] at h3
          exact h3
        exact hne b 0 a 0 hbp ha (by omega) (by omega) (hlt 0 0 (by omega) (by omega)) (by rw [e2])
      · have e1 := rank_eq (hhh i k hi' hk) ((hh a ha).undo.by (hh b hbp)) (by unfold rkI at e; omega)
        have e2 := (by_move (hh a ha) (hh b hbp) (hx i hi') (hx k hk)).1 e1.symm
        exact hne b k a i hbp ha hk hi' (hlt i k hi' hk) e2
theorem heads_row (h : MethOk nm n l) {R : List (List Int)} (hR : R = (fromL (roundsL n) l).take l.length) : ∀ x ∈ onceL (enTo R R.length R.length), IsRow x ∧ x.length = n := fun x hx => by
  have hRl : R.length = l.length := by rw [hR, List.length_take, fromL_len]; omega
  have h1 := h.n1
  refine hh_rows (fun i hi => ?_) x (mem_onceL.1 hx)
  rw [hR, getD_takeD [] (by omega), fromL_get (by omega)]
  exact curL_row (by omega) h.n2 h.ok i (by omega)
theorem bad_zero : (fun x_ : Int => if x_ = 0 then some (1 : Int) else none) = seenS (addS [0] []) := by funext x; simp [seenS, addS]
theorem seen_dec {S : List Int} {x : Int} : decide ((seenS S x).getD 0 = 0) = decide (x ∉ S) := by
  unfold seenS
  by_cases h : x ∈ S <;> simp [h]
theorem one_no {leads : List Int} {k : Nat} (hk : k < leads.length) (h : 1 < (cs.getD (leads.getD k 0).toNat D0).2.length) : oneB cs leads = false := by
  unfold oneB
  rw [← Bool.not_eq_true, List.all_eq_true]
  intro ha
  have := ha _ (mem_getDD 0 hk)
  rw [decide_eq_true_eq] at this; omega
theorem one_yes {leads : List Int} (h : ∀ k, k < leads.length → (cs.getD (leads.getD k 0).toNat D0).2.length < 2) : oneB cs leads = true := by
  unfold oneB
  rw [List.all_eq_true]
  intro x hx
  obtain ⟨k, hk, rfl⟩ := List.getElem_of_mem hx
  have := h k hk
  rw [decide_eq_true_eq]
  simpa [hk] using this
theorem one_all {leads : List Int} (h : oneB cs leads = true) : ∀ k, k < leads.length → (cs.getD (leads.getD k 0).toNat D0).2.length < 2 := fun k hk => by
  unfold oneB at h
  rw [List.all_eq_true] at h
  simpa using h _ (mem_getDD 0 hk)
theorem heads_le {R : List (List Int)} (h : R.length ≤ 200) : (onceL (enTo R R.length R.length)).length ≤ 40000 := by
  have h1 := onceTo_len (ordS (enTo R R.length R.length)) (ordS (enTo R R.length R.length)).length
  rw [ordS_len] at h1
  have h2 := enTo_len (rows := R) (m := R.length) R.length
  have h3 : R.length * R.length ≤ 200 * 200 := Nat.mul_le_mul h h
  unfold onceL
  rw [ordS_len]
  omega
end
end Go.KL

/- What the law of touches that are true wants. -/
namespace Go.KL
theorem one_succ {cs : List BCall} {leads : List Int} {k : Nat} (hk : k < leads.length) : oneB cs (leads.take (k + 1)) = (oneB cs (leads.take k) && decide ((cs.getD (leads.getD k 0).toNat D0).2.length < 2)) := by
  rw [take_snocD 0 hk]
  unfold oneB
  rw [List.all_append]; simp
theorem one_and {nm : ByteArray} {n : Nat} {l : List (List Int)} {cs : List BCall} {p : List Int} (h : CallsOk nm n l cs) (hi : inCalls cs p) (hp : 1 ≤ p.length) :
    (oneB cs p && ((!(sfTo ((fromL (roundsL n) l).take l.length) ((fromL (roundsL n) l).take l.length).length ((fromL (roundsL n) l).take l.length).length)) && bhTo (addS [0] (onceL (enTo ((fromL (roundsL n) l).take l.length) ((fromL (roundsL n) l).take l.length).length ((fromL (roundsL n) l).take l.length).length))) (tHds n l cs p p.length) p.length)) = (oneB cs p && trueP n l cs p) := by
  cases e : oneB cs p with
  | false => rfl
  | true => rw [by_heads h hi hp (one_all e) rfl]
end Go.KL

/- From a row's reading of its arguments to semantic types, and from a law's contract back to the row. -/
namespace Go.KL
open Go.ChangeShapes Go.WideShapes Go.ChangeAt Go.RowKit Go.Deep
variable {P : Program}

def GW.all (W : World) : GW := ⟨W, fun b => if b < W.heap.size then 1 else 0, fun b h => by
  by_cases hb : b < W.heap.size
  · exact hb
  · simp [hb] at h⟩

structure Bulk {H : Type} (B : DataW H → Nat) (BA : List (DataW H) → Nat) : Prop where
  one : ∀ d, 1 ≤ B d
  str : ∀ l, B (.lit (.string l)) = l.length + 1
  slice : ∀ es sp, B (.slice es sp) = BA es + BA sp + 1
  agg : ∀ ps, B (.agg ps) = BA ps + 1
  nil : BA [] = 0
  cons : ∀ d r, BA (d :: r) = B d + BA r

def Rd (P : Program) (t : TypeId) {α : Type} (cells : α → List Ty) (wf : α → Prop) (sz : α → Nat) (rc : α → Prop) : Prop :=
  ∀ (H : Type) (enc : TypeId × Value → H) (B : DataW H → Nat) (BA : List (DataW H) → Nat), Bulk B BA → ∀ (W : World) (fuel : Nat) (cs : List Value) (d : DataW H) (ps : List MemPlace),
    DataW.trod enc P W 0 (fun _ => true) true fuel t cs = some (d, ps) → ∃ x : α, wf x ∧ sz x ≤ B d ∧ ((d.weights P t).all (· ≤ reachBytes) = true → rc x) ∧ cs.length = (cells x).length ∧
      ∀ (j : Nat) (T : Ty) (u : Value), (cells x)[j]? = some T → cs[j]? = some u → T.has (GW.all W) u

theorem one_cell {T : Ty} {v : Value} {σ : GW} (h : T.has σ v) : ∀ (j : Nat) (U : Ty) (u : Value), [T][j]? = some U → [v][j]? = some u → U.has σ u := by
  intro j U u h1 h2
  match j with
  | 0 => simp at h1 h2; subst h1; subst h2; exact h
  | j + 1 => simp at h1

theorem rd_int {t : TypeId} {k : IntKind} (ht : P.underlying t = some (.int k)) : Rd P t (fun n : Int => [Ty.val (.int k n)]) (fun n => (Lit.int k n).wf = true) (fun _ => 1) (fun _ => True) := by
  intro H enc B BA hB W fuel cs d ps h
  obtain ⟨n, rfl, e, hw⟩ := DataW.trod_int ht h
  obtain ⟨rfl, rfl⟩ := Prod.mk.inj e
  exact ⟨n, hw, hB.one _, fun _ => trivial, rfl, one_cell rfl⟩
theorem BA_map {H : Type} {B : DataW H → Nat} {BA : List (DataW H) → Nat} (hB : Bulk B BA) {α : Type} (sz : α → Nat) : ∀ (xs : List α) (D : List (DataW H)), xs.length = D.length → (∀ (i : Nat) x d, xs[i]? = some x → D[i]? = some d → sz x ≤ B d) → (xs.map sz).sum ≤ BA D
  | [], [], _, _ => by simp
  | x :: xs, d :: D, hl, h => by
    rw [hB.cons, List.map_cons, List.sum_cons]
    have h0 := h 0 x d rfl rfl
    have := BA_map hB sz xs D (by simpa using hl) (fun i y e hy he => h (i + 1) y e (by simpa using hy) (by simpa using he))
    omega

theorem weightsAll_mem {H : Type} {e : TypeId} : ∀ {D : List (DataW H)} {d : DataW H}, d ∈ D → ∀ n, n ∈ d.weights P e → n ∈ DataW.weightsAll P e D
  | x :: D, d, h, n, hn => by
    simp only [DataW.weightsAll, List.mem_append]
    rcases List.mem_cons.1 h with rfl | h
    · exact .inl hn
    · exact .inr (weightsAll_mem h n hn)

theorem spot_none {w : World} {a : Addr} {v : Value} (h : w.cell? a = some v) : a.spot = none := by
  unfold World.cell? at h
  split at h
  · split at h
    · cases h
    · rename_i hs; simpa using hs
  · cases h

theorem rd_slice {t e c : TypeId} {α : Type} {cells : α → List Ty} {wf : α → Prop} {sz : α → Nat} {rc : α → Prop} (ht : P.underlying t = some (.slice e)) (hc : P.cellsOf e = c) (hc0 : 0 < c) (he : Rd P e cells wf sz rc) (hcl : ∀ x, wf x → (cells x).length = c) :
    Rd P t (fun xs : List α => [Ty.sl c xs.length (xs.flatMap cells)]) (fun xs => xs.length ≤ maxLen ∧ ∀ x ∈ xs, wf x) (fun xs => (xs.map sz).sum + 1) (fun xs => xs.length * P.bytesOf e ≤ reachBytes ∧ ∀ x ∈ xs, rc x) := by
  intro H enc B BA hB W fuel cs d ps h
  rcases open_slice ht h with ⟨rfl, e1⟩ | ⟨a, len, cap, m, n, D, Pl, rfl, _, hlen, hcap, hm, e1, hel⟩
  · obtain ⟨rfl, rfl⟩ := Prod.mk.inj e1
    exact ⟨[], ⟨Nat.zero_le _, fun x h => by cases h⟩, by simpa using hB.one _, fun _ => ⟨by simp, fun x h => by cases h⟩, rfl, one_cell ⟨none, 0, 0, 0, rfl, ⟨Nat.le_refl _, by decide⟩, by simp, .inl rfl, fun j T hj => by simp at hj⟩⟩
  · obtain ⟨rfl, rfl⟩ := Prod.mk.inj e1
    subst hc
    simp only [if_true] at hm
    subst hm
    have hx : ∀ i : Fin len, ∃ x : α, ∃ cs' : List Value, W.cells? 0 (a.add (i * P.cellsOf e)) (P.cellsOf e) = some cs' ∧ wf x ∧ sz x ≤ B (D i) ∧ (((D i).weights P e).all (· ≤ reachBytes) = true → rc x) ∧ cs'.length = (cells x).length ∧
        ∀ (j : Nat) (T : Ty) (u : Value), (cells x)[j]? = some T → cs'[j]? = some u → T.has (GW.all W) u := by
      intro i
      obtain ⟨cs', h1, h2⟩ := hel i (by omega)
      obtain ⟨x, hx⟩ := he H enc B BA hB W n cs' _ _ h2
      exact ⟨x, cs', h1, hx⟩
    let f : Fin len → α := fun i => Classical.choose (hx i)
    have hf : ∀ i : Fin len, ∃ cs' : List Value, W.cells? 0 (a.add (i * P.cellsOf e)) (P.cellsOf e) = some cs' ∧ wf (f i) ∧ sz (f i) ≤ B (D i) ∧ (((D i).weights P e).all (· ≤ reachBytes) = true → rc (f i)) ∧ cs'.length = (cells (f i)).length ∧
        ∀ (j : Nat) (T : Ty) (u : Value), (cells (f i))[j]? = some T → cs'[j]? = some u → T.has (GW.all W) u := fun i => Classical.choose_spec (hx i)
    have hlf : (List.ofFn f).length = len := by simp
    have hget : ∀ (i : Nat) (x : α), (List.ofFn f)[i]? = some x → ∃ hi : i < len, x = f ⟨i, hi⟩ := fun i x h => by
      have hi : i < len := by have := (List.getElem?_eq_some_iff.1 h).1; simpa using this
      refine ⟨hi, ?_⟩
      rw [List.getElem?_ofFn] at h
      simp [hi] at h
      exact h.symm
    have hmem : ∀ x ∈ List.ofFn f, ∃ i : Fin len, x = f i := fun x h => by
      obtain ⟨i, hi⟩ := List.mem_iff_getElem?.1 h
      obtain ⟨hi', rfl⟩ := hget i x hi
      exact ⟨⟨i, hi'⟩, rfl⟩
    have hwf : ∀ x ∈ List.ofFn f, wf x := fun x h => by
      obtain ⟨i, rfl⟩ := hmem x h
      obtain ⟨_, _, h1, _⟩ := hf i
      exact h1
    have hflat : ∀ (xs : List α), (∀ x ∈ xs, wf x) → (xs.flatMap cells).length = xs.length * P.cellsOf e := fun xs h => by
      induction xs with
      | nil => simp
      | cons x xs ih =>
        rw [List.flatMap_cons, List.length_append, hcl x (h x (by simp)), ih (fun y hy => h y (by simp [hy])), List.length_cons, Nat.succ_mul]; omega
    refine ⟨List.ofFn f, ⟨by rw [hlf]; omega, hwf⟩, ?_, fun hr => ⟨?_, fun x h => ?_⟩, rfl, one_cell ?_⟩
    · rw [hB.slice]
      have := BA_map hB sz (List.ofFn f) ((List.range len).map D) (by simp) (fun i x d hx hd => by
        obtain ⟨hi, rfl⟩ := hget i x hx
        obtain ⟨_, _, _, h2, _⟩ := hf ⟨i, hi⟩
        rw [List.getElem?_map, List.getElem?_range hi] at hd
        simp at hd; subst hd; exact h2)
      show (List.map sz (List.ofFn f)).sum + 1 ≤ _
      omega
    · rw [hlf]
      have : (((List.range len).map D).length + ((List.range (m - len)).map fun j => D (len + j)).length) * P.bytesOf e ≤ reachBytes := by
        have := List.all_eq_true.1 hr _ (by simp only [DataW.weights, ht]; exact List.mem_cons_self)
        simpa using this
      refine Nat.le_trans (Nat.mul_le_mul_right _ ?_) this
      simp
    · obtain ⟨i, rfl⟩ := hmem x h
      obtain ⟨_, _, _, _, h3, _⟩ := hf i
      refine h3 (List.all_eq_true.2 fun k hk => ?_)
      refine List.all_eq_true.1 hr k ?_
      simp only [DataW.weights, ht]
      refine List.mem_cons_of_mem _ (List.mem_append.2 (.inl (weightsAll_mem (D := List.map D (List.range len)) (d := D i.val) (List.mem_map.2 ⟨i.val, List.mem_range.2 i.2, rfl⟩) k hk)))
    · -- the cells
      by_cases h0 : len = 0
      · have e0 : List.ofFn f = [] := List.eq_nil_of_length_eq_zero (by rw [hlf, h0])
        rw [e0, h0]
        exact ⟨some a, m, 0, 0, rfl, ⟨Nat.zero_le _, hcap⟩, by simp, .inl rfl, fun j T hj => by simp at hj⟩
      · have hcell : ∀ (i : Fin len) (k : Nat) (T : Ty), (cells (f i))[k]? = some T → ∃ u, W.cell? ((a.add (i * P.cellsOf e)).add k) = some u ∧ T.has (GW.all W) u := fun i k T hT => by
          obtain ⟨cs', h1, h2, _, _, h5, h6⟩ := hf i
          have hk : k < cs'.length := by rw [h5]; exact (List.getElem?_eq_some_iff.1 hT).1
          refine ⟨cs'[k], ?_, h6 k T _ hT (by simp [hk])⟩
          have hkc : k < P.cellsOf e := by rw [← hcl _ h2, ← h5]; exact hk
          unfold World.cells? at h1
          rw [if_pos (Nat.zero_le _)] at h1
          have := mapM_some_get h1 k k (by rw [List.getElem?_range hkc])
          rw [this]; simp [hk]
        have hspot : a.spot = none := by
          obtain ⟨cs', h1, h2, _, _, h5, h6⟩ := hf ⟨0, by omega⟩
          have h7 : 0 < (cells (f ⟨0, by omega⟩)).length := by rw [hcl _ h2]; exact hc0
          obtain ⟨u, hu, _⟩ := hcell ⟨0, by omega⟩ 0 _ (List.getElem?_eq_getElem h7)
          simp [Addr.add] at hu
          exact spot_none hu
        obtain ⟨ab, ao, asp⟩ := a
        simp only at hspot
        subst hspot
        have hlt : ab < W.heap.size := by
          obtain ⟨cs', h1, h2, _, _, h5, h6⟩ := hf ⟨0, by omega⟩
          have h7 : 0 < (cells (f ⟨0, by omega⟩)).length := by rw [hcl _ h2]; exact hc0
          obtain ⟨u, hu, _⟩ := hcell ⟨0, by omega⟩ 0 _ (List.getElem?_eq_getElem h7)
          simp [Addr.add] at hu
          exact World.block_lt_of_cell? _ _ hu
        refine ⟨some ⟨ab, ao, none⟩, m, ab, ao, by rw [hlf], ⟨by omega, hcap⟩, hflat _ hwf, .inr ⟨rfl, by simp [GW.all, hlt]⟩, fun j T hj => ?_⟩
        -- cell j is cell j % c of element j / c
        have key : ∀ (xs : List α) (o : Nat), (∀ x ∈ xs, wf x) → (∀ (i : Nat) x, xs[i]? = some x → ∀ (k : Nat) (T : Ty), (cells x)[k]? = some T → ∃ u, W.cell? ⟨ab, o + i * P.cellsOf e + k, none⟩ = some u ∧ T.has (GW.all W) u) →
            ∀ (j : Nat) (T : Ty), (xs.flatMap cells)[j]? = some T → ∃ u, W.cell? ⟨ab, o + j, none⟩ = some u ∧ T.has (GW.all W) u := by
          intro xs
          induction xs with
          | nil => intro o _ _ j T hj; simp at hj
          | cons x xs ih =>
            intro o hw hc j T hj
            rw [List.flatMap_cons] at hj
            have hlx := hcl x (hw x (by simp))
            by_cases hjl : j < (cells x).length
            · rw [List.getElem?_append_left hjl] at hj
              have := hc 0 x rfl j T hj
              simpa using this
            · rw [List.getElem?_append_right (by omega)] at hj
              have := ih (o + P.cellsOf e) (fun y hy => hw y (by simp [hy])) (fun i y hy k T hT => by
                have := hc (i + 1) y (by simpa using hy) k T hT
                rw [Nat.succ_mul] at this
                rw [show o + P.cellsOf e + i * P.cellsOf e + k = o + (i * P.cellsOf e + P.cellsOf e) + k by omega]
                exact this) _ T hj
              rw [hlx] at this hjl
              rwa [show o + P.cellsOf e + (j - P.cellsOf e) = o + j by omega] at this
        refine key (List.ofFn f) ao hwf (fun i x hx k T hT => ?_) j T hj
        obtain ⟨hi, rfl⟩ := hget i x hx
        have := hcell ⟨i, hi⟩ k T hT
        simp only [Addr.add_lit] at this
        exact this

theorem Rd.conv {t : TypeId} {α β : Type} {cells : α → List Ty} {wf : α → Prop} {sz : α → Nat} {rc : α → Prop} {cells' : β → List Ty} {wf' : β → Prop} {sz' : β → Nat} {rc' : β → Prop} (h : Rd P t cells wf sz rc) (g : α → β)
    (hg : ∀ x, wf x → wf' (g x) ∧ sz' (g x) ≤ sz x ∧ (rc x → rc' (g x)) ∧ cells' (g x) = cells x) : Rd P t cells' wf' sz' rc' := by
  intro H enc B BA hB W fuel cs d ps ht
  obtain ⟨x, h1, h2, h3, h4, h5⟩ := h H enc B BA hB W fuel cs d ps ht
  obtain ⟨g1, g2, g3, g4⟩ := hg x h1
  exact ⟨g x, g1, Nat.le_trans g2 h2, fun h => g3 (h3 h), by rw [g4]; exact h4, by rw [g4]; exact h5⟩

theorem flatMap_one {α : Type} (f : α → Ty) (xs : List α) : xs.flatMap (fun x => [f x]) = xs.map f := by
  induction xs with
  | nil => rfl
  | cons x xs ih => simp [ih]

theorem rd_lst {t e : TypeId} {α : Type} {f : α → Ty} {wf : α → Prop} {sz : α → Nat} {rc : α → Prop} (ht : P.underlying t = some (.slice e)) (hc : P.cellsOf e = 1) (he : Rd P e (fun x => [f x]) wf sz rc) :
    Rd P t (fun xs : List α => [Ty.lst f xs]) (fun xs => xs.length ≤ maxLen ∧ ∀ x ∈ xs, wf x) (fun xs => (xs.map sz).sum + 1) (fun xs => xs.length * P.bytesOf e ≤ reachBytes ∧ ∀ x ∈ xs, rc x) :=
  (rd_slice ht hc (by decide) he (fun _ _ => rfl)).conv id fun x h => ⟨h, Nat.le_refl _, id, by simp [flatMap_one, Ty.lst]⟩

/-! ### Back to the row -/
theorem trodAll_stays {H : Type} {enc : TypeId × Value → H} (hl : laidOutB P = true) {W W' : World} (hb : Below W.heap.size W W') : ∀ {ts : List TypeId} {vs : List Value} {ds : List (DataW H)} {ps : List MemPlace},
    DataW.TrodAll enc P W 0 (fun _ => true) true ts vs ds ps → (ts.all fun t => P.readableRec t && decide (t < P.types.size)) = true → (∀ x ∈ ps, x.block < W.heap.size) → DataW.TrodAll enc P W' 0 (fun b => decide (b < W.heap.size)) true ts vs ds ps
  | [], [], [], ps, h, _, _ => h
  | t :: ts, v :: vs, d :: ds, ps, h, ha, hp => by
    obtain ⟨p, q, h1, h2, rfl⟩ := h
    simp only [List.all_cons, Bool.and_eq_true, decide_eq_true_eq] at ha
    exact ⟨p, q, Below.trod hl ha.1.1 ha.1.2 h1 hb (fun x hx => hp x (List.mem_append.2 (.inl hx))), trodAll_stays hl hb h2 ha.2 (fun x hx => hp x (List.mem_append.2 (.inr hx))), rfl⟩
  | [], [], _ :: _, _, h, _, _ => h.elim
  | [], _ :: _, _, _, h, _, _ => h.elim
  | _ :: _, [], _, _, h, _, _ => h.elim
  | _ :: _, _ :: _, [], _, h, _, _ => h.elim

theorem law_post {H : Type} {enc : TypeId × Value → H} {fn : Func} {f : FuncId} {s : ChangeSpec} {W : World} {args : Array Value} {ds gs : List (DataW H)} {before : List MemPlace} {tb : TypeId}
    (hres : fn.resultTypes = #[tb]) (hb : P.underlying tb = some .bool) (hl : laidOutB P = true) (hr : (fn.params.toList.all fun t => P.readableRec t && decide (t < P.types.size)) = true)
    (hW : DataW.Whole enc P fn.params.toList s.vars false W args.toList ds gs before) (hv : s.vars = []) (hs : s.fn H (ds ++ gs) = { results := [.lit (.bool true)], args := ds })
    (hc : FnC P f args (GW.all W) (Ty.bool true)) : Calls P f args W fun e W' => ∃ v, e = .returned v ∧ s.post enc P fn false true false false W args v W' := by
  refine Calls.mono hc ?_
  rintro e W' ⟨v, τ, rfl, hstp, rfl, hvv⟩
  have hbel : Below W.heap.size W τ.w := ⟨hstp.os, hstp.tape, hstp.output, hstp.size, fun k hk => hstp.blk k hk (.inl rfl)⟩
  have hW' := hW
  obtain ⟨p, q, hA, hV, rfl, _, _⟩ := hW
  have hq : q = [] := by
    rw [hv] at hV
    cases gs with
    | nil => exact hV
    | cons _ _ => exact hV.elim
  subst hq
  have hgs : gs = [] := by
    rw [hv] at hV
    cases gs with
    | nil => rfl
    | cons _ _ => exact hV.elim
  subst hgs
  have hvv' : v = .bool true := hvv
  subst hvv'
  refine ⟨_, rfl, ds, [], _, [], p, [], hW', ?_, ?_, ?_, hbel.frame _, fun h => by cases h⟩
  · rw [hs, hres]
    exact trodAll_mk1 (shut_bool hb true)
  · rw [hs]
    exact trodAll_stays hl hbel hA hr (fun x hx => hW'.lt x (List.mem_append.2 (.inl hx)))
  · rw [hs, hv]; rfl

theorem arg_one {H : Type} {enc : TypeId × Value → H} {B : DataW H → Nat} {BA : List (DataW H) → Nat} (hB : Bulk B BA) {W : World} {t : TypeId} {v : Value} {d : DataW H} {ps : List MemPlace} {α : Type} {T : α → Ty} {wf : α → Prop} {sz : α → Nat} {rc : α → Prop}
    (h : Rd P t (fun x => [T x]) wf sz rc) (hone : v.cells = #[v]) (ht : DataW.Trod enc P W 0 (fun _ => true) true t v d ps) : ∃ x : α, wf x ∧ sz x ≤ B d ∧ ((d.weights P t).all (· ≤ reachBytes) = true → rc x) ∧ (T x).has (GW.all W) v := by
  obtain ⟨fuel, hf⟩ := ht
  rw [hone] at hf
  obtain ⟨x, h1, h2, h3, _, h5⟩ := h H enc B BA hB W fuel _ d ps hf
  exact ⟨x, h1, h2, h3, h5 0 _ _ rfl rfl⟩
theorem one_slice {e : TypeId} {w : World} {r : Reach} {base : Nat} {t : TypeId} {v : Value} (ht : P.underlying t = some (.slice e)) (h : Value.okWide P w r base t v) : v.cells = #[v] := by
  obtain ⟨a, l, c, rfl⟩ := okWide_slice ht h; rfl
theorem one_int {k : IntKind} {w : World} {r : Reach} {base : Nat} {t : TypeId} {v : Value} (ht : P.underlying t = some (.int k)) (h : Value.okWide P w r base t v) : v.cells = #[v] := by
  obtain ⟨s, rfl⟩ := okWide_int ht h; rfl
theorem weightsEach_cons {H : Type} {t : TypeId} {ts : List TypeId} {d : DataW H} {ds : List (DataW H)} (h : (DataW.weightsEach P (t :: ts) (d :: ds)).all (· ≤ reachBytes) = true) : (d.weights P t).all (· ≤ reachBytes) = true ∧ (DataW.weightsEach P ts ds).all (· ≤ reachBytes) = true := by
  simpa [DataW.weightsEach, List.all_append] using h
theorem i64_bd {n : Int} (h : (Lit.int .i64 n).wf = true) : -9223372036854775808 ≤ n ∧ n ≤ 9223372036854775807 := by
  simp [Lit.wf, IntKind.min, IntKind.max, IntKind.signed, IntKind.bits] at h
  omega
end Go.KL

