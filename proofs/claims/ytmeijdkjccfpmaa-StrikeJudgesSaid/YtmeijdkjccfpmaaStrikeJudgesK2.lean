/- From a row's reading of its arguments to semantic types, and from a law's contract back to the row. -/
import Derived.Test.YtmeijdkjccfpmaaStrikeJudgesK1
import Derived.ProofKit
import Derived.JoinedCond
import Derived.SizedLaws
import Derived.Deep.Slices
import Derived.Deep.CondSized
import Derived.Laws.BitsAllLaws
import Derived.Laws.Externs
import GoSem.Extern.MathFloatBits
import GoSem.Extern.MathSqrt
import Derived.Lib.DecodeN
import Derived.Deep.Strs
namespace Go.KL
open Go.ChangeShapes Go.WideShapes Go.ChangeAt Go.RowKit Go.Deep
variable {P : Program}

def GW.all (W : World) : GW := ⟨W, fun b => if b < W.heap.size then 1 else 0, fun b h => by
  by_cases hb : b < W.heap.size
  · exact hb
  · simp [hb] at h⟩

structure Bulk {H : Type} (B : DataW H → Nat) (BA : List (DataW H) → Nat) : Prop where
  one : ∀ d, 1 ≤ B d
  str : ∀ l, B (.lit (.string l)) = l.length + 1
  slice : ∀ es sp, B (.slice es sp) = BA es + BA sp + 1
  agg : ∀ ps, B (.agg ps) = BA ps + 1
  nil : BA [] = 0
  cons : ∀ d r, BA (d :: r) = B d + BA r

def Rd (P : Program) (t : TypeId) {α : Type} (cells : α → List Ty) (wf : α → Prop) (sz : α → Nat) (rc : α → Prop) : Prop :=
  ∀ (H : Type) (enc : TypeId × Value → H) (B : DataW H → Nat) (BA : List (DataW H) → Nat), Bulk B BA → ∀ (W : World) (fuel : Nat) (cs : List Value) (d : DataW H) (ps : List MemPlace),
    DataW.trod enc P W 0 (fun _ => true) true fuel t cs = some (d, ps) → ∃ x : α, wf x ∧ sz x ≤ B d ∧ ((d.weights P t).all (· ≤ reachBytes) = true → rc x) ∧ cs.length = (cells x).length ∧
      ∀ (j : Nat) (T : Ty) (u : Value), (cells x)[j]? = some T → cs[j]? = some u → T.has (GW.all W) u

theorem one_cell {T : Ty} {v : Value} {σ : GW} (h : T.has σ v) : ∀ (j : Nat) (U : Ty) (u : Value), [T][j]? = some U → [v][j]? = some u → U.has σ u := by
  intro j U u h1 h2
  match j with
  | 0 => simp at h1 h2; subst h1; subst h2; exact h
  | j + 1 => simp at h1

theorem rd_int {t : TypeId} {k : IntKind} (ht : P.underlying t = some (.int k)) : Rd P t (fun n : Int => [Ty.val (.int k n)]) (fun n => (Lit.int k n).wf = true) (fun _ => 1) (fun _ => True) := by
  intro H enc B BA hB W fuel cs d ps h
  obtain ⟨n, rfl, e, hw⟩ := DataW.trod_int ht h
  obtain ⟨rfl, rfl⟩ := Prod.mk.inj e
  exact ⟨n, hw, hB.one _, fun _ => trivial, rfl, one_cell rfl⟩
theorem BA_map {H : Type} {B : DataW H → Nat} {BA : List (DataW H) → Nat} (hB : Bulk B BA) {α : Type} (sz : α → Nat) : ∀ (xs : List α) (D : List (DataW H)), xs.length = D.length → (∀ (i : Nat) x d, xs[i]? = some x → D[i]? = some d → sz x ≤ B d) → (xs.map sz).sum ≤ BA D
  | [], [], _, _ => by simp
  | x :: xs, d :: D, hl, h => by
    rw [hB.cons, List.map_cons, List.sum_cons]
    have h0 := h 0 x d rfl rfl
    have := BA_map hB sz xs D (by simpa using hl) (fun i y e hy he => h (i + 1) y e (by simpa using hy) (by simpa using he))
    omega

theorem weightsAll_mem {H : Type} {e : TypeId} : ∀ {D : List (DataW H)} {d : DataW H}, d ∈ D → ∀ n, n ∈ d.weights P e → n ∈ DataW.weightsAll P e D
  | x :: D, d, h, n, hn => by
    simp only [DataW.weightsAll, List.mem_append]
    rcases List.mem_cons.1 h with rfl | h
    · exact .inl hn
    · exact .inr (weightsAll_mem h n hn)

theorem spot_none {w : World} {a : Addr} {v : Value} (h : w.cell? a = some v) : a.spot = none := by
  unfold World.cell? at h
  split at h
  · split at h
    · cases h
    · rename_i hs; simpa using hs
  · cases h

theorem rd_slice {t e c : TypeId} {α : Type} {cells : α → List Ty} {wf : α → Prop} {sz : α → Nat} {rc : α → Prop} (ht : P.underlying t = some (.slice e)) (hc : P.cellsOf e = c) (hc0 : 0 < c) (he : Rd P e cells wf sz rc) (hcl : ∀ x, wf x → (cells x).length = c) :
    Rd P t (fun xs : List α => [Ty.sl c xs.length (xs.flatMap cells)]) (fun xs => xs.length ≤ maxLen ∧ ∀ x ∈ xs, wf x) (fun xs => (xs.map sz).sum + 1) (fun xs => xs.length * P.bytesOf e ≤ reachBytes ∧ ∀ x ∈ xs, rc x) := by
  intro H enc B BA hB W fuel cs d ps h
  rcases open_slice ht h with ⟨rfl, e1⟩ | ⟨a, len, cap, m, n, D, Pl, rfl, _, hlen, hcap, hm, e1, hel⟩
  · obtain ⟨rfl, rfl⟩ := Prod.mk.inj e1
    exact ⟨[], ⟨Nat.zero_le _, fun x h => by cases h⟩, by simpa using hB.one _, fun _ => ⟨by simp, fun x h => by cases h⟩, rfl, one_cell ⟨none, 0, 0, 0, rfl, ⟨Nat.le_refl _, by decide⟩, by simp, .inl rfl, fun j T hj => by simp at hj⟩⟩
  · obtain ⟨rfl, rfl⟩ := Prod.mk.inj e1
    subst hc
    simp only [if_true] at hm
    subst hm
    have hx : ∀ i : Fin len, ∃ x : α, ∃ cs' : List Value, W.cells? 0 (a.add (i * P.cellsOf e)) (P.cellsOf e) = some cs' ∧ wf x ∧ sz x ≤ B (D i) ∧ (((D i).weights P e).all (· ≤ reachBytes) = true → rc x) ∧ cs'.length = (cells x).length ∧
        ∀ (j : Nat) (T : Ty) (u : Value), (cells x)[j]? = some T → cs'[j]? = some u → T.has (GW.all W) u := by
      intro i
      obtain ⟨cs', h1, h2⟩ := hel i (by omega)
      obtain ⟨x, hx⟩ := he H enc B BA hB W n cs' _ _ h2
      exact ⟨x, cs', h1, hx⟩
    let f : Fin len → α := fun i => Classical.choose (hx i)
    have hf : ∀ i : Fin len, ∃ cs' : List Value, W.cells? 0 (a.add (i * P.cellsOf e)) (P.cellsOf e) = some cs' ∧ wf (f i) ∧ sz (f i) ≤ B (D i) ∧ (((D i).weights P e).all (· ≤ reachBytes) = true → rc (f i)) ∧ cs'.length = (cells (f i)).length ∧
        ∀ (j : Nat) (T : Ty) (u : Value), (cells (f i))[j]? = some T → cs'[j]? = some u → T.has (GW.all W) u := fun i => Classical.choose_spec (hx i)
    have hlf : (List.ofFn f).length = len := by simp
    have hget : ∀ (i : Nat) (x : α), (List.ofFn f)[i]? = some x → ∃ hi : i < len, x = f ⟨i, hi⟩ := fun i x h => by
      have hi : i < len := by have := (List.getElem?_eq_some_iff.1 h).1; simpa using this
      refine ⟨hi, ?_⟩
      rw [List.getElem?_ofFn] at h
      simp [hi] at h
      exact h.symm
    have hmem : ∀ x ∈ List.ofFn f, ∃ i : Fin len, x = f i := fun x h => by
      obtain ⟨i, hi⟩ := List.mem_iff_getElem?.1 h
      obtain ⟨hi', rfl⟩ := hget i x hi
      exact ⟨⟨i, hi'⟩, rfl⟩
    have hwf : ∀ x ∈ List.ofFn f, wf x := fun x h => by
      obtain ⟨i, rfl⟩ := hmem x h
      obtain ⟨_, _, h1, _⟩ := hf i
      exact h1
    have hflat : ∀ (xs : List α), (∀ x ∈ xs, wf x) → (xs.flatMap cells).length = xs.length * P.cellsOf e := fun xs h => by
      induction xs with
      | nil => simp
      | cons x xs ih =>
        rw [List.flatMap_cons, List.length_append, hcl x (h x (by simp)), ih (fun y hy => h y (by simp [hy])), List.length_cons, Nat.succ_mul]; omega
    refine ⟨List.ofFn f, ⟨by rw [hlf]; omega, hwf⟩, ?_, fun hr => ⟨?_, fun x h => ?_⟩, rfl, one_cell ?_⟩
    · rw [hB.slice]
      have := BA_map hB sz (List.ofFn f) ((List.range len).map D) (by simp) (fun i x d hx hd => by
        obtain ⟨hi, rfl⟩ := hget i x hx
        obtain ⟨_, _, _, h2, _⟩ := hf ⟨i, hi⟩
        rw [List.getElem?_map, List.getElem?_range hi] at hd
        simp at hd; subst hd; exact h2)
      show (List.map sz (List.ofFn f)).sum + 1 ≤ _
      omega
    · rw [hlf]
      have : (((List.range len).map D).length + ((List.range (m - len)).map fun j => D (len + j)).length) * P.bytesOf e ≤ reachBytes := by
        have := List.all_eq_true.1 hr _ (by simp only [DataW.weights, ht]; exact List.mem_cons_self)
        simpa using this
      refine Nat.le_trans (Nat.mul_le_mul_right _ ?_) this
      simp
    · obtain ⟨i, rfl⟩ := hmem x h
      obtain ⟨_, _, _, _, h3, _⟩ := hf i
      refine h3 (List.all_eq_true.2 fun k hk => ?_)
      refine List.all_eq_true.1 hr k ?_
      simp only [DataW.weights, ht]
      refine List.mem_cons_of_mem _ (List.mem_append.2 (.inl (weightsAll_mem (D := List.map D (List.range len)) (d := D i.val) (List.mem_map.2 ⟨i.val, List.mem_range.2 i.2, rfl⟩) k hk)))
    · -- the cells
      by_cases h0 : len = 0
      · have e0 : List.ofFn f = [] := List.eq_nil_of_length_eq_zero (by rw [hlf, h0])
        rw [e0, h0]
        exact ⟨some a, m, 0, 0, rfl, ⟨Nat.zero_le _, hcap⟩, by simp, .inl rfl, fun j T hj => by simp at hj⟩
      · have hcell : ∀ (i : Fin len) (k : Nat) (T : Ty), (cells (f i))[k]? = some T → ∃ u, W.cell? ((a.add (i * P.cellsOf e)).add k) = some u ∧ T.has (GW.all W) u := fun i k T hT => by
          obtain ⟨cs', h1, h2, _, _, h5, h6⟩ := hf i
          have hk : k < cs'.length := by rw [h5]; exact (List.getElem?_eq_some_iff.1 hT).1
          refine ⟨cs'[k], ?_, h6 k T _ hT (by simp [hk])⟩
          have hkc : k < P.cellsOf e := by rw [← hcl _ h2, ← h5]; exact hk
          unfold World.cells? at h1
          rw [if_pos (Nat.zero_le _)] at h1
          have := mapM_some_get h1 k k (by rw [List.getElem?_range hkc])
          rw [this]; simp [hk]
        have hspot : a.spot = none := by
          obtain ⟨cs', h1, h2, _, _, h5, h6⟩ := hf ⟨0, by omega⟩
          have h7 : 0 < (cells (f ⟨0, by omega⟩)).length := by rw [hcl _ h2]; exact hc0
          obtain ⟨u, hu, _⟩ := hcell ⟨0, by omega⟩ 0 _ (List.getElem?_eq_getElem h7)
          simp [Addr.add] at hu
          exact spot_none hu
        obtain ⟨ab, ao, asp⟩ := a
        simp only at hspot
        subst hspot
        have hlt : ab < W.heap.size := by
          obtain ⟨cs', h1, h2, _, _, h5, h6⟩ := hf ⟨0, by omega⟩
          have h7 : 0 < (cells (f ⟨0, by omega⟩)).length := by rw [hcl _ h2]; exact hc0
          obtain ⟨u, hu, _⟩ := hcell ⟨0, by omega⟩ 0 _ (List.getElem?_eq_getElem h7)
          simp [Addr.add] at hu
          exact World.block_lt_of_cell? _ _ hu
        refine ⟨some ⟨ab, ao, none⟩, m, ab, ao, by rw [hlf], ⟨by omega, hcap⟩, hflat _ hwf, .inr ⟨rfl, by simp [GW.all, hlt]⟩, fun j T hj => ?_⟩
        -- cell j is cell j % c of element j / c
        have key : ∀ (xs : List α) (o : Nat), (∀ x ∈ xs, wf x) → (∀ (i : Nat) x, xs[i]? = some x → ∀ (k : Nat) (T : Ty), (cells x)[k]? = some T → ∃ u, W.cell? ⟨ab, o + i * P.cellsOf e + k, none⟩ = some u ∧ T.has (GW.all W) u) →
            ∀ (j : Nat) (T : Ty), (xs.flatMap cells)[j]? = some T → ∃ u, W.cell? ⟨ab, o + j, none⟩ = some u ∧ T.has (GW.all W) u := by
          intro xs
          induction xs with
          | nil => intro o _ _ j T hj; simp at hj
          | cons x xs ih =>
            intro o hw hc j T hj
            rw [List.flatMap_cons] at hj
            have hlx := hcl x (hw x (by simp))
            by_cases hjl : j < (cells x).length
            · rw [List.getElem?_append_left hjl] at hj
              have := hc 0 x rfl j T hj
              simpa using this
            · rw [List.getElem?_append_right (by omega)] at hj
              have := ih (o + P.cellsOf e) (fun y hy => hw y (by simp [hy])) (fun i y hy k T hT => by
                have := hc (i + 1) y (by simpa using hy) k T hT
                rw [Nat.succ_mul] at this
                rw [show o + P.cellsOf e + i * P.cellsOf e + k = o + (i * P.cellsOf e + P.cellsOf e) + k by omega]
                exact this) _ T hj
              rw [hlx] at this hjl
              rwa [show o + P.cellsOf e + (j - P.cellsOf e) = o + j by omega] at this
        refine key (List.ofFn f) ao hwf (fun i x hx k T hT => ?_) j T hj
        obtain ⟨hi, rfl⟩ := hget i x hx
        have := hcell ⟨i, hi⟩ k T hT
        simp only [Addr.add_lit] at this
        exact this

/-! ### Back to the row -/
theorem trodAll_stays {H : Type} {enc : TypeId × Value → H} (hl : laidOutB P = true) {W W' : World} (hb : Below W.heap.size W W') : ∀ {ts : List TypeId} {vs : List Value} {ds : List (DataW H)} {ps : List MemPlace},
    DataW.TrodAll enc P W 0 (fun _ => true) true ts vs ds ps → (ts.all fun t => P.readableRec t && decide (t < P.types.size)) = true → (∀ x ∈ ps, x.block < W.heap.size) → DataW.TrodAll enc P W' 0 (fun b => decide (b < W.heap.size)) true ts vs ds ps
  | [], [], [], ps, h, _, _ => h
  | t :: ts, v :: vs, d :: ds, ps, h, ha, hp => by
    obtain ⟨p, q, h1, h2, rfl⟩ := h
    simp only [List.all_cons, Bool.and_eq_true, decide_eq_true_eq] at ha
    exact ⟨p, q, Below.trod hl ha.1.1 ha.1.2 h1 hb (fun x hx => hp x (List.mem_append.2 (.inl hx))), trodAll_stays hl hb h2 ha.2 (fun x hx => hp x (List.mem_append.2 (.inr hx))), rfl⟩
  | [], [], _ :: _, _, h, _, _ => h.elim
  | [], _ :: _, _, _, h, _, _ => h.elim
  | _ :: _, [], _, _, h, _, _ => h.elim
  | _ :: _, _ :: _, [], _, h, _, _ => h.elim

theorem law_post {H : Type} {enc : TypeId × Value → H} {fn : Func} {f : FuncId} {s : ChangeSpec} {W : World} {args : Array Value} {ds gs : List (DataW H)} {before : List MemPlace} {tb : TypeId}
    (hres : fn.resultTypes = #[tb]) (hb : P.underlying tb = some .bool) (hl : laidOutB P = true) (hr : (fn.params.toList.all fun t => P.readableRec t && decide (t < P.types.size)) = true)
    (hW : DataW.Whole enc P fn.params.toList s.vars false W args.toList ds gs before) (hv : s.vars = []) (hs : s.fn H (ds ++ gs) = { results := [.lit (.bool true)], args := ds })
    (hc : FnC P f args (GW.all W) (Ty.bool true)) : Calls P f args W fun e W' => ∃ v, e = .returned v ∧ s.post enc P fn false true false false W args v W' := by
  refine Calls.mono hc ?_
  rintro e W' ⟨v, τ, rfl, hstp, rfl, hvv⟩
  have hbel : Below W.heap.size W τ.w := ⟨hstp.os, hstp.tape, hstp.output, hstp.size, fun k hk => hstp.blk k hk (.inl rfl)⟩
  have hW' := hW
  obtain ⟨p, q, hA, hV, rfl, _, _⟩ := hW
  have hq : q = [] := by
    rw [hv] at hV
    cases gs with
    | nil => exact hV
    | cons _ _ => exact hV.elim
  subst hq
  have hgs : gs = [] := by
    rw [hv] at hV
    cases gs with
    | nil => rfl
    | cons _ _ => exact hV.elim
  subst hgs
  have hvv' : v = .bool true := hvv
  subst hvv'
  refine ⟨_, rfl, ds, [], _, [], p, [], hW', ?_, ?_, ?_, hbel.frame _, fun h => by cases h⟩
  · rw [hs, hres]
    exact trodAll_mk1 (shut_bool hb true)
  · rw [hs]
    exact trodAll_stays hl hbel hA hr (fun x hx => hW'.lt x (List.mem_append.2 (.inl hx)))
  · rw [hs, hv]; rfl

theorem arg_one {H : Type} {enc : TypeId × Value → H} {B : DataW H → Nat} {BA : List (DataW H) → Nat} (hB : Bulk B BA) {W : World} {t : TypeId} {v : Value} {d : DataW H} {ps : List MemPlace} {α : Type} {T : α → Ty} {wf : α → Prop} {sz : α → Nat} {rc : α → Prop}
    (h : Rd P t (fun x => [T x]) wf sz rc) (hone : v.cells = #[v]) (ht : DataW.Trod enc P W 0 (fun _ => true) true t v d ps) : ∃ x : α, wf x ∧ sz x ≤ B d ∧ ((d.weights P t).all (· ≤ reachBytes) = true → rc x) ∧ (T x).has (GW.all W) v := by
  obtain ⟨fuel, hf⟩ := ht
  rw [hone] at hf
  obtain ⟨x, h1, h2, h3, _, h5⟩ := h H enc B BA hB W fuel _ d ps hf
  exact ⟨x, h1, h2, h3, h5 0 _ _ rfl rfl⟩
theorem one_slice {e : TypeId} {w : World} {r : Reach} {base : Nat} {t : TypeId} {v : Value} (ht : P.underlying t = some (.slice e)) (h : Value.okWide P w r base t v) : v.cells = #[v] := by
  obtain ⟨a, l, c, rfl⟩ := okWide_slice ht h; rfl
theorem one_int {k : IntKind} {w : World} {r : Reach} {base : Nat} {t : TypeId} {v : Value} (ht : P.underlying t = some (.int k)) (h : Value.okWide P w r base t v) : v.cells = #[v] := by
  obtain ⟨s, rfl⟩ := okWide_int ht h; rfl
theorem weightsEach_cons {H : Type} {t : TypeId} {ts : List TypeId} {d : DataW H} {ds : List (DataW H)} (h : (DataW.weightsEach P (t :: ts) (d :: ds)).all (· ≤ reachBytes) = true) : (d.weights P t).all (· ≤ reachBytes) = true ∧ (DataW.weightsEach P ts ds).all (· ≤ reachBytes) = true := by
  simpa [DataW.weightsEach, List.all_append] using h
end Go.KL

/- Floats in a walk: NaNs all alike. -/
namespace Go.KL
open Ieee
/-! ### No operation writes a NaN of itself -/
theorem cn_le {b : Nat} (h : b % 9223372036854775808 ≤ 9218868437227405312) : cn b = some b := by
  unfold cn
  rw [if_neg]
  rw [read_eq]
  split
  · simp [Datum.isNaN]
  · split
    · simp [Datum.isNaN]
    · split
      · simp [Datum.isNaN]
      · omega
theorem cn_gt {b : Nat} (h : 9218868437227405312 < b % 9223372036854775808) : cn b = none := by
  unfold cn
  rw [if_pos]
  rw [read_eq, if_neg (by omega), if_neg (by omega), if_neg (by omega)]; rfl
theorem cn_word (s : Bool) {r : Nat} (h : r ≤ 9218868437227405312) : cn (Ieee.double.word s r) = some (Ieee.double.word s r) := by
  apply cn_le
  rw [word_eq]
  split <;> omega
theorem cn_write {d : Datum} (h : d.isNaN = false) : cn (Ieee.double.write d) = some (Ieee.double.write d) := by
  cases d with
  | number s m i =>
    show cn (Ieee.double.nearest s m i) = some (Ieee.double.nearest s m i)
    unfold Format.nearest
    split
    · exact cn_word s (by omega)
    · simp only []
      refine cn_word s ?_
      rw [← infR_eq]; exact Nat.min_le_right _ _
  | infinity s => exact cn_word s (by rw [infR_eq]; omega)
  | nan s f => cases h
theorem sum_num {x y d : Datum} (h : x.sum y = some d) : d.isNaN = false ∧ x.isNaN = false ∧ y.isNaN = false := by
  cases x <;> cases y <;> simp only [Datum.sum] at h <;> (try cases h) <;> (try (split at h <;> cases h)) <;> simp [Datum.isNaN]
theorem opp_nan (x : Datum) : x.opposite.isNaN = x.isNaN := by cases x <;> rfl
theorem prod_num {x y d : Datum} (h : x.product y = some d) : d.isNaN = false ∧ x.isNaN = false ∧ y.isNaN = false := by
  cases x <;> cases y <;> simp only [Datum.product] at h <;> (try cases h) <;> (try (split at h <;> cases h)) <;> simp [Datum.isNaN]
theorem quo_num {k : Nat} {x y d : Datum} (h : x.quotient k y = some d) : d.isNaN = false ∧ x.isNaN = false ∧ y.isNaN = false := by
  cases x <;> cases y <;> simp only [Datum.quotient] at h <;> (try cases h) <;> (try (split at h <;> (try split at h) <;> cases h)) <;> simp [Datum.isNaN]
theorem root_num {k : Nat} {x d : Datum} (h : x.root k = some d) : d.isNaN = false ∧ x.isNaN = false := by
  cases x <;> simp only [Datum.root] at h <;> (try cases h) <;> (try (split at h <;> (try split at h) <;> cases h)) <;> simp [Datum.isNaN]
theorem cn_num {b : Nat} (h : (Ieee.double.read b).isNaN = false) : cn b = some b := by unfold cn; rw [if_neg (by rw [h]; decide)]
def fop (op : BinOp) (x y : FV) : FV := x.bind fun a => y.bind fun b => floatBits op .f64 a b
theorem fb_some {op : BinOp} {a b r : Nat} (h : floatBits op .f64 a b = some r) : cn a = some a ∧ cn b = some b ∧ cn r = some r ∧ r < 18446744073709551616 := by
  have hw := floatBits_wf h
  have hlt : r < 18446744073709551616 := by simpa [Lit.wf] using hw
  have key : ∀ {f : Option Datum}, f.map Ieee.double.write = some r → ∃ d, f = some d ∧ r = Ieee.double.write d := fun {f} e => by
    cases f with
    | none => cases e
    | some d => exact ⟨d, rfl, by cases e; rfl⟩
  unfold floatBits at h
  split at h
  · obtain ⟨d, e, rfl⟩ := key (f := (Ieee.double.read a).sum (Ieee.double.read b)) h
    obtain ⟨h1, h2, h3⟩ := sum_num e
    exact ⟨cn_num h2, cn_num h3, cn_write h1, hlt⟩
  · obtain ⟨d, e, rfl⟩ := key (f := (Ieee.double.read a).sum (Ieee.double.read b).opposite) h
    obtain ⟨h1, h2, h3⟩ := sum_num e
    rw [opp_nan] at h3
    exact ⟨cn_num h2, cn_num h3, cn_write h1, hlt⟩
  · obtain ⟨d, e, rfl⟩ := key (f := (Ieee.double.read a).product (Ieee.double.read b)) h
    obtain ⟨h1, h2, h3⟩ := prod_num e
    exact ⟨cn_num h2, cn_num h3, cn_write h1, hlt⟩
  · obtain ⟨d, e, rfl⟩ := key (f := (Ieee.double.read a).quotient (Ieee.double.fractionBits + 2) (Ieee.double.read b)) h
    obtain ⟨h1, h2, h3⟩ := quo_num e
    exact ⟨cn_num h2, cn_num h3, cn_write h1, hlt⟩
  · cases h
theorem nan_draw (t : Nat) : (t % 2) * 2 ^ 63 + 0x7ff0000000000000 + 1 + (t / 2) % (2 ^ 52 - 1) < 18446744073709551616 ∧ cn ((t % 2) * 2 ^ 63 + 0x7ff0000000000000 + 1 + (t / 2) % (2 ^ 52 - 1)) = none := by
  have h1 := Nat.mod_lt t (show 0 < 2 by decide)
  have h2 := Nat.mod_lt (t / 2) (show 0 < 2 ^ 52 - 1 by decide)
  refine ⟨by omega, cn_gt ?_⟩
  generalize t / 2 % (2 ^ 52 - 1) = m at h2
  have h3 : t % 2 = 0 ∨ t % 2 = 1 := by omega
  rcases h3 with h3 | h3 <;> rw [h3] <;> omega
section
variable {P : Program}
theorem run_fop {op : BinOp} (hop : op = .add ∨ op = .sub ∨ op = .mul ∨ op = .quo) (t : TypeId) (w : World) (a b : Nat) :
    ∃ r w', (binOp op t (.float .f64 a) (.float .f64 b)).run P w = .ok (.float .f64 r) w' ∧ (w' = w ∨ w' = w.drew) ∧ r < 18446744073709551616 ∧ cn r = fop op (cn a) (cn b) := by
  cases h : floatBits op .f64 a b with
  | some r =>
    obtain ⟨h1, h2, h3, h4⟩ := fb_some h
    exact ⟨r, w, run_float_arith w op t .f64 a b r h, .inl rfl, h4, by rw [h1, h2, h3]; exact h.symm⟩
  | none =>
    obtain ⟨h1, h2⟩ := nan_draw (w.tape w.drawn (.nanBits .f64 a b))
    refine ⟨_, w.drew, ?_, .inr rfl, h1, ?_⟩
    · unfold floatBits at h
      rcases hop with rfl | rfl | rfl | rfl <;> (simp only at h; simp [binOp, Op.floatArith, h, Question.forced, Question.cut])
    · rw [h2]
      unfold fop
      cases ha : cn a with
      | none => rfl
      | some a' =>
        cases hb : cn b with
        | none => rfl
        | some b' =>
          have ea : a' = a := by unfold cn at ha; split at ha <;> cases ha; rfl
          have eb : b' = b := by unfold cn at hb; split at hb <;> cases hb; rfl
          subst ea; subst eb
          exact h.symm
end
def fadd (x y : FV) : FV := fop .add x y
def fsub (x y : FV) : FV := fop .sub x y
def fmul (x y : FV) : FV := fop .mul x y
def fdiv (x y : FV) : FV := fop .quo x y
def ford (x y : FV) : Option Ordering := x.bind fun a => y.bind fun b => Ieee.double.order a b
def fEq (x y : FV) : Bool := ford x y == some .eq
def fNe (x y : FV) : Bool := ford x y != some .eq
def fLt (x y : FV) : Bool := ford x y == some .lt
def fLe (x y : FV) : Bool := ford x y == some .lt || ford x y == some .eq
def fGe (x y : FV) : Bool := ford x y == some .gt || ford x y == some .eq
def fint (n : Int) : FV := some (floatOfInt .f64 n)
def fabs (x : FV) : FV := x.map (· % 9223372036854775808)
def fsqrt (x : FV) : FV := x.bind fun a => Ieee.double.sqrt a
theorem cn_some {b c : Nat} (h : cn b = some c) : c = b ∧ (Ieee.double.read b).isNaN = false := by
  unfold cn at h
  split at h
  · cases h
  · rename_i hn
    exact ⟨by cases h; rfl, by simpa using hn⟩
theorem cn_none {b : Nat} (h : cn b = none) : (Ieee.double.read b).isNaN = true := by
  unfold cn at h
  split at h
  · assumption
  · cases h
theorem ord_cn (a b : Nat) : Ieee.double.order a b = ford (cn a) (cn b) := by
  unfold ford
  cases ha : cn a with
  | none =>
    have := cn_none ha
    unfold Format.order
    cases hr : Ieee.double.read a <;> rw [hr] at this <;> simp [Datum.isNaN] at this
    simp [Datum.order]
  | some a' =>
    obtain ⟨rfl, _⟩ := cn_some ha
    cases hb : cn b with
    | none =>
      have := cn_none hb
      unfold Format.order
      cases hr : Ieee.double.read b <;> rw [hr] at this <;> simp [Datum.isNaN] at this
      cases Ieee.double.read a' <;> simp [Datum.order]
    | some b' =>
      obtain ⟨rfl, _⟩ := cn_some hb
      rfl
def Ty.flt (o : FV) : Ty := ⟨fun _ u => ∃ b, u = .float .f64 b ∧ b < 18446744073709551616 ∧ cn b = o, fun _ h => h⟩
abbrev Ty.flts (xs : List FV) : Ty := .lst .flt xs
theorem one_flt {o : FV} : One (.flt o) := fun _ u ⟨_, e, _⟩ => by rw [e]; rfl
theorem flt_zero {σ : GW} : (Ty.flt (some 0)).has σ (.float .f64 0) := ⟨0, rfl, by decide, by decide +kernel⟩
theorem flt_const {σ : GW} {b : Nat} (h : b < 18446744073709551616) (h2 : b % 9223372036854775808 ≤ 9218868437227405312) : (Ty.flt (some b)).has σ (.float .f64 b) := ⟨b, rfl, h, cn_le h2⟩
theorem cvf {σ : GW} {x y : FV} {v : Value} (h : x = y) (k : (Ty.flt x).has σ v) : (Ty.flt y).has σ v := h ▸ k
section
variable {P : Program} {d : Option Tmp} {ty : TypeId} {pos : String} {af : Array Edge} {g : Option (Nat × Bool)} {a : Act} {σ : GW} {t u : TypeId} {x y : Operand} {p q : FV}
theorem y_fop {op : BinOp} (hop : op = .add ∨ op = .sub ∨ op = .mul ∨ op = .quo) (hx : At (.flt p) σ a x) (hy : At (.flt q) σ a y) : Yld P ⟨d, .binOp op t x y u, ty, pos, af, g⟩ a σ (Ty.flt (fop op p q)).pr := by
  obtain ⟨ba, ea, la, ca⟩ := hx
  obtain ⟨bb, eb, lb, cb⟩ := hy
  obtain ⟨r, w', hr, hw, hl, hc⟩ := run_fop (P := P) hop t σ.w ba bb
  intro K Q hk
  have hr' : (execOp a.eval ⟨d, .binOp op t x y u, ty, pos, af, g⟩).run P σ.w = .ok (.value (.float .f64 r)) w' := by
    simp only [execOp, ea, eb]
    rcases hop with rfl | rfl | rfl | rfl <;> simp [eqGuard, hr]
  unfold Oper.wp
  rw [hr']
  rcases hw with rfl | rfl
  · exact hk _ σ (Stp.refl _ _) ⟨r, rfl, hl, by rw [hc, ca, cb]⟩
  · exact hk _ σ.drew (Stp.drew _) ⟨r, rfl, hl, by rw [hc, ca, cb]⟩
theorem y_fadd (hx : At (.flt p) σ a x) (hy : At (.flt q) σ a y) : Yld P ⟨d, .binOp .add t x y u, ty, pos, af, g⟩ a σ (Ty.flt (fadd p q)).pr := y_fop (.inl rfl) hx hy
theorem y_fsub (hx : At (.flt p) σ a x) (hy : At (.flt q) σ a y) : Yld P ⟨d, .binOp .sub t x y u, ty, pos, af, g⟩ a σ (Ty.flt (fsub p q)).pr := y_fop (.inr (.inl rfl)) hx hy
theorem y_fmul (hx : At (.flt p) σ a x) (hy : At (.flt q) σ a y) : Yld P ⟨d, .binOp .mul t x y u, ty, pos, af, g⟩ a σ (Ty.flt (fmul p q)).pr := y_fop (.inr (.inr (.inl rfl))) hx hy
theorem y_fquo (hx : At (.flt p) σ a x) (hy : At (.flt q) σ a y) : Yld P ⟨d, .binOp .quo t x y u, ty, pos, af, g⟩ a σ (Ty.flt (fdiv p q)).pr := y_fop (.inr (.inr (.inr rfl))) hx hy
section
variable (hx : At (.flt p) σ a x) (hy : At (.flt q) σ a y)
include hx hy
theorem y_feql : Yld P ⟨d, .binOp .eql t x y u, ty, pos, af, g⟩ a σ (Ty.bool (fEq p q)).pr := by
  obtain ⟨ba, ea, la, rfl⟩ := hx
  obtain ⟨bb, eb, lb, rfl⟩ := hy
  exact Yld.of_run (v := .bool (Ieee.double.order ba bb == some .eq)) (by simp only [execOp, ea, eb]; simp [go_sem, eqGuard, FloatKind.format]) (by rw [ord_cn]; rfl)
theorem y_fneq : Yld P ⟨d, .binOp .neq t x y u, ty, pos, af, g⟩ a σ (Ty.bool (fNe p q)).pr := by
  obtain ⟨ba, ea, la, rfl⟩ := hx
  obtain ⟨bb, eb, lb, rfl⟩ := hy
  exact Yld.of_run (v := .bool (Ieee.double.order ba bb != some .eq)) (by simp only [execOp, ea, eb]; simp [go_sem, eqGuard, FloatKind.format]) (by rw [ord_cn]; rfl)
theorem y_flss : Yld P ⟨d, .binOp .lss t x y u, ty, pos, af, g⟩ a σ (Ty.bool (fLt p q)).pr := by
  obtain ⟨ba, ea, la, rfl⟩ := hx
  obtain ⟨bb, eb, lb, rfl⟩ := hy
  exact Yld.of_run (v := .bool (Ieee.double.order ba bb == some .lt)) (by simp only [execOp, ea, eb]; simp [go_sem, eqGuard, FloatKind.format]) (by rw [ord_cn]; rfl)
theorem y_fleq : Yld P ⟨d, .binOp .leq t x y u, ty, pos, af, g⟩ a σ (Ty.bool (fLe p q)).pr := by
  obtain ⟨ba, ea, la, rfl⟩ := hx
  obtain ⟨bb, eb, lb, rfl⟩ := hy
  exact Yld.of_run (v := .bool (Ieee.double.order ba bb == some .lt || Ieee.double.order ba bb == some .eq)) (by simp only [execOp, ea, eb]; simp [go_sem, eqGuard, FloatKind.format]) (by rw [ord_cn]; rfl)
theorem y_fgeq : Yld P ⟨d, .binOp .geq t x y u, ty, pos, af, g⟩ a σ (Ty.bool (fGe p q)).pr := by
  obtain ⟨ba, ea, la, rfl⟩ := hx
  obtain ⟨bb, eb, lb, rfl⟩ := hy
  exact Yld.of_run (v := .bool (Ieee.double.order ba bb == some .gt || Ieee.double.order ba bb == some .eq)) (by simp only [execOp, ea, eb]; simp [go_sem, eqGuard, FloatKind.format]) (by rw [ord_cn]; rfl)
end
theorem fint_cn (n : Int) : floatOfInt .f64 n < 18446744073709551616 ∧ cn (floatOfInt .f64 n) = fint n := by
  have h := floatOfInt_wf .f64 n
  exact ⟨by simpa [Lit.wf] using h, cn_write (d := .number (n < 0) n.natAbs 0) rfl⟩
theorem y_fint {n : Int} {k : IntKind} {src dst : TypeId} (hs : (P.underlying src).isSome = true) (hd : P.underlying dst = some (.float .f64)) (hx : a.eval x = .int k n) : Yld P ⟨d, .convert src dst x, ty, pos, af, g⟩ a σ (Ty.flt (fint n)).pr :=
  Yld.of_run (v := .float .f64 (floatOfInt .f64 n)) (by simp only [execOp, hx]; simp [run_convert_int_float σ.w src dst k .f64 n hs hd]) ⟨_, rfl, (fint_cn n).1, (fint_cn n).2⟩
theorem sqrt_ext (b : Nat) : Extern.MathSqrt.sqrt #[.float .f64 b] = (match Ieee.double.sqrt b with | some r => pure (.float .f64 r) | none => do pure (.float .f64 (← choose (.nanBits .f64 b b)))) := rfl
theorem y_fsqrt {f : FuncId} {tys : Array TypeId} (hf : ∀ args w, (callFunc f args).run P w = ((Extern.MathSqrt.sqrt args).run P w).andThen fun v w' => .ok (.value v) w') (hx : At (.flt p) σ a x) :
    Yld P ⟨d, .call ⟨.value (.func f), #[x], tys⟩, ty, pos, af, g⟩ a σ (Ty.flt (fsqrt p)).pr := by
  obtain ⟨b, e, hb, rfl⟩ := hx
  have hrun : ∃ r w', (callFunc f #[.float .f64 b]).run P σ.w = .ok (.value (.float .f64 r)) w' ∧ (w' = σ.w ∨ w' = σ.w.drew) ∧ r < 18446744073709551616 ∧ cn r = fsqrt (cn b) := by
    rw [hf #[.float .f64 b] σ.w, sqrt_ext]
    cases h : Ieee.double.sqrt b with
    | some r =>
      have hlt : r < 18446744073709551616 := Ieee.Format.sqrt_lt _ h
      have h2 : ∃ d, (Ieee.double.read b).root (Ieee.double.fractionBits + 2) = some d ∧ r = Ieee.double.write d := by
        unfold Format.sqrt at h
        cases e2 : (Ieee.double.read b).root (Ieee.double.fractionBits + 2) with
        | none => rw [e2] at h; cases h
        | some d => rw [e2] at h; exact ⟨d, rfl, by cases h; rfl⟩
      obtain ⟨d, e2, rfl⟩ := h2
      obtain ⟨h3, h4⟩ := root_num e2
      exact ⟨_, σ.w, rfl, .inl rfl, hlt, by rw [cn_write h3, cn_num h4]; exact h.symm⟩
    | none =>
      obtain ⟨h1, h2⟩ := nan_draw (σ.w.tape σ.w.drawn (.nanBits .f64 b b))
      refine ⟨_, σ.w.drew, by simp [Question.forced, Question.cut], .inr rfl, h1, ?_⟩
      rw [h2]
      cases hc : cn b with
      | none => rfl
      | some b' =>
        obtain ⟨rfl, _⟩ := cn_some hc
        exact h.symm
  obtain ⟨r, w', hr, hw, hl, hc⟩ := hrun
  intro K Q hk
  have hr' : (execOp a.eval ⟨d, .call ⟨.value (.func f), #[x], tys⟩, ty, pos, af, g⟩).run P σ.w = .ok (.value (.float .f64 r)) w' := by
    simp only [execOp, resolve, List.map_toArray, List.map_cons, List.map_nil, e]
    simp only [Act.eval, Deferred.ofValue, Sem.run_bind, Sem.run_pure, Result.andThen_ok]
    simpa [invoke] using hr
  unfold Oper.wp
  rw [hr']
  rcases hw with rfl | rfl
  · exact hk _ σ (Stp.refl _ _) ⟨r, rfl, hl, hc⟩
  · exact hk _ σ.drew (Stp.drew _) ⟨r, rfl, hl, hc⟩
end
end Go.KL
namespace Go.KL
theorem flt_of {σ : GW} {b : Nat} {v : Value} (h : b < 18446744073709551616) (h2 : b % 9223372036854775808 ≤ 9218868437227405312) (k : (Ty.val (.float .f64 b)).has σ v) : (Ty.flt (some b)).has σ v := by
  have e : v = .float .f64 b := k
  rw [e]; exact flt_const h h2
abbrev BBlow := Int × FV
abbrev SFV := FV × FV
def B0 : BBlow := (0, some 0)
def S0 : SFV := (some 0, some 0)
def blowC (p : BBlow) : List Ty := [Ty.int p.1, Ty.flt p.2]
def sumC (p : SFV) : List Ty := [Ty.flt p.1, Ty.flt p.2]
def addS (s : SFV) (x : FV) : SFV := (fadd s.1 x, fadd s.2 (if fGe (fabs s.1) (fabs x) = true then fadd (fsub s.1 (fadd s.1 x)) x else fadd (fsub x (fadd s.1 x)) s.1))
def valS (s : SFV) : FV := fadd s.1 s.2
def added (l : List FV) : FV := valS (l.foldl addS S0)
def beatN (k n : Nat) : Nat := k + k / (2 * n)
end Go.KL
namespace Go.KL
def Ty.fbits (o : FV) : Ty := ⟨fun _ u => ∃ b : Nat, u = .int .u64 b ∧ b < 18446744073709551616 ∧ cn b = o, fun _ h => h⟩
theorem cn_abs {b : Nat} : cn (b % 9223372036854775808) = fabs (cn b) := by
  have hm : b % 9223372036854775808 % 9223372036854775808 = b % 9223372036854775808 := Nat.mod_mod _ _
  by_cases h : b % 9223372036854775808 ≤ 9218868437227405312
  · rw [cn_le h, cn_le (by rw [hm]; exact h)]; rfl
  · rw [cn_gt (by omega : 9218868437227405312 < b % 9223372036854775808), cn_gt (by rw [hm]; omega)]; rfl
section
variable {P : Program} {d : Option Tmp} {ty : TypeId} {pos : String} {af : Array Edge} {g : Option (Nat × Bool)} {a : Act} {σ : GW} {t u : TypeId} {x y : Operand} {p : FV} {f : FuncId} {tys : Array TypeId}
theorem y_fbits (hf : ∀ args w, (callFunc f args).run P w = ((Extern.MathFloatBits.float64bits args).run P w).andThen fun v w' => .ok (.value v) w') (hx : At (.flt p) σ a x) :
    Yld P ⟨d, .call ⟨.value (.func f), #[x], tys⟩, ty, pos, af, g⟩ a σ (Ty.fbits p).pr := by
  obtain ⟨b, e, hb, rfl⟩ := hx
  have hr : (callFunc f #[.float .f64 b]).run P σ.w = .ok (.value (.int .u64 (b : Int))) σ.w := by rw [hf #[.float .f64 b] σ.w]; rfl
  refine Yld.of_run (v := .int .u64 (b : Int)) ?_ ⟨b, rfl, hb, rfl⟩
  simp only [execOp, resolve, List.map_toArray, List.map_cons, List.map_nil, e]
  simp only [Act.eval, Deferred.ofValue, Sem.run_bind, Sem.run_pure, Result.andThen_ok]
  simpa [invoke] using hr
theorem y_fofbits (hf : ∀ args w, (callFunc f args).run P w = ((Extern.MathFloatBits.float64frombits args).run P w).andThen fun v w' => .ok (.value v) w') (hx : At (.fbits p) σ a x) :
    Yld P ⟨d, .call ⟨.value (.func f), #[x], tys⟩, ty, pos, af, g⟩ a σ (Ty.flt p).pr := by
  obtain ⟨b, e, hb, rfl⟩ := hx
  have hr : (callFunc f #[.int .u64 (b : Int)]).run P σ.w = .ok (.value (.float .f64 b)) σ.w := by rw [hf #[.int .u64 (b : Int)] σ.w]; rfl
  refine Yld.of_run (v := .float .f64 b) ?_ ⟨b, rfl, hb, rfl⟩
  simp only [execOp, resolve, List.map_toArray, List.map_cons, List.map_nil, e]
  simp only [Act.eval, Deferred.ofValue, Sem.run_bind, Sem.run_pure, Result.andThen_ok]
  simpa [invoke] using hr
theorem y_fnosign (hx : At (.fbits p) σ a x) (hy : a.eval y = .int .u64 9223372036854775808) : Yld P ⟨d, .binOp .andNot t x y u, ty, pos, af, g⟩ a σ (Ty.fbits (fabs p)).pr := by
  obtain ⟨b, ex, hb, rfl⟩ := hx
  have e : bits .andNot .u64 (b : Int) 9223372036854775808 = ((b % 9223372036854775808 : Nat) : Int) := by
    rw [u64_andNot (b : Int) 9223372036854775808 (by omega) (by omega) (by decide) (by decide)]
    congr 1
    rw [Int.toNat_natCast]
    show b &&& 9223372036854775807 = b % 9223372036854775808
    exact Nat.and_two_pow_sub_one_eq_mod b 63
  exact Yld.of_run (v := .int .u64 ((b % 9223372036854775808 : Nat) : Int)) (by simp only [execOp, ex, hy]; simp only [go_sem, e]; try rfl) ⟨_, rfl, by omega, cn_abs⟩
end
end Go.KL
namespace Go.KL
def pzF (x : FV) : FV := if fEq x (some 0) = true then some 0 else x
section
variable {xs : List FV} {k : Nat}
theorem add_succ (h : k < xs.length) : (xs.take (k + 1)).foldl addS S0 = addS ((xs.take k).foldl addS S0) (xs.getD k (some 0)) := by
  rw [List.take_add_one, List.foldl_append, List.getD_eq_getElem?_getD, List.getElem?_eq_getElem h]; rfl
theorem add_yes (h : k < xs.length) (hc : fGe (fabs ((xs.take k).foldl addS S0).1) (fabs (xs.getD k (some 0))) = true) :
    (xs.take (k + 1)).foldl addS S0 = (fadd ((xs.take k).foldl addS S0).1 (xs.getD k (some 0)), fadd ((xs.take k).foldl addS S0).2 (fadd (fsub ((xs.take k).foldl addS S0).1 (fadd ((xs.take k).foldl addS S0).1 (xs.getD k (some 0)))) (xs.getD k (some 0)))) := by
  rw [add_succ h, addS, if_pos hc]
theorem add_no (h : k < xs.length) (hc : fGe (fabs ((xs.take k).foldl addS S0).1) (fabs (xs.getD k (some 0))) = false) :
    (xs.take (k + 1)).foldl addS S0 = (fadd ((xs.take k).foldl addS S0).1 (xs.getD k (some 0)), fadd ((xs.take k).foldl addS S0).2 (fadd (fsub (xs.getD k (some 0)) (fadd ((xs.take k).foldl addS S0).1 (xs.getD k (some 0)))) ((xs.take k).foldl addS S0).1)) := by
  rw [add_succ h, addS, if_neg (by rw [hc]; decide)]
end
end Go.KL

/- Floats that are whole numbers: exact. -/
namespace Go.KL
open Ieee
theorem read_form {b : Nat} {s : Bool} {m : Nat} {i : Int} (h : Ieee.double.read b = .number s m i) : (m = 0 ∧ i = -1074) ∨ Canon m i := by
  by_cases h0 : b % 9223372036854775808 = 0
  · rw [read_eq, if_pos (by omega), h0] at h
    cases h; exact .inl ⟨rfl, rfl⟩
  · by_cases h1 : b % 9223372036854775808 < 9218868437227405312
    · obtain ⟨m', i', hr, hc, _⟩ := read_canon (by omega) h1
      rw [hr] at h; cases h; exact .inr hc
    · rw [read_eq, if_neg (by omega), if_neg h1] at h
      split at h <;> cases h
theorem word_parts (s : Bool) {r : Nat} (h : r < 9223372036854775808) : Ieee.double.word s r % 9223372036854775808 = r ∧ (Ieee.double.word s r / 9223372036854775808 % 2 == 1) = s ∧ Ieee.double.word s r < 18446744073709551616 := by
  rw [word_eq]
  cases s
  · simp only [Bool.false_eq_true, if_false]
    refine ⟨by omega, ?_, by omega⟩
    rw [Nat.div_eq_of_lt h]; rfl
  · simp only [if_true]
    refine ⟨by omega, ?_, by omega⟩
    have : (9223372036854775808 + r) / 9223372036854775808 = 1 := by omega
    rw [this]; rfl
theorem read_word (s : Bool) {m : Nat} {i : Int} (h : Canon m i) : Ieee.double.read (Ieee.double.word s ((i + 1074).toNat * 4503599627370496 + m)) = .number s m i := by
  have hf := h.fin
  have hl := h.low
  have hlt := h.lt
  obtain ⟨h1, h2, _⟩ := word_parts s (r := (i + 1074).toNat * 4503599627370496 + m) (by omega)
  rw [read_eq, h1, h2]
  generalize hq : (i + 1074).toNat = q at *
  have hiq : i = (q : Int) - 1074 := by omega
  by_cases hm : m < 4503599627370496
  · have hi : i = -1074 := by
      rcases h.norm with hn | hn
      · omega
      · exact hn
    have hq0 : q = 0 := by omega
    subst hq0
    have e0 : 0 * 4503599627370496 + m = m := by omega
    rw [e0, if_pos hm, hi]
  · rw [if_neg (by omega), if_pos (by omega)]
    have e1 : (q * 4503599627370496 + m) / 4503599627370496 = q + 1 := by omega
    have e2 : (q * 4503599627370496 + m) % 4503599627370496 = m - 4503599627370496 := by omega
    have e3 : 4503599627370496 + (m - 4503599627370496) = m := by omega
    have e4 : (-1074 : Int) + ((q + 1 - 1 : Nat) : Int) = i := by omega
    rw [e1, e2, e3, e4]
theorem read_zero (s : Bool) : Ieee.double.read (Ieee.double.word s 0) = .number s 0 (-1074) := by
  obtain ⟨h1, h2, _⟩ := word_parts s (r := 0) (by decide)
  rw [read_eq, h1, h2, if_pos (by decide)]
theorem near_canon2 {m mag : Nat} {i : Int} (s : Bool) (h : Canon m i) (k : Nat) (hm : mag * 2 ^ k = m) : Ieee.double.nearest s mag (i + k) = Ieee.double.word s ((i + 1074).toNat * 4503599627370496 + m) := by
  have hm0 : m ≠ 0 := by have := h.pos; omega
  have hg0 : mag ≠ 0 := by rintro rfl; simp at hm; omega
  have hlast := h.last
  have hsh : mag <<< k = m := by rw [Nat.shiftLeft_eq]; exact hm
  have hlog : m.log2 = mag.log2 + k := by rw [← hsh]; exact log2_shift hg0
  unfold Format.nearest
  rw [if_neg hg0]
  simp only [fb_eq, least_eq, binade_eq, infR_eq]
  have e : max (i + (k : Int) + ((mag.log2 : Nat) : Int) - ((52 : Nat) : Int)) (-1074) = i := by
    rw [hlog] at hlast
    rw [← hlast]; congr 1; omega
  rw [e]
  have e1 : (i + (k : Int) - i).toNat = k := by omega
  have e2 : (i - (i + (k : Int))).toNat = 0 := by omega
  rw [e1, e2, hsh, cut_none]
  have e3 : (i - (-1074)).toNat = (i + 1074).toNat := by congr 1
  rw [e3, Nat.min_eq_left (by have := h.fin; omega)]
theorem canon_int {z : Nat} (h0 : 0 < z) (h : z ≤ 9007199254740992) : ∃ m i, Canon m i ∧ i ≤ 1 ∧ ((i ≤ 0 ∧ m = z * 2 ^ (-i).toNat) ∨ (i = 1 ∧ z = m * 2)) := by
  by_cases hz : z = 9007199254740992
  · subst hz
    exact ⟨4503599627370496, 1, ⟨by decide, by decide, by decide, .inl (by decide), by decide⟩, by decide, .inr ⟨rfl, rfl⟩⟩
  · have hlt : z.log2 < 53 := (Nat.log2_lt (by omega)).2 (by omega)
    have h1 := Nat.log2_self_le (n := z) (by omega)
    have h2 : z < 2 ^ (z.log2 + 1) := (Nat.log2_lt (by omega)).1 (Nat.lt_succ_self _)
    have hp : 2 ^ z.log2 * 2 ^ (52 - z.log2) = 4503599627370496 := by rw [← Nat.pow_add, show z.log2 + (52 - z.log2) = 52 by omega]
    have hp2 : 2 ^ (z.log2 + 1) * 2 ^ (52 - z.log2) = 9007199254740992 := by rw [← Nat.pow_add, show z.log2 + 1 + (52 - z.log2) = 53 by omega]
    have g1 : 4503599627370496 ≤ z * 2 ^ (52 - z.log2) := by rw [← hp]; exact Nat.mul_le_mul_right _ h1
    have g2 : z * 2 ^ (52 - z.log2) < 9007199254740992 := by rw [← hp2]; exact Nat.mul_lt_mul_of_pos_right h2 (Nat.two_pow_pos _)
    refine ⟨z * 2 ^ (52 - z.log2), (z.log2 : Int) - 52, ⟨by omega, g2, by omega, .inl g1, by omega⟩, by omega, .inl ⟨by omega, ?_⟩⟩
    congr 2
    omega
theorem two_ne {k : Nat} : 2 ^ k ≠ 0 := by have := Nat.two_pow_pos k; omega
theorem near_int (s : Bool) {mag z a b : Nat} {p : Int} (hp : p = (a : Int) - b) (hv : mag * 2 ^ a = z * 2 ^ b) (hz : z ≤ 9007199254740992) :
    (z = 0 ∧ Ieee.double.nearest s mag p = Ieee.double.word s 0) ∨ ∃ m i, Canon m i ∧ Ieee.double.nearest s mag p = Ieee.double.word s ((i + 1074).toNat * 4503599627370496 + m) ∧ ((i ≤ 0 ∧ m = z * 2 ^ (-i).toNat) ∨ (i = 1 ∧ z = m * 2)) := by
  by_cases h0 : z = 0
  · left
    subst h0
    have hm : mag = 0 := by
      rcases Nat.mul_eq_zero.1 (by simpa using hv) with h | h
      · exact h
      · exact absurd h two_ne
    subst hm
    exact ⟨rfl, by unfold Format.nearest; rw [if_pos rfl]⟩
  · right
    obtain ⟨m, i, hc, hi1, hmi⟩ := canon_int (by omega) hz
    refine ⟨m, i, hc, ?_, hmi⟩
    have hl := hc.low
    obtain ⟨K, hK⟩ : ∃ K : Nat, K = 1074 := ⟨_, rfl⟩
    have hmz : m * 2 ^ (i + K).toNat = z * 2 ^ K := by
      rcases hmi with ⟨h1, h2⟩ | ⟨h1, h2⟩
      · rw [h2, Nat.mul_assoc, ← Nat.pow_add, show (-i).toNat + (i + K).toNat = K by omega]
      · rw [h1, h2, Nat.mul_assoc, ← Nat.pow_succ', show ((1 : Int) + K).toNat = K.succ by omega]
    have key : mag * 2 ^ a * 2 ^ K = m * 2 ^ (i + K).toNat * 2 ^ b := by rw [hv, hmz, Nat.mul_assoc, Nat.mul_comm (2 ^ b), ← Nat.mul_assoc]
    have key2 : mag * 2 ^ (a + K) = m * 2 ^ ((i + K).toNat + b) := by rw [Nat.pow_add, Nat.pow_add, ← Nat.mul_assoc, ← Nat.mul_assoc]; exact key
    by_cases hle : p ≤ i
    · obtain ⟨k, hk⟩ : ∃ k : Nat, p = i - k := ⟨(i - p).toNat, by omega⟩
      have e : (i + K).toNat + b = k + (a + K) := by omega
      have e2 : m * 2 ^ ((i + K).toNat + b) = m * 2 ^ k * 2 ^ (a + K) := by rw [e, Nat.pow_add 2 k, Nat.mul_assoc]
      have hmag : mag = m * 2 ^ k := Nat.eq_of_mul_eq_mul_right (Nat.two_pow_pos _) (key2.trans e2)
      rw [hk, hmag, ← Nat.shiftLeft_eq]
      exact near_canon s hc k
    · obtain ⟨k, hk⟩ : ∃ k : Nat, p = i + k := ⟨(p - i).toNat, by omega⟩
      have e : a + K = k + ((i + K).toNat + b) := by omega
      have e2 : mag * 2 ^ (a + K) = mag * 2 ^ k * 2 ^ ((i + K).toNat + b) := by rw [e, Nat.pow_add 2 k, Nat.mul_assoc]
      have hmag : mag * 2 ^ k = m := Nat.eq_of_mul_eq_mul_right (Nat.two_pow_pos _) (e2.symm.trans key2)
      rw [hk]
      exact near_canon2 s hc k hmag
end Go.KL

/- Floats that are whole numbers: sums, products, quotients of them are exact. -/
namespace Go.KL
open Ieee
def K74 : Nat := 1074
theorem k74 : K74 = 1074 := rfl
attribute [irreducible] K74
theorem sg_eq (s : Bool) (m k : Nat) : signed s m k = (if s = true then -1 else 1) * ((m * 2 ^ k : Nat) : Int) := by
  unfold signed
  rw [Nat.shiftLeft_eq]
  cases s
  · simp only [Bool.false_eq_true, if_false]; omega
  · simp only [if_true]; omega
theorem sg_shift (s : Bool) (m a b : Nat) : signed s m (a + b) = signed s m a * ((2 ^ b : Nat) : Int) := by
  rw [sg_eq, sg_eq, Nat.pow_add, ← Nat.mul_assoc, Int.natCast_mul (m * 2 ^ a), Int.mul_assoc]
def IsI (x : FV) (z : Int) : Prop := ∃ b s m i, x = some b ∧ b < 18446744073709551616 ∧ Ieee.double.read b = .number s m i ∧ -1074 ≤ i ∧ signed s m (i + K74).toNat = z * ((2 ^ K74 : Nat) : Int)
theorem pow_posI (k : Nat) : (0 : Int) < ((2 ^ k : Nat) : Int) := by have := Nat.two_pow_pos k; omega
theorem isI_write {s : Bool} {mag : Nat} {p z : Int} {a c : Nat} (hp : p = (a : Int) - c) (hv : mag * 2 ^ a = z.natAbs * 2 ^ c) (hz : z.natAbs ≤ 9007199254740992) (hs : z ≠ 0 → (s = true ↔ z < 0)) : IsI (some (Ieee.double.write (.number s mag p))) z := by
  show IsI (some (Ieee.double.nearest s mag p)) z
  rcases near_int s hp hv hz with ⟨h0, h1⟩ | ⟨m, i, hc, h1, hmi⟩
  · have hz0 : z = 0 := by omega
    rw [h1]
    exact ⟨_, s, 0, -1074, rfl, (word_parts s (r := 0) (by decide)).2.2, read_zero s, by omega, by rw [sg_eq, hz0]; simp⟩
  · have hf := hc.fin
    have hl := hc.low
    have hpos := hc.pos
    have hk := k74
    rw [h1]
    refine ⟨_, s, m, i, rfl, (word_parts s (by omega)).2.2, read_word s hc, hl, ?_⟩
    have hz0 : z ≠ 0 := by
      rintro rfl
      rcases hmi with ⟨_, h2⟩ | ⟨_, h2⟩
      · simp at h2; omega
      · simp at h2; omega
    have hm : m * 2 ^ (i + K74).toNat = z.natAbs * 2 ^ K74 := by
      rcases hmi with ⟨h2, h3⟩ | ⟨h2, h3⟩
      · rw [h3, Nat.mul_assoc, ← Nat.pow_add, show (-i).toNat + (i + K74).toNat = K74 by omega]
      · rw [h2, h3, Nat.mul_assoc, ← Nat.pow_succ', show ((1 : Int) + K74).toNat = K74.succ by omega]
    rw [sg_eq, hm, Int.natCast_mul, ← Int.mul_assoc]
    congr 1
    have hsz := hs hz0
    cases s
    · simp only [Bool.false_eq_true, if_false]; simp at hsz; omega
    · simp only [if_true]; simp at hsz; omega
theorem isI_int {z : Int} (hz : z.natAbs ≤ 9007199254740992) : IsI (fint z) z := by
  have : fint z = some (Ieee.double.write (.number (decide (z < 0)) z.natAbs 0)) := rfl
  rw [this]
  exact isI_write (a := 0) (c := 0) (by omega) rfl hz (fun _ => by simp)
theorem neg_left {a b : Int} (h : a * b < 0) (hb : 0 < b) : a < 0 := by
  apply Classical.byContradiction
  intro hn
  have := Int.mul_nonneg (show 0 ≤ a by omega) (show 0 ≤ b by omega)
  omega
theorem sg_abs {s : Bool} {m k : Nat} {z : Int} (h : signed s m k = z * ((2 ^ K74 : Nat) : Int)) : m * 2 ^ k = z.natAbs * 2 ^ K74 := by
  have := congrArg Int.natAbs h
  rw [Int.natAbs_mul, Int.natAbs_natCast, sg_eq, Int.natAbs_mul, Int.natAbs_natCast] at this
  rw [← this]
  cases s <;> simp
theorem sg_sign {s : Bool} {m k : Nat} {z : Int} (h : signed s m k = z * ((2 ^ K74 : Nat) : Int)) (hz : z ≠ 0) : s = true ↔ z < 0 := by
  have p2 := pow_posI K74
  rw [sg_eq] at h
  have hn : (0 : Int) ≤ ((m * 2 ^ k : Nat) : Int) := Int.natCast_nonneg _
  cases s
  · simp only [Bool.false_eq_true, if_false, false_iff] at h ⊢
    intro hneg
    have := Int.mul_neg_of_neg_of_pos hneg p2
    omega
  · simp only [if_true, true_iff] at h ⊢
    apply Classical.byContradiction
    intro hneg
    have := Int.mul_pos (show 0 < z by omega) p2
    omega
theorem read_abs {b : Nat} {s : Bool} {m : Nat} {i : Int} (h : Ieee.double.read b = .number s m i) : Ieee.double.read (b % 9223372036854775808) = .number false m i := by
  have e1 : b % 9223372036854775808 % 9223372036854775808 = b % 9223372036854775808 := Nat.mod_mod _ _
  have e2 : b % 9223372036854775808 / 9223372036854775808 = 0 := Nat.div_eq_of_lt (Nat.mod_lt _ (by decide))
  rw [read_eq] at h ⊢
  rw [e1, e2]
  split at h
  · rename_i h1; rw [if_pos h1]; cases h; rfl
  · rename_i h1
    rw [if_neg h1]
    split at h
    · rename_i h2; rw [if_pos h2]; cases h; rfl
    · split at h <;> cases h
theorem cmp_eq (p q : Int) : (compare p q == Ordering.eq) = decide (p = q) := by
  show (compareOfLessAndEq p q == Ordering.eq) = _
  unfold compareOfLessAndEq
  by_cases h1 : p < q
  · rw [if_pos h1, decide_eq_false (by omega)]; rfl
  · rw [if_neg h1]
    by_cases h2 : p = q
    · rw [if_pos h2, decide_eq_true h2]; rfl
    · rw [if_neg h2, decide_eq_false h2]; rfl
section
variable {x y : FV} {p q : Int} (hx : IsI x p) (hy : IsI y q)
include hx hy
end
end Go.KL

/- Runes as the document reads them: -1 for a byte that is none. -/
namespace Go.KL
section
variable {s : ByteArray} (h128 : ¬ (s.get! 0).toNat < 128)
include h128 in
end
/-! ### All runes of a text -/
end Go.KL

/- What the law RowSays wants beside: cycles as the document finds them, text by signs. -/
namespace Go.KL
end Go.KL

/- Patterns of bells: the maths. -/
namespace Go.KL
/-! ### Signs -/
/-! ### Ahead of the star and behind it -/
/-! ### What was seen -/
/-! ### Like a pattern -/
/-! ### Steps -/
/-! ### A pattern that may be -/
/-! ### The walks of Like and fits -/
end Go.KL

/- Results of which the first lies in a struct's variable. -/
namespace Go.KL
open Go.RowKit
variable {P : Program} {fn : Func} {σ0 σ : GW} {a : Act} {N d e f : Nat} {D : List Deferred} {L : List Nat} {R : Value → GW → Prop}
theorem run_cell {t k : Nat} {T : TypeId} {fs : Array Field} {z : Value} {by_ : Nat} {ts : List Ty} (hT : P.underlying T = some (.struct fs)) (he : Info P T z ts.length by_) (h : OwnP σ k (a.eval (.tmp t)) ts) :
    ∃ ad cur, a.tmps.getD t undef = .pointer (some ad) ∧ (loadVar T ad).run P σ.w = .ok (.agg cur) σ.w ∧ (Ty.agg ts).has σ (.agg cur) := by
  obtain ⟨gg, e', cur, e1, h2, h3, h4, h5⟩ := h
  have hl := run_loadVar (P := P) hT he (w := σ.w) (ad := ⟨gg, 0, none⟩) (us := cur.toList) (by simp [h4]) (fun j u hj => by
    rw [Addr.add_lit, Nat.zero_add]
    simp at hj
    simp [World.cell?, h3, hj])
  exact ⟨_, cur, e1, by simpa using hl, cur, rfl, h4, h5⟩
theorem retL2c {t k : Nat} {T : TypeId} {fs : Array Field} {z : Value} {by_ : Nat} {ts : List Ty} (hr : fn.results = #[.cell t T, .tmp e]) (ok : Ok N [] a) (hF : FromL L σ0 σ) (hT : P.underlying T = some (.struct fs)) (he : Info P T z ts.length by_) (h : OwnP σ k (a.eval (.tmp t)) ts)
    (hR : ∀ v, (Ty.agg ts).has σ v → R (.tuple #[v, a.eval (.tmp e)]) σ) : bodyPost P fn (RetL σ0 L R) .ret a σ.w := by
  obtain ⟨ad, cur, e2, hl, hv⟩ := run_cell hT he h
  refine bodyPost_ret (v := .tuple #[.agg cur, a.eval (.tmp e)]) ?_ ok.defers ⟨_, σ, rfl, hF, rfl, hR _ hv⟩
  have e3 : a.tmps[t]?.getD undef = .pointer (some ad) := by rw [← e2, Array.getD_eq_getD_getElem?]
  simp [results, hr, e3, asAddr, hl, Act.eval]
theorem nil_has {α : Type} {f : α → Ty} {xs : List α} {σ : GW} (e : xs = []) : (Ty.lst f xs).has σ (.slice none 0 0) := by subst e; exact sl_nil
end Go.KL

/- How many rows are like patterns. -/
namespace Go.KL
abbrev Ty.str (s : ByteArray) : Ty := Ty.val (.string s)
end Go.KL

/- Rows whose elements are structs of c cells. -/
namespace Go.KL
open Go.RowKit
variable {P : Program} {d : Option Tmp} {ty : TypeId} {pos : String} {af : Array Edge} {g : Option (Nat × Bool)} {a : Act} {σ : GW}
abbrev Ty.lstc {α : Type} (c : Nat) (F : α → List Ty) (xs : List α) : Ty := Ty.sl c xs.length (xs.flatMap F)
theorem flat_get {α : Type} {c : Nat} {F : α → List Ty} (hF : ∀ x, (F x).length = c) (dd : α) : ∀ {xs : List α} {i : Nat}, i < xs.length → ∀ j, j < c → (xs.flatMap F)[i * c + j]? = (F (xs.getD i dd))[j]?
  | [], i, h, _, _ => by simp at h
  | x :: xs, 0, _, j, hj => by
    rw [List.flatMap_cons, Nat.zero_mul, Nat.zero_add, List.getElem?_append_left (by rw [hF]; exact hj)]
    simp
  | x :: xs, i + 1, h, j, hj => by
    rw [List.flatMap_cons, List.getElem?_append_right (by rw [hF, Nat.succ_mul]; omega), hF, show (i + 1) * c + j - c = i * c + j by rw [Nat.succ_mul]; omega, flat_get hF dd (by simpa using h) j hj]
    simp
theorem y_indexc {α : Type} {c : Nat} {F : α → List Ty} {xs : List α} (dd : α) {x y : Operand} {t e : TypeId} {z : Value} {b : Nat} {k : IntKind} {i : Int} (ht : P.underlying t = some (.slice e)) (he : Info P e z c b)
    (hx : At (Ty.lstc c F xs) σ a x) (hy : a.eval y = .int k i) (h0 : 0 ≤ i) (h1 : i.toNat < xs.length) (hc : 0 < c) (hF : ∀ x, (F x).length = c) :
    Yld P ⟨d, .indexAddr t x y, ty, pos, af, g⟩ a σ (Ty.ref (F (xs.getD i.toNat dd))).pr :=
  y_indexAddr ht he hx hy h0 (by omega) hc (fun j hj => flat_get hF dd h1 j hj) (hF _)
/-! ### Patterns -/
end Go.KL

/- Blows: which may be; floats held against each other; how they are judged. -/
namespace Go.KL
open Ieee
def blowBad (n : Int) (l : List BBlow) (k : Nat) : Bool := ((((decide ((l.getD k B0).1 < (0 : Int))) || (decide (n ≤ (l.getD k B0).1))) || (!(fGe (l.getD k B0).2 (some 13965043853221167104) && fLe (l.getD k B0).2 (some 4741671816366391296)))) || ((decide ((0 : Int) < ((k : Nat) : Int))) && (fLt (l.getD k B0).2 (l.getD ((((k : Nat) : Int) - (1 : Int))).toNat B0).2)))
def blowsE (n : Int) (l : List BBlow) : Int := if n < 1 ∨ 12 < n ∨ l.length < 2 then 1 else if 5000 < l.length then 3 else if (List.range l.length).any (blowBad n l) = true then 12 else 0
section
variable {n : Int} {l : List BBlow}
theorem blows_1 (h : n < 1 ∨ 12 < n ∨ l.length < 2) : blowsE n l = 1 := by unfold blowsE; rw [if_pos h]
theorem blows_3 (h : ¬ (n < 1 ∨ 12 < n ∨ l.length < 2)) (h2 : 5000 < l.length) : blowsE n l = 3 := by unfold blowsE; rw [if_neg h, if_pos h2]
theorem blows_12 (h : ¬ (n < 1 ∨ 12 < n ∨ l.length < 2)) (h2 : ¬ 5000 < l.length) {k : Nat} (hk : k < l.length) (hb : blowBad n l k = true) : blowsE n l = 12 := by
  unfold blowsE; rw [if_neg h, if_neg h2, if_pos (List.any_eq_true.2 ⟨k, List.mem_range.2 hk, hb⟩)]
theorem blows_0 (h : ¬ (n < 1 ∨ 12 < n ∨ l.length < 2)) (h2 : ¬ 5000 < l.length) (hno : ∀ j, j < l.length → blowBad n l j = false) : blowsE n l = 0 := by
  unfold blowsE; rw [if_neg h, if_neg h2, if_neg]
  intro e
  obtain ⟨k, hk, hb⟩ := List.any_eq_true.1 e
  rw [hno k (List.mem_range.1 hk)] at hb; cases hb
theorem blows_ok (h : blowsE n l = 0) : 1 ≤ n ∧ n ≤ 12 ∧ 2 ≤ l.length ∧ l.length ≤ 5000 ∧ ∀ j, j < l.length → blowBad n l j = false := by
  unfold blowsE at h
  split at h
  · omega
  · split at h
    · omega
    · split at h
      · omega
      · rename_i h1 h2 h3
        refine ⟨by omega, by omega, by omega, by omega, fun j hj => ?_⟩
        cases hb : blowBad n l j with
        | false => rfl
        | true => exact absurd (List.any_eq_true.2 ⟨j, List.mem_range.2 hj, hb⟩) h3
theorem blow_bell {k : Nat} (h : blowBad n l k = false) : 0 ≤ (l.getD k B0).1 ∧ (l.getD k B0).1 < n := by
  unfold blowBad at h
  simp only [Bool.or_eq_false_iff, decide_eq_false_iff_not] at h
  omega
end
/-! ### A float is the same as itself -/
theorem read_num {b : Nat} (h : (Ieee.double.read b).isNaN = false) : ford (some b) (some b) = some .eq := by
  show (Ieee.double.read b).order (Ieee.double.read b) = some .eq
  have hc : ∀ z : Int, compare z z = .eq := fun z => Std.ReflOrd.compare_self
  have hn : ∀ z : Nat, compare z z = .eq := fun z => Std.ReflOrd.compare_self
  cases hr : Ieee.double.read b with
  | number s m i => simp [Datum.order, hc]
  | infinity s => simp [Datum.order, hn]
  | nan s f => rw [hr] at h; simp [Datum.isNaN] at h
def Fok (x : FV) : Prop := ∀ b, x = some b → b < 18446744073709551616 ∧ cn b = some b
theorem ne_eq (x y : FV) : fNe x y = !fEq x y := rfl
theorem same_nan {x y : FV} (hxy : x = y) (c : (fNe x x || fNe y y) = true) : (fNe x x && fNe y y) = true := by
  subst hxy
  simpa using c
theorem flt_ok {σ : GW} {x : FV} {v : Value} (h : (Ty.flt x).has σ v) : Fok x := by
  obtain ⟨b, _, hb, rfl⟩ := h
  intro c hc
  obtain ⟨rfl, _⟩ := cn_some hc
  exact ⟨hb, hc⟩
theorem shl_zero {m k : Nat} (h : m <<< k = 0) : m = 0 := by
  rw [Nat.shiftLeft_eq] at h
  rcases Nat.mul_eq_zero.1 h with h | h
  · exact h
  · have := Nat.two_pow_pos k; omega
theorem zero_read {b : Nat} (h : fEq (some b) (some 0) = true) : ∃ s i, Ieee.double.read b = .number s 0 i := by
  have h1 : (Ieee.double.read b).order (Ieee.double.read 0) = some .eq := by
    have h2 : ford (some b) (some 0) = some .eq := by unfold fEq at h; simpa using h
    exact h2
  have h0 : Ieee.double.read 0 = .number false 0 (-1074) := by decide +kernel
  rw [h0] at h1
  cases hr : Ieee.double.read b with
  | number s m i =>
    rw [hr] at h1
    simp only [Datum.order, Option.some.injEq] at h1
    have h3 := Std.LawfulEqOrd.eq_of_compare h1
    have h5 : signed s m (i - min i (-1074)).toNat = 0 := by rw [h3]; simp [signed]
    have h4 : m <<< (i - min i (-1074)).toNat = 0 := by
      unfold signed at h5
      generalize m <<< (i - min i (-1074)).toNat = q at h5 ⊢
      cases s
      · simp only [Bool.false_eq_true, if_false] at h5; omega
      · simp only [if_true] at h5; omega
    rw [shl_zero h4]
    exact ⟨s, i, rfl⟩
  | infinity s => rw [hr] at h1; cases s <;> simp [Datum.order] at h1
  | nan s f => rw [hr] at h1; simp [Datum.order] at h1
theorem one_div_zero {b : Nat} (h : fEq (some b) (some 0) = true) : fEq (fdiv (some 4607182418800017408) (some b)) (fdiv (some 4607182418800017408) (some b)) = true := by
  obtain ⟨s, i, hr⟩ := zero_read h
  obtain ⟨m1, i1, h1, hm⟩ : ∃ m1 i1, Ieee.double.read 4607182418800017408 = .number false m1 i1 ∧ m1 ≠ 0 := ⟨4503599627370496, -52, by decide +kernel, by decide⟩
  have hd : ∃ r, floatBits .quo .f64 4607182418800017408 b = some r := by
    refine ⟨Ieee.double.write (.infinity (false ^^ s)), ?_⟩
    show ((Ieee.double.read 4607182418800017408).quotient (Ieee.double.fractionBits + 2) (Ieee.double.read b)).map Ieee.double.write = _
    rw [h1, hr]
    simp [Datum.quotient, hm]
  obtain ⟨r, hr2⟩ := hd
  have e : fdiv (some 4607182418800017408) (some b) = some r := hr2
  rw [e]
  have := read_num (cn_some (fb_some hr2).2.2.1).2
  unfold fEq
  rw [this]; rfl
theorem same_num {x y : FV} (hx : Fok x) (hxy : x = y) (c : (fNe x x || fNe y y) = false) : (fEq x y && (fNe x (some 0) || fEq (fdiv (some 4607182418800017408) x) (fdiv (some 4607182418800017408) y))) = true := by
  subst hxy
  have h1 : fNe x x = false := by simpa using c
  have h2 : fEq x x = true := by rw [ne_eq] at h1; simpa using h1
  rw [h2, Bool.true_and]
  cases h3 : fNe x (some 0) with
  | true => rfl
  | false =>
    cases x with
    | none => simp [fNe, ford] at h1
    | some b =>
      rw [ne_eq] at h3
      rw [one_div_zero (by simpa using h3)]; rfl
end Go.KL

/- Floats: how far a rounded sum lies from the sum; sums of what isn't below nought. -/
namespace Go.KL
open Ieee
/-! ### A nought more takes the sign off a nought -/
theorem add_zero_pz {x : FV} (hx : Fok x) : fadd x (some 0) = pzF x := by
  cases x with
  | none => rfl
  | some b =>
    obtain ⟨hlt, hcn⟩ := hx b rfl
    have hnn := (cn_some hcn).2
    have h0 : Ieee.double.read 0 = .number false 0 (-1074) := by decide +kernel
    have hw := word_of hlt
    have e : fadd (some b) (some 0) = ((Ieee.double.read b).sum (.number false 0 (-1074))).map Ieee.double.write := by
      show ((Ieee.double.read b).sum (Ieee.double.read 0)).map Ieee.double.write = _
      rw [h0]
    have eo : ford (some b) (some 0) = (Ieee.double.read b).order (.number false 0 (-1074)) := by
      show (Ieee.double.read b).order (Ieee.double.read 0) = _
      rw [h0]
    by_cases hz : b % 9223372036854775808 = 0
    · have hr : Ieee.double.read b = .number (b / 9223372036854775808 % 2 == 1) 0 (-1074) := by rw [read_eq, if_pos (by omega), hz]
      have hq : fEq (some b) (some 0) = true := by
        unfold fEq
        rw [eo, hr]
        simp [Datum.order, signed]
      unfold pzF
      rw [if_pos hq, e, hr]
      simp [Datum.sum, signed]
      decide +kernel
    · by_cases hf : b % 9223372036854775808 < 9218868437227405312
      · obtain ⟨m, i, hr, hc, hrung⟩ := read_canon (by omega) hf
        have hl := hc.low
        have hm0 : m ≠ 0 := by have := hc.pos; omega
        have hmin : min i (-1074) = -1074 := by omega
        have hsg : signed (b / 9223372036854775808 % 2 == 1) m (i - -1074).toNat ≠ 0 := by
          rw [sg_eq]
          have : 0 < m * 2 ^ (i - -1074).toNat := Nat.mul_pos hc.pos (Nat.two_pow_pos _)
          split <;> omega
        have hzr : signed false 0 ((-1074 : Int) - -1074).toNat = 0 := by simp [signed]
        have hne : fEq (some b) (some 0) = false := by
          unfold fEq
          rw [eo, hr]
          show (some (compare (signed _ m (i - min i (-1074)).toNat) (signed false 0 (-1074 - min i (-1074)).toNat)) == some Ordering.eq) = false
          rw [hmin, hzr]
          show (compare (signed _ m (i - -1074).toNat) 0 == Ordering.eq) = false
          rw [cmp_eq]
          exact decide_eq_false hsg
        unfold pzF
        rw [if_neg (by rw [hne]; decide), e, hr]
        show some (Ieee.double.nearest (if signed _ m (i - min i (-1074)).toNat + signed false 0 (-1074 - min i (-1074)).toNat = 0 then _ else decide (signed _ m (i - min i (-1074)).toNat + signed false 0 (-1074 - min i (-1074)).toNat < 0)) (signed _ m (i - min i (-1074)).toNat + signed false 0 (-1074 - min i (-1074)).toNat).natAbs (min i (-1074))) = some b
        rw [hmin, hzr, Int.add_zero, if_neg hsg]
        have hab : (signed (b / 9223372036854775808 % 2 == 1) m (i - -1074).toNat).natAbs = m <<< (i - -1074).toNat := by
          rw [sg_eq, Nat.shiftLeft_eq, Int.natAbs_mul, Int.natAbs_natCast]
          split <;> simp
        have hsn : decide (signed (b / 9223372036854775808 % 2 == 1) m (i - -1074).toNat < 0) = (b / 9223372036854775808 % 2 == 1) := by
          rw [sg_eq] at hsg ⊢
          have : 0 < m * 2 ^ (i - -1074).toNat := Nat.mul_pos hc.pos (Nat.two_pow_pos _)
          cases (b / 9223372036854775808 % 2 == 1)
          · simp only [Bool.false_eq_true, if_false]; exact decide_eq_false (by omega)
          · simp only [if_true]; exact decide_eq_true (by omega)
        rw [hab, hsn]
        have := near_canon (b / 9223372036854775808 % 2 == 1) hc (i - -1074).toNat
        rw [show i - (((i - -1074).toNat : Nat) : Int) = -1074 by omega] at this
        rw [this, hrung, hw]
      · have hinf : b % 9223372036854775808 = 9218868437227405312 := by
          apply Classical.byContradiction
          intro hne
          rw [cn_gt (by omega)] at hcn; cases hcn
        have hr : Ieee.double.read b = .infinity (b / 9223372036854775808 % 2 == 1) := by rw [read_eq, if_neg (by omega), if_neg hf, if_pos hinf]
        have hne : fEq (some b) (some 0) = false := by
          unfold fEq
          rw [eo, hr]
          show (some (if _ then Ordering.lt else Ordering.gt) == some Ordering.eq) = false
          split <;> rfl
        unfold pzF
        rw [if_neg (by rw [hne]; decide), e, hr]
        show some (Ieee.double.word _ Ieee.double.infRung) = some b
        rw [infR_eq, ← hinf, hw]
theorem fok_fop {op : BinOp} {x y : FV} : Fok (fop op x y) := by
  intro b h
  unfold fop at h
  cases x with
  | none => cases h
  | some p =>
    cases y with
    | none => cases h
    | some q =>
      have h2 : floatBits op .f64 p q = some b := h
      exact ⟨(fb_some h2).2.2.2, (fb_some h2).2.2.1⟩
/-! ### Rounding -/
def Rnd (V W : Nat) : Prop := (V = 0 ∧ W = 0) ∨ ∃ k u : Nat, W = k * 2 ^ u ∧ 0 < k ∧ k ≤ 9007199254740992 ∧ (4503599627370496 ≤ k ∨ u = 0) ∧ 2 * W ≤ 2 * V + 2 ^ u ∧ 2 * V ≤ 2 * W + 2 ^ u ∧ (u = 0 → W = V) ∧ (2 ^ (u + 52) ≤ V ∨ u = 0)
theorem pow52 : (2 : Nat) ^ 52 = 4503599627370496 := by decide
theorem le_unit {k N u x : Nat} (h : k * 2 ^ u ≤ N * 2 ^ u + x) (hx : x < 2 ^ u) : k ≤ N := by
  apply Classical.byContradiction
  intro hn
  have h1 : (N + 1) * 2 ^ u ≤ k * 2 ^ u := Nat.mul_le_mul_right _ (by omega)
  rw [Nat.succ_mul] at h1
  omega
theorem Rnd.le {V W k j : Nat} (h : Rnd V W) (hk : k ≤ 9007199254740992) (hV : V ≤ k * 2 ^ j) : W ≤ k * 2 ^ j := by
  rcases h with ⟨_, h⟩ | ⟨c, u, hW, hc0, hc1, hc2, he1, he2, h0, hb⟩
  · omega
  · have hpu := Nat.two_pow_pos u
    by_cases hju : u ≤ j
    · have e : k * 2 ^ j = (k * 2 ^ (j - u)) * 2 ^ u := by rw [Nat.mul_assoc, ← Nat.pow_add, show j - u + u = j by omega]
      rw [e] at hV ⊢
      rw [hW]
      refine Nat.mul_le_mul_right _ (le_unit (u := u) (x := 2 ^ u / 2) ?_ (by omega))
      rw [hW] at he1
      omega
    · have hV2 : 2 ^ (u + 52) ≤ V := by rcases hb with hb | hb; exact hb; omega
      have e1 : k * 2 ^ j ≤ 2 ^ (u + 52) := by
        have a1 : k * 2 ^ j ≤ 2 ^ 53 * 2 ^ j := Nat.mul_le_mul_right _ (by omega)
        rw [← Nat.pow_add] at a1
        exact Nat.le_trans a1 (Nat.pow_le_pow_right (by decide) (by omega))
      have hVe : V = 2 ^ (u + 52) := by omega
      have hke : k * 2 ^ j = 2 ^ (u + 52) := by omega
      rw [hke]
      have e2 : (2 : Nat) ^ (u + 52) = 4503599627370496 * 2 ^ u := by rw [Nat.pow_add, pow52, Nat.mul_comm]
      rw [hVe, e2] at he1
      rw [hW, e2]
      refine Nat.mul_le_mul_right _ (le_unit (u := u) (x := 2 ^ u / 2) ?_ (by omega))
      rw [hW] at he1
      omega
theorem Rnd.ge {V W k j : Nat} (h : Rnd V W) (hk : k ≤ 9007199254740992) (hV : k * 2 ^ j ≤ V) : k * 2 ^ j ≤ W := by
  rcases h with ⟨h1, h⟩ | ⟨c, u, hW, hc0, hc1, hc2, he1, he2, h0, hb⟩
  · omega
  · have hpu := Nat.two_pow_pos u
    by_cases hju : u ≤ j
    · have e : k * 2 ^ j = (k * 2 ^ (j - u)) * 2 ^ u := by rw [Nat.mul_assoc, ← Nat.pow_add, show j - u + u = j by omega]
      rw [e] at hV ⊢
      rw [hW]
      refine Nat.mul_le_mul_right _ (le_unit (u := u) (x := 2 ^ u / 2) ?_ (by omega))
      rw [hW] at he2
      omega
    · have hc3 : 4503599627370496 ≤ c := by rcases hc2 with h | h; exact h; omega
      have a1 : k * 2 ^ j ≤ 2 ^ 53 * 2 ^ j := Nat.mul_le_mul_right _ (by omega)
      rw [← Nat.pow_add] at a1
      have a2 : 2 ^ (53 + j) ≤ 2 ^ (u + 52) := Nat.pow_le_pow_right (by decide) (by omega)
      have e2 : (2 : Nat) ^ (u + 52) = 4503599627370496 * 2 ^ u := by rw [Nat.pow_add, pow52, Nat.mul_comm]
      have a3 : 4503599627370496 * 2 ^ u ≤ c * 2 ^ u := Nat.mul_le_mul_right _ hc3
      omega
theorem Rnd.err {V W q : Nat} (h : Rnd V W) (hq : 53 ≤ q) (hV : V ≤ 2 ^ q) : W ≤ V + 2 ^ (q - 53) ∧ V ≤ W + 2 ^ (q - 53) := by
  have hp0 := Nat.two_pow_pos (q - 53)
  rcases h with ⟨h1, h⟩ | ⟨c, u, hW, hc0, hc1, hc2, he1, he2, h0, hb⟩
  · omega
  · rcases hb with hb | hb
    · have h1 : u + 52 ≤ q := (Nat.pow_le_pow_iff_right (by decide)).1 (Nat.le_trans hb hV)
      have h2 : 2 ^ u ≤ 2 ^ (q - 52) := Nat.pow_le_pow_right (by decide) (by omega)
      have h3 : (2 : Nat) ^ (q - 52) = 2 * 2 ^ (q - 53) := by rw [show q - 52 = (q - 53) + 1 by omega, Nat.pow_succ]; omega
      omega
    · have := h0 hb; omega
theorem Rnd.small {V W : Nat} (h : Rnd V W) (hV : V < 9007199254740992) : W = V := by
  rcases h with ⟨h1, h⟩ | ⟨c, u, hW, hc0, hc1, hc2, he1, he2, h0, hb⟩
  · omega
  · rcases Nat.eq_zero_or_pos u with hu | hu
    · exact h0 hu
    · rcases hb with hb | hb
      · have : (2 : Nat) ^ 53 ≤ 2 ^ (u + 52) := Nat.pow_le_pow_right (by decide) (by omega)
        omega
      · omega
theorem rung_mono {k1 u1 k2 u2 : Nat} (h1 : k1 ≤ 9007199254740992) (h2 : 4503599627370496 ≤ k1 ∨ u1 = 0) (h3 : k2 ≤ 9007199254740992) (h4 : 4503599627370496 ≤ k2 ∨ u2 = 0) (h : k1 * 2 ^ u1 ≤ k2 * 2 ^ u2) : u1 * 4503599627370496 + k1 ≤ u2 * 4503599627370496 + k2 := by
  rcases Nat.lt_trichotomy u1 u2 with hu | hu | hu
  · have : 4503599627370496 ≤ k2 := by rcases h4 with h | h; exact h; omega
    omega
  · subst hu
    have := Nat.le_of_mul_le_mul_right h (Nat.two_pow_pos u1)
    omega
  · have hk1 : 4503599627370496 ≤ k1 := by rcases h2 with h | h; exact h; omega
    obtain ⟨d, hd⟩ : ∃ d, u1 = u2 + 1 + d := ⟨u1 - u2 - 1, by omega⟩
    rw [hd, Nat.pow_add, Nat.pow_add] at h
    have h5 : k1 * 2 * 2 ^ d ≤ k2 := by
      have e : k1 * (2 ^ u2 * 2 ^ 1 * 2 ^ d) = (k1 * 2 * 2 ^ d) * 2 ^ u2 := by
        generalize 2 ^ u2 = a
        generalize 2 ^ d = b
        grind
      rw [e] at h
      exact Nat.le_of_mul_le_mul_right h (Nat.two_pow_pos u2)
    have h6 : k1 * 2 ≤ k1 * 2 * 2 ^ d := Nat.le_mul_of_pos_right _ (Nat.two_pow_pos d)
    have hd0 : d = 0 := by
      apply Classical.byContradiction
      intro hne
      have : (2 : Nat) ^ 1 ≤ 2 ^ d := Nat.pow_le_pow_right (by decide) (by omega)
      have : k1 * 2 * 2 ^ 1 ≤ k1 * 2 * 2 ^ d := Nat.mul_le_mul_left _ this
      omega
    subst hd0
    omega
end Go.KL

/- Floats: a sum, rounded. -/
namespace Go.KL
open Ieee
structure Prt (k u : Nat) : Prop where
  pos : 0 < k
  le : k ≤ 9007199254740992
  norm : 4503599627370496 ≤ k ∨ u = 0
theorem cut_err (s : Bool) {n d : Nat} (hd : d ≤ n.log2 + 2) : ∃ k, Toward.even.cut s n d = k ∧ 2 * (k * 2 ^ d) ≤ 2 * n + 2 ^ d ∧ 2 * n ≤ 2 * (k * 2 ^ d) + 2 ^ d ∧ n / 2 ^ d ≤ k ∧ k ≤ n / 2 ^ d + 1 := by
  refine ⟨_, rfl, ?_⟩
  unfold Toward.cut
  simp only [Nat.min_eq_left hd, Nat.shiftLeft_eq, Nat.one_mul]
  have hp := Nat.two_pow_pos d
  have hdm := Nat.div_add_mod n (2 ^ d)
  have hml := Nat.mod_lt n hp
  generalize hg : 2 ^ d = G at *
  generalize hl : n / G = low at *
  generalize hr : n % G = rest at *
  have hc : low * G = G * low := Nat.mul_comm _ _
  cases hmore : (decide (G < 2 * rest) || (G == 2 * rest && low % 2 == 1))
  · have h1 : ¬ G < 2 * rest := by
      simp only [Bool.or_eq_false_iff, decide_eq_false_iff_not] at hmore
      exact hmore.1
    simp only [Bool.toNat_false, Nat.add_zero]
    omega
  · have h1 : G ≤ 2 * rest := by
      simp only [Bool.or_eq_true, decide_eq_true_eq, Bool.and_eq_true, beq_iff_eq] at hmore
      omega
    simp only [Bool.toNat_true]
    have h2 : (low + 1) * G = low * G + G := Nat.succ_mul _ _
    omega
theorem near_rnd (s : Bool) {mag : Nat} {p : Int} (hm : mag ≠ 0) (hp : -1074 ≤ p) : ∃ k u, Ieee.double.nearest s mag p = Ieee.double.word s (min (u * 4503599627370496 + k) 9218868437227405312) ∧ Prt k u ∧ Rnd (mag * 2 ^ (p + K74).toNat) (k * 2 ^ u) := by
  have hk := k74
  have h1 := Nat.log2_self_le hm
  have h2 : mag < 2 ^ (mag.log2 + 1) := (Nat.log2_lt hm).1 (Nat.lt_succ_self _)
  obtain ⟨L, hL⟩ : ∃ L, L = mag.log2 := ⟨_, rfl⟩
  rw [← hL] at h1 h2
  obtain ⟨last, hlast⟩ : ∃ last : Int, last = max (p + (L : Int) - 52) (-1074) := ⟨_, rfl⟩
  have hn : Ieee.double.nearest s mag p = Ieee.double.word s (min ((last + 1074).toNat * 4503599627370496 + Toward.even.cut s (mag <<< (p - last).toNat) (last - p).toNat) 9218868437227405312) := by
    unfold Format.nearest
    rw [if_neg hm]
    simp only [fb_eq, least_eq, binade_eq, infR_eq]
    rw [← hL, show p + (L : Int) - ((52 : Nat) : Int) = p + (L : Int) - 52 by rfl, ← hlast]
    rw [show (last - (-1074)).toNat = (last + 1074).toNat by congr 1]
  have e74 : (last + 1074).toNat = (last + K74).toNat := by omega
  rw [e74] at hn
  by_cases hc : L ≤ 52
  · have hlp : last ≤ p := by omega
    have e1 : (last - p).toNat = 0 := by omega
    rw [e1, cut_none] at hn
    obtain ⟨d, hd⟩ : ∃ d, d = (p - last).toNat := ⟨_, rfl⟩
    rw [← hd, Nat.shiftLeft_eq] at hn
    have hV : mag * 2 ^ (p + K74).toNat = mag * 2 ^ d * 2 ^ (last + K74).toNat := by rw [Nat.mul_assoc, ← Nat.pow_add]; congr 2; omega
    have hd52 : d ≤ 52 - L := by omega
    have hle : mag * 2 ^ d < 9007199254740992 := by
      have a1 : mag * 2 ^ d < 2 ^ (L + 1) * 2 ^ d := Nat.mul_lt_mul_of_pos_right h2 (Nat.two_pow_pos _)
      rw [← Nat.pow_add] at a1
      have a2 : (2 : Nat) ^ (L + 1 + d) ≤ 2 ^ 53 := Nat.pow_le_pow_right (by decide) (by omega)
      omega
    have hnorm : 4503599627370496 ≤ mag * 2 ^ d ∨ (last + K74).toNat = 0 := by
      by_cases hl2 : last = -1074
      · right; omega
      · left
        have hd2 : d = 52 - L := by omega
        have a1 : 2 ^ L * 2 ^ d ≤ mag * 2 ^ d := Nat.mul_le_mul_right _ h1
        rw [← Nat.pow_add, hd2, show L + (52 - L) = 52 by omega, pow52] at a1
        rw [hd2]; exact a1
    have hpos : 0 < mag * 2 ^ d := Nat.mul_pos (by omega) (Nat.two_pow_pos _)
    refine ⟨mag * 2 ^ d, (last + K74).toNat, hn, ⟨hpos, by omega, hnorm⟩, .inr ⟨mag * 2 ^ d, (last + K74).toNat, rfl, hpos, by omega, hnorm, by have := Nat.two_pow_pos (last + K74).toNat; omega, by have := Nat.two_pow_pos (last + K74).toNat; omega, fun _ => hV.symm, ?_⟩⟩
    rcases hnorm with h | h
    · left
      rw [hV, Nat.pow_add, Nat.mul_comm, pow52]
      exact Nat.mul_le_mul_right _ h
    · exact .inr h
  · have hl2 : last = p + (L : Int) - 52 := by omega
    have e1 : (p - last).toNat = 0 := by omega
    obtain ⟨d, hd⟩ : ∃ d, d = (last - p).toNat := ⟨_, rfl⟩
    have hdL : d = L - 52 := by omega
    rw [e1, Nat.shiftLeft_zero, ← hd] at hn
    obtain ⟨k, hk1, hk2, hk3, hk4, hk5⟩ := cut_err s (n := mag) (d := d) (by omega)
    rw [hk1] at hn
    have hu : (last + K74).toNat = d + (p + K74).toNat := by omega
    have hlow : 4503599627370496 ≤ mag / 2 ^ d := by
      rw [Nat.le_div_iff_mul_le (Nat.two_pow_pos _), ← pow52, ← Nat.pow_add, hdL, show 52 + (L - 52) = L by omega]
      exact h1
    have hhi : mag / 2 ^ d < 9007199254740992 := by
      rw [Nat.div_lt_iff_lt_mul (Nat.two_pow_pos _)]
      have : (9007199254740992 : Nat) = 2 ^ 53 := by decide
      rw [this, ← Nat.pow_add, hdL, show 53 + (L - 52) = L + 1 by omega]
      exact h2
    have hW : k * 2 ^ (last + K74).toNat = k * 2 ^ d * 2 ^ (p + K74).toNat := by rw [hu, Nat.pow_add, Nat.mul_assoc]
    refine ⟨k, (last + K74).toNat, hn, ⟨by omega, by omega, .inl (by omega)⟩, .inr ⟨k, (last + K74).toNat, rfl, by omega, by omega, .inl (by omega), ?_, ?_, fun h => by omega, .inl ?_⟩⟩
    · rw [hW, hu, Nat.pow_add]
      have := Nat.mul_le_mul_right (2 ^ (p + K74).toNat) hk2
      rw [Nat.add_mul, Nat.mul_assoc 2, Nat.mul_assoc 2] at this
      exact this
    · rw [hW, hu, Nat.pow_add]
      have := Nat.mul_le_mul_right (2 ^ (p + K74).toNat) hk3
      rw [Nat.add_mul, Nat.mul_assoc 2, Nat.mul_assoc 2] at this
      exact this
    · rw [hu, show d + (p + K74).toNat + 52 = L + (p + K74).toNat by omega, Nat.pow_add]
      exact Nat.mul_le_mul_right _ h1
theorem read_rung (s : Bool) {k u : Nat} (h : Prt k u) (hf : u * 4503599627370496 + k < 9218868437227405312) : ∃ m i, Ieee.double.read (Ieee.double.word s (u * 4503599627370496 + k)) = .number s m i ∧ -1074 ≤ i ∧ m * 2 ^ (i + K74).toNat = k * 2 ^ u := by
  have hk := k74
  have h1 := h.le
  have h2 := h.pos
  by_cases hc : k = 9007199254740992
  · subst hc
    have e1 : ((u : Int) + 1 - 1074 + 1074).toNat = u + 1 := by omega
    have hcan : Canon 4503599627370496 ((u : Int) + 1 - 1074) := ⟨by decide, by decide, by omega, .inl (Nat.le_refl _), by rw [e1]; omega⟩
    refine ⟨4503599627370496, (u : Int) + 1 - 1074, ?_, by omega, ?_⟩
    · have := read_word s hcan
      have e2 : (u + 1) * 4503599627370496 + 4503599627370496 = u * 4503599627370496 + 9007199254740992 := by omega
      rw [e1, e2] at this
      exact this
    · rw [show ((u : Int) + 1 - 1074 + K74).toNat = u + 1 by omega, Nat.pow_succ]; omega
  · have e1 : ((u : Int) - 1074 + 1074).toNat = u := by omega
    have hcan : Canon k ((u : Int) - 1074) := ⟨h2, by omega, by omega, by rcases h.norm with h | h; exact .inl h; exact .inr (by omega), by rw [e1]; exact hf⟩
    refine ⟨k, (u : Int) - 1074, ?_, by omega, ?_⟩
    · have := read_word s hcan
      rw [e1] at this
      exact this
    · rw [show ((u : Int) - 1074 + K74).toNat = u by omega]
def IsV (x : FV) (s : Bool) (V : Nat) : Prop := ∃ b m i, x = some b ∧ b < 18446744073709551616 ∧ Ieee.double.read b = .number s m i ∧ -1074 ≤ i ∧ m * 2 ^ (i + K74).toNat = V
def sv (s : Bool) (V : Nat) : Int := if s = true then -(V : Int) else V
theorem sv_abs (s : Bool) (V : Nat) : (sv s V).natAbs = V := by unfold sv; split <;> omega
def Fin (V : Nat) : Prop := V = 0 ∨ ∃ k u, V = k * 2 ^ u ∧ Prt k u ∧ u * 4503599627370496 + k < 9218868437227405312
theorem IsV.fin {x : FV} {s : Bool} {V : Nat} (h : IsV x s V) : Fin V := by
  obtain ⟨b, m, i, rfl, _, hr, hi, hV⟩ := h
  have hk := k74
  rcases read_form hr with ⟨h0, _⟩ | hc
  · left; rw [← hV, h0, Nat.zero_mul]
  · right
    have h1 := hc.fin
    have e : (i + K74).toNat = (i + 1074).toNat := by omega
    exact ⟨m, (i + K74).toNat, hV.symm, ⟨hc.pos, by have := hc.lt; omega, by rcases hc.norm with h | h; exact .inl h; exact .inr (by omega)⟩, by rw [e]; exact h1⟩
theorem sum_v {s t : Bool} {m n : Nat} {i j : Int} (hi : -1074 ≤ i) (hj : -1074 ≤ j) :
    ∃ d, (Datum.number s m i).sum (.number t n j) = some d ∧
      ((∃ W, Rnd (sv s (m * 2 ^ (i + K74).toNat) + sv t (n * 2 ^ (j + K74).toNat)).natAbs W ∧ IsV (some (Ieee.double.write d)) (if sv s (m * 2 ^ (i + K74).toNat) + sv t (n * 2 ^ (j + K74).toNat) = 0 then s && t else decide (sv s (m * 2 ^ (i + K74).toNat) + sv t (n * 2 ^ (j + K74).toNat) < 0)) W) ∨
       ((∀ T, Fin T → ¬ (sv s (m * 2 ^ (i + K74).toNat) + sv t (n * 2 ^ (j + K74).toNat)).natAbs ≤ T) ∧ Ieee.double.write d = Ieee.double.word (decide (sv s (m * 2 ^ (i + K74).toNat) + sv t (n * 2 ^ (j + K74).toNat) < 0)) 9218868437227405312)) := by
  have hk := k74
  refine ⟨_, rfl, ?_⟩
  generalize hT : signed s m (i - min i j).toNat + signed t n (j - min i j).toNat = T
  generalize hS : sv s (m * 2 ^ (i + K74).toNat) + sv t (n * 2 ^ (j + K74).toNat) = S
  have hsv : ∀ (s : Bool) (m k : Nat), signed s m k = sv s (m * 2 ^ k) := fun s m k => by
    rw [sg_eq]; unfold sv
    cases s
    · simp only [Bool.false_eq_true, if_false]; omega
    · simp only [if_true]; omega
  have hsum : T * ((2 ^ (min i j + K74).toNat : Nat) : Int) = S := by
    rw [← hT, Int.add_mul, ← sg_shift, ← sg_shift, show (i - min i j).toNat + (min i j + K74).toNat = (i + K74).toNat by omega, show (j - min i j).toNat + (min i j + K74).toNat = (j + K74).toNat by omega, hsv, hsv]
    exact hS
  have hp1 := pow_posI (min i j + K74).toNat
  have hT0 : T = 0 ↔ S = 0 := by
    rw [← hsum]
    constructor
    · rintro rfl; exact Int.zero_mul _
    · intro h
      rcases Int.mul_eq_zero.1 h with h | h
      · exact h
      · omega
  have hTs : T < 0 ↔ S < 0 := by
    rw [← hsum]
    exact ⟨fun h => Int.mul_neg_of_neg_of_pos h hp1, fun h => neg_left h hp1⟩
  have habs : T.natAbs * 2 ^ (min i j + K74).toNat = S.natAbs := by
    have := congrArg Int.natAbs hsum
    rwa [Int.natAbs_mul, Int.natAbs_natCast] at this
  by_cases hz : S = 0
  · left
    have hTz := hT0.2 hz
    refine ⟨0, .inl ⟨by omega, rfl⟩, ?_⟩
    rw [if_pos hTz, if_pos hz, hTz]
    show IsV (some (Ieee.double.nearest (s && t) 0 (min i j))) _ 0
    have e : Ieee.double.nearest (s && t) 0 (min i j) = Ieee.double.word (s && t) 0 := by unfold Format.nearest; rw [if_pos rfl]
    rw [e]
    exact ⟨_, 0, -1074, rfl, (word_parts _ (r := 0) (by decide)).2.2, read_zero _, by omega, by simp⟩
  · have hTz : T ≠ 0 := fun h => hz (hT0.1 h)
    rw [if_neg hTz, if_neg hz]
    have hd : decide (T < 0) = decide (S < 0) := decide_eq_decide.2 hTs
    rw [hd]
    obtain ⟨k, u, h1, h2, h3⟩ := near_rnd (decide (S < 0)) (mag := T.natAbs) (p := min i j) (by omega) (by omega)
    rw [habs] at h3
    by_cases hf : u * 4503599627370496 + k < 9218868437227405312
    · left
      refine ⟨k * 2 ^ u, h3, ?_⟩
      show IsV (some (Ieee.double.nearest _ T.natAbs (min i j))) _ _
      rw [h1, Nat.min_eq_left (by omega)]
      obtain ⟨m', i', r1, r2, r3⟩ := read_rung (decide (S < 0)) h2 hf
      exact ⟨_, m', i', rfl, (word_parts _ (by omega)).2.2, r1, r2, r3⟩
    · right
      refine ⟨fun V hV hle => ?_, ?_⟩
      · rcases hV with rfl | ⟨k2, u2, rfl, hp2, hf2⟩
        · omega
        · have := rung_mono h2.le h2.norm hp2.le hp2.norm (h3.le hp2.le hle)
          omega
      · show Ieee.double.nearest _ T.natAbs (min i j) = _
        rw [h1, Nat.min_eq_right (by omega)]
end Go.KL

/- Rows of sums: structs of two floats, each behind a pointer into the row. -/
namespace Go.KL
open Go.RowKit
theorem sums_len (xs : List SFV) : (xs.flatMap sumC).length = xs.length * 2 := by
  induction xs with
  | nil => rfl
  | cons x xs ih => rw [List.flatMap_cons, List.length_append, ih]; show 2 + xs.length * 2 = (xs.length + 1) * 2; omega
theorem sums_get0 : ∀ {xs : List SFV} {i : Nat}, i < xs.length → (xs.flatMap sumC)[i * 2 + 0]? = some (Ty.flt (xs.getD i S0).1)
  | x :: xs, 0, _ => rfl
  | x :: xs, i + 1, h => by
    have ih := sums_get0 (xs := xs) (i := i) (by simpa using h)
    rw [List.flatMap_cons, List.getElem?_append_right (by show 2 ≤ _; omega)]
    show (xs.flatMap sumC)[(i + 1) * 2 + 0 - 2]? = _
    rw [show (i + 1) * 2 + 0 - 2 = i * 2 + 0 by omega, ih]; rfl
theorem sums_get1 : ∀ {xs : List SFV} {i : Nat}, i < xs.length → (xs.flatMap sumC)[i * 2 + 1]? = some (Ty.flt (xs.getD i S0).2)
  | x :: xs, 0, _ => rfl
  | x :: xs, i + 1, h => by
    have ih := sums_get1 (xs := xs) (i := i) (by simpa using h)
    rw [List.flatMap_cons, List.getElem?_append_right (by show 2 ≤ _; omega)]
    show (xs.flatMap sumC)[(i + 1) * 2 + 1 - 2]? = _
    rw [show (i + 1) * 2 + 1 - 2 = i * 2 + 1 by omega, ih]; rfl
theorem sums_set0 : ∀ {xs : List SFV} {i : Nat} {y : FV}, i < xs.length → (xs.flatMap sumC).set (i * 2 + 0) (Ty.flt y) = (xs.set i (y, (xs.getD i S0).2)).flatMap sumC
  | x :: xs, 0, y, _ => rfl
  | x :: xs, i + 1, y, h => by
    have ih := sums_set0 (xs := xs) (i := i) (y := y) (by simpa using h)
    rw [List.flatMap_cons, List.set_append_right _ _ (by show 2 ≤ _; omega), List.set_cons_succ, List.flatMap_cons]
    congr 1
    show (xs.flatMap sumC).set ((i + 1) * 2 + 0 - 2) _ = _
    rw [show (i + 1) * 2 + 0 - 2 = i * 2 + 0 by omega, ih]; rfl
theorem sums_set1 : ∀ {xs : List SFV} {i : Nat} {y : FV}, i < xs.length → (xs.flatMap sumC).set (i * 2 + 1) (Ty.flt y) = (xs.set i ((xs.getD i S0).1, y)).flatMap sumC
  | x :: xs, 0, y, _ => rfl
  | x :: xs, i + 1, y, h => by
    have ih := sums_set1 (xs := xs) (i := i) (y := y) (by simpa using h)
    rw [List.flatMap_cons, List.set_append_right _ _ (by show 2 ≤ _; omega), List.set_cons_succ, List.flatMap_cons]
    congr 1
    show (xs.flatMap sumC).set ((i + 1) * 2 + 1 - 2) _ = _
    rw [show (i + 1) * 2 + 1 - 2 = i * 2 + 1 by omega, ih]; rfl
theorem getD_set_self {α : Type} (d : α) {xs : List α} {i : Nat} {x : α} (h : i < xs.length) : (xs.set i x).getD i d = x := by simp [h]
theorem set_setS {xs : List SFV} {i : Nat} {x y : SFV} : (xs.set i x).set i y = xs.set i y := List.set_set ..
section
variable {P : Program} {d : Option Tmp} {ty : TypeId} {pos : String} {af : Array Edge} {g : Option (Nat × Bool)} {a : Act} {σ : GW}
theorem y_make_sum {k : Nat} {t e : TypeId} {by_ : Nat} {x y : Operand} {kx ky : IntKind} {n : Nat} (ht : P.underlying t = some (.slice e)) (he : Info P e (.agg #[.float .f64 0, .float .f64 0]) 2 by_)
    (hx : a.eval x = .int kx n) (hy : a.eval y = .int ky n) (hb : by_ * n ≤ 281474976710656) (hn : n ≤ 9223372036854775807) :
    Yld P ⟨d, .makeSlice t x y, ty, pos, af, g⟩ a σ (Pr.own k e 2 n ((List.replicate n S0).flatMap sumC)) := by
  obtain ⟨i, hi, hi1, hi2, rfl⟩ := he.get
  have hb' : (i.bytes : Int) * (n : Int) ≤ 281474976710656 := by
    have h3 : ((i.bytes * n : Nat) : Int) ≤ 281474976710656 := by omega
    rw [← Int.natCast_mul]; exact h3
  have hr := run_make (P := P) σ.w t e i _ ht hi hi1 kx ky n n (by omega) (Int.le_refl _) hb' (by omega)
  intro K Q hk
  have hr' : (execOp a.eval ⟨d, .makeSlice t x y, ty, pos, af, g⟩).run P σ.w = .ok (.value (.slice (some ⟨σ.w.heap.size, 0, none⟩) n n)) (σ.w.alloc (.cells (madeCells #[.float .f64 0, .float .f64 0] (n * 2)) e)) := by
    simp only [execOp, hx, hy, Sem.run_bind, hr, Result.andThen_ok, Sem.run_pure, Int.toNat_natCast, hi2]
    rfl
  unfold Oper.wp
  rw [hr']
  have hl : (madeCells #[Value.float .f64 0, Value.float .f64 0] (n * 2)).toList = List.replicate (n * 2) (Value.float .f64 0) := by
    apply List.ext_getElem?
    intro j
    by_cases hj : j < n * 2
    · simp [madeCells, hj, List.getElem?_replicate]
      have : j % 2 = 0 ∨ j % 2 = 1 := by omega
      rcases this with h | h <;> simp [h]
    · simp [madeCells, hj, List.getElem?_replicate]
  refine hk _ (σ.mk' k (.cells (madeCells #[.float .f64 0, .float .f64 0] (n * 2)) e)) (Stp.mk' σ k _) ?_
  refine Own.intro (us := List.replicate (n * 2) (Value.float .f64 0)) (heap_alloc_new σ.w _) (by show (if _ = _ then k else _) = k; rw [if_pos rfl]) (Nat.le_refl _) hn ?_ ?_ (by rw [sums_len]; simp) ?_
  · rw [← Array.length_toList, hl]; simp
  · rw [hl]; simp
  · intro j U u hU hu
    have hj : j < n * 2 := by
      have := (List.getElem?_eq_some_iff.1 hu).1
      simpa using this
    have hu' : u = .float .f64 0 := by
      rw [List.getElem?_replicate, if_pos hj] at hu; cases hu; rfl
    subst hu'
    have hx : U = Ty.flt (some 0) := by
      have hm := List.mem_of_getElem? hU
      obtain ⟨s, hs, hm⟩ := List.mem_flatMap.1 hm
      rw [(List.mem_replicate.1 hs).2] at hm
      simp only [sumC, S0, List.mem_cons, List.not_mem_nil, or_false] at hm
      rcases hm with rfl | rfl <;> rfl
    subst hx
    exact flt_zero
theorem y_idx2 {k : Nat} {x y : Operand} {n i : Nat} {ts : List Ty} {t e : TypeId} {z v : Value} {b : Nat} {ki : IntKind} (ht : P.underlying t = some (.slice e)) (he : Info P e z 2 b)
    (h : Own σ k e 2 v n ts) (hx : a.eval x = v) (hy : a.eval y = .int ki (i : Int)) (h1 : i < n) :
    Yld P ⟨d, .indexAddr t x y, ty, pos, af, g⟩ a σ (Ty.val (cellPtr v (i * 2))).pr := by
  have := own_index (d := d) (ty := ty) (pos := pos) (af := af) (g := g) (i := (i : Int)) ht he h hx hy (by omega) (by omega)
  rwa [Int.toNat_natCast] at this
theorem y_nilc {k : Nat} {x : Operand} {n i : Nat} {ts : List Ty} {e : TypeId} {v : Value} (h : Own σ k e 2 v n ts) (hn : 0 < n) (hx : a.eval x = cellPtr v i) :
    Yld P ⟨d, .nilCheck x, ty, pos, af, g⟩ a σ (Ty.val (cellPtr v i)).pr := by
  obtain ⟨gg, cap, rfl, _, _⟩ := h.at hn
  exact Yld.of_run (v := .pointer (some ⟨gg, i, none⟩)) (by simp only [execOp, hx, cellPtr]; simp [go_sem]) rfl
theorem y_fieldc {k : Nat} {x : Operand} {n i : Nat} {ts : List Ty} {e t ft : TypeId} {f off c by_ : Nat} {z v : Value} (hf : fieldOf P t f = some (ft, off)) (he : Info P ft z c by_) (hc : 0 < c) (h : Own σ k e 2 v n ts) (hn : 0 < n) (hx : a.eval x = cellPtr v i) :
    Yld P ⟨d, .fieldAddr t x f, ty, pos, af, g⟩ a σ (Ty.val (cellPtr v (i + off))).pr := by
  obtain ⟨gg, cap, rfl, _, _⟩ := h.at hn
  refine Yld.of_run (v := .pointer (some ⟨gg, i + off, none⟩)) ?_ rfl
  simp only [execOp, hx, cellPtr]
  have := run_fieldAt (o := i) (b := gg) hf he hc σ.w
  simp [this]
end
end Go.KL

/- How blows are judged: the numbers. -/
namespace Go.KL
section
variable {P : Program} {d : Option Tmp} {ty : TypeId} {pos : String} {af : Array Edge} {g : Option (Nat × Bool)} {a : Act} {σ : GW}
theorem y_callr {f : FuncId} {fn : Func} {x : Operand} {tys : Array TypeId} {k : Nat} {v : Value} {ts : List Ty} {R : Ty} (hR : ∀ σ τ v, R.has σ v → R.has τ v) (hs0 : ∃ σ' : GW, σ'.w = σ.w ∧ Stp k σ σ' ∧ (Ty.ref ts).has σ' v) (hx : a.eval x = v)
    (hf : P.funcs[f]? = some fn) (hn : (fn.name == "runtime.NumGoroutine") = false) (hb : fn.body.isNone = false) (hc : ∀ σ : GW, (Ty.ref ts).has σ v → FnC P f #[v] σ R) :
    Yld P ⟨d, .call ⟨.value (.func f), #[x], tys⟩, ty, pos, af, g⟩ a σ R.pr := by
  intro K Q hk'
  have hr : (execOp a.eval ⟨d, .call ⟨.value (.func f), #[x], tys⟩, ty, pos, af, g⟩).run P σ.w = .ok (.enter f #[v]) σ.w := by
    have hn' : ¬ fn.name = "runtime.NumGoroutine" := by simpa using hn
    have hb' : ¬ fn.body = none := by intro e; simp [e] at hb
    simp only [execOp, resolve, List.map_toArray, List.map_cons, List.map_nil, hx]
    simp [Act.eval, Deferred.ofValue, invoke, callFunc, hf, hn', hb', program, Sem.run, Sem.run_bind]
  unfold Oper.wp
  rw [hr]
  obtain ⟨σ', hw, hs, hT⟩ := hs0
  have hcc := hc σ' hT
  unfold FnC at hcc
  rw [hw] at hcc
  refine Calls.mono hcc ?_
  rintro e' w' ⟨v', τ, rfl, hs2, rfl, hRv⟩
  have hlt : ∀ b, b < σ.w.heap.size → b < τ.w.heap.size := fun b hb => Nat.lt_of_lt_of_le hb (by have := hs2.size; rw [hw] at this; exact this)
  let ρ : GW := ⟨τ.w, fun b => if b < σ.w.heap.size then σ.st b else τ.st b, fun b hb => by
    by_cases hb2 : b < σ.w.heap.size
    · exact hlt b hb2
    · simp only [hb2, if_false] at hb; exact τ.lt b hb⟩
  have hst : Stp 0 σ ρ := ⟨by rw [show ρ.w = τ.w from rfl, hs2.os, hw], by rw [show ρ.w = τ.w from rfl, hs2.tape, hw], by rw [show ρ.w = τ.w from rfl, hs2.output, hw], by have := hs2.dr; rw [hw] at this; exact this, by have := hs2.size; rw [hw] at this; exact this,
    fun b hb _ => by have := hs2.blk b (by rw [hw]; exact hb) (.inl rfl); rw [hw] at this; exact this, fun b hb _ => by show (if b < σ.w.heap.size then σ.st b else τ.st b) = σ.st b; rw [if_pos hb]⟩
  exact hk' v' ρ hst (hR _ _ _ hRv)
theorem flt_any {o : FV} : ∀ (σ τ : GW) v, (Ty.flt o).has σ v → (Ty.flt o).has τ v := fun _ _ _ h => h
theorem sum_seal {k n i : Nat} {e : TypeId} {v : Value} {xs : List SFV} (hk : 2 ≤ k) (h : Own σ k e 2 v n (xs.flatMap sumC)) (hi : i < xs.length) :
    ∃ σ' : GW, σ'.w = σ.w ∧ Stp k σ σ' ∧ (Ty.ref [Ty.flt (xs.getD i S0).1, Ty.flt (xs.getD i S0).2]).has σ' (cellPtr v (i * 2)) := by
  have hn : 0 < n := by
    have := h.len; rw [sums_len] at this; omega
  obtain ⟨gg, cap, rfl, hst, hlt⟩ := h.at hn
  obtain ⟨σ', hw, hs, ad, cp, b, o, e1, e2, e3, e4, e5⟩ := h.seal hk
  refine ⟨σ', hw, hs, b, o + i * 2, ?_, ?_, fun j T hj => ?_⟩
  · rcases e4 with e4 | ⟨e4, _⟩
    · have := congrArg List.length e4; rw [sums_len] at this; simp at this; omega
    · cases e1; cases e4
      show Value.pointer (some ⟨gg, i * 2, none⟩) = _
      rw [Nat.zero_add]
  · rcases e4 with e4 | ⟨e4, e6⟩
    · have := congrArg List.length e4; rw [sums_len] at this; simp at this; omega
    · exact e6
  · have hq : (xs.flatMap sumC)[i * 2 + j]? = some T := by
      match j, hj with
      | 0, hj => cases hj; exact sums_get0 hi
      | 1, hj => cases hj; exact sums_get1 hi
      | j + 2, hj => simp at hj
    obtain ⟨u, h1, h2⟩ := e5 _ T hq
    exact ⟨u, by rw [Nat.add_assoc]; exact h1, h2⟩
end
/-! ### The numbers -/
def sumN (f : Nat → Nat) : Nat → Nat
  | 0 => 0
  | k + 1 => sumN f k + f k
def foldTo (f : Nat → FV) : Nat → SFV
  | 0 => S0
  | k + 1 => addS (foldTo f k) (f k)
def ownL (f : Nat → FV) (b : Nat → Nat) (N : Nat) : Nat → List SFV
  | 0 => List.replicate N S0
  | k + 1 => (ownL f b N k).set (b k) (addS ((ownL f b N k).getD (b k) S0) (f k))
def rangL (b : Nat → Nat) (N : Nat) : Nat → List Int
  | 0 => List.replicate N 0
  | k + 1 => (rangL b N k).set (b k) ((rangL b N k).getD (b k) 0 + 1)
theorem ownL_len (f : Nat → FV) (b : Nat → Nat) (N : Nat) : ∀ k, (ownL f b N k).length = N
  | 0 => by simp [ownL]
  | k + 1 => by rw [ownL, List.length_set, ownL_len f b N k]
theorem rangL_len (b : Nat → Nat) (N : Nat) : ∀ k, (rangL b N k).length = N
  | 0 => by simp [rangL]
  | k + 1 => by rw [rangL, List.length_set, rangL_len b N k]
theorem rangL_bd (b : Nat → Nat) (N : Nat) : ∀ k i, 0 ≤ (rangL b N k).getD i 0 ∧ (rangL b N k).getD i 0 ≤ k
  | 0, i => by
    simp only [rangL, List.getD_eq_getElem?_getD, List.getElem?_replicate]
    split <;> simp
  | k + 1, i => by
    have h1 := rangL_bd b N k i
    have h2 := rangL_bd b N k (b k)
    rw [rangL, List.getD_eq_getElem?_getD]
    by_cases e : b k = i
    · subst e
      by_cases hl : b k < (rangL b N k).length
      · rw [List.getElem?_set_self hl]; simp only [Option.getD_some]; omega
      · rw [List.getElem?_eq_none (by rw [List.length_set]; omega)]; simp; omega
    · rw [List.getElem?_set_ne e, ← List.getD_eq_getElem?_getD]; omega
theorem beat_le {N k : Nat} : beatN k N ≤ 2 * k := by
  unfold beatN
  have := Nat.div_le_self k (2 * N)
  omega
theorem sumN_le {f : Nat → Nat} {c : Nat} : ∀ {k : Nat}, (∀ j, j < k → f j ≤ c) → sumN f k ≤ c * k
  | 0, _ => by simp [sumN]
  | k + 1, h => by
    have h1 := sumN_le (f := f) (c := c) (k := k) (fun j hj => h j (by omega))
    have h2 := h k (by omega)
    rw [sumN, Nat.mul_succ]; omega
def tmF (l : List BBlow) (j : Nat) : FV := (l.getD j B0).2
def blB (l : List BBlow) (j : Nat) : Nat := (l.getD j B0).1.toNat
def ctF (N : Nat) (l : List BBlow) (j : Nat) : FV := fmul (fint ((beatN j N : Nat) : Int)) (tmF l j)
def bX (N k : Nat) : Nat := sumN (fun j => beatN j N) k
def bQ (N k : Nat) : Nat := sumN (fun j => beatN j N * beatN j N) k
def gapF (N : Nat) (l : List BBlow) : FV := fdiv (fsub (fmul (fint ((l.length : Nat) : Int)) (valS (foldTo (ctF N l) l.length))) (fmul (fint ((bX N l.length : Nat) : Int)) (valS (foldTo (tmF l) l.length)))) (fint ((((l.length * bQ N l.length : Nat) : Int)) - ((bX N l.length * bX N l.length : Nat) : Int)))
def startF (N : Nat) (l : List BBlow) : FV := fdiv (fsub (valS (foldTo (tmF l) l.length)) (fmul (gapF N l) (fint ((bX N l.length : Nat) : Int)))) (fint ((l.length : Nat) : Int))
def devF (N : Nat) (l : List BBlow) (j : Nat) : FV := fsub (tmF l j) (fadd (startF N l) (fmul (gapF N l) (fint ((beatN j N : Nat) : Int))))
def bellF (N : Nat) (l : List BBlow) (b : Nat) : FV := if 0 < (rangL (blB l) N l.length).getD b 0 then fadd (fdiv (valS ((ownL (devF N l) (blB l) N l.length).getD b S0)) (fint ((rangL (blB l) N l.length).getD b 0))) (some 0) else some 0
def belTo (N : Nat) (l : List BBlow) (b : Nat) : List FV := (List.range N).map fun j => if j < b then bellF N l j else some 0
def bellsF (N : Nat) (l : List BBlow) : List FV := belTo N l N
def farF (N : Nat) (l : List BBlow) : SFV := foldTo (fun j => fabs (devF N l j)) l.length
def sqF (N : Nat) (l : List BBlow) : SFV := foldTo (fun j => fmul (devF N l j) (devF N l j)) l.length
def meanF (N : Nat) (l : List BBlow) : FV := fdiv (valS (farF N l)) (fint ((l.length : Nat) : Int))
def sprF (N : Nat) (l : List BBlow) : FV := fsqrt (fdiv (valS (sqF N l)) (fint ((l.length : Nat) : Int)))
theorem belTo_len (N : Nat) (l : List BBlow) (b : Nat) : (belTo N l b).length = N := by simp [belTo]
theorem belTo_0 (N : Nat) (l : List BBlow) : belTo N l 0 = List.replicate N (some 0) := by
  unfold belTo
  apply List.ext_getElem?
  intro j
  by_cases hj : j < N
  · rw [List.getElem?_map, List.getElem?_range hj, List.getElem?_replicate, if_pos hj]; rfl
  · rw [List.getElem?_eq_none (by simpa using hj), List.getElem?_eq_none (by simpa using hj)]
theorem belTo_set {N : Nat} {l : List BBlow} {b : Nat} (h : b < N) : (belTo N l b).set b (bellF N l b) = belTo N l (b + 1) := by
  unfold belTo
  apply List.ext_getElem?
  intro j
  by_cases e : b = j
  · subst e
    rw [List.getElem?_set_self (by simpa using h)]; simp [h]
  · rw [List.getElem?_set_ne e]
    by_cases hj : j < N
    · simp [hj]
      by_cases h2 : j < b
      · rw [if_pos h2, if_pos (by omega)]
      · rw [if_neg h2, if_neg (by omega)]
    · simp [hj]
theorem belTo_no {N : Nat} {l : List BBlow} {b : Nat} (hz : bellF N l b = some 0) : belTo N l b = belTo N l (b + 1) := by
  unfold belTo
  refine List.map_congr_left fun j _ => ?_
  by_cases h2 : j < b
  · rw [if_pos h2, if_pos (by omega)]
  · rw [if_neg h2]
    by_cases e : j = b
    · subst e; rw [if_pos (by omega), hz]
    · rw [if_neg (by omega)]
end Go.KL

/- Sums of floats that aren't below nought aren't below nought. -/
namespace Go.KL
open Ieee
theorem add_v {x y : FV} {s t : Bool} {A B : Nat} (hx : IsV x s A) (hy : IsV y t B) :
    (∃ W, Rnd (sv s A + sv t B).natAbs W ∧ IsV (fadd x y) (if sv s A + sv t B = 0 then s && t else decide (sv s A + sv t B < 0)) W) ∨ ((∀ T, Fin T → ¬ (sv s A + sv t B).natAbs ≤ T) ∧ fadd x y = some (Ieee.double.word (decide (sv s A + sv t B < 0)) 9218868437227405312)) := by
  obtain ⟨b, m, i, rfl, _, hr, hi, rfl⟩ := hx
  obtain ⟨c, n, j, rfl, _, hr2, hj, rfl⟩ := hy
  obtain ⟨d, h1, h2⟩ := sum_v (s := s) (t := t) (m := m) (n := n) hi hj
  have e : fadd (some b) (some c) = some (Ieee.double.write d) := by
    show ((Ieee.double.read b).sum (Ieee.double.read c)).map Ieee.double.write = _
    rw [hr, hr2, h1]; rfl
  rw [e]
  rcases h2 with h2 | ⟨h2, h3⟩
  · exact .inl h2
  · exact .inr ⟨h2, by rw [h3]⟩
theorem sv_not (s : Bool) (V : Nat) : sv (!s) V = - sv s V := by unfold sv; cases s <;> simp
theorem sub_v {x y : FV} {s t : Bool} {A B : Nat} (hx : IsV x s A) (hy : IsV y t B) :
    (∃ W, Rnd (sv s A - sv t B).natAbs W ∧ IsV (fsub x y) (if sv s A - sv t B = 0 then s && !t else decide (sv s A - sv t B < 0)) W) ∨ ((∀ T, Fin T → ¬ (sv s A - sv t B).natAbs ≤ T) ∧ fsub x y = some (Ieee.double.word (decide (sv s A - sv t B < 0)) 9218868437227405312)) := by
  obtain ⟨b, m, i, rfl, _, hr, hi, rfl⟩ := hx
  obtain ⟨c, n, j, rfl, _, hr2, hj, rfl⟩ := hy
  obtain ⟨d, h1, h2⟩ := sum_v (s := s) (t := !t) (m := m) (n := n) hi hj
  rw [sv_not, ← Int.sub_eq_add_neg] at h2
  have e : fsub (some b) (some c) = some (Ieee.double.write d) := by
    show ((Ieee.double.read b).sum (Ieee.double.read c).opposite).map Ieee.double.write = _
    rw [hr, hr2]
    show ((Datum.number s m i).sum (.number (!t) n j)).map Ieee.double.write = _
    rw [h1]; rfl
  rw [e]
  rcases h2 with h2 | ⟨h2, h3⟩
  · exact .inl h2
  · exact .inr ⟨h2, by rw [h3]⟩
theorem near_of {S : Int} {s0 : Bool} {W q : Nat} (h : Rnd S.natAbs W) (hq : 53 ≤ q) (hS : S.natAbs ≤ 2 ^ q) : (sv (if S = 0 then s0 else decide (S < 0)) W - S).natAbs ≤ 2 ^ (q - 53) := by
  obtain ⟨h1, h2⟩ := h.err hq hS
  by_cases hz : S = 0
  · subst hz
    rw [if_pos rfl]
    rcases h with ⟨_, h⟩ | ⟨k, u, hW, hk, _, hn, _, _, h0, hb⟩
    · subst h; cases s0 <;> simp [sv]
    · rcases hb with hb | hb
      · exfalso
        have h9 := Nat.two_pow_pos (u + 52)
        have h8 : (0 : Int).natAbs = 0 := rfl
        omega
      · have := h0 hb; simp at this; subst this; cases s0 <;> simp [sv]
  · rw [if_neg hz]
    by_cases hneg : S < 0
    · rw [decide_eq_true hneg]; unfold sv; simp only [if_true]; omega
    · rw [decide_eq_false hneg]; unfold sv; simp only [Bool.false_eq_true, if_false]; omega
theorem fin_pow {j : Nat} (h : j ≤ 2097) : Fin (2 ^ j) := by
  right
  by_cases h2 : 52 ≤ j
  · exact ⟨4503599627370496, j - 52, by rw [← pow52, ← Nat.pow_add]; congr 1; omega, ⟨by decide, by decide, .inl (Nat.le_refl _)⟩, by omega⟩
  · refine ⟨2 ^ j, 0, by simp, ⟨Nat.two_pow_pos _, ?_, .inr rfl⟩, ?_⟩
    · exact Nat.le_trans (Nat.pow_le_pow_right (by decide) (show j ≤ 53 by omega)) (by decide)
    · have : (2 : Nat) ^ j ≤ 2 ^ 52 := Nat.pow_le_pow_right (by decide) (by omega)
      omega
theorem Fin.ge {V W A : Nat} (h : Rnd V W) (hA : Fin A) (hV : A ≤ V) : A ≤ W := by
  rcases hA with rfl | ⟨k, u, rfl, hp, _⟩
  · exact Nat.zero_le _
  · exact h.ge hp.le hV
theorem Fin.le {V W A : Nat} (h : Rnd V W) (hA : Fin A) (hV : V ≤ A) : W ≤ A := by
  rcases hA with rfl | ⟨k, u, rfl, hp, _⟩
  · have := h.small (by omega); omega
  · exact h.le hp.le hV
theorem inf_read : Ieee.double.read 9218868437227405312 = .infinity false := by decide +kernel
abbrev INF : FV := some 9218868437227405312
theorem inf_word : Ieee.double.word false 9218868437227405312 = 9218868437227405312 := by rw [word_eq]; rfl
def NN (x : FV) : Prop := x = none ∨ (∃ V, IsV x false V) ∨ x = INF
theorem inf_add (y : FV) : fadd INF y = none ∨ fadd INF y = INF := by
  cases y with
  | none => exact .inl rfl
  | some c =>
    have e : fadd INF (some c) = ((Ieee.double.read 9218868437227405312).sum (Ieee.double.read c)).map Ieee.double.write := rfl
    rw [e, inf_read]
    cases Ieee.double.read c with
    | number t n j =>
      right
      show some (Ieee.double.word false Ieee.double.infRung) = _
      rw [infR_eq, inf_word]
    | infinity t =>
      cases t
      · right
        show some (Ieee.double.word false Ieee.double.infRung) = _
        rw [infR_eq, inf_word]
      · left; rfl
    | nan t f => left; rfl
theorem add_inf {x : FV} {s : Bool} {A : Nat} (hx : IsV x s A) : fadd x INF = INF := by
  obtain ⟨b, m, i, rfl, _, hr, hi, rfl⟩ := hx
  show ((Ieee.double.read b).sum (Ieee.double.read 9218868437227405312)).map Ieee.double.write = _
  rw [hr, inf_read]
  show some (Ieee.double.word false Ieee.double.infRung) = _
  rw [infR_eq, inf_word]
theorem not_inf {s : Bool} {V : Nat} : ¬ IsV INF s V := by
  rintro ⟨b, m, i, e, _, hr, _⟩
  cases e
  rw [inf_read] at hr; cases hr
theorem add_none (x : FV) : fadd x none = none := by cases x <;> rfl
theorem nn_add {a x : FV} (ha : NN a) (hx : NN x) : (NN (fadd a x)) ∧ ∀ W, IsV (fadd a x) false W → ∃ A X, IsV a false A ∧ IsV x false X ∧ Rnd (A + X) W := by
  have no1 : ∀ {W}, ¬ IsV none false W := fun ⟨_, _, _, e, _⟩ => by cases e
  rcases ha with rfl | ⟨A, hA⟩ | rfl
  · exact ⟨.inl rfl, fun W h => absurd h no1⟩
  · rcases hx with rfl | ⟨X, hX⟩ | rfl
    · rw [add_none]; exact ⟨.inl rfl, fun W h => absurd h no1⟩
    · have hS : sv false A + sv false X = ((A + X : Nat) : Int) := by unfold sv; simp
      have hsg : (if sv false A + sv false X = 0 then false && false else decide (sv false A + sv false X < 0)) = false := by
        split
        · rfl
        · exact decide_eq_false (by omega)
      rcases add_v hA hX with ⟨W, h1, h2⟩ | ⟨h1, h2⟩
      · rw [hsg] at h2
        rw [hS, Int.natAbs_natCast] at h1
        refine ⟨.inr (.inl ⟨W, h2⟩), fun W' h => ⟨A, X, hA, hX, ?_⟩⟩
        have : W' = W := by
          obtain ⟨b, m, i, e, _, hr, _, hv⟩ := h2
          obtain ⟨b', m', i', e', _, hr', _, hv'⟩ := h
          rw [e] at e'; cases e'
          rw [hr] at hr'; cases hr'
          rw [← hv, ← hv']
        rw [this]; exact h1
      · rw [show decide (sv false A + sv false X < 0) = false from decide_eq_false (by omega), inf_word] at h2
        rw [h2]
        exact ⟨.inr (.inr rfl), fun W h => absurd h not_inf⟩
    · rw [add_inf hA]; exact ⟨.inr (.inr rfl), fun W h => absurd h not_inf⟩
  · rcases inf_add x with h | h
    · rw [h]; exact ⟨.inl rfl, fun W h => absurd h no1⟩
    · rw [h]; exact ⟨.inr (.inr rfl), fun W h => absurd h not_inf⟩
theorem nn_zero : IsV (some 0) false 0 := ⟨0, 0, -1074, rfl, by decide, by decide +kernel, by omega, Nat.zero_mul _⟩
section
variable {f : Nat → FV} {n : Nat} (hf : ∀ j, j < n → NN (f j))
include hf
theorem nn_all : ∀ k, k ≤ n → NN (foldTo f k).1
  | 0, _ => .inr (.inl ⟨0, nn_zero⟩)
  | k + 1, hk => (nn_add (nn_all k (by omega)) (hf k (by omega))).1
theorem lost_big {q : Nat} (hq : 53 ≤ q) (hq2 : q ≤ 2098) (hn : n ≤ 5000) : ∀ k, k ≤ n → ∀ A, IsV (foldTo f k).1 false A → A ≤ 2 ^ q → ∃ s L, IsV (foldTo f k).2 s L ∧ L ≤ k * 2 ^ (q - 51)
  | 0, _, A, _, _ => ⟨false, 0, nn_zero, Nat.zero_le _⟩
  | k + 1, hk, A', hA', hle => by
    obtain ⟨A, X, hA, hX, hR⟩ := (nn_add (nn_all hf k (by omega)) (hf k (by omega))).2 A' hA'
    have hAA : A ≤ A' := Fin.ge hR hA.fin (by omega)
    have hXA : X ≤ A' := Fin.ge hR hX.fin (by omega)
    obtain ⟨sL, L, hL, hLb⟩ := lost_big hq hq2 hn k (by omega) A hA (by omega)
    have e1 : (2 : Nat) ^ (q + 1) = 2 * 2 ^ q := by rw [Nat.pow_succ]; omega
    have e2 : (2 : Nat) ^ (q - 51) = 4 * 2 ^ (q - 53) := by rw [show q - 51 = (q - 53) + 2 by omega, Nat.pow_add]; omega
    have e3 : (2 : Nat) ^ (q + 1 - 53) = 2 * 2 ^ (q - 53) := by rw [show q + 1 - 53 = (q - 53) + 1 by omega, Nat.pow_succ]; omega
    obtain ⟨r1, r2⟩ := hR.err (q := q + 1) (by omega) (by omega)
    have hfin := hA'.fin
    have hA'2 : IsV (fadd (foldTo f k).1 (f k)) false A' := hA'
    -- both ways the same
    have step : ∀ {u w : FV} {U V : Nat}, IsV u false U → IsV w false V → U ≤ A' → V ≤ A' → U + V = A + X → ∃ s E, IsV (fadd (fsub u (fadd (foldTo f k).1 (f k))) w) s E ∧ E ≤ 2 ^ (q - 51) := by
      intro u w U V hU hV hUA hVA hUV
      have hp := Nat.two_pow_pos (q - 53)
      rcases sub_v hU hA'2 with ⟨W1, g1, g2⟩ | ⟨g1, _⟩
      · have hS1 : sv false U - sv false A' = (U : Int) - A' := by unfold sv; simp
        have hn1 := near_of (s0 := false && !false) g1 hq (by rw [hS1]; omega)
        generalize hs1 : (if sv false U - sv false A' = 0 then false && !false else decide (sv false U - sv false A' < 0)) = s1 at g2 hn1
        have hb : (sv s1 W1 + sv false V).natAbs ≤ 2 ^ (q - 51) := by
          rw [hS1] at hn1
          have hsV : sv false V = (V : Int) := by unfold sv; simp
          rw [hsV]; omega
        rcases add_v g2 hV with ⟨W2, k1, k2⟩ | ⟨k1, _⟩
        · exact ⟨_, W2, k2, Fin.le k1 (fin_pow (by omega)) hb⟩
        · exact absurd hb (k1 _ (fin_pow (by omega)))
      · refine absurd ?_ (g1 A' hfin)
        have hS1 : sv false U - sv false A' = (U : Int) - A' := by unfold sv; simp
        rw [hS1]; omega
    have hE : ∃ s E, IsV (if fGe (fabs (foldTo f k).1) (fabs (f k)) = true then fadd (fsub (foldTo f k).1 (fadd (foldTo f k).1 (f k))) (f k) else fadd (fsub (f k) (fadd (foldTo f k).1 (f k))) (foldTo f k).1) s E ∧ E ≤ 2 ^ (q - 51) := by
      split
      · exact step hA hX hAA hXA rfl
      · exact step hX hA hXA hAA (Nat.add_comm _ _)
    obtain ⟨sE, E, hE1, hE2⟩ := hE
    have hb3 : (sv sL L + sv sE E).natAbs ≤ (k + 1) * 2 ^ (q - 51) := by
      have h1 := sv_abs sL L
      have h2 := sv_abs sE E
      rw [Nat.succ_mul]; omega
    show ∃ s L, IsV (fadd (foldTo f k).2 _) s L ∧ _
    have hb4 : (k + 1) * 2 ^ (q - 51) ≤ 2 ^ (13 + (q - 51)) := by
      rw [Nat.pow_add]
      exact Nat.mul_le_mul_right _ (by have : (2 : Nat) ^ 13 = 8192 := by decide
                                       omega)
    rcases add_v hL hE1 with ⟨W3, k1, k2⟩ | ⟨k1, _⟩
    · exact ⟨_, W3, k2, k1.le (by omega) hb3⟩
    · exact absurd (Nat.le_trans hb3 hb4) (k1 _ (fin_pow (by omega)))
theorem lost_small : ∀ k, k ≤ n → ∀ A, IsV (foldTo f k).1 false A → A < 9007199254740992 → ∃ s, IsV (foldTo f k).2 s 0
  | 0, _, A, _, _ => ⟨false, nn_zero⟩
  | k + 1, hk, A', hA', hlt => by
    obtain ⟨A, X, hA, hX, hR⟩ := (nn_add (nn_all hf k (by omega)) (hf k (by omega))).2 A' hA'
    have hlt2 : A + X < 9007199254740992 := by
      apply Classical.byContradiction
      intro hn
      have := hR.ge (k := 9007199254740992) (j := 0) (by decide) (by omega)
      omega
    have hE' : A' = A + X := hR.small hlt2
    obtain ⟨sL, hL⟩ := lost_small k (by omega) A hA (by omega)
    have hA'2 : IsV (fadd (foldTo f k).1 (f k)) false A' := hA'
    have hfin := hA'.fin
    have step : ∀ {u w : FV} {U V : Nat}, IsV u false U → IsV w false V → U + V = A + X → ∃ s, IsV (fadd (fsub u (fadd (foldTo f k).1 (f k))) w) s 0 := by
      intro u w U V hU hV hUV
      have hS1 : sv false U - sv false A' = -(V : Int) := by unfold sv; simp; omega
      rcases sub_v hU hA'2 with ⟨W1, g1, g2⟩ | ⟨g1, _⟩
      · rw [hS1] at g1 g2
        have hW1 : W1 = V := by rw [g1.small (by omega)]; omega
        generalize hs1 : (if -(V : Int) = 0 then false && !false else decide (-(V : Int) < 0)) = s1 at g2
        have hz : sv s1 W1 + sv false V = 0 := by
          subst hW1
          unfold sv
          simp only [Bool.false_eq_true, if_false]
          by_cases hv : W1 = 0
          · subst hv; cases s1 <;> simp
          · rw [if_neg (by omega), decide_eq_true (by omega)] at hs1
            subst hs1; simp
            omega
        rcases add_v g2 hV with ⟨W2, k1, k2⟩ | ⟨k1, _⟩
        · rw [hz] at k1
          have : W2 = 0 := k1.small (by decide)
          subst this
          exact ⟨_, k2⟩
        · exact absurd (by rw [hz]; exact Nat.zero_le _) (k1 0 (.inl rfl))
      · refine absurd ?_ (g1 A' hfin)
        rw [hS1]; omega
    have hE : ∃ s, IsV (if fGe (fabs (foldTo f k).1) (fabs (f k)) = true then fadd (fsub (foldTo f k).1 (fadd (foldTo f k).1 (f k))) (f k) else fadd (fsub (f k) (fadd (foldTo f k).1 (f k))) (foldTo f k).1) s 0 := by
      split
      · exact step hA hX rfl
      · exact step hX hA (Nat.add_comm _ _)
    obtain ⟨sE, hE1⟩ := hE
    show ∃ s, IsV (fadd (foldTo f k).2 _) s 0
    have hz : sv sL 0 + sv sE 0 = 0 := by cases sL <;> cases sE <;> rfl
    rcases add_v hL hE1 with ⟨W3, k1, k2⟩ | ⟨k1, _⟩
    · rw [hz] at k1
      have : W3 = 0 := k1.small (by decide)
      subst this
      exact ⟨_, k2⟩
    · exact absurd (by rw [hz]; exact Nat.zero_le _) (k1 0 (.inl rfl))
theorem nn_val (hn : n ≤ 5000) : NN (valS (foldTo f n)) := by
  unfold valS
  rcases nn_all hf n (Nat.le_refl _) with h | ⟨A, hA⟩ | h
  · rw [h]; exact .inl rfl
  · have fin : ∀ {s : Bool} {L : Nat}, IsV (foldTo f n).2 s L → (L < A ∨ L = 0) → NN (fadd (foldTo f n).1 (foldTo f n).2) := by
      intro s L hL hlt
      have hS : sv false A + sv s L ≥ 0 := by
        have h2 := sv_abs s L
        have h3 : sv false A = (A : Int) := by unfold sv; simp
        rw [h3]; omega
      have hsg : (if sv false A + sv s L = 0 then false && s else decide (sv false A + sv s L < 0)) = false := by
        split
        · rfl
        · exact decide_eq_false (by omega)
      rcases add_v hA hL with ⟨W, h1, h2⟩ | ⟨h1, h2⟩
      · rw [hsg] at h2; exact .inr (.inl ⟨W, h2⟩)
      · rw [show decide (sv false A + sv s L < 0) = false from decide_eq_false (by omega), inf_word] at h2
        exact .inr (.inr h2)
    by_cases hsm : A < 9007199254740992
    · obtain ⟨s, hs⟩ := lost_small hf n (Nat.le_refl _) A hA hsm
      exact fin hs (.inr rfl)
    · have hA0 : A ≠ 0 := by omega
      obtain ⟨q, hq⟩ : ∃ q, q = A.log2 + 1 := ⟨_, rfl⟩
      have h1 : 2 ^ (q - 1) ≤ A := by rw [hq]; exact Nat.log2_self_le hA0
      have h2 : A < 2 ^ q := by rw [hq]; exact (Nat.log2_lt hA0).1 (Nat.lt_succ_self _)
      have hq53 : 53 ≤ q := by
        have : 53 ≤ A.log2 := (Nat.le_log2 hA0).2 (by omega)
        omega
      have hq98 : q ≤ 2098 := by
        rcases hA.fin with h | ⟨k, u, hk, hp, hr⟩
        · exact absurd h hA0
        · have hku := hp.le
          obtain ⟨Q, hQ⟩ : ∃ Q : Nat, Q = 2098 := ⟨_, rfl⟩
          have hlt : A < 2 ^ Q := by
            rw [hk]
            rcases hp.norm with hn | hn
            · by_cases h53 : k = 9007199254740992
              · have a1 : k * 2 ^ u ≤ 2 ^ 53 * 2 ^ u := Nat.mul_le_mul_right _ (by omega)
                rw [← Nat.pow_add] at a1
                exact Nat.lt_of_le_of_lt a1 (Nat.pow_lt_pow_right (by decide) (by omega))
              · have a1 : k * 2 ^ u < 2 ^ 53 * 2 ^ u := Nat.mul_lt_mul_of_pos_right (by omega) (Nat.two_pow_pos _)
                rw [← Nat.pow_add] at a1
                exact Nat.lt_of_lt_of_le a1 (Nat.pow_le_pow_right (by decide) (by omega))
            · subst hn
              have a2 : (2 : Nat) ^ 53 < 2 ^ Q := Nat.pow_lt_pow_right (by decide) (by omega)
              rw [Nat.pow_zero, Nat.mul_one]
              exact Nat.lt_of_le_of_lt (by omega) a2
          have : A.log2 < Q := (Nat.log2_lt hA0).2 hlt
          omega
      obtain ⟨s, L, hL, hLb⟩ := lost_big hf hq53 hq98 hn n (Nat.le_refl _) A hA (by omega)
      refine fin hL (.inl ?_)
      have a1 : n * 2 ^ (q - 51) ≤ 8192 * 2 ^ (q - 51) := Nat.mul_le_mul_right _ (by omega)
      have a2 : (8192 : Nat) * 2 ^ (q - 51) < 2 ^ (q - 1) := by
        have e : (2 : Nat) ^ (q - 1) = 2 ^ 50 * 2 ^ (q - 51) := by rw [← Nat.pow_add]; congr 1; omega
        rw [e]
        exact Nat.mul_lt_mul_of_pos_right (by decide) (Nat.two_pow_pos _)
      omega
  · rw [h]
    rcases inf_add (foldTo f n).2 with h | h
    · exact .inl h
    · exact .inr (.inr h)
end
/-! ### Signs -/
def SB (x : FV) : Prop := ∀ b, x = some b → b < 9223372036854775808
theorem sb_word {r : Nat} (h : r < 9223372036854775808) : Ieee.double.word false r < 9223372036854775808 := by rw [word_eq]; exact h
theorem sb_near (mag : Nat) (p : Int) : Ieee.double.nearest false mag p < 9223372036854775808 := by
  unfold Format.nearest
  split
  · exact sb_word (by decide)
  · simp only [infR_eq]
    exact sb_word (by omega)
theorem nn_sb {x : FV} (h : NN x) (hf : Fok x) : SB x := by
  intro b hb
  rcases h with rfl | ⟨V, c, m, i, e, hlt, hr, _⟩ | rfl
  · cases hb
  · rw [hb] at e; cases e
    apply Classical.byContradiction
    intro hn
    have hd : b / 9223372036854775808 = 1 := by omega
    rw [read_eq, hd] at hr
    split at hr
    · cases hr
    · split at hr
      · cases hr
      · split at hr <;> cases hr
  · cases hb; decide
theorem sb_read {b : Nat} (h : b < 9223372036854775808) : (∃ m i, Ieee.double.read b = .number false m i) ∨ Ieee.double.read b = .infinity false ∨ (Ieee.double.read b).isNaN = true := by
  have hd : b / 9223372036854775808 = 0 := Nat.div_eq_of_lt h
  rw [read_eq, hd]
  split
  · exact .inl ⟨_, _, rfl⟩
  · split
    · exact .inl ⟨_, _, rfl⟩
    · split
      · exact .inr (.inl rfl)
      · exact .inr (.inr rfl)
theorem sb_write {d : Datum} (h : (∃ m i, d = .number false m i) ∨ d = .infinity false) : SB (some (Ieee.double.write d)) := by
  intro b hb
  cases hb
  rcases h with ⟨m, i, rfl⟩ | rfl
  · exact sb_near m i
  · exact sb_word (by rw [infR_eq]; decide)
theorem int_read {K : Nat} (h1 : 0 < K) (h2 : K ≤ 9007199254740992) : ∃ b n j, fint (K : Int) = some b ∧ Ieee.double.read b = .number false n j ∧ n ≠ 0 := by
  obtain ⟨b, s, m, i, e, _, hr, _, hv⟩ := isI_int (z := (K : Int)) (by omega)
  have hs := sg_sign hv (by omega)
  have ha := sg_abs hv
  have hsf : s = false := by
    cases s
    · rfl
    · have := hs.1 rfl; omega
  subst hsf
  refine ⟨b, m, i, e, hr, ?_⟩
  rintro rfl
  rw [Nat.zero_mul, Int.natAbs_natCast] at ha
  rcases Nat.mul_eq_zero.1 ha.symm with h | h
  · omega
  · exact two_ne h
theorem sb_div {x : FV} {K : Nat} (h : SB x) (hf : Fok x) (h1 : 0 < K) (h2 : K ≤ 9007199254740992) : SB (fdiv x (fint (K : Int))) := by
  obtain ⟨c, n, j, e, hr2, hn⟩ := int_read h1 h2
  rw [e]
  cases x with
  | none => intro b hb; cases hb
  | some b =>
    have e2 : fdiv (some b) (some c) = ((Ieee.double.read b).quotient (Ieee.double.fractionBits + 2) (Ieee.double.read c)).map Ieee.double.write := rfl
    rw [e2, hr2]
    rcases sb_read (h b rfl) with ⟨m, i, hr⟩ | hr | hr
    · rw [hr]
      simp only [Datum.quotient, if_neg hn]
      exact sb_write (.inl ⟨_, _, rfl⟩)
    · rw [hr]
      exact sb_write (.inr rfl)
    · have := (cn_some (hf b rfl).2).2
      rw [hr] at this; cases this
theorem sb_sqrt {x : FV} (h : SB x) (hf : Fok x) : SB (fsqrt x) := by
  cases x with
  | none => intro b hb; cases hb
  | some b =>
    have e2 : fsqrt (some b) = ((Ieee.double.read b).root (Ieee.double.fractionBits + 2)).map Ieee.double.write := rfl
    rw [e2]
    rcases sb_read (h b rfl) with ⟨m, i, hr⟩ | hr | hr
    · rw [hr]
      by_cases hm : m = 0
      · simp only [Datum.root, if_pos hm]
        exact sb_write (.inl ⟨_, _, rfl⟩)
      · simp only [Datum.root, if_neg hm]
        exact sb_write (.inl ⟨_, _, rfl⟩)
    · rw [hr]
      exact sb_write (.inr rfl)
    · have := (cn_some (hf b rfl).2).2
      rw [hr] at this; cases this
theorem pz_sb {x : FV} (h : SB x) (hf : Fok x) : pzF x = x := by
  unfold pzF
  split
  · rename_i he
    cases x with
    | none => simp [fEq, ford] at he
    | some b =>
      obtain ⟨s, i, hr⟩ := zero_read he
      have hb := h b rfl
      have hm : b % 9223372036854775808 = b := Nat.mod_eq_of_lt hb
      rcases read_form hr with ⟨_, _⟩ | hc
      · rw [read_eq, hm] at hr
        split at hr
        · have : b = 0 := by cases hr; rfl
          rw [this]
        · split at hr
          · have := congrArg (fun d => match d with | Datum.number _ m _ => m | _ => 0) hr
            simp at this
          · split at hr <;> cases hr
      · have := hc.pos; omega
  · rfl
theorem fok_sqrt {x : FV} : Fok (fsqrt x) := by
  intro r h
  cases x with
  | none => cases h
  | some b =>
    have h2 : Ieee.double.sqrt b = some r := h
    have hlt : r < 18446744073709551616 := Ieee.Format.sqrt_lt _ h2
    have h3 : ∃ d, (Ieee.double.read b).root (Ieee.double.fractionBits + 2) = some d ∧ r = Ieee.double.write d := by
      unfold Format.sqrt at h2
      cases e2 : (Ieee.double.read b).root (Ieee.double.fractionBits + 2) with
      | none => rw [e2] at h2; cases h2
      | some d => rw [e2] at h2; exact ⟨d, rfl, by cases h2; rfl⟩
    obtain ⟨d, e2, rfl⟩ := h3
    exact ⟨hlt, cn_write (root_num e2).1⟩
theorem nn_abs {x : FV} (hf : Fok x) : NN (fabs x) := by
  cases x with
  | none => exact .inl rfl
  | some b =>
    obtain ⟨h1, h2⟩ := hf b rfl
    have hnn := (cn_some h2).2
    cases hr : Ieee.double.read b with
    | number s m i =>
      have hi : -1074 ≤ i := by
        rcases read_form hr with ⟨_, h⟩ | hc
        · omega
        · exact hc.low
      exact .inr (.inl ⟨_, b % 9223372036854775808, m, i, rfl, by omega, read_abs hr, hi, rfl⟩)
    | infinity s =>
      refine .inr (.inr ?_)
      have hz : b % 9223372036854775808 = 9218868437227405312 := by
        rw [read_eq] at hr
        split at hr
        · cases hr
        · split at hr
          · cases hr
          · split at hr
            · assumption
            · cases hr
      show some (b % 9223372036854775808) = _
      rw [hz]
    | nan s f => rw [hr] at hnn; cases hnn
theorem nn_sq {x : FV} (hf : Fok x) : NN (fmul x x) := by
  cases x with
  | none => exact .inl rfl
  | some b =>
    obtain ⟨h1, h2⟩ := hf b rfl
    have hnn := (cn_some h2).2
    have e : fmul (some b) (some b) = ((Ieee.double.read b).product (Ieee.double.read b)).map Ieee.double.write := rfl
    cases hr : Ieee.double.read b with
    | number s m i =>
      have e2 : fmul (some b) (some b) = some (Ieee.double.nearest (s ^^ s) (m * m) (i + i)) := by rw [e, hr]; rfl
      have hss : (s ^^ s) = false := by cases s <;> rfl
      rw [hss] at e2
      have hok : Fok (some (Ieee.double.nearest false (m * m) (i + i))) := e2 ▸ fok_fop
      have hlt := sb_near (m * m) (i + i)
      rw [e2]
      generalize Ieee.double.nearest false (m * m) (i + i) = c at hok hlt
      rcases sb_read hlt with ⟨m', i', hr'⟩ | hr' | hr'
      · have hi : -1074 ≤ i' := by
          rcases read_form hr' with ⟨_, h⟩ | hc
          · omega
          · exact hc.low
        exact .inr (.inl ⟨_, c, m', i', rfl, by omega, hr', hi, rfl⟩)
      · refine .inr (.inr ?_)
        have hm : c % 9223372036854775808 = c := Nat.mod_eq_of_lt hlt
        rw [read_eq, hm] at hr'
        split at hr'
        · cases hr'
        · split at hr'
          · cases hr'
          · split at hr'
            · rename_i hz; rw [hz]
            · cases hr'
      · have := (cn_some (hok c rfl).2).2
        rw [hr'] at this; cases this
    | infinity s =>
      refine .inr (.inr ?_)
      rw [e, hr]
      have hss : (s ^^ s) = false := by cases s <;> rfl
      show some (Ieee.double.word (s ^^ s) Ieee.double.infRung) = _
      rw [hss, infR_eq, inf_word]
    | nan s f => rw [hr] at hnn; cases hnn
section
variable {N : Nat} {l : List BBlow} (h1 : 2 ≤ l.length) (h2 : l.length ≤ 5000)
theorem fok_dev {j : Nat} : Fok (devF N l j) := fok_fop
include h1 h2 in
theorem mean_pz : pzF (meanF N l) = meanF N l := by
  have hv := nn_val (f := fun j => fabs (devF N l j)) (n := l.length) (fun j _ => nn_abs fok_dev) h2
  have hf : Fok (valS (farF N l)) := fok_fop
  exact pz_sb (sb_div (nn_sb hv hf) hf (by omega) (by omega)) fok_fop
include h1 h2 in
theorem spr_pz : pzF (sprF N l) = sprF N l := by
  have hv := nn_val (f := fun j => fmul (devF N l j) (devF N l j)) (n := l.length) (fun j _ => nn_sq fok_dev) h2
  have hf : Fok (valS (sqF N l)) := fok_fop
  exact pz_sb (sb_sqrt (sb_div (nn_sb hv hf) hf (by omega) (by omega)) fok_fop) fok_sqrt
end
end Go.KL

/- Rows of rows of floats that the function made itself, and writes. -/
namespace Go.KL
open Go.RowKit
def RowsG (σ : GW) (k : Nat) (e : TypeId) (us : List Value) (xss : List (List FV)) : Prop :=
  us.length = xss.length ∧ (∀ i, i < us.length → Own σ k e 1 (us.getD i undef) (xss.getD i []).length ((xss.getD i []).map Ty.flt)) ∧
    ∀ i j g, i < us.length → j < us.length → (us.getD i undef).ownBlock = some g → (us.getD j undef).ownBlock = some g → i = j
def RestG (σ : GW) (k : Nat) (e : TypeId) (us : List Value) (xss : List (List FV)) (i : Nat) : Prop :=
  us.length = xss.length ∧ i < us.length ∧ (∀ j, j < us.length → j ≠ i → Own σ k e 1 (us.getD j undef) (xss.getD j []).length ((xss.getD j []).map Ty.flt)) ∧
    ∀ a b g, a < us.length → b < us.length → (us.getD a undef).ownBlock = some g → (us.getD b undef).ownBlock = some g → a = b
section
variable {σ τ : GW} {k k3 : Nat} {e : TypeId} {us : List Value} {xss : List (List FV)} {i : Nat} {L : List Nat}
theorem RowsG.keepL (h : RowsG σ k e us xss) (hs : StpL L σ τ) (h1 : 1 ∉ L) (hk : k ∉ L) : RowsG τ k e us xss := ⟨h.1, fun i hi => (h.2.1 i hi).keepL hs h1 hk, h.2.2⟩
theorem RowsG.k0 (h : RowsG σ k e us xss) (hs : Stp 0 σ τ) : RowsG τ k e us xss := h.keepL (L := []) hs.toL0 (by simp) (by simp)
theorem RestG.keepL (h : RestG σ k e us xss i) (hs : StpL L σ τ) (h1 : 1 ∉ L) (hk : k ∉ L) : RestG τ k e us xss i := ⟨h.1, h.2.1, fun j hj hn => (h.2.2.1 j hj hn).keepL hs h1 hk, h.2.2.2⟩
theorem RestG.k0 (h : RestG σ k e us xss i) (hs : Stp 0 σ τ) : RestG τ k e us xss i := h.keepL (L := []) hs.toL0 (by simp) (by simp)
theorem Own.st4 {c n : Nat} {v : Value} {ts : List Ty} (h : Own σ k e c v n ts) {g : Nat} (hg : v.ownBlock = some g) : σ.st g = k := h.choose_spec.2.2.2 g hg
theorem RowsG.focus (h : RowsG σ k e us xss) (hi : i < us.length) (hk : 2 ≤ k) (k3 : Nat) (hk3 : 2 ≤ k3) :
    ∃ τ : GW, τ.w = σ.w ∧ Stp k σ τ ∧ Own τ k3 e 1 (us.getD i undef) (xss.getD i []).length ((xss.getD i []).map Ty.flt) ∧ RestG τ k e us xss i := by
  obtain ⟨h1, h2, h3⟩ := h
  have hst : ∀ b, (us.getD i undef).ownBlock = some b → σ.st b = k := fun b hb => (h2 i hi).st4 hb
  let τ : GW := ⟨σ.w, fun b => if (us.getD i undef).ownBlock = some b then k3 else σ.st b, fun b hb => by
    by_cases hx : (us.getD i undef).ownBlock = some b
    · exact σ.lt b (by rw [hst b hx]; omega)
    · simp only [hx, if_false] at hb; exact σ.lt b hb⟩
  have hs : Stp k σ τ := ⟨rfl, rfl, rfl, Dr.refl _, Nat.le_refl _, fun _ _ _ => rfl, fun b hb hm => by
    show (if (us.getD i undef).ownBlock = some b then k3 else σ.st b) = σ.st b
    rw [if_neg]
    intro hx
    have := hst b hx
    omega⟩
  have hle : σ.Le τ := hs.le (by omega)
  refine ⟨τ, rfl, hs, ?_, h1, hi, fun j hj hn => ?_, h3⟩
  · obtain ⟨vs, r1, r2, r3, r4⟩ := h2 i hi
    refine ⟨vs, r1, r2, fun j T u hj hu => T.up hle (r3 j T u hj hu), fun g hg => ?_⟩
    show (if (us.getD i undef).ownBlock = some g then k3 else σ.st g) = k3
    rw [if_pos hg]
  · obtain ⟨vs, r1, r2, r3, r4⟩ := h2 j hj
    refine ⟨vs, r1, r2, fun a T u hj hu => T.up hle (r3 a T u hj hu), fun g hg => ?_⟩
    show (if (us.getD i undef).ownBlock = some g then k3 else σ.st g) = k
    rw [if_neg (fun hx => hn (h3 j i g hj hi hg hx))]
    exact r4 g hg
theorem getD_set_ne' {α : Type} (d : α) {l : List α} {i j : Nat} {x : α} (h : i ≠ j) : (l.set i x).getD j d = l.getD j d := by
  rw [List.getD_eq_getElem?_getD, List.getElem?_set_ne h, ← List.getD_eq_getElem?_getD]
theorem getD_set_eq' {α : Type} (d : α) {l : List α} {i : Nat} {x : α} (h : i < l.length) : (l.set i x).getD i d = x := by simp [h]
theorem RestG.unfocus {x : Value} {ys : List FV} {n : Nat} {ts : List Ty} (h : RestG σ k e us xss i) (hx : Own σ k3 e 1 x n ts) (hn : n = ys.length) (hts : ts = ys.map Ty.flt) (hk : 2 ≤ k) (hk3 : 2 ≤ k3) (hne : k3 ≠ k) :
    ∃ τ : GW, τ.w = σ.w ∧ Stp k3 σ τ ∧ RowsG τ k e (us.set i x) (xss.set i ys) := by
  subst hn; subst hts
  obtain ⟨h1, hi, h2, h3⟩ := h
  have hst : ∀ b, x.ownBlock = some b → σ.st b = k3 := fun b hb => hx.st4 hb
  let τ : GW := ⟨σ.w, fun b => if x.ownBlock = some b then k else σ.st b, fun b hb => by
    by_cases hy : x.ownBlock = some b
    · exact σ.lt b (by rw [hst b hy]; omega)
    · simp only [hy, if_false] at hb; exact σ.lt b hb⟩
  have hs : Stp k3 σ τ := ⟨rfl, rfl, rfl, Dr.refl _, Nat.le_refl _, fun _ _ _ => rfl, fun b hb hm => by
    show (if x.ownBlock = some b then k else σ.st b) = σ.st b
    rw [if_neg]
    intro hy
    have := hst b hy
    omega⟩
  have hle : σ.Le τ := hs.le (by omega)
  refine ⟨τ, rfl, hs, by rw [List.length_set, List.length_set]; exact h1, fun j hj => ?_, fun a b g ha hb ga gb => ?_⟩
  · rw [List.length_set] at hj
    by_cases e1 : i = j
    · subst e1
      rw [getD_set_eq' undef hj, getD_set_eq' [] (by omega)]
      obtain ⟨vs, r1, r2, r3, r4⟩ := hx
      refine ⟨vs, r1, r2, fun j T u hj hu => T.up hle (r3 j T u hj hu), fun g hg => ?_⟩
      show (if x.ownBlock = some g then k else σ.st g) = k
      rw [if_pos hg]
    · rw [getD_set_ne' undef e1, getD_set_ne' [] e1]
      obtain ⟨vs, r1, r2, r3, r4⟩ := h2 j hj (Ne.symm e1)
      refine ⟨vs, r1, r2, fun a T u hj hu => T.up hle (r3 a T u hj hu), fun g hg => ?_⟩
      show (if x.ownBlock = some g then k else σ.st g) = k
      rw [if_neg (fun hy => hne (by rw [← hst g hy, r4 g hg]))]
      exact r4 g hg
  · rw [List.length_set] at ha hb
    have tag : ∀ j, j < us.length → j ≠ i → ∀ g, (us.getD j undef).ownBlock = some g → σ.st g = k := fun j hj hn g hg => (h2 j hj hn).st4 hg
    by_cases ea : i = a
    · by_cases eb : i = b
      · omega
      · subst ea
        rw [getD_set_eq' undef ha] at ga
        rw [getD_set_ne' undef eb] at gb
        exact absurd ((hst g ga).symm.trans (tag b hb (Ne.symm eb) g gb)) hne
    · by_cases eb : i = b
      · subst eb
        rw [getD_set_eq' undef hb] at gb
        rw [getD_set_ne' undef ea] at ga
        exact absurd ((hst g gb).symm.trans (tag a ha (Ne.symm ea) g ga)) hne
      · rw [getD_set_ne' undef ea] at ga
        rw [getD_set_ne' undef eb] at gb
        exact h3 a b g ha hb ga gb
theorem own_sl_at {c n : Nat} {v : Value} {ts : List Ty} (h : Own σ k e c v n ts) (hw : τ.w = σ.w) (hle : σ.Le τ) (hst : ∀ g, v.ownBlock = some g → τ.st g = 1) : (Ty.sl c n ts).has τ v := by
  obtain ⟨us, h1, h2, h3, h4⟩ := h
  rcases h1.2 with ⟨rfl, rfl⟩ | ⟨g, cap, cur, rfl, hb, hg, hn, hm, hcs, ht⟩
  · have hus : us = [] := List.eq_nil_of_length_eq_zero (by rw [h1.1]; simp)
    have hts : ts = [] := List.eq_nil_of_length_eq_zero (by rw [← h2, hus]; rfl)
    subst hts
    exact ⟨none, 0, 0, 0, rfl, ⟨Nat.le_refl _, by decide⟩, by simp, .inl rfl, fun j T hj => by simp at hj⟩
  · refine ⟨some ⟨g, 0, none⟩, cap, g, 0, rfl, ⟨hn, hm⟩, by rw [← h2]; exact h1.1, .inr ⟨rfl, hst g rfl⟩, fun j T hj => ?_⟩
    obtain ⟨u, hu⟩ : ∃ u, us[j]? = some u := ⟨us[j]'(by rw [h2]; exact (List.getElem?_eq_some_iff.1 hj).1), by simp⟩
    refine ⟨u, ?_, T.up hle (h3 j T u hj hu)⟩
    have := h1.cells (g := g) rfl j u hu
    rw [Addr.add_lit] at this
    rw [hw]; exact this
theorem RowsG.seal {ko : Nat} {eo : TypeId} {v : Value} {n : Nat} (h : RowsG σ k e us xss) (hk : 2 ≤ k) (ho : Own σ ko eo 1 v n (us.map Ty.val)) (hko : ko ≠ k) :
    ∃ τ : GW, τ.w = σ.w ∧ Stp k σ τ ∧ Own τ ko eo 1 v n (xss.map Ty.flts) := by
  obtain ⟨h1, h2, h3⟩ := h
  let τ : GW := ⟨σ.w, fun b => if σ.st b = k then 1 else σ.st b, fun b hb => by
    by_cases hy : σ.st b = k
    · exact σ.lt b (by omega)
    · simp only [hy, if_false] at hb; exact σ.lt b hb⟩
  have hs : Stp k σ τ := ⟨rfl, rfl, rfl, Dr.refl _, Nat.le_refl _, fun _ _ _ => rfl, fun b hb hm => by
    show (if σ.st b = k then 1 else σ.st b) = σ.st b
    rw [if_neg (by omega)]⟩
  have hle : σ.Le τ := hs.le (by omega)
  refine ⟨τ, rfl, hs, ?_⟩
  obtain ⟨vs, r1, r2, r3, r4⟩ := ho
  refine ⟨vs, r1, by rw [r2, List.length_map, List.length_map, h1], fun j T u hj hu => ?_, fun g hg => ?_⟩
  · have hjl : j < xss.length := by
      have := (List.getElem?_eq_some_iff.1 hj).1
      simpa using this
    have hju : j < us.length := by omega
    have hu2 : u = us.getD j undef := by
      have := r3 j (Ty.val (us.getD j undef)) u (by simp [hju]) hu
      exact this
    have hT : T = Ty.flts (xss.getD j []) := by
      rw [List.getElem?_map, List.getElem?_eq_getElem hjl] at hj
      cases hj
      simp [hjl]
    rw [hT, hu2]
    refine own_sl_at (h2 j hju) rfl hle fun g hg => ?_
    show (if σ.st g = k then 1 else σ.st g) = 1
    rw [if_pos ((h2 j hju).st4 hg)]
  · show (if σ.st g = k then 1 else σ.st g) = ko
    rw [if_neg (by rw [r4 g hg]; exact hko)]
    exact r4 g hg
theorem grid_0 (σ : GW) (k : Nat) (e : TypeId) (N : Nat) : RowsG σ k e (List.replicate N (Value.slice none 0 0)) (List.replicate N []) := by
  have hg : ∀ i, i < N → (List.replicate N (Value.slice none 0 0)).getD i undef = .slice none 0 0 := fun i hi => by simp [hi]
  refine ⟨by simp, fun i hi => ?_, fun i j g hi hj h1 _ => ?_⟩
  · have hi : i < N := by simpa using hi
    have e2 : (List.replicate N ([] : List FV)).getD i [] = [] := by simp [hi]
    rw [hg i hi, e2]
    exact Own.nil _ _ _ _
  · have hi : i < N := by simpa using hi
    rw [hg i hi] at h1
    simp [Value.ownBlock] at h1
end
/-! ### What the rows hold -/
def ownLL (f : Nat → FV) (b : Nat → Nat) (N : Nat) : Nat → List (List FV)
  | 0 => List.replicate N []
  | k + 1 => (ownLL f b N k).set (b k) ((ownLL f b N k).getD (b k) [] ++ [f k])
theorem ownLL_len (f : Nat → FV) (b : Nat → Nat) (N : Nat) : ∀ k, (ownLL f b N k).length = N
  | 0 => by simp [ownLL]
  | k + 1 => by rw [ownLL, List.length_set, ownLL_len f b N k]
theorem ownLL_sum (f : Nat → FV) (b : Nat → Nat) (N : Nat) : ∀ k i, i < N → (ownL f b N k).getD i S0 = ((ownLL f b N k).getD i []).foldl addS S0 ∧ (rangL b N k).getD i 0 = ((((ownLL f b N k).getD i []).length : Nat) : Int)
  | 0, i, hi => by simp [ownL, ownLL, rangL, hi]
  | k + 1, i, hi => by
    have ih := ownLL_sum f b N k
    have l1 := ownL_len f b N k
    have l2 := ownLL_len f b N k
    have l3 := rangL_len b N k
    rw [ownL, ownLL, rangL]
    by_cases e : b k = i
    · subst e
      obtain ⟨h1, h2⟩ := ih (b k) hi
      rw [getD_set_eq' S0 (by omega), getD_set_eq' [] (by omega), getD_set_eq' 0 (by omega), List.foldl_append, ← h1, h2, List.length_append]
      exact ⟨rfl, by simp⟩
    · rw [getD_set_ne' S0 e, getD_set_ne' [] e, getD_set_ne' 0 e]
      exact ih i hi
theorem ownLL_le (f : Nat → FV) (b : Nat → Nat) (N : Nat) : ∀ k i, ((ownLL f b N k).getD i []).length ≤ k
  | 0, i => by
    simp only [ownLL, List.getD_eq_getElem?_getD, List.getElem?_replicate]
    split <;> simp
  | k + 1, i => by
    have ih := ownLL_le f b N k
    rw [ownLL]
    by_cases e : b k = i
    · by_cases hl : b k < (ownLL f b N k).length
      · subst e
        rw [getD_set_eq' [] hl, List.length_append, List.length_singleton]
        have := ih (b k); omega
      · rw [List.set_eq_of_length_le (by omega)]; have := ih i; omega
    · rw [getD_set_ne' [] e]; have := ih i; omega
def mapF (f : Nat → FV) (k : Nat) : List FV := (List.range k).map f
theorem mapF_succ (f : Nat → FV) (k : Nat) : mapF f (k + 1) = mapF f k ++ [f k] := by simp [mapF, List.range_succ]
theorem mapF_len (f : Nat → FV) (k : Nat) : (mapF f k).length = k := by simp [mapF]
theorem added_map (f : Nat → FV) (k : Nat) : added (mapF f k) = valS (foldTo f k) := by
  have : ∀ k, (mapF f k).foldl addS S0 = foldTo f k := by
    intro k
    induction k with
    | zero => rfl
    | succ k ih => rw [mapF_succ, List.foldl_append, ih]; rfl
  unfold added; rw [this]
theorem bell_pz {N : Nat} {l : List BBlow} {i : Nat} (hi : i < N) : bellF N l i = if 0 < ((ownLL (devF N l) (blB l) N l.length).getD i []).length then pzF (fdiv (added ((ownLL (devF N l) (blB l) N l.length).getD i [])) (fint (((((ownLL (devF N l) (blB l) N l.length).getD i []).length : Nat) : Int)))) else some 0 := by
  obtain ⟨h1, h2⟩ := ownLL_sum (devF N l) (blB l) N l.length i hi
  unfold bellF
  rw [h1, h2]
  by_cases h : 0 < ((ownLL (devF N l) (blB l) N l.length).getD i []).length
  · rw [if_pos (by omega), if_pos h]; exact add_zero_pz fok_fop
  · rw [if_neg (by omega), if_neg h]
theorem cvg {σ : GW} {k : Nat} {e : TypeId} {us us' : List Value} {xss xss' : List (List FV)} (h1 : us = us') (h2 : xss = xss') (h : RowsG σ k e us xss) : RowsG σ k e us' xss' := h1 ▸ h2 ▸ h
def btL (N k : Nat) : List Int := (List.range k).map fun j => ((beatN j N : Nat) : Int)
theorem btL_succ (N k : Nat) : btL N (k + 1) = btL N k ++ [((beatN k N : Nat) : Int)] := by simp [btL, List.range_succ]
theorem btL_len (N k : Nat) : (btL N k).length = k := by simp [btL]
theorem btL_get {N k m : Nat} (h : m < k) : (btL N k).getD m 0 = ((beatN m N : Nat) : Int) := by simp [btL, h]
theorem bells_map (N : Nat) (l : List BBlow) : bellsF N l = mapF (bellF N l) N := by
  unfold bellsF belTo mapF
  exact List.map_congr_left fun j hj => if_pos (List.mem_range.1 hj)
end Go.KL

/- A region in whatever order, one operation of which writes: the others neither read nor write what it writes. -/
namespace Go.KL
open Go.RowKit
variable {P : Program}

theorem half_any3 {m N : Nat} {ops : Array Oper} {Q : Exit → Act → World → Prop} (hF : Form N ops) (hm : m ≤ ops.size) (hB : forcedB m ops.toList = true) (M : (Nat → Bool) → Act → GW → Prop)
    (hstep : ∀ (i : Nat) o (L : Nat → Bool) a σ (K : Act → World → Prop), ops[i]? = some o → i < m → M L a σ → L i = false → (∀ e ∈ o.after, Region.binds .any e = true → L e.on = true) →
      (∀ (j : Nat) oj, ops[j]? = some oj → L j = true → ∀ e ∈ oj.after, Region.binds .any e = true → L e.on = true) → (∀ a' σ', M (fun j => L j || j == i) a' σ' → K a' σ'.w) → wpOp P ops Q i K a σ.w)
    (hQ : ∀ a σ, M (fun j => decide (j < m)) a σ → wpList P ops Q (ops.toList.drop m) a σ.w) : ∀ (f : Nat) (L : Array Bool) (a : Act) (σ : GW), L.size = ops.size → left ops.size L ≤ f → (∀ j, j < ops.size → m ≤ j → L.getD j true = false) →
    (∀ (j : Nat) oj, ops[j]? = some oj → L.getD j true = true → ∀ e ∈ oj.after, Region.binds .any e = true → L.getD e.on true = true) → M (fun j => decide (j < m) && L.getD j true) a σ → wpAny P .any ops Q f L a σ.w := by
  intro f
  induction f with
  | zero =>
    intro L a σ hs hf hLm hcl hmid
    have hnone : ∀ j, j < ops.size → L.getD j true = true := fun j hj => by
      cases h : L.getD j true with
      | true => rfl
      | false => have := left_set hs hj h; omega
    have hmm : m = ops.size := by
      rcases Nat.lt_or_ge m ops.size with h | h
      · have := hnone m h; rw [hLm m h (Nat.le_refl _)] at this; cases this
      · omega
    have e : (fun j => decide (j < m) && L.getD j true) = (fun j => decide (j < m)) := by
      funext j
      by_cases h : j < m
      · rw [hnone j (by omega)]; simp
      · simp [h]
    rw [e] at hmid
    exact tail_any hF hB 0 m 0 L a σ.w (by omega) (Nat.le_refl _) hs (Nat.le_refl _) (fun j hj => by rw [hnone j hj]; simp; omega) (hQ a σ hmid)
  | succ f ih =>
    intro L a σ hs hf hLm hcl hmid
    by_cases hdone : ∀ j, j < m → L.getD j true = true
    · have hL : ∀ j, j < ops.size → L.getD j true = decide (j < m) := fun j hj => by
        by_cases h : j < m
        · rw [hdone j h]; simp [h]
        · rw [hLm j hj (by omega)]; simp [h]
      have e : (fun j => decide (j < m) && L.getD j true) = (fun j => decide (j < m)) := by
        funext j
        by_cases h : j < m
        · rw [hdone j h]; simp
        · simp [h]
      rw [e] at hmid
      refine tail_any hF hB (ops.size - m) m (f + 1) L a σ.w (by omega) (Nat.le_refl _) hs ?_ hL (hQ a σ hmid)
      refine Nat.le_trans ?_ hf
      unfold left
      have : (List.range ops.size).countP (fun i => !L.getD i true) = (List.range ops.size).countP (fun i => decide (m ≤ i)) := List.countP_congr fun i hi => by rw [hL i (List.mem_range.1 hi)]; simp
      rw [this]
      have hcnt : ∀ n, (List.range n).countP (fun i => decide (m ≤ i)) = n - m := fun n => by
        induction n with
        | zero => simp
        | succ n ihn =>
          rw [List.range_succ, List.countP_append, ihn]
          by_cases h : m ≤ n <;> simp [h] <;> omega
      rw [hcnt]
      exact Nat.le_refl _
    · have hsome : ∃ j, j < m ∧ L.getD j true = false := by
        refine Classical.byContradiction fun hn => hdone fun j hj => ?_
        cases h : L.getD j true with
        | true => rfl
        | false => exact absurd ⟨j, hj, h⟩ hn
      have up : ∀ k, L.getD k false = true → L.getD k true = true := fun k h => by
        by_cases hk : k < L.size
        · simp [hk] at h ⊢; exact h
        · simp [hk] at h
      refine ⟨fun hr => ?_, fun i hi => ?_⟩
      · exfalso
        have key : ∀ j, j < m → L.getD j true = true := by
          intro j
          induction j using Nat.strongRecOn with
          | _ j ihj =>
          intro hj
          cases hL : L.getD j true with
          | true => rfl
          | false =>
            exfalso
            obtain ⟨o, ho⟩ : ∃ o, ops[j]? = some o := ⟨ops[j]'(by omega), by simp⟩
            have : j ∈ Region.ready .any ops L := mem_ready.2 ⟨hL, o, ho, fun e he hb => by
              have hlt := hF.back j o ho e he hb
              have := ihj e.on hlt (Nat.lt_trans hlt hj)
              have hsz : e.on < L.size := by rw [hs]; omega
              simp [hsz] at this ⊢; exact this⟩
            rw [hr] at this; cases this
        exact hdone key
      · obtain ⟨h0, o, ho, hall⟩ := mem_ready.1 hi
        have hi' : i < ops.size := (Array.getElem?_eq_some_iff.1 ho).1
        have him : i < m := by
          rcases Nat.lt_or_ge i m with h | h
          · exact h
          · exfalso
            obtain ⟨j, hj, hjL⟩ := hsome
            have := forced_spec (L := fun j => decide (j < ops.size) && L.getD j true) hB (fun j oj hj hLj e he hb => by
              simp only [Bool.and_eq_true, decide_eq_true_eq] at hLj ⊢
              exact ⟨by have := hF.back j oj hj e he hb; omega, hcl j oj hj hLj.2 e he hb⟩) ho h (fun e he hb => by
              simp only [Bool.and_eq_true, decide_eq_true_eq]
              exact ⟨by have := hF.back i o ho e he hb; omega, up _ (hall e he hb)⟩) j (by omega)
            simp only [Bool.and_eq_true] at this
            rw [hjL] at this; cases this.2
        refine hstep i o _ a σ _ ho him hmid (by simp [h0]) (fun e he hb => ?_) (fun j oj hj hLj e he hb => ?_) fun a' σ' hm' => ih _ a' σ' (by simpa using hs) (by have := left_set hs hi' h0; omega) (fun j hj hmj => ?_) ?_ ?_
        · have := hF.back i o ho e he hb
          simp only [up _ (hall e he hb), Bool.and_true, decide_eq_true_eq]; omega
        · simp only [Bool.and_eq_true, decide_eq_true_eq] at hLj ⊢
          exact ⟨by have := hF.back j oj hj e he hb; omega, hcl j oj hj hLj.2 e he hb⟩
        · rw [getD_set_ne true (by omega)]; exact hLm j hj hmj
        · intro j oj hj hLj e he hb
          by_cases hji : j = i
          · subst hji
            rw [ho] at hj; cases hj
            have hne := hF.back j o ho e he hb
            rw [getD_set_ne true (by omega)]
            exact up _ (hall e he hb)
          · rw [getD_set_ne true (Ne.symm hji)] at hLj
            have := hcl j oj hj hLj e he hb
            by_cases hei : e.on = i
            · rw [hei, h0] at this; cases this
            · rw [getD_set_ne true (Ne.symm hei)]; exact this
        · have : (fun j => (decide (j < m) && L.getD j true) || j == i) = (fun j => decide (j < m) && (L.setIfInBounds i true).getD j true) := by
            funext j
            by_cases hji : j = i
            · subst hji; simp [him, hs, hi']
            · rw [getD_set_ne true (Ne.symm hji)]; simp [hji]
          rwa [this] at hm'

theorem half_seq3 {m N : Nat} {ops : Array Oper} {Q : Exit → Act → World → Prop} (hF : Form N ops) (hm : m ≤ ops.size) (M : (Nat → Bool) → Act → GW → Prop)
    (hstep : ∀ (i : Nat) o (L : Nat → Bool) a σ (K : Act → World → Prop), ops[i]? = some o → i < m → M L a σ → L i = false → (∀ e ∈ o.after, Region.binds .any e = true → L e.on = true) →
      (∀ (j : Nat) oj, ops[j]? = some oj → L j = true → ∀ e ∈ oj.after, Region.binds .any e = true → L e.on = true) → (∀ a' σ', M (fun j => L j || j == i) a' σ' → K a' σ'.w) → wpOp P ops Q i K a σ.w)
    (hQ : ∀ a σ, M (fun j => decide (j < m)) a σ → wpOps P ops Q (List.range' m (ops.size - m)) a σ.w) : ∀ (n k : Nat) (a : Act) (σ : GW), k + n = m → M (fun j => decide (j < k)) a σ → wpOps P ops Q (List.range' k (n + (ops.size - m))) a σ.w
  | 0, k, a, σ, hk, hmid => by
    obtain rfl : k = m := by omega
    rw [Nat.zero_add]
    exact hQ a σ hmid
  | n + 1, k, a, σ, hk, hmid => by
    rw [show n + 1 + (ops.size - m) = (n + (ops.size - m)) + 1 by omega, List.range'_succ, wpOps_cons]
    obtain ⟨o, ho⟩ : ∃ o, ops[k]? = some o := ⟨ops[k]'(by omega), by simp⟩
    refine hstep k o _ a σ _ ho (by omega) hmid (by simp) (fun e he hbi => by simpa using hF.back k o ho e he hbi)
      (fun j oj hj hlt e he hbi => by have := hF.back j oj hj e he hbi; simp at hlt ⊢; omega) fun a' σ' hm' => half_seq3 hF hm M hstep hQ n (k + 1) a' σ' (by omega) ?_
    have : (fun j => decide (j < k) || j == k) = (fun j => decide (j < k + 1)) := by
      funext j; rw [Bool.eq_iff_iff]; simp; omega
    rwa [this] at hm'

def Ty.any : Ty := ⟨fun _ _ => True, fun _ h => h⟩

structure Mid3 (p d N : Nat) (D : List Deferred) (W : List Nat) (B : Pr) (ops : Array Oper) (Φ : Nat → Ty) (a0 : Act) (σ0 : GW) (L : Nat → Bool) (a : Act) (σ : GW) : Prop where
  stp : StpL W σ0 σ
  stp0 : L p = false → Stp 0 σ0 σ
  ok : Ok N D a
  done : ∀ j, L j = true → j ≠ p → rd ops (fun i => (Φ i).pr) j a σ
  donep : L p = true → B.has σ (a.eval (.tmp d))
  same : ∀ t, (∀ j, dstOf ops j = some t → L j = false) → a.eval (.tmp t) = a0.eval (.tmp t)

def Obl3 (P : Program) (N : Nat) (D : List Deferred) (W : List Nat) (ops : Array Oper) (Φ : Nat → Ty) (a0 : Act) (σ0 : GW) (i : Nat) (o : Oper) : Prop :=
  ∀ a σ, StpL W σ0 σ → Ok N D a → (∀ t, free ops i t = true → a.eval (.tmp t) = a0.eval (.tmp t)) → Deps ops (fun i => (Φ i).pr) a σ o.after.toList (Run P ops o a σ (Φ i).pr)
def OblW (P : Program) (N : Nat) (D : List Deferred) (W : List Nat) (B : Pr) (ops : Array Oper) (Φ : Nat → Ty) (a0 : Act) (σ0 : GW) (i : Nat) (o : Oper) : Prop :=
  ∀ a σ, Stp 0 σ0 σ → Ok N D a → (∀ t, free ops i t = true → a.eval (.tmp t) = a0.eval (.tmp t)) → Deps ops (fun i => (Φ i).pr) a σ o.after.toList (YldL W P o a σ (fun v τ => B.has τ v))
def Obls3 (P : Program) (p N : Nat) (D : List Deferred) (W : List Nat) (B : Pr) (ops : Array Oper) (Φ : Nat → Ty) (a0 : Act) (σ0 : GW) : Nat → List Oper → Prop
  | _, [] => True
  | i, o :: l => (if i = p then OblW P N D W B ops Φ a0 σ0 i o else Obl3 P N D W ops Φ a0 σ0 i o) ∧ Obls3 P p N D W B ops Φ a0 σ0 (i + 1) l
theorem Obls3.get {p N : Nat} {D : List Deferred} {W : List Nat} {B : Pr} {ops : Array Oper} {Φ : Nat → Ty} {a0 : Act} {σ0 : GW} : ∀ (l : List Oper) (k : Nat), Obls3 P p N D W B ops Φ a0 σ0 k l → ∀ j o, l[j]? = some o → (if k + j = p then OblW P N D W B ops Φ a0 σ0 (k + j) o else Obl3 P N D W ops Φ a0 σ0 (k + j) o)
  | [], _, _, j, o, h => by simp at h
  | x :: l, k, h, 0, o, hj => by simp at hj; subst hj; exact h.1
  | x :: l, k, h, j + 1, o, hj => by
    have := Obls3.get l (k + 1) h.2 j o (by simpa using hj)
    rwa [show k + 1 + j = k + (j + 1) by omega] at this
theorem Obls3.up {p N : Nat} {D : List Deferred} {W : List Nat} {B : Pr} {ops : Array Oper} {Φ : Nat → Ty} {a0 : Act} {σ0 σ1 : GW} (hs : Stp 0 σ0 σ1) : ∀ (l : List Oper) (k : Nat), Obls3 P p N D W B ops Φ a0 σ0 k l → Obls3 P p N D W B ops Φ a0 σ1 k l
  | [], _, _ => trivial
  | x :: l, k, h => by
    refine ⟨?_, Obls3.up hs l (k + 1) h.2⟩
    have h1 := h.1
    split at h1
    · rename_i e; rw [if_pos e]; exact fun a σ hs' => h1 a σ (hs.trans hs')
    · rename_i e; rw [if_neg e]; exact fun a σ hs' => h1 a σ (hs.toL0.trans hs')

theorem Mid3.op {p d N : Nat} {D : List Deferred} {W : List Nat} {B : Pr} {ops : Array Oper} {Φ : Nat → Ty} {a0 : Act} {σ0 : GW} {L : Nat → Bool} {a : Act} {σ : GW} {i : Nat} {o : Oper} {Q : Exit → Act → World → Prop} {K : Act → World → Prop}
    (hF : Form N ops) (h1 : 1 ∉ W) (hp : dstOf ops p = some d) (hΦ : ∀ e v, (Φ p).has e v) (hpg : ∀ o, ops[p]? = some o → o.guard = none) (hm : Mid3 p d N D W B ops Φ a0 σ0 L a σ) (ho : ops[i]? = some o) (hL : L i = false)
    (hob : if i = p then OblW P N D W B ops Φ a0 σ0 i o else Obl3 P N D W ops Φ a0 σ0 i o)
    (hall : ∀ e ∈ o.after, Region.binds .any e = true → L e.on = true) (hclosed : ∀ (j : Nat) oj, ops[j]? = some oj → L j = true → ∀ e ∈ oj.after, Region.binds .any e = true → L e.on = true)
    (hK : ∀ a' σ', Mid3 p d N D W B ops Φ a0 σ0 (fun j => L j || j == i) a' σ' → K a' σ'.w) : wpOp P ops Q i K a σ.w := by
  have hdi : dstOf ops i = o.dst := by simp [dstOf, ho]
  have hsame : ∀ t, free ops i t = true → a.eval (.tmp t) = a0.eval (.tmp t) := by
    intro t ht
    refine hm.same t fun j hj => ?_
    cases hLj : L j with
    | false => rfl
    | true =>
      exfalso
      unfold dstOf at hj
      obtain ⟨oj, hoj, hd⟩ := Option.bind_eq_some_iff.1 hj
      unfold free at ht
      have := (List.all_eq_true.1 ht) oj (List.mem_of_getElem? hoj)
      simp only [hd, bne_self_eq_false, Bool.false_or, List.any_eq_true, Bool.and_eq_true, beq_iff_eq] at this
      obtain ⟨e, he, hb, hon⟩ := this
      have := hclosed j oj (by simpa using hoj) hLj e (by simpa using he) hb
      rw [hon, hL] at this
      cases this
  have hdeps : ∀ e ∈ o.after.toList, Region.binds .any e = true → rd ops (fun i => (Φ i).pr) e.on a σ := fun e he hb => by
    by_cases hep : e.on = p
    · rw [hep]; unfold rd; rw [hp]; exact hΦ _ _
    · exact hm.done e.on (hall e (by simpa using he) hb) hep
  -- whatever step of whichever kind: what holds behind it
  have done' : ∀ v (τ : GW), σ.Le τ → (i ≠ p → (Φ i).has τ v) → ∀ j, (L j || j == i) = true → j ≠ p → rd ops (fun i => (Φ i).pr) j (a.put o.dst v) τ := by
    intro v τ hle hv j hLj hjp
    by_cases hji : j = i
    · subst hji
      unfold rd
      cases hd : dstOf ops j with
      | none => trivial
      | some d =>
        have : o.dst = some d := by rw [← hdi]; exact hd
        simp only [this]
        rw [eval_put_same hm.ok (hF.lt j d hd)]
        exact hv hjp
    · have hLj' : L j = true := by simpa [hji] using hLj
      have h0 := hm.done j hLj' hjp
      unfold rd at h0 ⊢
      cases hd : dstOf ops j with
      | none => trivial
      | some d =>
        rw [hd] at h0
        simp only at h0 ⊢
        rw [eval_put_ne (fun he => hji (hF.uniq j i d hd (by rw [hdi]; exact he)))]
        exact (Φ j).up hle h0
  have same' : ∀ v t, (∀ j, dstOf ops j = some t → (L j || j == i) = false) → (a.put o.dst v).eval (.tmp t) = a0.eval (.tmp t) := by
    intro v t ht
    have h1 : o.dst ≠ some t := fun he => by
      have := ht i (by rw [hdi]; exact he)
      simp at this
    rw [eval_put_ne h1]
    exact hm.same t fun j hj => by
      have := ht j hj
      simp at this
      exact this.1
  by_cases hip : i = p
  · subst hip
    rw [if_pos rfl] at hob
    have hy := Deps.elim o.after.toList hdeps (hob a σ (hm.stp0 hL) hm.ok hsame)
    unfold wpOp
    simp only [ho]
    have hw : Region.wanted o (yielded ops a.tmps) = true := by simp [Region.wanted, hpg o ho]
    rw [if_pos hw]
    refine .inl (hy K Q fun v τ hs hr => hK _ τ ⟨hm.stp.trans hs, fun h => (by simp at h), hm.ok.put _ _, done' v τ (hs.le h1) (fun h => absurd rfl h), fun _ => ?_, same' v⟩)
    have : o.dst = some d := by rw [← hdi]; exact hp
    rw [this, eval_put_same hm.ok (hF.lt i d hp)]
    exact hr
  · rw [if_neg hip] at hob
    have hrun := Deps.elim o.after.toList hdeps (hob a σ hm.stp hm.ok hsame)
    have next : ∀ v τ, Stp 0 σ τ → (Φ i).has τ v → K (a.put o.dst v) τ.w := by
      intro v τ hs hv
      refine hK _ τ ⟨hm.stp.trans hs.toL0, fun h => ?_, hm.ok.put _ _, done' v τ hs.le0 (fun _ => hv), fun h => ?_, same' v⟩
      · simp at h; exact (hm.stp0 h.1).trans hs
      · have hLp : L p = true := by simpa [Ne.symm hip] using h
        rw [eval_put_ne (fun he => hip (hF.uniq i p d (by rw [hdi]; exact he) hp))]
        exact B.up hs (hm.donep hLp)
    unfold wpOp
    simp only [ho]
    by_cases hw : Region.wanted o (yielded ops a.tmps) = true
    · rw [if_pos hw]
      exact .inl (hrun.1 hw K Q next)
    · rw [if_neg hw]
      exact next undef σ (Stp.refl _ _) (hrun.2 (by simpa using hw))

theorem obR3 {i p : Nat} {A B : Prop} (h : i ≠ p) (k : B) : if i = p then A else B := by rw [if_neg h]; exact k
theorem obR3w {i p : Nat} {A B : Prop} (h : i = p) (k : A) : if i = p then A else B := by rw [if_pos h]; exact k

structure Half3 (m d N : Nat) (D : List Deferred) (W : List Nat) (B : Pr) (ops : Array Oper) (Φ : Nat → Ty) (a0 : Act) (σ0 : GW) (a : Act) (σ : GW) : Prop where
  stp : StpL W σ0 σ
  ok : Ok N D a
  done : ∀ j, j < m → rd ops (fun i => (Φ i).pr) j a σ
  donep : B.has σ (a.eval (.tmp d))
  same : ∀ t, ((ops.toList.take m).all fun o => o.dst != some t) = true → a.eval (.tmp t) = a0.eval (.tmp t)

theorem Mid3.half {m p d N : Nat} {D : List Deferred} {W : List Nat} {B : Pr} {ops : Array Oper} {Φ : Nat → Ty} {a0 : Act} {σ0 : GW} {a : Act} {σ : GW} (h : Mid3 p d N D W B ops Φ a0 σ0 (fun j => decide (j < m)) a σ) (hpm : p < m) (hp : dstOf ops p = some d) (hΦ : ∀ e v, (Φ p).has e v) : Half3 m d N D W B ops Φ a0 σ0 a σ := by
  refine ⟨h.stp, h.ok, fun j hj => ?_, h.donep (by simpa using hpm), fun t ht => h.same t fun j hj => ?_⟩
  · by_cases hjp : j = p
    · rw [hjp]; unfold rd; rw [hp]; exact hΦ _ _
    · exact h.done j (by simpa using hj) hjp
  · by_cases hjm : j < m
    · obtain ⟨o, ho, hd⟩ := Option.bind_eq_some_iff.1 hj
      have := (List.all_eq_true.1 ht) o (List.mem_of_getElem? (i := j) (by rw [List.getElem?_take, if_pos hjm]; exact ho))
      simp [hd] at this
    · simpa using hjm

theorem reg3 {N : Nat} {D : List Deferred} {ops : Array Oper} {id : Nat} {draw : Bool} {Q : Exit → Act → World → Prop} {a : Act} {σ : GW} (hP : P.follows .mixedOrders = true) (m p d : Nat) (W : List Nat) (h1 : 1 ∉ W) (B : Pr) (Φ : Nat → Ty) (ok : Ok N D a) (hF : formB N ops = true) (hm : m ≤ ops.size) (hB : (!draw || forcedB m ops.toList) = true)
    (hpm : p < m) (hp : dstOf ops p = some d) (hΦ : ∀ e v, (Φ p).has e v) (hpg : (ops.toList[p]?).all (fun o => o.guard.isNone) = true) (hob : Obls3 P p N D W B ops Φ a σ 0 (ops.toList.take m))
    (hQ : ∀ a' σ', Half3 m d N D W B ops Φ a σ a' σ' → wpList P ops Q (ops.toList.drop m) a' σ'.w) : (Code.region id ops draw).wp P Q a σ.w := by
  have hF' := Form.of_B hF
  have hpg' : ∀ o, ops[p]? = some o → o.guard = none := fun o ho => by
    rw [show ops.toList[p]? = some o by simpa using ho] at hpg
    simpa using hpg
  have step : ∀ σ0, Stp 0 σ σ0 → ∀ (i : Nat) o (L : Nat → Bool) a' σ' (K : Act → World → Prop), ops[i]? = some o → i < m → Mid3 p d N D W B ops Φ a σ0 L a' σ' → L i = false → (∀ e ∈ o.after, Region.binds .any e = true → L e.on = true) →
      (∀ (j : Nat) oj, ops[j]? = some oj → L j = true → ∀ e ∈ oj.after, Region.binds .any e = true → L e.on = true) → (∀ a' σ', Mid3 p d N D W B ops Φ a σ0 (fun j => L j || j == i) a' σ' → K a' σ'.w) → wpOp P ops Q i K a' σ'.w :=
    fun σ0 hs i o L a' σ' K ho him hmid hL hall hcl hK => Mid3.op hF' h1 hp hΦ hpg' hmid ho hL
      (by simpa using Obls3.get (ops.toList.take m) 0 (Obls3.up hs _ _ hob) i o (by rw [List.getElem?_take, if_pos him]; simpa using ho)) hall hcl hK
  have start : ∀ σ0, Mid3 p d N D W B ops Φ a σ0 (fun _ => false) a σ0 := fun σ0 => ⟨StpL.refl _ _, fun _ => Stp.refl _ _, ok, fun _ h => (by cases h), fun h => (by cases h), fun _ _ => rfl⟩
  cases draw with
  | false =>
    refine wp_region ?_
    rw [List.range_eq_range']
    have := half_seq3 (Q := Q) hF' hm (Mid3 p d N D W B ops Φ a σ) (step σ (Stp.refl _ _)) (fun a' σ' h => ?_) m 0 a σ (by simp) (by have := start σ; simpa using this)
    · rwa [show m + (ops.size - m) = ops.size by omega] at this
    · have := wpOps_eq_wpList (P := P) (ops := ops) (Q := Q) (ops.toList.drop m) m (fun j => by rw [List.getElem?_drop]; simp)
      rw [show (ops.toList.drop m).length = ops.size - m by simp] at this
      rw [this]
      exact hQ a' σ' (h.half hpm hp hΦ)
  | true =>
    refine wp_region_any hP ?_
    have hd := Stp.drew σ
    refine half_any3 hF' hm (by simpa using hB) (Mid3 p d N D W B ops Φ a σ.drew) (step σ.drew hd) (fun a' σ' h => ?_) _ _ a σ.drew (by simp) (Nat.le_trans List.countP_le_length (by simp)) ?_ ?_ ?_
    · have h2 := h.half hpm hp hΦ
      exact hQ a' σ' ⟨hd.toL0.trans h2.stp, h2.ok, h2.done, h2.donep, h2.same⟩
    · intro j hj _; simp [hj]
    · intro j oj hj h
      have : j < ops.size := (Array.getElem?_eq_some_iff.1 hj).1
      simp [this] at h
    · have e : (fun j => decide (j < m) && (Array.replicate ops.size false).getD j true) = fun _ => false := by
        funext j; by_cases hj : j < ops.size
        · simp [hj]
        · simp; omega
      rw [e]; exact start σ.drew
theorem Half3.kt {m d N : Nat} {D : List Deferred} {W : List Nat} {B : Pr} {ops : Array Oper} {Φ : Nat → Ty} {a0 a : Act} {σ0 σ : GW} {T : Ty} {t : Nat} (h : Half3 m d N D W B ops Φ a0 σ0 a σ) (h1 : 1 ∉ W) (k : T.has σ0 (a0.eval (.tmp t))) (ht : ((ops.toList.take m).all fun o => o.dst != some t) = true) : T.has σ (a.eval (.tmp t)) := by
  rw [h.same t ht]; exact T.up (h.stp.le h1) k
end Go.KL

/- Plain maths: calls and touches. -/
namespace Go.KL
abbrev BCall := Int × List (List Int)
/-! ### Which calls may be -/
/-! ### The changes of a lead -/
/-! ### The rows of a touch -/
section
variable {nm : ByteArray} {n : Nat} {l : List (List Int)} {cs : List BCall} {leads : List Int}
end
/-! ### Which touches may be -/
end Go.KL

/- Arguments that are structs, and slices of these: how a row reads them. -/
namespace Go.KL
open Go.ChangeShapes Go.WideShapes Go.ChangeAt Go.RowKit Go.Deep
variable {P : Program}
theorem take_one {α : Type} {cs : List α} {o : Nat} (h : o < cs.length) : (cs.drop o).take 1 = [cs[o]] := by
  rw [List.drop_eq_getElem_cons h, List.take_succ_cons, List.take_zero]
theorem rd_s2 {t : TypeId} {f0 f1 : Field} {α β : Type} {T : α → Ty} {U : β → Ty} {wf0 : α → Prop} {wf1 : β → Prop} {sz0 : α → Nat} {sz1 : β → Nat} {rc0 : α → Prop} {rc1 : β → Prop} (ht : P.underlying t = some (.struct #[f0, f1])) (hc : P.cellsOf t = 2)
    (e0 : f0.offset = 0) (e1 : f1.offset = 1) (k0 : P.cellsOf f0.type = 1) (k1 : P.cellsOf f1.type = 1) (h0 : Rd P f0.type (fun x => [T x]) wf0 sz0 rc0) (h1 : Rd P f1.type (fun x => [U x]) wf1 sz1 rc1) :
    Rd P t (fun x : α × β => [T x.1, U x.2]) (fun x => wf0 x.1 ∧ wf1 x.2) (fun x => sz0 x.1 + sz1 x.2 + 1) (fun x => rc0 x.1 ∧ rc1 x.2) := by
  intro H enc B BA hB W fuel cs d ps h
  obtain ⟨y0, y1, n, e, hl, g0, g1⟩ := trod_struct2 ht h
  obtain ⟨rfl, rfl⟩ := Prod.mk.inj e
  rw [hc] at hl
  rw [e0, k0, take_one (by omega)] at g0
  rw [e1, k1, take_one (by omega)] at g1
  obtain ⟨x, a1, a2, a3, a4, a5⟩ := h0 H enc B BA hB W n _ _ _ g0
  obtain ⟨y, b1, b2, b3, b4, b5⟩ := h1 H enc B BA hB W n _ _ _ g1
  refine ⟨(x, y), ⟨a1, b1⟩, ?_, fun hw => ?_, by rw [hl]; rfl, fun j V u hj hu => ?_⟩
  · rw [hB.agg, hB.cons, hB.cons, hB.nil]; show sz0 x + sz1 y + 1 ≤ _; omega
  · simp only [DataW.weights, ht, List.map_cons, List.map_nil, DataW.weightsEach, List.append_nil, List.all_append, Bool.and_eq_true] at hw
    exact ⟨a3 hw.1, b3 hw.2⟩
  · match j with
    | 0 => simp at hj; subst hj; exact a5 0 _ u rfl (by rw [List.getElem?_eq_getElem (by omega)] at hu; exact hu)
    | 1 => simp at hj; subst hj; exact b5 0 _ u rfl (by rw [List.getElem?_eq_getElem (by omega)] at hu; exact hu)
    | j + 2 => simp at hj
theorem rd_lstc {t e c : TypeId} {α : Type} {cells : α → List Ty} {wf : α → Prop} {sz : α → Nat} {rc : α → Prop} (ht : P.underlying t = some (.slice e)) (hc : P.cellsOf e = c) (hc0 : 0 < c) (he : Rd P e cells wf sz rc) (hcl : ∀ x, (cells x).length = c) :
    Rd P t (fun xs : List α => [Ty.lstc c cells xs]) (fun xs => xs.length ≤ maxLen ∧ ∀ x ∈ xs, wf x) (fun xs => (xs.map sz).sum + 1) (fun xs => xs.length * P.bytesOf e ≤ reachBytes ∧ ∀ x ∈ xs, rc x) :=
  rd_slice ht hc hc0 he (fun x _ => hcl x)
end Go.KL

/- Arguments that are floats. -/
namespace Go.KL
open Go.ChangeShapes Go.WideShapes Go.ChangeAt Go.RowKit Go.Deep
variable {P : Program}
theorem trod_float {H : Type} {enc : TypeId × Value → H} {w : World} {base : Nat} {spare : Nat → Bool} {held : Bool} {fuel : Nat} {cs : List Value} {x : DataW H × List MemPlace} {t : TypeId} {k : FloatKind} (ht : P.underlying t = some (.float k))
    (h : DataW.trod enc P w base spare held fuel t cs = some x) : ∃ b, cs = [.float k b] ∧ x = (.lit (.float k b), []) ∧ (Lit.float k b).wf = true := by
  cases fuel with
  | zero => simp [DataW.trod] at h
  | succ n =>
    unfold DataW.trod at h
    rw [ht] at h
    split at h <;> simp_all
theorem rd_float {t : TypeId} (ht : P.underlying t = some (.float .f64)) : Rd P t (fun o : FV => [Ty.flt o]) (fun _ => True) (fun _ => 1) (fun _ => True) := by
  intro H enc B BA hB W fuel cs d ps h
  obtain ⟨b, rfl, e, hw⟩ := trod_float ht h
  obtain ⟨rfl, rfl⟩ := Prod.mk.inj e
  refine ⟨cn b, trivial, hB.one _, fun _ => trivial, rfl, one_cell ⟨b, rfl, ?_, rfl⟩⟩
  simp only [Lit.wf, decide_eq_true_eq] at hw
  exact hw
end Go.KL

