/- From a row's reading of its arguments to semantic types, and from a law's contract back to the row. -/
import Derived.Test.YtkjifbgofckfeaaGroupMadeK1
import Derived.ProofKit
import Derived.JoinedCond
import Derived.SizedLaws
import Derived.Deep.Slices
import Derived.Deep.CondSized
import Derived.Test.YtkjifbgofckfeaaGroupMadeK2
import Derived.Shelf.GgSortFunc.Insertion
import Derived.Shelf.SlSortCmp.Whole1
import Derived.Laws.CopyRow
import Derived.Laws.Bits64b
import Derived.Lib.AppendStr
import Derived.Laws.BitsLemmas
import Derived.Lib.IndexLaws
import Derived.Below
namespace Go.KL
open Go.ChangeShapes Go.WideShapes Go.ChangeAt Go.RowKit Go.Deep
variable {P : Program}

def GW.all (W : World) : GW := ⟨W, fun b => if b < W.heap.size then 1 else 0, fun b h => by
  by_cases hb : b < W.heap.size
  · exact hb
  · simp [hb] at h⟩

structure Bulk {H : Type} (B : DataW H → Nat) (BA : List (DataW H) → Nat) : Prop where
  one : ∀ d, 1 ≤ B d
  str : ∀ l, B (.lit (.string l)) = l.length + 1
  slice : ∀ es sp, B (.slice es sp) = BA es + BA sp + 1
  agg : ∀ ps, B (.agg ps) = BA ps + 1
  nil : BA [] = 0
  cons : ∀ d r, BA (d :: r) = B d + BA r

def Rd (P : Program) (t : TypeId) {α : Type} (cells : α → List Ty) (wf : α → Prop) (sz : α → Nat) (rc : α → Prop) : Prop :=
  ∀ (H : Type) (enc : TypeId × Value → H) (B : DataW H → Nat) (BA : List (DataW H) → Nat), Bulk B BA → ∀ (W : World) (fuel : Nat) (cs : List Value) (d : DataW H) (ps : List MemPlace),
    DataW.trod enc P W 0 (fun _ => true) true fuel t cs = some (d, ps) → ∃ x : α, wf x ∧ sz x ≤ B d ∧ ((d.weights P t).all (· ≤ reachBytes) = true → rc x) ∧ cs.length = (cells x).length ∧
      ∀ (j : Nat) (T : Ty) (u : Value), (cells x)[j]? = some T → cs[j]? = some u → T.has (GW.all W) u

theorem one_cell {T : Ty} {v : Value} {σ : GW} (h : T.has σ v) : ∀ (j : Nat) (U : Ty) (u : Value), [T][j]? = some U → [v][j]? = some u → U.has σ u := by
  intro j U u h1 h2
  match j with
  | 0 => simp at h1 h2; subst h1; subst h2; exact h
  | j + 1 => simp at h1

theorem rd_int {t : TypeId} {k : IntKind} (ht : P.underlying t = some (.int k)) : Rd P t (fun n : Int => [Ty.val (.int k n)]) (fun n => (Lit.int k n).wf = true) (fun _ => 1) (fun _ => True) := by
  intro H enc B BA hB W fuel cs d ps h
  obtain ⟨n, rfl, e, hw⟩ := DataW.trod_int ht h
  obtain ⟨rfl, rfl⟩ := Prod.mk.inj e
  exact ⟨n, hw, hB.one _, fun _ => trivial, rfl, one_cell rfl⟩
theorem BA_map {H : Type} {B : DataW H → Nat} {BA : List (DataW H) → Nat} (hB : Bulk B BA) {α : Type} (sz : α → Nat) : ∀ (xs : List α) (D : List (DataW H)), xs.length = D.length → (∀ (i : Nat) x d, xs[i]? = some x → D[i]? = some d → sz x ≤ B d) → (xs.map sz).sum ≤ BA D
  | [], [], _, _ => by simp
  | x :: xs, d :: D, hl, h => by
    rw [hB.cons, List.map_cons, List.sum_cons]
    have h0 := h 0 x d rfl rfl
    have := BA_map hB sz xs D (by simpa using hl) (fun i y e hy he => h (i + 1) y e (by simpa using hy) (by simpa using he))
    omega

theorem weightsAll_mem {H : Type} {e : TypeId} : ∀ {D : List (DataW H)} {d : DataW H}, d ∈ D → ∀ n, n ∈ d.weights P e → n ∈ DataW.weightsAll P e D
  | x :: D, d, h, n, hn => by
    simp only [DataW.weightsAll, List.mem_append]
    rcases List.mem_cons.1 h with rfl | h
    · exact .inl hn
    · exact .inr (weightsAll_mem h n hn)

theorem spot_none {w : World} {a : Addr} {v : Value} (h : w.cell? a = some v) : a.spot = none := by
  unfold World.cell? at h
  split at h
  · split at h
    · cases h
    · rename_i hs; simpa using hs
  · cases h

theorem rd_slice {t e c : TypeId} {α : Type} {cells : α → List Ty} {wf : α → Prop} {sz : α → Nat} {rc : α → Prop} (ht : P.underlying t = some (.slice e)) (hc : P.cellsOf e = c) (hc0 : 0 < c) (he : Rd P e cells wf sz rc) (hcl : ∀ x, wf x → (cells x).length = c) :
    Rd P t (fun xs : List α => [Ty.sl c xs.length (xs.flatMap cells)]) (fun xs => xs.length ≤ maxLen ∧ ∀ x ∈ xs, wf x) (fun xs => (xs.map sz).sum + 1) (fun xs => xs.length * P.bytesOf e ≤ reachBytes ∧ ∀ x ∈ xs, rc x) := by
  intro H enc B BA hB W fuel cs d ps h
  rcases open_slice ht h with ⟨rfl, e1⟩ | ⟨a, len, cap, m, n, D, Pl, rfl, _, hlen, hcap, hm, e1, hel⟩
  · obtain ⟨rfl, rfl⟩ := Prod.mk.inj e1
    exact ⟨[], ⟨Nat.zero_le _, fun x h => by cases h⟩, by simpa using hB.one _, fun _ => ⟨by simp, fun x h => by cases h⟩, rfl, one_cell ⟨none, 0, 0, 0, rfl, ⟨Nat.le_refl _, by decide⟩, by simp, .inl rfl, fun j T hj => by simp at hj⟩⟩
  · obtain ⟨rfl, rfl⟩ := Prod.mk.inj e1
    subst hc
    simp only [if_true] at hm
    subst hm
    have hx : ∀ i : Fin len, ∃ x : α, ∃ cs' : List Value, W.cells? 0 (a.add (i * P.cellsOf e)) (P.cellsOf e) = some cs' ∧ wf x ∧ sz x ≤ B (D i) ∧ (((D i).weights P e).all (· ≤ reachBytes) = true → rc x) ∧ cs'.length = (cells x).length ∧
        ∀ (j : Nat) (T : Ty) (u : Value), (cells x)[j]? = some T → cs'[j]? = some u → T.has (GW.all W) u := by
      intro i
      obtain ⟨cs', h1, h2⟩ := hel i (by omega)
      obtain ⟨x, hx⟩ := he H enc B BA hB W n cs' _ _ h2
      exact ⟨x, cs', h1, hx⟩
    let f : Fin len → α := fun i => Classical.choose (hx i)
    have hf : ∀ i : Fin len, ∃ cs' : List Value, W.cells? 0 (a.add (i * P.cellsOf e)) (P.cellsOf e) = some cs' ∧ wf (f i) ∧ sz (f i) ≤ B (D i) ∧ (((D i).weights P e).all (· ≤ reachBytes) = true → rc (f i)) ∧ cs'.length = (cells (f i)).length ∧
        ∀ (j : Nat) (T : Ty) (u : Value), (cells (f i))[j]? = some T → cs'[j]? = some u → T.has (GW.all W) u := fun i => Classical.choose_spec (hx i)
    have hlf : (List.ofFn f).length = len := by simp
    have hget : ∀ (i : Nat) (x : α), (List.ofFn f)[i]? = some x → ∃ hi : i < len, x = f ⟨i, hi⟩ := fun i x h => by
      have hi : i < len := by have := (List.getElem?_eq_some_iff.1 h).1; simpa using this
      refine ⟨hi, ?_⟩
      rw [List.getElem?_ofFn] at h
      simp [hi] at h
      exact h.symm
    have hmem : ∀ x ∈ List.ofFn f, ∃ i : Fin len, x = f i := fun x h => by
      obtain ⟨i, hi⟩ := List.mem_iff_getElem?.1 h
      obtain ⟨hi', rfl⟩ := hget i x hi
      exact ⟨⟨i, hi'⟩, rfl⟩
    have hwf : ∀ x ∈ List.ofFn f, wf x := fun x h => by
      obtain ⟨i, rfl⟩ := hmem x h
      obtain ⟨_, _, h1, _⟩ := hf i
      exact h1
    have hflat : ∀ (xs : List α), (∀ x ∈ xs, wf x) → (xs.flatMap cells).length = xs.length * P.cellsOf e := fun xs h => by
      induction xs with
      | nil => simp
      | cons x xs ih =>
        rw [List.flatMap_cons, List.length_append, hcl x (h x (by simp)), ih (fun y hy => h y (by simp [hy])), List.length_cons, Nat.succ_mul]; omega
    refine ⟨List.ofFn f, ⟨by rw [hlf]; omega, hwf⟩, ?_, fun hr => ⟨?_, fun x h => ?_⟩, rfl, one_cell ?_⟩
    · rw [hB.slice]
      have := BA_map hB sz (List.ofFn f) ((List.range len).map D) (by simp) (fun i x d hx hd => by
        obtain ⟨hi, rfl⟩ := hget i x hx
        obtain ⟨_, _, _, h2, _⟩ := hf ⟨i, hi⟩
        rw [List.getElem?_map, List.getElem?_range hi] at hd
        simp at hd; subst hd; exact h2)
      show (List.map sz (List.ofFn f)).sum + 1 ≤ _
      omega
    · rw [hlf]
      have : (((List.range len).map D).length + ((List.range (m - len)).map fun j => D (len + j)).length) * P.bytesOf e ≤ reachBytes := by
        have := List.all_eq_true.1 hr _ (by simp only [DataW.weights, ht]; exact List.mem_cons_self)
        simpa using this
      refine Nat.le_trans (Nat.mul_le_mul_right _ ?_) this
      simp
    · obtain ⟨i, rfl⟩ := hmem x h
      obtain ⟨_, _, _, _, h3, _⟩ := hf i
      refine h3 (List.all_eq_true.2 fun k hk => ?_)
      refine List.all_eq_true.1 hr k ?_
      simp only [DataW.weights, ht]
      refine List.mem_cons_of_mem _ (List.mem_append.2 (.inl (weightsAll_mem (D := List.map D (List.range len)) (d := D i.val) (List.mem_map.2 ⟨i.val, List.mem_range.2 i.2, rfl⟩) k hk)))
    · -- the cells
      by_cases h0 : len = 0
      · have e0 : List.ofFn f = [] := List.eq_nil_of_length_eq_zero (by rw [hlf, h0])
        rw [e0, h0]
        exact ⟨some a, m, 0, 0, rfl, ⟨Nat.zero_le _, hcap⟩, by simp, .inl rfl, fun j T hj => by simp at hj⟩
      · have hcell : ∀ (i : Fin len) (k : Nat) (T : Ty), (cells (f i))[k]? = some T → ∃ u, W.cell? ((a.add (i * P.cellsOf e)).add k) = some u ∧ T.has (GW.all W) u := fun i k T hT => by
          obtain ⟨cs', h1, h2, _, _, h5, h6⟩ := hf i
          have hk : k < cs'.length := by rw [h5]; exact (List.getElem?_eq_some_iff.1 hT).1
          refine ⟨cs'[k], ?_, h6 k T _ hT (by simp [hk])⟩
          have hkc : k < P.cellsOf e := by rw [← hcl _ h2, ← h5]; exact hk
          unfold World.cells? at h1
          rw [if_pos (Nat.zero_le _)] at h1
          have := mapM_some_get h1 k k (by rw [List.getElem?_range hkc])
          rw [this]; simp [hk]
        have hspot : a.spot = none := by
          obtain ⟨cs', h1, h2, _, _, h5, h6⟩ := hf ⟨0, by omega⟩
          have h7 : 0 < (cells (f ⟨0, by omega⟩)).length := by rw [hcl _ h2]; exact hc0
          obtain ⟨u, hu, _⟩ := hcell ⟨0, by omega⟩ 0 _ (List.getElem?_eq_getElem h7)
          simp [Addr.add] at hu
          exact spot_none hu
        obtain ⟨ab, ao, asp⟩ := a
        simp only at hspot
        subst hspot
        have hlt : ab < W.heap.size := by
          obtain ⟨cs', h1, h2, _, _, h5, h6⟩ := hf ⟨0, by omega⟩
          have h7 : 0 < (cells (f ⟨0, by omega⟩)).length := by rw [hcl _ h2]; exact hc0
          obtain ⟨u, hu, _⟩ := hcell ⟨0, by omega⟩ 0 _ (List.getElem?_eq_getElem h7)
          simp [Addr.add] at hu
          exact World.block_lt_of_cell? _ _ hu
        refine ⟨some ⟨ab, ao, none⟩, m, ab, ao, by rw [hlf], ⟨by omega, hcap⟩, hflat _ hwf, .inr ⟨rfl, by simp [GW.all, hlt]⟩, fun j T hj => ?_⟩
        -- cell j is cell j % c of element j / c
        have key : ∀ (xs : List α) (o : Nat), (∀ x ∈ xs, wf x) → (∀ (i : Nat) x, xs[i]? = some x → ∀ (k : Nat) (T : Ty), (cells x)[k]? = some T → ∃ u, W.cell? ⟨ab, o + i * P.cellsOf e + k, none⟩ = some u ∧ T.has (GW.all W) u) →
            ∀ (j : Nat) (T : Ty), (xs.flatMap cells)[j]? = some T → ∃ u, W.cell? ⟨ab, o + j, none⟩ = some u ∧ T.has (GW.all W) u := by
          intro xs
          induction xs with
          | nil => intro o _ _ j T hj; simp at hj
          | cons x xs ih =>
            intro o hw hc j T hj
            rw [List.flatMap_cons] at hj
            have hlx := hcl x (hw x (by simp))
            by_cases hjl : j < (cells x).length
            · rw [List.getElem?_append_left hjl] at hj
              have := hc 0 x rfl j T hj
              simpa using this
            · rw [List.getElem?_append_right (by omega)] at hj
              have := ih (o + P.cellsOf e) (fun y hy => hw y (by simp [hy])) (fun i y hy k T hT => by
                have := hc (i + 1) y (by simpa using hy) k T hT
                rw [Nat.succ_mul] at this
                rw [show o + P.cellsOf e + i * P.cellsOf e + k = o + (i * P.cellsOf e + P.cellsOf e) + k by omega]
                exact this) _ T hj
              rw [hlx] at this hjl
              rwa [show o + P.cellsOf e + (j - P.cellsOf e) = o + j by omega] at this
        refine key (List.ofFn f) ao hwf (fun i x hx k T hT => ?_) j T hj
        obtain ⟨hi, rfl⟩ := hget i x hx
        have := hcell ⟨i, hi⟩ k T hT
        simp only [Addr.add_lit] at this
        exact this

theorem Rd.conv {t : TypeId} {α β : Type} {cells : α → List Ty} {wf : α → Prop} {sz : α → Nat} {rc : α → Prop} {cells' : β → List Ty} {wf' : β → Prop} {sz' : β → Nat} {rc' : β → Prop} (h : Rd P t cells wf sz rc) (g : α → β)
    (hg : ∀ x, wf x → wf' (g x) ∧ sz' (g x) ≤ sz x ∧ (rc x → rc' (g x)) ∧ cells' (g x) = cells x) : Rd P t cells' wf' sz' rc' := by
  intro H enc B BA hB W fuel cs d ps ht
  obtain ⟨x, h1, h2, h3, h4, h5⟩ := h H enc B BA hB W fuel cs d ps ht
  obtain ⟨g1, g2, g3, g4⟩ := hg x h1
  exact ⟨g x, g1, Nat.le_trans g2 h2, fun h => g3 (h3 h), by rw [g4]; exact h4, by rw [g4]; exact h5⟩

theorem flatMap_one {α : Type} (f : α → Ty) (xs : List α) : xs.flatMap (fun x => [f x]) = xs.map f := by
  induction xs with
  | nil => rfl
  | cons x xs ih => simp [ih]

theorem rd_lst {t e : TypeId} {α : Type} {f : α → Ty} {wf : α → Prop} {sz : α → Nat} {rc : α → Prop} (ht : P.underlying t = some (.slice e)) (hc : P.cellsOf e = 1) (he : Rd P e (fun x => [f x]) wf sz rc) :
    Rd P t (fun xs : List α => [Ty.lst f xs]) (fun xs => xs.length ≤ maxLen ∧ ∀ x ∈ xs, wf x) (fun xs => (xs.map sz).sum + 1) (fun xs => xs.length * P.bytesOf e ≤ reachBytes ∧ ∀ x ∈ xs, rc x) :=
  (rd_slice ht hc (by decide) he (fun _ _ => rfl)).conv id fun x h => ⟨h, Nat.le_refl _, id, by simp [flatMap_one, Ty.lst]⟩

/-! ### Back to the row -/
theorem trodAll_stays {H : Type} {enc : TypeId × Value → H} (hl : laidOutB P = true) {W W' : World} (hb : Below W.heap.size W W') : ∀ {ts : List TypeId} {vs : List Value} {ds : List (DataW H)} {ps : List MemPlace},
    DataW.TrodAll enc P W 0 (fun _ => true) true ts vs ds ps → (ts.all fun t => P.readableRec t && decide (t < P.types.size)) = true → (∀ x ∈ ps, x.block < W.heap.size) → DataW.TrodAll enc P W' 0 (fun b => decide (b < W.heap.size)) true ts vs ds ps
  | [], [], [], ps, h, _, _ => h
  | t :: ts, v :: vs, d :: ds, ps, h, ha, hp => by
    obtain ⟨p, q, h1, h2, rfl⟩ := h
    simp only [List.all_cons, Bool.and_eq_true, decide_eq_true_eq] at ha
    exact ⟨p, q, Below.trod hl ha.1.1 ha.1.2 h1 hb (fun x hx => hp x (List.mem_append.2 (.inl hx))), trodAll_stays hl hb h2 ha.2 (fun x hx => hp x (List.mem_append.2 (.inr hx))), rfl⟩
  | [], [], _ :: _, _, h, _, _ => h.elim
  | [], _ :: _, _, _, h, _, _ => h.elim
  | _ :: _, [], _, _, h, _, _ => h.elim
  | _ :: _, _ :: _, [], _, h, _, _ => h.elim

theorem law_post {H : Type} {enc : TypeId × Value → H} {fn : Func} {f : FuncId} {s : ChangeSpec} {W : World} {args : Array Value} {ds gs : List (DataW H)} {before : List MemPlace} {tb : TypeId}
    (hres : fn.resultTypes = #[tb]) (hb : P.underlying tb = some .bool) (hl : laidOutB P = true) (hr : (fn.params.toList.all fun t => P.readableRec t && decide (t < P.types.size)) = true)
    (hW : DataW.Whole enc P fn.params.toList s.vars false W args.toList ds gs before) (hv : s.vars = []) (hs : s.fn H (ds ++ gs) = { results := [.lit (.bool true)], args := ds })
    (hc : FnC P f args (GW.all W) (Ty.bool true)) : Calls P f args W fun e W' => ∃ v, e = .returned v ∧ s.post enc P fn false true false false W args v W' := by
  refine Calls.mono hc ?_
  rintro e W' ⟨v, τ, rfl, hstp, rfl, hvv⟩
  have hbel : Below W.heap.size W τ.w := ⟨hstp.os, hstp.tape, hstp.output, hstp.size, fun k hk => hstp.blk k hk (.inl rfl)⟩
  have hW' := hW
  obtain ⟨p, q, hA, hV, rfl, _, _⟩ := hW
  have hq : q = [] := by
    rw [hv] at hV
    cases gs with
    | nil => exact hV
    | cons _ _ => exact hV.elim
  subst hq
  have hgs : gs = [] := by
    rw [hv] at hV
    cases gs with
    | nil => rfl
    | cons _ _ => exact hV.elim
  subst hgs
  have hvv' : v = .bool true := hvv
  subst hvv'
  refine ⟨_, rfl, ds, [], _, [], p, [], hW', ?_, ?_, ?_, hbel.frame _, fun h => by cases h⟩
  · rw [hs, hres]
    exact trodAll_mk1 (shut_bool hb true)
  · rw [hs]
    exact trodAll_stays hl hbel hA hr (fun x hx => hW'.lt x (List.mem_append.2 (.inl hx)))
  · rw [hs, hv]; rfl

theorem arg_one {H : Type} {enc : TypeId × Value → H} {B : DataW H → Nat} {BA : List (DataW H) → Nat} (hB : Bulk B BA) {W : World} {t : TypeId} {v : Value} {d : DataW H} {ps : List MemPlace} {α : Type} {T : α → Ty} {wf : α → Prop} {sz : α → Nat} {rc : α → Prop}
    (h : Rd P t (fun x => [T x]) wf sz rc) (hone : v.cells = #[v]) (ht : DataW.Trod enc P W 0 (fun _ => true) true t v d ps) : ∃ x : α, wf x ∧ sz x ≤ B d ∧ ((d.weights P t).all (· ≤ reachBytes) = true → rc x) ∧ (T x).has (GW.all W) v := by
  obtain ⟨fuel, hf⟩ := ht
  rw [hone] at hf
  obtain ⟨x, h1, h2, h3, _, h5⟩ := h H enc B BA hB W fuel _ d ps hf
  exact ⟨x, h1, h2, h3, h5 0 _ _ rfl rfl⟩
theorem one_slice {e : TypeId} {w : World} {r : Reach} {base : Nat} {t : TypeId} {v : Value} (ht : P.underlying t = some (.slice e)) (h : Value.okWide P w r base t v) : v.cells = #[v] := by
  obtain ⟨a, l, c, rfl⟩ := okWide_slice ht h; rfl
theorem one_int {k : IntKind} {w : World} {r : Reach} {base : Nat} {t : TypeId} {v : Value} (ht : P.underlying t = some (.int k)) (h : Value.okWide P w r base t v) : v.cells = #[v] := by
  obtain ⟨s, rfl⟩ := okWide_int ht h; rfl
theorem weightsEach_cons {H : Type} {t : TypeId} {ts : List TypeId} {d : DataW H} {ds : List (DataW H)} (h : (DataW.weightsEach P (t :: ts) (d :: ds)).all (· ≤ reachBytes) = true) : (d.weights P t).all (· ≤ reachBytes) = true ∧ (DataW.weightsEach P ts ds).all (· ≤ reachBytes) = true := by
  simpa [DataW.weightsEach, List.all_append] using h
theorem i64_bd {n : Int} (h : (Lit.int .i64 n).wf = true) : -9223372036854775808 ≤ n ∧ n ≤ 9223372036854775807 := by
  simp [Lit.wf, IntKind.min, IntKind.max, IntKind.signed, IntKind.bits] at h
  omega
end Go.KL

/- Permutations of any length: cycles, signs (as for rows). -/
namespace Go.KL.Pm
open Go.KL
structure IsRow (r : List Int) : Prop where
  pos : 1 ≤ r.length
  one : ∀ b, b < r.length → r.count (b : Int) = 1
theorem IsRow.bound {r : List Int} (h : IsRow r) : ∀ x ∈ r, 0 ≤ x ∧ x < r.length := by
  have h1 := countP_lt r.length r h.one
  have h2 := List.countP_eq_length.1 h1
  intro x hx
  simpa using h2 x hx
theorem IsRow.nodup {r : List Int} (h : IsRow r) : r.Nodup := by
  rw [List.nodup_iff_count]
  intro x
  by_cases hx : x ∈ r
  · have hb := h.bound x hx
    have := h.one x.toNat (by omega)
    rw [show ((x.toNat : Nat) : Int) = x by omega] at this
    omega
  · rw [List.count_eq_zero_of_not_mem hx]; omega
theorem IsRow.at {r : List Int} (h : IsRow r) {i : Nat} (hi : i < r.length) : 0 ≤ r.getD i 0 ∧ r.getD i 0 < r.length := by
  have : r.getD i 0 = r[i] := by simp [hi]
  rw [this]; exact h.bound _ (List.getElem_mem hi)
theorem IsRow.mem {r : List Int} (h : IsRow r) {b : Nat} (hb : b < r.length) : (b : Int) ∈ r := List.count_pos_iff.1 (by rw [h.one b hb]; omega)
theorem roundsL_row {n : Nat} (h1 : 1 ≤ n) : IsRow (roundsL n) := by
  refine ⟨by rw [roundsL_len]; exact h1, row_all ?_ fun x hx => ?_⟩
  · refine List.Pairwise.map _ (R := fun a b => a ≠ b) (fun a b h e => h (by omega)) List.nodup_range
  · rw [roundsL_len]
    simp only [roundsL, List.mem_map, List.mem_range] at hx
    obtain ⟨i, hi, rfl⟩ := hx; omega

theorem nxt_lt {r : List Int} (h : IsRow r) {k : Nat} (hk : k < r.length) : nxt r k < r.length := by
  have := h.at hk; unfold nxt; omega
theorem nxt_int {r : List Int} (h : IsRow r) {k : Nat} (hk : k < r.length) : ((nxt r k : Nat) : Int) = r.getD k 0 := by
  have := h.at hk; unfold nxt; omega
theorem nxt_inj {r : List Int} (h : IsRow r) {j k : Nat} (hj : j < r.length) (hk : k < r.length) (e : nxt r j = nxt r k) : j = k := by
  have e' : r.getD j 0 = r.getD k 0 := by rw [← nxt_int h hj, ← nxt_int h hk, e]
  rw [← idxOf_at h.nodup hj, ← idxOf_at h.nodup hk, e']
theorem itr_lt {r : List Int} (h : IsRow r) {b : Nat} (hb : b < r.length) : ∀ m, itr r b m < r.length
  | 0 => hb
  | m + 1 => nxt_lt h (itr_lt h hb m)
theorem itr_cancel {r : List Int} (h : IsRow r) {b : Nat} (hb : b < r.length) : ∀ (i d : Nat), itr r b i = itr r b (i + d) → b = itr r b d
  | 0, d, e => by simpa [itr] using e
  | i + 1, d, e => by
    refine itr_cancel h hb i d ?_
    rw [show i + 1 + d = (i + d) + 1 by omega] at e
    exact nxt_inj h (itr_lt h hb i) (itr_lt h hb (i + d)) e

theorem back_exists {r : List Int} (h : IsRow r) {b : Nat} (hb : b < r.length) : ∃ m, m < r.length ∧ itr r b (m + 1) = b := by
  obtain ⟨i, j, hij, hj, e⟩ := collide (itr r b) (itr_lt h hb)
  refine ⟨j - i - 1, by omega, ?_⟩
  have := itr_cancel h hb i (j - i) (by rw [show i + (j - i) = j by omega]; exact e)
  rw [show j - i - 1 + 1 = j - i by omega]; exact this.symm

theorem per_spec {r : List Int} (h : IsRow r) {b : Nat} (hb : b < r.length) : 1 ≤ per r b ∧ per r b ≤ r.length ∧ itr r b (per r b) = b ∧ ∀ m, 0 < m → m < per r b → itr r b m ≠ b := by
  obtain ⟨m, hm, e⟩ := back_exists h hb
  have hx : (List.range r.length).findIdx (fun m => itr r b (m + 1) == b) < (List.range r.length).length := List.findIdx_lt_length_of_exists ⟨m, List.mem_range.2 hm, by simp [e]⟩
  have hx' : (List.range r.length).findIdx (fun m => itr r b (m + 1) == b) < r.length := by simpa using hx
  refine ⟨by unfold per; omega, by unfold per; omega, ?_, fun m h0 hm => ?_⟩
  · have := List.findIdx_getElem (w := hx)
    simp only [List.getElem_range, beq_iff_eq] at this
    exact this
  · have := List.not_of_lt_findIdx (p := fun m => itr r b (m + 1) == b) (xs := List.range r.length) (i := m - 1) (by unfold per at hm; omega)
    simp only [List.getElem_range, beq_eq_false_iff_ne] at this
    rwa [show m - 1 + 1 = m by omega] at this

def Leads (r : List Int) (b k : Nat) : Prop := ∃ m, itr r b m = k
theorem Leads.small {r : List Int} (h : IsRow r) {b k : Nat} (hb : b < r.length) (hl : Leads r b k) : ∃ m, m < per r b ∧ itr r b m = k := by
  obtain ⟨m, e⟩ := hl
  induction m using Nat.strongRecOn generalizing k with
  | _ m ih =>
  by_cases hm : m < per r b
  · exact ⟨m, hm, e⟩
  · have hp := per_spec h hb
    refine ih (m - per r b) (by omega) ?_
    have := itr_add r b (per r b) (m - per r b)
    rw [hp.2.2.1, show per r b + (m - per r b) = m by omega] at this
    rw [← this]; exact e
theorem Leads.symm {r : List Int} (h : IsRow r) {b k : Nat} (hb : b < r.length) (hl : Leads r b k) : Leads r k b := by
  obtain ⟨m, hm, e⟩ := hl.small h hb
  have hp := per_spec h hb
  refine ⟨per r b - m, ?_⟩
  have := itr_add r b m (per r b - m)
  rw [show m + (per r b - m) = per r b by omega, hp.2.2.1, e] at this
  exact this.symm
theorem Leads.trans {r : List Int} {a b c : Nat} (h : Leads r a b) (k : Leads r b c) : Leads r a c := by
  obtain ⟨m, rfl⟩ := h
  obtain ⟨n, rfl⟩ := k
  exact ⟨m + n, itr_add r a m n⟩
theorem Leads.lt {r : List Int} (h : IsRow r) {b k : Nat} (hb : b < r.length) (hl : Leads r b k) : k < r.length := by
  obtain ⟨m, rfl⟩ := hl; exact itr_lt h hb m
theorem least_iff {r : List Int} (h : IsRow r) {b : Nat} (hb : b < r.length) : least r b = true ↔ ∀ k, Leads r b k → b ≤ k := by
  unfold least
  rw [List.all_eq_true]
  constructor
  · intro hh k hk
    obtain ⟨m, hm, rfl⟩ := hk.small h hb
    exact of_decide_eq_true (hh m (List.mem_range.2 hm))
  · intro hh m _
    exact decide_eq_true (hh _ ⟨m, rfl⟩)

theorem least_of {r : List Int} (hr : IsRow r) : ∀ (b : Nat), b < r.length → ∃ k, k < r.length ∧ least r k = true ∧ Leads r k b := by
  intro b
  induction b using Nat.strongRecOn with
  | ind b ih =>
    intro hb
    by_cases hl : least r b = true
    · exact ⟨b, hb, hl, 0, rfl⟩
    · rw [least_iff hr hb] at hl
      obtain ⟨k, hk⟩ := Classical.not_forall.1 hl
      obtain ⟨h1, h2⟩ := Classical.not_imp.1 hk
      obtain ⟨m, h3, h4, h5⟩ := ih k (by omega) (h1.lt hr hb)
      exact ⟨m, h3, h4, h5.trans (h1.symm hr hb)⟩
theorem byL_row {a b : List Int} (ha : IsRow a) (hb : IsRow b) (hl : a.length = b.length) : IsRow (byL a b) := by
  refine ⟨by rw [byL_len]; exact hb.pos, row_all ?_ ?_⟩
  · unfold byL
    rw [List.nodup_iff_pairwise_ne, List.pairwise_iff_getElem]
    intro i j hi hj hij e
    simp only [List.length_map] at hi hj
    simp only [List.getElem_map] at e
    rw [gd b i hi, gd b j hj] at e
    have bi := hb.at hi
    have bj := hb.at hj
    have h1 := idxOf_at ha.nodup (k := (b.getD i 0).toNat) (by omega)
    have h2 := idxOf_at ha.nodup (k := (b.getD j 0).toNat) (by omega)
    rw [e] at h1
    have e2 : b.getD i 0 = b.getD j 0 := by omega
    have h3 := idxOf_at hb.nodup hi
    have h4 := idxOf_at hb.nodup hj
    rw [e2] at h3; omega
  · intro x hx
    unfold byL at hx
    obtain ⟨y, hy, rfl⟩ := List.mem_map.1 hx
    have := hb.bound y hy
    have := ha.at (i := y.toNat) (by omega)
    rw [byL_len]; omega

theorem row_perm {r : List Int} (h : IsRow r) : r.Perm (roundsL r.length) := by
  rw [List.perm_ext_iff_of_nodup h.nodup (roundsL_row h.pos).nodup]
  intro x
  constructor
  · intro hx
    have := h.bound x hx
    exact List.mem_map.2 ⟨x.toNat, List.mem_range.2 (by omega), by omega⟩
  · intro hx
    obtain ⟨k, hk, rfl⟩ := List.mem_map.1 hx
    exact h.mem (List.mem_range.1 hk)
end Go.KL.Pm

/- RANKIN: however the sets are left, there are as many circuits, even or odd, as the first alone makes. -/
namespace Go.KL
open Go.RowKit
/-! ### A chain's rows -/
section
variable {n k : Nat} {c : Nat → Lev} {gens L : List (List Int)}
theorem EltI.run {m : Nat} (hw : WC n c) (hk : k < n) (hL : EltK n gens c (k + 1) L) (hm : m = L.length) : ∀ (rest ks : List Int) (N : List (List Int)), EltI n c k m ks N → (∀ p ∈ rest, ((c k).orb p).isSome = true) → (ks ++ rest).Nodup → ∃ N', EltI n c k m (ks ++ rest) N'
  | [], ks, N, h, _, _ => ⟨N, by rw [List.append_nil]; exact h⟩
  | p :: rest, ks, N, h, h1, h2 => by
    obtain ⟨t, ht⟩ := Option.isSome_iff_exists.1 (h1 p (by simp))
    have hp : p ∉ ks := fun hc => (List.nodup_append.1 h2).2.2 p hc p (by simp) rfl
    have := EltI.run hw hk hL hm rest (ks ++ [p]) _ (h.step hw hk hL hm hp ht) (fun q hq => h1 q (by simp [hq])) (by rw [List.append_assoc]; exact h2)
    rw [List.append_assoc] at this
    exact this
theorem ChnOf.eltK (hc : ChnOf n gens c) (hG : ∀ x ∈ gens, RowN n x) : ∀ d, d ≤ n → ∃ L, EltK n gens c (n - d) L
  | 0, _ => ⟨_, EltK.start hc.wc⟩
  | d + 1, hd => by
    obtain ⟨L, hL⟩ := ChnOf.eltK hc hG d (by omega)
    rw [show n - d = (n - (d + 1)) + 1 by omega] at hL
    have hk : n - (d + 1) < n := by omega
    obtain ⟨N, hN⟩ := EltI.run hc.wc hk hL rfl (((List.range n).filter fun (p : Nat) => ((c (n - (d + 1))).orb (p : Int)).isSome).map fun (p : Nat) => (p : Int)) [] [] EltI.start (fun p hp => by
      obtain ⟨q, hq, rfl⟩ := List.mem_map.1 hp
      exact (List.mem_filter.1 hq).2) (by
      rw [List.nil_append]
      exact List.Pairwise.map (R := fun a b => a ≠ b) _ (fun a b h e => h (by omega)) (List.Pairwise.filter _ List.nodup_range))
    refine ⟨N, hN.done hc hG hk hL rfl fun p hp => ?_⟩
    obtain ⟨t, ht⟩ := Option.isSome_iff_exists.1 hp
    obtain ⟨h1, _, h3⟩ := (hc.wc.lev _ hk).pt p t ht
    have h4 := h1.at hk
    rw [h3] at h4
    rw [List.nil_append]
    refine List.mem_map.2 ⟨p.toNat, List.mem_filter.2 ⟨List.mem_range.2 (by omega), ?_⟩, by omega⟩
    rw [show ((p.toNat : Nat) : Int) = p by omega]; exact hp
theorem ChnOf.elts (hc : ChnOf n gens c) (hG : ∀ x ∈ gens, RowN n x) : ∃ F, EltsOk n gens F := by
  obtain ⟨L, hL⟩ := hc.eltK hG n (Nat.le_refl _)
  rw [Nat.sub_self] at hL
  exact ⟨ordS L, hL.sorted hc hG (ordS_perm L) (ordS_sort L)⟩
end
/-! ### Powers of one row -/
section
variable {n : Nat} {x y c r : List Int} {E gens : List (List Int)}
/-! ### What leads where, as permutations -/
end
/-! ### Circuits are cycles -/
section
variable {N i m f : Nat} {r : List Int}
end
end Go.KL

/- A group cut into parts: found one behind the other. -/
namespace Go.KL
open Go.RowKit
theorem find?_congr' {α : Type} {p q : α → Bool} : ∀ {l : List α}, (∀ a ∈ l, p a = q a) → l.find? p = l.find? q
  | [], _ => rfl
  | a :: l, h => by
    rw [List.find?_cons, List.find?_cons, h a (by simp), find?_congr' fun b hb => h b (by simp [hb])]
theorem len_allG {α : Type} {l : List (List α)} {o : Nat} (h : ∀ c ∈ l, c.length = o) : l.flatten.length = l.length * o := by
  induction l with
  | nil => simp
  | cons c l ih =>
    rw [List.flatten_cons, List.length_append, ih fun d hd => h d (by simp [hd]), h c (by simp), List.length_cons, Nat.succ_mul]; omega
def fndP (H R : List (List Int)) (r : List Int) : Option Nat := (List.range R.length).find? fun k => decide (byL r (undoL (R.getD k [])) ∈ H)
def prJ (G H R W : List (List Int)) (i : Nat) : Nat → List (List Int) × List (List Int) × List Int
  | 0 => (R, W, [])
  | j + 1 => let s := prJ G H R W i j; let r := byL (s.1.getD i []) (ltr G j); match fndP H s.1 r with
    | some k => (s.1, s.2.1, s.2.2 ++ [(k : Int)])
    | none => (s.1 ++ [r], s.2.1 ++ [s.2.1.getD i [] ++ [ltrN j]], s.2.2 ++ [(s.1.length : Int)])
def prI (n : Nat) (G H : List (List Int)) : Nat → List (List Int) × List (List Int) × List (List Int)
  | 0 => ([roundsL n], [[]], [])
  | i + 1 => let s := prI n G H i; let t := prJ G H s.1 s.2.1 i (2 * G.length); (t.1, t.2.1, s.2.2 ++ [t.2.2])
structure PrtP (n : Nat) (G H : List (List Int)) : Prop where
  hn : 1 ≤ n ∧ n ≤ 12
  hG : ∀ x ∈ G, RowN n x
  row : ∀ x ∈ H, RowN n x
  one : roundsL n ∈ H
  mul : ∀ x y, x ∈ H → y ∈ H → byL x y ∈ H
  inv : ∀ x, x ∈ H → undoL x ∈ H
  sub : ∀ x ∈ H, Cl n (fun y => y ∈ G) x
structure Reps (n : Nat) (G H R : List (List Int)) : Prop where
  ne : 0 < R.length
  z : R.getD 0 [] = roundsL n
  cl : ∀ x ∈ R, Cl n (fun y => y ∈ G) x
  dis : ∀ i j, i < R.length → j < R.length → byL (R.getD i []) (undoL (R.getD j [])) ∈ H → i = j
section
variable {n i j k m T : Nat} {G H R W F : List (List Int)} {r r' x y z : List Int} {f g : Int → Option Int}
theorem by_undo (hx : RowN n x) (hy : RowN n y) : undoL (byL x (undoL y)) = byL y (undoL x) := by
  have h1 := hx.by hy.undo
  refine by_canc h1.undo (hy.by hx.undo) h1 ?_
  rw [undo_left h1, ← by_as y hx.undo h1, by_as (undoL x) hx hy.undo, undo_left hx, byL_rounds_left hy.undo.bd, undo_right hy]
theorem by_back (hx : RowN n x) (hy : RowN n y) : byL (byL x (undoL y)) y = x := by rw [← by_as x hy.undo hy, undo_left hy, byL_rounds_right hx.len]
theorem by_fore (hx : RowN n x) (hy : RowN n y) : byL (byL x y) (undoL y) = x := by rw [← by_as x hy hy.undo, undo_right hy, byL_rounds_right hx.len]
abbrev sameP (H : List (List Int)) (x y : List Int) : Prop := byL x (undoL y) ∈ H
theorem PrtP.sym (h : PrtP n G H) (hx : RowN n x) (hy : RowN n y) (k : sameP H x y) : sameP H y x := by
  have := h.inv _ k
  rwa [by_undo hx hy] at this
theorem PrtP.trans (h : PrtP n G H) (hx : RowN n x) (hy : RowN n y) (hz : RowN n z) (a : sameP H x y) (b : sameP H y z) : sameP H x z := by
  have := h.mul _ _ a b
  rw [by_as _ hy hz.undo, by_back hx hy] at this
  exact this
theorem PrtP.refl (h : PrtP n G H) (hx : RowN n x) : sameP H x x := by unfold sameP; rw [undo_right hx]; exact h.one
theorem PrtP.left (h : PrtP n G H) (hx : RowN n x) (hy : RowN n y) (hyH : y ∈ H) : sameP H (byL y x) x := by unfold sameP; rw [by_fore hy hx]; exact hyH
theorem Reps.rows (h : PrtP n G H) (hR : Reps n G H R) (hk : k < R.length) : RowN n (R.getD k []) := (hR.cl _ (mem_atD [] hk)).row h.hn h.hG
theorem fnd_some (e : fndP H R r = some k) : k < R.length ∧ sameP H r (R.getD k []) := by
  unfold fndP at e
  have h1 := List.mem_of_find?_eq_some e
  have h2 := List.find?_some e
  exact ⟨List.mem_range.1 h1, of_decide_eq_true h2⟩
theorem fnd_is (h : PrtP n G H) (hR : Reps n G H R) (hr : RowN n r) (hk : k < R.length) (hs : sameP H r (R.getD k [])) : fndP H R r = some k := by
  cases e : fndP H R r with
  | none =>
    unfold fndP at e
    have := List.find?_eq_none.1 e k (List.mem_range.2 hk)
    exact absurd (decide_eq_true hs) this
  | some j =>
    obtain ⟨h1, h2⟩ := fnd_some e
    have hj := hR.rows h h1
    have := hR.dis j k h1 hk (h.trans hj hr (hR.rows h hk) (h.sym hr hj h2) hs)
    rw [this]
theorem fnd_none (e : fndP H R r = none) (hk : k < R.length) : ¬ sameP H r (R.getD k []) := fun hs => by
  unfold fndP at e
  exact absurd (decide_eq_true hs) (List.find?_eq_none.1 e k (List.mem_range.2 hk))
theorem getD_snoc {l : List (List Int)} {a : List Int} (hk : k < l.length) : (l ++ [a]).getD k [] = l.getD k [] := by
  simp [List.getD_eq_getElem?_getD, List.getElem?_append_left hk]
theorem getD_last {l : List (List Int)} {a : List Int} : (l ++ [a]).getD l.length [] = a := by simp [List.getD_eq_getElem?_getD]
theorem fnd_snoc : fndP H (R ++ [r]) r' = match fndP H R r' with
    | some k => some k
    | none => if sameP H r' r then some R.length else none := by
  unfold fndP
  have e : (List.range (R ++ [r]).length) = List.range R.length ++ [R.length] := by rw [List.length_append, List.length_singleton, List.range_succ]
  rw [e, List.find?_append]
  have e2 : (List.range R.length).find? (fun k => decide (byL r' (undoL ((R ++ [r]).getD k [])) ∈ H)) = (List.range R.length).find? (fun k => decide (byL r' (undoL (R.getD k [])) ∈ H)) := by
    refine find?_congr' fun a ha => ?_
    rw [getD_snoc (List.mem_range.1 ha)]
  rw [e2]
  cases (List.range R.length).find? (fun k => decide (byL r' (undoL (R.getD k [])) ∈ H)) with
  | some k => rfl
  | none =>
    simp only [Option.none_or, List.find?_cons, List.find?_nil, getD_last]
    by_cases hs : sameP H r' r
    · rw [if_pos hs]
      have : decide (byL r' (undoL r) ∈ H) = true := decide_eq_true hs
      rw [this]
    · rw [if_neg hs]
      have : decide (byL r' (undoL r) ∈ H) = false := decide_eq_false hs
      rw [this]
theorem Reps.start (h : PrtP n G H) : Reps n G H [roundsL n] where
  ne := by simp
  z := rfl
  cl x hx := by rw [List.mem_singleton.1 hx]; exact .one
  dis i j hi hj _ := by simp at hi hj; omega
theorem Reps.new (h : PrtP n G H) (hR : Reps n G H R) (hr : Cl n (fun y => y ∈ G) r) (e : fndP H R r = none) : Reps n G H (R ++ [r]) where
  ne := by simp
  z := by rw [getD_snoc hR.ne, hR.z]
  cl x hx := by
    rcases List.mem_append.1 hx with hx | hx
    · exact hR.cl x hx
    · rw [List.mem_singleton.1 hx]; exact hr
  dis i j hi hj hs := by
    have hrr := hr.row h.hn h.hG
    rw [List.length_append, List.length_singleton] at hi hj
    rcases Nat.lt_or_ge i R.length with h1 | h1 <;> rcases Nat.lt_or_ge j R.length with h2 | h2
    · rw [getD_snoc h1, getD_snoc h2] at hs; exact hR.dis i j h1 h2 hs
    · have ej : j = R.length := by omega
      subst ej
      rw [getD_snoc h1, getD_last] at hs
      exact absurd (h.sym (hR.rows h h1) hrr hs) (fnd_none e h1)
    · have ei : i = R.length := by omega
      subst ei
      rw [getD_snoc h2, getD_last] at hs
      exact absurd hs (fnd_none e h2)
    · omega
/-! ### Step by step -/
structure PrA (n : Nat) (G H R W : List (List Int)) (i j : Nat) (S : List (List Int) × List (List Int) × List Int) : Prop where
  reps : Reps n G H S.1
  len : R.length ≤ S.1.length
  wl : S.2.1.length = S.1.length
  ll : S.2.2.length = j
  lb : ∀ z ∈ S.2.2, 0 ≤ z ∧ z < S.1.length
theorem prJ_some (e : fndP H (prJ G H R W i j).1 (byL ((prJ G H R W i j).1.getD i []) (ltr G j)) = some k) : prJ G H R W i (j + 1) = ((prJ G H R W i j).1, (prJ G H R W i j).2.1, (prJ G H R W i j).2.2 ++ [(k : Int)]) := by
  rw [prJ]; simp only [e]
theorem prJ_none (e : fndP H (prJ G H R W i j).1 (byL ((prJ G H R W i j).1.getD i []) (ltr G j)) = none) : prJ G H R W i (j + 1) = ((prJ G H R W i j).1 ++ [byL ((prJ G H R W i j).1.getD i []) (ltr G j)], (prJ G H R W i j).2.1 ++ [(prJ G H R W i j).2.1.getD i [] ++ [ltrN j]], (prJ G H R W i j).2.2 ++ [((prJ G H R W i j).1.length : Int)]) := by
  rw [prJ]; simp only [e]
theorem prJ_ok (h : PrtP n G H) (hR : Reps n G H R) (hw : W.length = R.length) (hi : i < R.length) : ∀ j, j ≤ 2 * G.length → PrA n G H R W i j (prJ G H R W i j)
  | 0, _ => ⟨hR, Nat.le_refl _, hw, rfl, fun z hz => by cases hz⟩
  | j + 1, hj => by
    have ih := prJ_ok h hR hw hi j (by omega)
    have hil : i < (prJ G H R W i j).1.length := by have := ih.len; omega
    cases e : fndP H (prJ G H R W i j).1 (byL ((prJ G H R W i j).1.getD i []) (ltr G j)) with
    | some k =>
      have hk := (fnd_some e).1
      rw [prJ_some e]
      refine ⟨ih.reps, ih.len, ih.wl, by rw [List.length_append, ih.ll]; rfl, fun z hz => ?_⟩
      rcases List.mem_append.1 hz with hz | hz
      · exact ih.lb z hz
      · rw [List.mem_singleton.1 hz]; exact ⟨Int.natCast_nonneg k, Int.ofNat_lt.2 hk⟩
    | none =>
      rw [prJ_none e]
      have hc : Cl n (fun y => y ∈ G) (byL ((prJ G H R W i j).1.getD i []) (ltr G j)) := (ih.reps.cl _ (mem_atD [] hil)).prod h.hn h.hG (ltr_cl h.hn h.hG (by omega))
      refine ⟨ih.reps.new h hc e, ?_, ?_, by rw [List.length_append, ih.ll]; rfl, fun z hz => ?_⟩
      · have := ih.len; show R.length ≤ (_ ++ [_]).length; rw [List.length_append, List.length_singleton]; omega
      · show (_ ++ [_]).length = (_ ++ [_]).length
        rw [List.length_append, List.length_append, ih.wl]; rfl
      · show 0 ≤ z ∧ z < (((_ ++ [_] : List (List Int)).length : Nat) : Int)
        rw [List.length_append, List.length_singleton]
        rcases List.mem_append.1 hz with hz | hz
        · have := ih.lb z hz; omega
        · rw [List.mem_singleton.1 hz]; omega
structure PrB (n : Nat) (G H : List (List Int)) (i : Nat) (S : List (List Int) × List (List Int) × List (List Int)) : Prop where
  reps : Reps n G H S.1
  wl : S.2.1.length = S.1.length
  nl : S.2.2.length = i
theorem prI_ok (h : PrtP n G H) : ∀ i, (∀ i', i' < i → i' < (prI n G H i').1.length) → PrB n G H i (prI n G H i)
  | 0, _ => ⟨Reps.start h, rfl, rfl⟩
  | i + 1, hl => by
    have ih := prI_ok h i fun i' hi' => hl i' (by omega)
    have hj := prJ_ok h ih.reps ih.wl (hl i (by omega)) (2 * G.length) (Nat.le_refl _)
    rw [prI]
    exact ⟨hj.reps, hj.wl, by show (_ ++ [_]).length = _; rw [List.length_append, ih.nl]; rfl⟩
/-! ### Not too many -/
theorem Reps.few (h : PrtP n G H) (hR : Reps n G H R) (hnd : H.Nodup) (hF : EltsOk n G F) : R.length * H.length ≤ F.length := by
  have h1 := nd_sub (a := (R.map fun r => H.map fun y => byL y r).flatten) (b := F) (by
    rw [List.nodup_iff_pairwise_ne, List.pairwise_flatten]
    constructor
    · intro c hc
      obtain ⟨r, hr, rfl⟩ := List.mem_map.1 hc
      refine List.pairwise_map.2 (hnd.imp_of_mem fun {a b} ha hb hne e => hne ?_)
      exact by_canc (h.row a ha) (h.row b hb) ((hR.cl r hr).row h.hn h.hG) e
    · rw [List.pairwise_map, List.pairwise_iff_getElem]
      intro i j hi hj hij x hx y hy e
      subst e
      obtain ⟨a, ha, e1⟩ := List.mem_map.1 hx
      obtain ⟨b, hb, e2⟩ := List.mem_map.1 hy
      have g1 : R[i] = R.getD i [] := by simp [hi]
      have g2 : R[j] = R.getD j [] := by simp [hj]
      rw [g1] at e1; rw [g2] at e2
      have r1 := hR.rows h hi
      have r2 := hR.rows h hj
      have s1 : sameP H x (R.getD i []) := by rw [← e1]; exact h.left r1 (h.row a ha) ha
      have s2 : sameP H x (R.getD j []) := by rw [← e2]; exact h.left r2 (h.row b hb) hb
      have hx : RowN n x := by rw [← e1]; exact (h.row a ha).by r1
      have := hR.dis i j hi hj (h.trans r1 hx r2 (h.sym hx r1 s1) s2)
      omega) fun x hx => by
    obtain ⟨c, hc, hx⟩ := List.mem_flatten.1 hx
    obtain ⟨r, hr, rfl⟩ := List.mem_map.1 hc
    obtain ⟨a, ha, rfl⟩ := List.mem_map.1 hx
    exact (hF.mem _).2 ((h.sub a ha).prod h.hn h.hG (hR.cl r hr))
  have h2 : (R.map fun r => H.map fun y => byL y r).flatten.length = (R.map fun r => H.map fun y => byL y r).length * H.length := len_allG (l := R.map fun r => H.map fun y => byL y r) fun c hc => by
    obtain ⟨r, _, rfl⟩ := List.mem_map.1 hc
    rw [List.length_map]
  rw [h2, List.length_map] at h1
  exact h1
/-! ### The program's name of a part -/
/-! ### Maps -/
end
end Go.KL

/- Parts of a group: the program's loop and the document's. -/
namespace Go.KL
open Go.RowKit
structure PrS (n : Nat) (G H : List (List Int)) (i : Nat) (R W N : List (List Int)) : Prop where
  eq : prI n G H i = (R, W, N)
  lt : ∀ i', i' < i → i' < (prI n G H i').1.length
structure PrT (G H R W : List (List Int)) (i j : Nat) (R2 W2 : List (List Int)) (l2 : List Int) : Prop where
  eq : prJ G H R W i j = (R2, W2, l2)
section
variable {n i j k T : Nat} {G H R W N R2 W2 F : List (List Int)} {l2 r : List Int} {f : Int → Option Int}
theorem PrS.start : PrS n G H 0 [roundsL n] [[]] [] := ⟨rfl, fun i' h => by omega⟩
theorem PrS.ok (h : PrtP n G H) (s : PrS n G H i R W N) : Reps n G H R ∧ W.length = R.length ∧ N.length = i := by
  have := prI_ok h i s.lt
  rw [s.eq] at this
  exact ⟨this.reps, this.wl, this.nl⟩
theorem PrT.start : PrT G H R W i 0 R W [] := ⟨rfl⟩
theorem PrT.ok (h : PrtP n G H) (hR : Reps n G H R) (hw : W.length = R.length) (hi : i < R.length) (hj : j ≤ 2 * G.length) (t : PrT G H R W i j R2 W2 l2) : Reps n G H R2 ∧ R.length ≤ R2.length ∧ W2.length = R2.length ∧ l2.length = j ∧ ∀ z ∈ l2, 0 ≤ z ∧ z < R2.length := by
  have := prJ_ok h hR hw hi j hj
  rw [t.eq] at this
  exact ⟨this.reps, this.len, this.wl, this.ll, this.lb⟩
theorem PrT.old (t : PrT G H R W i j R2 W2 l2) (e : fndP H R2 (byL (R2.getD i []) (ltr G j)) = some k) : PrT G H R W i (j + 1) R2 W2 (l2 ++ [(k : Int)]) := by
  have e' : fndP H (prJ G H R W i j).1 (byL ((prJ G H R W i j).1.getD i []) (ltr G j)) = some k := by rw [t.eq]; exact e
  exact ⟨by rw [prJ_some e', t.eq]⟩
theorem PrT.new (t : PrT G H R W i j R2 W2 l2) (e : fndP H R2 (byL (R2.getD i []) (ltr G j)) = none) : PrT G H R W i (j + 1) (R2 ++ [byL (R2.getD i []) (ltr G j)]) (W2 ++ [W2.getD i [] ++ [ltrN j]]) (l2 ++ [((R2.length : Nat) : Int)]) := by
  have e' : fndP H (prJ G H R W i j).1 (byL ((prJ G H R W i j).1.getD i []) (ltr G j)) = none := by rw [t.eq]; exact e
  exact ⟨by rw [prJ_none e', t.eq]⟩
theorem PrS.next (s : PrS n G H i R W N) (hi : i < R.length) (t : PrT G H R W i (2 * G.length) R2 W2 l2) : PrS n G H (i + 1) R2 W2 (N ++ [l2]) := by
  refine ⟨by rw [prI, s.eq]; simp only [t.eq], fun i' h => ?_⟩
  rcases Nat.lt_or_ge i' i with h1 | h1
  · exact s.lt i' h1
  · have : i' = i := by omega
    subst this; rw [s.eq]; exact hi
end
/-! ### The part of a row -/
section
variable {n : Nat} {H R : List (List Int)} {r : List Int}
end
/-! ### What is made -/
section
variable {n : Nat} {G S H F : List (List Int)} {c : Nat → Lev} {x : List Int}
end
end Go.KL

/- Parts of a group: the law. -/
namespace Go.KL
open Go.RowKit
section
variable {n k m T T2 most : Nat} {G S H D R W N R2 W2 N2 F L V : List (List Int)} {r : List Int}
/-! ### The document's search -/
/-! ### Errors -/
theorem sz_app (hn : 1 ≤ n ∧ n ≤ 12) (hG : ∀ x ∈ G, RowN n x) (hS : ∀ x ∈ S, RowN n x) : szTo n (fun y => y ∈ G ++ S) n = szTo n (fun y => y ∈ G) n ↔ ∀ x ∈ S, Cl n (fun y => y ∈ G) x := by
  have hGS : ∀ x ∈ G ++ S, RowN n x := fun x hx => (List.mem_append.1 hx).elim (hG x) (hS x)
  have hup : ∀ r, Cl n (fun y => y ∈ G) r → Cl n (fun y => y ∈ G ++ S) r := fun r h => h.sub hn hGS fun x hx => Cl.gen (S := fun y => y ∈ G ++ S) hGS (List.mem_append_left _ hx)
  constructor
  · intro he x hx
    exact sz_same hn hGS hG hup he.symm x (Cl.gen (S := fun y => y ∈ G ++ S) hGS (List.mem_append_right _ hx))
  · intro h
    refine szTo_congr (fun r => ⟨fun hr => hr.sub hn hG fun x hx => ?_, hup r⟩) n
    rcases List.mem_append.1 hx with hx | hx
    · exact Cl.gen (S := fun y => y ∈ G) hG hx
    · exact h x hx
end
section
variable {n : Nat} {z : Int} {G S : List (List Int)}
theorem may_nat (h : gensMay (n : Int) G = 0) : (1 ≤ n ∧ n ≤ 12) ∧ G.length ≤ 8 ∧ ∀ x ∈ G, RowN n x := by
  obtain ⟨⟨h1, h2, h3⟩, h4⟩ := gensMay_ok h
  refine ⟨by omega, h3, fun x hx => ?_⟩
  obtain ⟨a, ha, rfl⟩ := List.getElem_of_mem hx
  obtain ⟨h5, h6⟩ := h4 a ha
  rw [show G.getD a [] = G[a] by simp [ha]] at h5 h6
  exact ⟨h5, by omega⟩
theorem may_int (h : gensMay z G = 0) : ∃ m : Nat, z = (m : Int) := by
  obtain ⟨⟨h1, _, _⟩, _⟩ := gensMay_ok h
  exact ⟨z.toNat, by omega⟩
end
end Go.KL

/- LAGRANGE: parts of a group, and where each letter leads. -/
namespace Go.KL
open Go.RowKit
/-! ### Words -/
def genL (G : List (List Int)) (k : Int) : List Int := if k < 0 then undoL (G.getD (-k - 1).toNat []) else G.getD (k - 1).toNat []
def badW (G : List (List Int)) (w : List Int) : Nat → Bool
  | 0 => false
  | j + 1 => badW G w j || decide (w.getD j 0 = 0 ∨ (G.length : Int) < w.getD j 0 ∨ w.getD j 0 < -(G.length : Int))
def sayT (n : Nat) (G : List (List Int)) (w : List Int) : Nat → List Int
  | 0 => roundsL n
  | j + 1 => byL (sayT n G w j) (genL G (w.getD j 0))
def sayE (G : List (List Int)) (w : List Int) : Int := if 20000 < w.length then 3 else if badW G w w.length = true then 12 else 0
def sayR (n : Nat) (G : List (List Int)) (w : List Int) : List Int := if sayE G w = 0 then sayT n G w w.length else []
section
variable {n i j k T : Nat} {G H R W N R2 W2 F : List (List Int)} {w l2 r x y z : List Int}
theorem badW_no : ∀ {k : Nat}, badW G w k = false → ∀ j, j < k → w.getD j 0 ≠ 0 ∧ w.getD j 0 ≤ G.length ∧ -(G.length : Int) ≤ w.getD j 0
  | 0, _, j, hj => by omega
  | k + 1, h, j, hj => by
    rw [badW, Bool.or_eq_false_iff] at h
    have h2 := of_decide_eq_false h.2
    by_cases e : j = k
    · subst e; omega
    · exact badW_no h.1 j (by omega)
theorem badW_yes : ∀ {k j : Nat}, j < k → (w.getD j 0 = 0 ∨ (G.length : Int) < w.getD j 0 ∨ w.getD j 0 < -(G.length : Int)) → badW G w k = true
  | 0, j, hj, _ => by omega
  | k + 1, j, hj, h => by
    rw [badW, Bool.or_eq_true]
    by_cases e : j = k
    · subst e; exact .inr (decide_eq_true h)
    · exact .inl (badW_yes (by omega) h)
theorem badW_succ (h : badW G w k = false) (h2 : ¬ (w.getD k 0 = 0 ∨ (G.length : Int) < w.getD k 0 ∨ w.getD k 0 < -(G.length : Int))) : badW G w (k + 1) = false := by rw [badW, h, Bool.false_or]; exact decide_eq_false h2
theorem say_3 (h : 20000 < w.length) : sayE G w = 3 ∧ sayR n G w = [] := by
  have e : sayE G w = 3 := if_pos h
  exact ⟨e, by unfold sayR; rw [e]; rfl⟩
theorem say_12 (h : ¬ 20000 < w.length) (h2 : badW G w w.length = true) : sayE G w = 12 ∧ sayR n G w = [] := by
  have e : sayE G w = 12 := by unfold sayE; rw [if_neg h, if_pos h2]
  exact ⟨e, by unfold sayR; rw [e]; rfl⟩
theorem say_0 (h : ¬ 20000 < w.length) (h2 : badW G w w.length = false) : sayE G w = 0 ∧ sayR n G w = sayT n G w w.length := by
  have e : sayE G w = 0 := by unfold sayE; rw [if_neg h, h2]; rfl
  exact ⟨e, by unfold sayR; rw [if_pos e]⟩
theorem gen_row (hG : ∀ x ∈ G, RowN n x) {k : Int} (h0 : k ≠ 0) (h1 : k ≤ G.length) (h2 : -(G.length : Int) ≤ k) : RowN n (genL G k) := by
  unfold genL
  split
  · exact (hG _ (mem_atD [] (by omega))).undo
  · exact hG _ (mem_atD [] (by omega))
theorem say_row (hn : 1 ≤ n ∧ n ≤ 12) (hG : ∀ x ∈ G, RowN n x) : ∀ {j : Nat}, badW G w j = false → RowN n (sayT n G w j)
  | 0, _ => rounds_rowN hn
  | j + 1, h => by
    have h1 : badW G w j = false := by rw [badW, Bool.or_eq_false_iff] at h; exact h.1
    obtain ⟨a, b, c⟩ := badW_no h j (by omega)
    exact (say_row hn hG h1).by (gen_row hG a b c)
theorem gen_ltr (hj : j < 2 * G.length) : genL G (ltrN j) = ltr G j ∧ ltrN j ≠ 0 ∧ ltrN j ≤ G.length ∧ -(G.length : Int) ≤ ltrN j := by
  unfold genL ltrN ltr
  by_cases h : j % 2 = 1
  · rw [if_pos h, if_pos h, if_pos (by omega)]
    refine ⟨?_, by omega, by omega, by omega⟩
    rw [show (-(-((j / 2 + 1 : Nat) : Int)) - 1).toNat = j / 2 by omega]
  · rw [if_neg h, if_neg h, if_neg (by omega)]
    refine ⟨?_, by omega, by omega, by omega⟩
    rw [show (((j / 2 + 1 : Nat) : Int) - 1).toNat = j / 2 by omega]
theorem badW_app {b : Int} : ∀ {k : Nat}, k ≤ w.length → badW G (w ++ [b]) k = badW G w k
  | 0, _ => rfl
  | k + 1, h => by
    rw [badW, badW, badW_app (by omega)]
    have : (w ++ [b]).getD k 0 = w.getD k 0 := by simp [List.getD_eq_getElem?_getD, List.getElem?_append_left (show k < w.length by omega)]
    rw [this]
theorem sayT_app {b : Int} : ∀ {k : Nat}, k ≤ w.length → sayT n G (w ++ [b]) k = sayT n G w k
  | 0, _ => rfl
  | k + 1, h => by
    rw [sayT, sayT, sayT_app (by omega)]
    have : (w ++ [b]).getD k 0 = w.getD k 0 := by simp [List.getD_eq_getElem?_getD, List.getElem?_append_left (show k < w.length by omega)]
    rw [this]
structure WordP (n : Nat) (G : List (List Int)) (w r : List Int) : Prop where
  ok : badW G w w.length = false
  eq : sayT n G w w.length = r
theorem WordP.nil : WordP n G [] (roundsL n) := ⟨rfl, rfl⟩
theorem WordP.snoc (h : WordP n G w r) (hj : j < 2 * G.length) : WordP n G (w ++ [ltrN j]) (byL r (ltr G j)) := by
  obtain ⟨a, b, c, d⟩ := gen_ltr (G := G) hj
  have e : (w ++ [ltrN j]).getD w.length 0 = ltrN j := by simp [List.getD_eq_getElem?_getD]
  refine ⟨?_, ?_⟩
  · rw [List.length_append, List.length_singleton]
    refine badW_succ (by rw [badW_app (Nat.le_refl _)]; exact h.ok) ?_
    rw [e]; omega
  · rw [List.length_append, List.length_singleton, sayT, sayT_app (Nat.le_refl _), h.eq, e, a]
/-! ### What every step keeps -/
structure PrW (n : Nat) (G H R W : List (List Int)) (i : Nat) (S : List (List Int) × List (List Int) × List Int) : Prop where
  word : ∀ k, k < S.1.length → WordP n G (S.2.1.getD k []) (S.1.getD k [])
  old : ∀ k, k < R.length → S.1.getD k [] = R.getD k []
  fnd : ∀ r k, fndP H R r = some k → fndP H S.1 r = some k
  line : ∀ j, j < S.2.2.length → fndP H S.1 (byL (R.getD i []) (ltr G j)) = some (S.2.2.getD j 0).toNat
theorem prJ_w (hP : PrtP n G H) (hR : Reps n G H R) (hw : W.length = R.length) (hW : ∀ k, k < R.length → WordP n G (W.getD k []) (R.getD k [])) (hi : i < R.length) : ∀ j, j ≤ 2 * G.length → PrW n G H R W i (prJ G H R W i j)
  | 0, _ => ⟨hW, fun _ _ => rfl, fun _ _ h => h, fun j h => by simp [prJ] at h⟩
  | j + 1, hj => by
    have ih := prJ_w hP hR hw hW hi j (by omega)
    have ok := prJ_ok hP hR hw hi j (by omega)
    have hlen := ok.len
    have hll := ok.ll
    have hcur : (prJ G H R W i j).1.getD i [] = R.getD i [] := ih.old i hi
    cases e : fndP H (prJ G H R W i j).1 (byL ((prJ G H R W i j).1.getD i []) (ltr G j)) with
    | some k =>
      rw [prJ_some e]
      refine ⟨ih.word, ih.old, ih.fnd, fun j' hj' => ?_⟩
      have hj' : j' < ((prJ G H R W i j).2.2 ++ [(k : Int)]).length := hj'
      rw [List.length_append, List.length_singleton] at hj'
      show fndP H _ _ = some (((prJ G H R W i j).2.2 ++ [(k : Int)]).getD j' 0).toNat
      by_cases h : j' = j
      · subst h
        rw [hcur] at e
        rw [e]
        have : ((prJ G H R W i j').2.2 ++ [(k : Int)]).getD j' 0 = (k : Int) := by
          conv => lhs; rw [← hll]
          simp [List.getD_eq_getElem?_getD, hll]
        rw [this]; rfl
      · rw [ih.line j' (by omega)]
        have : ((prJ G H R W i j).2.2 ++ [(k : Int)]).getD j' 0 = (prJ G H R W i j).2.2.getD j' 0 := by simp [List.getD_eq_getElem?_getD, List.getElem?_append_left (show j' < (prJ G H R W i j).2.2.length by omega)]
        rw [this]
    | none =>
      rw [prJ_none e]
      have mono : ∀ r k, fndP H (prJ G H R W i j).1 r = some k → fndP H ((prJ G H R W i j).1 ++ [byL ((prJ G H R W i j).1.getD i []) (ltr G j)]) r = some k := fun r k h => by rw [fnd_snoc, h]
      refine ⟨fun k hk => ?_, fun k hk => ?_, fun r k h => mono r k (ih.fnd r k h), fun j' hj' => ?_⟩
      · have hk : k < ((prJ G H R W i j).1 ++ [byL ((prJ G H R W i j).1.getD i []) (ltr G j)]).length := hk
        rw [List.length_append, List.length_singleton] at hk
        show WordP n G (((prJ G H R W i j).2.1 ++ [(prJ G H R W i j).2.1.getD i [] ++ [ltrN j]]).getD k []) (((prJ G H R W i j).1 ++ [byL ((prJ G H R W i j).1.getD i []) (ltr G j)]).getD k [])
        by_cases h : k < (prJ G H R W i j).1.length
        · rw [getD_snoc h, getD_snoc (by rw [ok.wl]; exact h)]; exact ih.word k h
        · have ek : k = (prJ G H R W i j).1.length := by omega
          subst ek
          rw [getD_last]
          conv => arg 3; rw [← ok.wl]
          rw [getD_last]
          exact (ih.word i (by omega)).snoc (by omega)
      · show (_ ++ [_] : List (List Int)).getD k [] = _
        rw [getD_snoc (by omega)]; exact ih.old k hk
      · have hj' : j' < ((prJ G H R W i j).2.2 ++ [((prJ G H R W i j).1.length : Int)]).length := hj'
        rw [List.length_append, List.length_singleton] at hj'
        show fndP H _ _ = some (((prJ G H R W i j).2.2 ++ [((prJ G H R W i j).1.length : Int)]).getD j' 0).toNat
        by_cases h : j' = j
        · subst h
          have hrr : RowN n (byL (R.getD i []) (ltr G j')) := (hR.rows hP hi).by (ltr_row hP.hG (by omega)).1
          have : ((prJ G H R W i j').2.2 ++ [((prJ G H R W i j').1.length : Int)]).getD j' 0 = ((prJ G H R W i j').1.length : Int) := by
            conv => lhs; rw [← hll]
            simp [List.getD_eq_getElem?_getD, hll]
          rw [this, fnd_snoc]
          rw [hcur] at e ⊢
          rw [e]
          simp only [if_pos (hP.refl hrr)]; rfl
        · rw [mono _ _ (ih.line j' (by omega))]
          have : ((prJ G H R W i j).2.2 ++ [((prJ G H R W i j).1.length : Int)]).getD j' 0 = (prJ G H R W i j).2.2.getD j' 0 := by simp [List.getD_eq_getElem?_getD, List.getElem?_append_left (show j' < (prJ G H R W i j).2.2.length by omega)]
          rw [this]
structure PrV (n : Nat) (G H : List (List Int)) (S : List (List Int) × List (List Int) × List (List Int)) : Prop where
  word : ∀ k, k < S.1.length → WordP n G (S.2.1.getD k []) (S.1.getD k [])
  line : ∀ i, i < S.2.2.length → ∀ j, j < 2 * G.length → fndP H S.1 (byL (S.1.getD i []) (ltr G j)) = some ((S.2.2.getD i []).getD j 0).toNat
theorem prI_v (hP : PrtP n G H) : ∀ i, (∀ i', i' < i → i' < (prI n G H i').1.length) → PrV n G H (prI n G H i)
  | 0, _ => ⟨fun k hk => by
      have hk : k < [roundsL n].length := hk
      have : k = 0 := by simp at hk; omega
      subst this; exact WordP.nil, fun i hi => by simp [prI] at hi⟩
  | i + 1, hl => by
    have ih := prI_v hP i fun i' hi' => hl i' (by omega)
    have ok := prI_ok hP i fun i' hi' => hl i' (by omega)
    have hi := hl i (by omega)
    have w := prJ_w hP ok.reps ok.wl ih.word hi (2 * G.length) (Nat.le_refl _)
    have okj := prJ_ok hP ok.reps ok.wl hi (2 * G.length) (Nat.le_refl _)
    rw [prI]
    refine ⟨w.word, fun i' hi' j hj => ?_⟩
    have hi' : i' < ((prI n G H i).2.2 ++ [(prJ G H (prI n G H i).1 (prI n G H i).2.1 i (2 * G.length)).2.2]).length := hi'
    rw [List.length_append, List.length_singleton, ok.nl] at hi'
    show fndP H (prJ G H (prI n G H i).1 (prI n G H i).2.1 i (2 * G.length)).1 (byL ((prJ G H (prI n G H i).1 (prI n G H i).2.1 i (2 * G.length)).1.getD i' []) (ltr G j)) = some ((((prI n G H i).2.2 ++ [(prJ G H (prI n G H i).1 (prI n G H i).2.1 i (2 * G.length)).2.2]).getD i' []).getD j 0).toNat
    by_cases h : i' < i
    · rw [getD_snoc (by rw [ok.nl]; exact h), w.old i' (by omega)]
      exact w.fnd _ _ (ih.line i' (by rw [ok.nl]; exact h) j hj)
    · have e : i' = i := by omega
      subst e
      rw [w.old i' hi]
      have e2 : ((prI n G H i').2.2 ++ [(prJ G H (prI n G H i').1 (prI n G H i').2.1 i' (2 * G.length)).2.2]).getD i' [] = (prJ G H (prI n G H i').1 (prI n G H i').2.1 i' (2 * G.length)).2.2 := by
        have := getD_last (l := (prI n G H i').2.2) (a := (prJ G H (prI n G H i').1 (prI n G H i').2.1 i' (2 * G.length)).2.2)
        rwa [ok.nl] at this
      rw [e2]
      exact w.line j (by rw [okj.ll]; exact hj)
theorem PrS.v (hP : PrtP n G H) (s : PrS n G H T R W N) : PrV n G H (R, W, N) := by
  have := prI_v hP T s.lt
  rwa [s.eq] at this
/-! ### All of the group -/
theorem same_mul (hx : RowN n x) (hy : RowN n y) (hz : RowN n z) (h : sameP H x y) : sameP H (byL x z) (byL y z) := by
  have e : byL (byL x z) (undoL (byL y z)) = byL x (undoL y) := by
    refine by_canc ((hx.by hz).by (hy.by hz).undo) (hx.by hy.undo) (hy.by hz) ?_
    rw [by_back (hx.by hz) (hy.by hz), by_as _ hy hz, by_back hx hy]
  show byL (byL x z) (undoL (byL y z)) ∈ H
  rw [e]; exact h
theorem cover (hP : PrtP n G H) (s : PrS n G H T R W N) (hT : R.length = T) {g : List Int} (hg : Cl n (fun y => y ∈ G) g) : ∃ k, k < R.length ∧ sameP H g (R.getD k []) := by
  have v := s.v hP
  obtain ⟨hR, _, hnl⟩ := s.ok hP
  have key : ∀ {y : List Int}, Cl n (fun y => y ∈ G) y → ∀ z, RowN n z → (∃ k, k < R.length ∧ sameP H z (R.getD k [])) → ∃ k, k < R.length ∧ sameP H (byL z y) (R.getD k []) := by
    intro y hy
    induction hy with
    | one => intro z hz h; rw [byL_rounds_right hz.len]; exact h
    | @mul x y hx hy ih =>
      intro z hz ⟨k, hk, hs⟩
      have hxr := hP.hG x hx
      have hyr := hy.row hP.hn hP.hG
      rw [by_as z hxr hyr]
      refine ih (byL z x) (hz.by hxr) ?_
      obtain ⟨a, ha, ea⟩ := List.getElem_of_mem hx
      have hl := v.line k (by show k < N.length; omega) (2 * a) (by omega)
      have el : ltr G (2 * a) = x := by
        unfold ltr
        rw [if_neg (by omega), show 2 * a / 2 = a by omega, ← ea]; simp [ha]
      rw [el] at hl
      obtain ⟨h1, h2⟩ := fnd_some hl
      have hkr := hR.rows hP hk
      exact ⟨_, h1, hP.trans (hz.by hxr) (hkr.by hxr) (hR.rows hP h1) (same_mul hz hkr hxr hs) h2⟩
  have hz := rounds_rowN hP.hn
  have := key hg (roundsL n) hz ⟨0, hR.ne, by rw [hR.z]; exact hP.refl hz⟩
  rwa [byL_rounds_left (hg.row hP.hn hP.hG).bd] at this
end
end Go.KL

/- Words: the enumeration of a group's rows, one behind the other. -/
namespace Go.KL
open Go.RowKit
section
variable {n i j k T : Nat} {G R W N R2 W2 L : List (List Int)} {r w w' l2 : List Int}
theorem one_prt (hn : 1 ≤ n ∧ n ≤ 12) (hG : ∀ x ∈ G, RowN n x) : PrtP n G [roundsL n] where
  hn := hn
  hG := hG
  row x hx := by rw [List.mem_singleton.1 hx]; exact rounds_rowN hn
  one := by simp
  mul x y hx hy := by rw [List.mem_singleton.1 hx, List.mem_singleton.1 hy, byL_rounds_right (roundsL_len n)]; simp
  inv x hx := by rw [List.mem_singleton.1 hx, undo_rounds hn]; simp
  sub x hx := by rw [List.mem_singleton.1 hx]; exact .one
theorem same_one (hx : RowN n r) (hy : RowN n w) : sameP [roundsL n] r w ↔ r = w := by
  constructor
  · intro h
    have h : byL r (undoL w) = roundsL n := List.mem_singleton.1 h
    have := by_back hx hy
    rw [h, byL_rounds_left hy.bd] at this
    exact this.symm
  · rintro rfl; exact List.mem_singleton.2 (undo_right hx)
theorem fnd_in (hn : 1 ≤ n ∧ n ≤ 12) (hG : ∀ x ∈ G, RowN n x) (hR : Reps n G [roundsL n] R) (hr : RowN n r) (h : r ∈ R) : ∃ k, fndP [roundsL n] R r = some k := by
  obtain ⟨k, hk, rfl⟩ := List.getElem_of_mem h
  have e : R.getD k [] = R[k] := by simp [hk]
  exact ⟨k, fnd_is (one_prt hn hG) hR hr hk (by rw [e]; exact (same_one hr hr).2 rfl)⟩
theorem fnd_out (hn : 1 ≤ n ∧ n ≤ 12) (hG : ∀ x ∈ G, RowN n x) (hR : Reps n G [roundsL n] R) (hr : RowN n r) (h : r ∉ R) : fndP [roundsL n] R r = none := by
  cases e : fndP [roundsL n] R r with
  | none => rfl
  | some k =>
    obtain ⟨h1, h2⟩ := fnd_some e
    have hk := hR.rows (one_prt hn hG) h1
    rw [(same_one hr hk).1 h2] at h
    exact absurd (mem_atD [] h1) h
structure ClX (n : Nat) (G L W : List (List Int)) (i j : Nat) : Prop where
  x : ∃ R0 W0 N0 l2, PrS n G [roundsL n] i R0 W0 N0 ∧ i < R0.length ∧ PrT G [roundsL n] R0 W0 i j L W l2
structure ClY (n : Nat) (G L W : List (List Int)) (i : Nat) : Prop where
  y : ∃ N0, PrS n G [roundsL n] i L W N0
theorem ClY.start : ClY n G [roundsL n] [[]] 0 := ⟨_, PrS.start⟩
theorem ClY.go (h : ClY n G L W i) (hi : i < L.length) : ClX n G L W i 0 := by
  obtain ⟨N0, s⟩ := h.y
  exact ⟨L, W, N0, [], s, hi, PrT.start⟩
theorem ClX.reps (hn : 1 ≤ n ∧ n ≤ 12) (hG : ∀ x ∈ G, RowN n x) (h : ClX n G L W i j) (hj : j ≤ 2 * G.length) : Reps n G [roundsL n] L ∧ W.length = L.length ∧ i < L.length := by
  obtain ⟨R0, W0, N0, l2, s, hi, t⟩ := h.x
  obtain ⟨hR, hwl, _⟩ := s.ok (one_prt hn hG)
  obtain ⟨h1, h2, h3, _⟩ := t.ok (one_prt hn hG) hR hwl hi hj
  exact ⟨h1, h3, by omega⟩
theorem ClX.old (hn : 1 ≤ n ∧ n ≤ 12) (hG : ∀ x ∈ G, RowN n x) (h : ClX n G L W i j) (hj : j < 2 * G.length) (hm : byL (L.getD i []) (ltr G j) ∈ L) : ClX n G L W i (j + 1) := by
  obtain ⟨hR, _, hi'⟩ := h.reps hn hG (by omega)
  obtain ⟨R0, W0, N0, l2, s, hi, t⟩ := h.x
  obtain ⟨k, hk⟩ := fnd_in hn hG hR ((hR.rows (one_prt hn hG) hi').by (ltr_row hG hj).1) hm
  exact ⟨R0, W0, N0, _, s, hi, t.old hk⟩
theorem ClX.new (hn : 1 ≤ n ∧ n ≤ 12) (hG : ∀ x ∈ G, RowN n x) (h : ClX n G L W i j) (hj : j < 2 * G.length) (hm : byL (L.getD i []) (ltr G j) ∉ L) : ClX n G (L ++ [byL (L.getD i []) (ltr G j)]) (W ++ [W.getD i [] ++ [ltrN j]]) i (j + 1) := by
  obtain ⟨hR, _, hi'⟩ := h.reps hn hG (by omega)
  obtain ⟨R0, W0, N0, l2, s, hi, t⟩ := h.x
  exact ⟨R0, W0, N0, _, s, hi, t.new (fnd_out hn hG hR ((hR.rows (one_prt hn hG) hi').by (ltr_row hG hj).1) hm)⟩
theorem ClX.next (h : ClX n G L W i (2 * G.length)) : ClY n G L W (i + 1) := by
  obtain ⟨R0, W0, N0, l2, s, hi, t⟩ := h.x
  exact ⟨_, s.next hi t⟩
def WordOf (n : Nat) (G : List (List Int)) (r w : List Int) : Prop := ∃ i R W k, ClY n G R W i ∧ k < R.length ∧ R.getD k [] = r ∧ W.getD k [] = w
theorem prJ_pre (j : Nat) : ∃ A B, (prJ G [roundsL n] R W i j).1 = R ++ A ∧ (prJ G [roundsL n] R W i j).2.1 = W ++ B := by
  induction j with
  | zero => exact ⟨[], [], by simp [prJ], by simp [prJ]⟩
  | succ j ih =>
    obtain ⟨A, B, a, b⟩ := ih
    cases e : fndP [roundsL n] (prJ G [roundsL n] R W i j).1 (byL ((prJ G [roundsL n] R W i j).1.getD i []) (ltr G j)) with
    | some k => rw [prJ_some e]; exact ⟨A, B, a, b⟩
    | none => rw [prJ_none e]; exact ⟨_, _, by rw [a, List.append_assoc], by rw [b, List.append_assoc]⟩
theorem prI_pre (d : Nat) : ∃ A B, (prI n G [roundsL n] (i + d)).1 = (prI n G [roundsL n] i).1 ++ A ∧ (prI n G [roundsL n] (i + d)).2.1 = (prI n G [roundsL n] i).2.1 ++ B := by
  induction d with
  | zero => exact ⟨[], [], by simp, by simp⟩
  | succ d ih =>
    obtain ⟨A, B, a, b⟩ := ih
    obtain ⟨A', B', a', b'⟩ := prJ_pre (n := n) (G := G) (R := (prI n G [roundsL n] (i + d)).1) (W := (prI n G [roundsL n] (i + d)).2.1) (i := i + d) (2 * G.length)
    refine ⟨A ++ A', B ++ B', ?_, ?_⟩
    · refine Eq.trans a' ?_
      rw [a, List.append_assoc]
    · refine Eq.trans b' ?_
      rw [b, List.append_assoc]
theorem ClY.one (hn : 1 ≤ n ∧ n ≤ 12) (hG : ∀ x ∈ G, RowN n x) (h : ClY n G R W i) (hk : k < R.length) {d k' : Nat} (h' : ClY n G R2 W2 (i + d)) (hk' : k' < R2.length) (e : R.getD k [] = R2.getD k' []) : W.getD k [] = W2.getD k' [] := by
  obtain ⟨N0, s⟩ := h.y
  obtain ⟨N1, s'⟩ := h'.y
  obtain ⟨hR, hwl, _⟩ := s.ok (one_prt hn hG)
  obtain ⟨hR2, hwl2, _⟩ := s'.ok (one_prt hn hG)
  obtain ⟨A, B, a, b⟩ := prI_pre (n := n) (G := G) (i := i) d
  rw [s.eq, s'.eq] at a b
  have a : R2 = R ++ A := a
  have b : W2 = W ++ B := b
  have hA : R2.getD k [] = R.getD k [] := by rw [a]; simp [List.getD_eq_getElem?_getD, List.getElem?_append_left hk]
  have hB : W2.getD k [] = W.getD k [] := by rw [b]; simp [List.getD_eq_getElem?_getD, List.getElem?_append_left (show k < W.length by omega)]
  have hk2 : k < R2.length := by rw [a, List.length_append]; omega
  have hr := hR2.rows (one_prt hn hG) hk2
  have : k = k' := hR2.dis k k' hk2 hk' (by rw [← e, hA] ; exact (same_one (by rw [← hA]; exact hr) (by rw [← hA]; exact hr)).2 rfl)
  rw [← this, hB]
theorem WordOf.uniq (hn : 1 ≤ n ∧ n ≤ 12) (hG : ∀ x ∈ G, RowN n x) (h : WordOf n G r w) (h' : WordOf n G r w') : w = w' := by
  obtain ⟨i, R, W, k, h1, h2, h3, h4⟩ := h
  obtain ⟨i', R', W', k', g1, g2, g3, g4⟩ := h'
  rcases Nat.le_total i i' with hle | hle
  · obtain ⟨d, rfl⟩ := Nat.exists_eq_add_of_le hle
    rw [← h4, ← g4]; exact h1.one hn hG h2 g1 g2 (by rw [h3, g3])
  · obtain ⟨d, rfl⟩ := Nat.exists_eq_add_of_le hle
    rw [← h4, ← g4]; exact (g1.one hn hG g2 h1 h2 (by rw [h3, g3])).symm
theorem ClY.all (hn : 1 ≤ n ∧ n ≤ 12) (hG : ∀ x ∈ G, RowN n x) (h : ClY n G R W i) (hi : R.length = i) (hr : Cl n (fun y => y ∈ G) r) : ∃ k, k < R.length ∧ R.getD k [] = r := by
  obtain ⟨N0, s⟩ := h.y
  obtain ⟨k, hk, hs⟩ := cover (one_prt hn hG) s hi hr
  obtain ⟨hR, _, _⟩ := s.ok (one_prt hn hG)
  exact ⟨k, hk, ((same_one (hr.row hn hG) (hR.rows (one_prt hn hG) hk)).1 hs).symm⟩
/-! ### A search that goes back -/
structure SpotP (SP : List (List Int × Int × Int)) (R W : List (List Int)) : Prop where
  len : SP.length = R.length
  row : ∀ k, k < R.length → (SP.getD k ([], 0, 0)).1 = R.getD k []
  up : ∀ k, k < R.length → (SP.getD k ([], 0, 0)).2.2 < (k : Int) ∧ -1 ≤ (SP.getD k ([], 0, 0)).2.2
  word : ∀ k, k < R.length → W.getD k [] = if (SP.getD k ([], 0, 0)).2.2 < 0 then [] else W.getD (SP.getD k ([], 0, 0)).2.2.toNat [] ++ [(SP.getD k ([], 0, 0)).2.1]
theorem SpotP.start : SpotP [(roundsL n, 0, -1)] [roundsL n] [[]] := by
  have z : ∀ k, k < [roundsL n].length → k = 0 := fun k hk => by simp at hk; omega
  refine ⟨rfl, fun k hk => ?_, fun k hk => ?_, fun k hk => ?_⟩ <;> (have := z k hk; subst this)
  · rfl
  · exact ⟨by show (-1 : Int) < 0; omega, by show (-1 : Int) ≤ -1; omega⟩
  · rfl
theorem SpotP.new {SP : List (List Int × Int × Int)} (h : SpotP SP R W) (hw : W.length = R.length) (hi : i < R.length) {l : Int} : SpotP (SP ++ [(r, l, (i : Int))]) (R ++ [r]) (W ++ [W.getD i [] ++ [l]]) := by
  have hl := h.len
  have old : ∀ k, k < R.length → (SP ++ [(r, l, (i : Int))]).getD k ([], 0, 0) = SP.getD k ([], 0, 0) := fun k hk => by simp [List.getD_eq_getElem?_getD, List.getElem?_append_left (show k < SP.length by omega)]
  have last : (SP ++ [(r, l, (i : Int))]).getD R.length ([], 0, 0) = (r, l, (i : Int)) := by rw [← hl]; simp [List.getD_eq_getElem?_getD]
  refine ⟨by simp [hl], fun k hk => ?_, fun k hk => ?_, fun k hk => ?_⟩ <;> (rw [List.length_append, List.length_singleton] at hk; by_cases e : k < R.length)
  · rw [old k e, getD_snoc e]; exact h.row k e
  · have : k = R.length := by omega
    subst this; rw [last, getD_last]
  · rw [old k e]; exact h.up k e
  · have : k = R.length := by omega
    subst this; rw [last]; exact ⟨by show (i : Int) < _; omega, by show -1 ≤ (i : Int); omega⟩
  · rw [old k e, getD_snoc (by omega), h.word k e]
    have hu := h.up k e
    split
    · rfl
    · rw [getD_snoc (by omega)]
  · have : k = R.length := by omega
    subst this
    rw [last]
    have e2 : (W ++ [W.getD i [] ++ [l]]).getD R.length [] = W.getD i [] ++ [l] := by rw [← hw]; exact getD_last
    rw [e2, if_neg (by show ¬ (i : Int) < 0; omega)]
    show _ = (W ++ [W.getD i [] ++ [l]]).getD ((i : Int)).toNat [] ++ [l]
    rw [Int.toNat_natCast, getD_snoc (by omega)]
end
end Go.KL

/- Letters, a row turned round, the way back of a search; orbits. -/
namespace Go.KL
open Go.RowKit
/-! ### Letters -/
def lettersL (m : Nat) : List Int := (List.range (2 * m)).map ltrN
theorem lettersL_len (m : Nat) : (lettersL m).length = 2 * m := by simp [lettersL]
theorem lettersL_succ (m : Nat) : lettersL (m + 1) = lettersL m ++ [((m : Nat) : Int) + 1, -((m : Nat) : Int) - 1] := by
  unfold lettersL
  rw [show 2 * (m + 1) = (2 * m + 1) + 1 by omega, List.range_succ, List.range_succ, List.map_append, List.map_append, List.append_assoc]
  congr 1
  have e1 : ltrN (2 * m) = (m : Int) + 1 := by unfold ltrN; rw [if_neg (by omega), show 2 * m / 2 = m by omega]; omega
  have e2 : ltrN (2 * m + 1) = -(m : Int) - 1 := by unfold ltrN; rw [if_pos (by omega), show (2 * m + 1) / 2 = m by omega]; omega
  simp [e1, e2]
theorem lettersL_get {m j : Nat} (hj : j < 2 * m) : (lettersL m).getD j 0 = ltrN j := by simp [lettersL, List.getD_eq_getElem?_getD, hj]
/-! ### Turned round -/
/-! ### The way back -/
def backW (SP : List (List Int × Int × Int)) : Nat → Int → List Int
  | 0, _ => []
  | f + 1, k => if (SP.getD k.toNat ([], 0, 0)).2.2 < 0 then [] else (SP.getD k.toNat ([], 0, 0)).2.1 :: backW SP f (SP.getD k.toNat ([], 0, 0)).2.2
theorem backW_word {SP : List (List Int × Int × Int)} {R W : List (List Int)} (h : SpotP SP R W) : ∀ (f k : Nat), k < f → k < R.length → (backW SP f (k : Int)).reverse = W.getD k []
  | 0, k, h1, _ => by omega
  | f + 1, k, h1, hk => by
    have hu := h.up k hk
    have hw := h.word k hk
    rw [backW, Int.toNat_natCast, hw]
    by_cases h2 : (SP.getD k ([], 0, 0)).2.2 < 0
    · rw [if_pos h2, if_pos h2]; rfl
    · rw [if_neg h2, if_neg h2, List.reverse_cons]
      have := backW_word h f (SP.getD k ([], 0, 0)).2.2.toNat (by omega) (by omega)
      rw [show (((SP.getD k ([], 0, 0)).2.2.toNat : Nat) : Int) = (SP.getD k ([], 0, 0)).2.2 by omega] at this
      rw [this]
/-! ### A number turned about, as it wraps -/
section
variable {P : Program} {d : Option Tmp} {ty t : TypeId} {pos : String} {af : Array Edge} {g : Option (Nat × Bool)} {a : Act} {σ : GW} {x : Operand} {m : Int}
theorem y_negW (hx : At (.int m) σ a x) : Yld P ⟨d, .unOp .neg t x, ty, pos, af, g⟩ a σ (Ty.int (wr64 (-m))).pr := by
  have ex : a.eval x = .int .i64 m := hx
  exact Yld.of_run (v := .int .i64 (wr64 (-m))) (by simp only [execOp, ex]; simp [go_sem]; rfl) rfl
end
theorem wr64_neg {k : Int} (h1 : -9223372036854775808 ≤ k) (h2 : k ≤ 9223372036854775807) : k = -9223372036854775808 ∨ wr64 (-k) = -k := by
  by_cases h : k = -9223372036854775808
  · exact .inl h
  · refine .inr ?_
    show IntKind.i64.wrap (-k) = -k
    exact w64 (by omega) (by omega)
end Go.KL

/- A search that goes back: its spots in memory, what it has seen; the word of a row. -/
namespace Go.KL
open Go.RowKit
abbrev Spt := List Int × Int × Int
def spotC (p : Spt) : List Ty := [Ty.lst Ty.int p.1, Ty.int p.2.1, Ty.int p.2.2]
theorem spotOne : ∀ x, ∀ U ∈ spotC x, One U := fun x U hU => by
  simp only [spotC, List.mem_cons, List.not_mem_nil, or_false] at hU
  rcases hU with rfl | rfl | rfl
  · exact one_sl
  · exact one_val rfl
  · exact one_val rfl
section
variable {n i j k T : Nat} {G R W L : List (List Int)} {r w : List Int} {c : Nat → Lev} {f : Int → Option Int} {SP : List Spt}
def SeenI (n : Nat) (R : List (List Int)) (f : Int → Option Int) : Prop := ∀ x, RowN n x → f ((rankL x : Nat) : Int) = if x ∈ R then some 1 else none
theorem SeenI.start (hn : 1 ≤ n ∧ n ≤ 12) : SeenI n [roundsL n] (fun x => if x = ((rankL (roundsL n) : Nat) : Int) then some (1 : Int) else (fun _ => none) x) := fun x hx => by
  by_cases h : x = roundsL n
  · rw [h]; simp
  · have : rankL x ≠ rankL (roundsL n) := fun e => h (rank_eq hx (rounds_rowN hn) e)
    simp only [List.mem_singleton, h, if_false]
    rw [if_neg (by omega)]
theorem SeenI.put (h : SeenI n R f) (hr : RowN n r) : SeenI n (R ++ [r]) (fun p => if p = ((rankL r : Nat) : Int) then some (1 : Int) else f p) := fun x hx => by
  by_cases e : x = r
  · rw [e]; simp
  · have : rankL x ≠ rankL r := fun e' => e (rank_eq hx hr e')
    simp only [List.mem_append, List.mem_singleton, e, or_false]
    rw [if_neg (by omega)]; exact h x hx
theorem SeenI.no (h : SeenI n R f) (hr : RowN n r) (h0 : (f ((rankL r : Nat) : Int)).getD 0 = 0) : r ∉ R := fun hm => by
  rw [h r hr, if_pos hm] at h0; simp at h0
theorem SeenI.yes (h : SeenI n R f) (hr : RowN n r) (h0 : (f ((rankL r : Nat) : Int)).getD 0 ≠ 0) : r ∈ R := Classical.byContradiction fun hm => h0 (by rw [h r hr, if_neg hm]; rfl)
/-! ### The word -/
theorem ClX.few (hn : 1 ≤ n ∧ n ≤ 12) (hG : ∀ x ∈ G, RowN n x) (h : ClX n G L W i j) (hj : j ≤ 2 * G.length) {F : List (List Int)} (hF : EltsOk n G F) : L.length ≤ szTo n (fun y => y ∈ G) n := by
  have := (h.reps hn hG hj).1.few (one_prt hn hG) (by simp) hF
  rw [hF.len] at this
  simpa using this
theorem ClY.few (hn : 1 ≤ n ∧ n ≤ 12) (hG : ∀ x ∈ G, RowN n x) (h : ClY n G L W i) {F : List (List Int)} (hF : EltsOk n G F) : L.length ≤ szTo n (fun y => y ∈ G) n ∧ W.length = L.length := by
  obtain ⟨N0, s⟩ := h.y
  obtain ⟨hR, hwl, _⟩ := s.ok (one_prt hn hG)
  have := hR.few (one_prt hn hG) (by simp) hF
  rw [hF.len] at this
  exact ⟨by simpa using this, hwl⟩
theorem ClY.row (hn : 1 ≤ n ∧ n ≤ 12) (hG : ∀ x ∈ G, RowN n x) (h : ClY n G L W i) (hk : k < L.length) : RowN n (L.getD k []) := by
  obtain ⟨N0, s⟩ := h.y
  exact (s.ok (one_prt hn hG)).1.rows (one_prt hn hG) hk
theorem ClX.row (hn : 1 ≤ n ∧ n ≤ 12) (hG : ∀ x ∈ G, RowN n x) (h : ClX n G L W i j) (hj : j ≤ 2 * G.length) (hk : k < L.length) : RowN n (L.getD k []) := (h.reps hn hG hj).1.rows (one_prt hn hG) hk
theorem ClY.at_ (hn : 1 ≤ n ∧ n ≤ 12) (hG : ∀ x ∈ G, RowN n x) (h : ClY n G L W i) (hi : i ≤ L.length) (hr : Cl n (fun y => y ∈ G) r) (hno : ∀ k, k < i → L.getD k [] ≠ r) : i < L.length := by
  refine Nat.lt_of_not_le fun hle => ?_
  obtain ⟨k, hk, e⟩ := h.all hn hG (by omega) hr
  exact hno k (by omega) e
structure ClS (n : Nat) (G L W : List (List Int)) (i j : Nat) (r : List Int) (SP : List Spt) (f : Int → Option Int) : Prop where
  x : ClX n G L W i j
  sp : SpotP SP L W
  sn : SeenI n L f
  no : ∀ k, k ≤ i → L.getD k [] ≠ r
structure ClO (n : Nat) (G L W : List (List Int)) (i : Nat) (r : List Int) (SP : List Spt) (f : Int → Option Int) : Prop where
  y : ClY n G L W i
  le : i ≤ L.length
  sp : SpotP SP L W
  sn : SeenI n L f
  no : ∀ k, k < i → L.getD k [] ≠ r
theorem ClO.start (hn : 1 ≤ n ∧ n ≤ 12) : ClO n G [roundsL n] [[]] 0 r [(roundsL n, 0, -1)] (fun x => if x = ((rankL (roundsL n) : Nat) : Int) then some (1 : Int) else (fun _ => none) x) := ⟨ClY.start, by simp, SpotP.start, SeenI.start hn, fun k hk => by omega⟩
theorem ClO.in_ (hn : 1 ≤ n ∧ n ≤ 12) (hG : ∀ x ∈ G, RowN n x) (h : ClO n G L W i r SP f) (hr : Cl n (fun y => y ∈ G) r) : i < L.length ∧ i < SP.length ∧ (SP.getD i ([], 0, 0)).1 = L.getD i [] ∧ RowN n (L.getD i []) := by
  have hi := h.y.at_ hn hG h.le hr h.no
  exact ⟨hi, by rw [h.sp.len]; exact hi, h.sp.row i hi, h.y.row hn hG hi⟩
theorem ClO.few (hn : 1 ≤ n ∧ n ≤ 12) (hG : ∀ x ∈ G, RowN n x) (h : ClO n G L W i r SP f) {F : List (List Int)} (hF : EltsOk n G F) : L.length ≤ szTo n (fun y => y ∈ G) n ∧ SP.length = L.length := ⟨(h.y.few hn hG hF).1, h.sp.len⟩
theorem ClO.go (h : ClO n G L W i r SP f) (hi : i < L.length) (hne : L.getD i [] ≠ r) : ClS n G L W i 0 r SP f := ⟨h.y.go hi, h.sp, h.sn, fun k hk => by
  rcases Nat.lt_or_ge k i with h1 | h1
  · exact h.no k h1
  · rw [show k = i by omega]; exact hne⟩
theorem ClS.few (hn : 1 ≤ n ∧ n ≤ 12) (hG : ∀ x ∈ G, RowN n x) (h : ClS n G L W i j r SP f) (hj : j ≤ 2 * G.length) {F : List (List Int)} (hF : EltsOk n G F) : L.length ≤ szTo n (fun y => y ∈ G) n ∧ SP.length = L.length ∧ i < L.length := ⟨h.x.few hn hG hj hF, h.sp.len, (h.x.reps hn hG hj).2.2⟩
theorem ltrN_bd (hj : j < 2 * G.length) : ltrN j ≠ 0 ∧ ltrN j ≤ (G.length : Int) ∧ -(G.length : Int) ≤ ltrN j := by
  unfold ltrN
  by_cases h : j % 2 = 1
  · rw [if_pos h]; omega
  · rw [if_neg h]; omega
theorem genL_ltr (_hj : j < 2 * G.length) : genL G (ltrN j) = KL.ltr G j := by
  unfold genL KL.ltr ltrN
  by_cases h : j % 2 = 1
  · rw [if_pos h, if_pos (by omega), if_pos h]; congr 2; omega
  · rw [if_neg h, if_neg (by omega), if_neg h]; congr 1; omega
theorem ClS.ltr (hn : 1 ≤ n ∧ n ≤ 12) (hG : ∀ x ∈ G, RowN n x) (h : ClS n G L W i j r SP f) (hj : j < 2 * G.length) : RowN n (L.getD i []) ∧ RowN n (genL G (ltrN j)) ∧ genL G (ltrN j) = KL.ltr G j ∧ RowN n (byL (L.getD i []) (KL.ltr G j)) := by
  have hi := (h.x.reps hn hG (by omega)).2.2
  have h1 := h.x.row hn hG (by omega) hi
  have h2 := (ltr_row hG hj).1
  have e : genL G (ltrN j) = KL.ltr G j := genL_ltr hj
  exact ⟨h1, by rw [e]; exact h2, e, h1.by h2⟩
theorem ClS.old (hn : 1 ≤ n ∧ n ≤ 12) (hG : ∀ x ∈ G, RowN n x) (h : ClS n G L W i j r SP f) (hj : j < 2 * G.length) (h0 : (f ((rankL (byL (L.getD i []) (KL.ltr G j)) : Nat) : Int)).getD 0 ≠ 0) : ClS n G L W i (j + 1) r SP f :=
  ⟨h.x.old hn hG hj (h.sn.yes (h.ltr hn hG hj).2.2.2 h0), h.sp, h.sn, h.no⟩
theorem ClS.new (hn : 1 ≤ n ∧ n ≤ 12) (hG : ∀ x ∈ G, RowN n x) (h : ClS n G L W i j r SP f) (hj : j < 2 * G.length) (h0 : (f ((rankL (byL (L.getD i []) (KL.ltr G j)) : Nat) : Int)).getD 0 = 0) :
    ClS n G (L ++ [byL (L.getD i []) (KL.ltr G j)]) (W ++ [W.getD i [] ++ [ltrN j]]) i (j + 1) r (SP ++ [(byL (L.getD i []) (KL.ltr G j), ltrN j, (i : Int))]) (fun p => if p = ((rankL (byL (L.getD i []) (KL.ltr G j)) : Nat) : Int) then some (1 : Int) else f p) := by
  obtain ⟨_, hwl, hi⟩ := h.x.reps hn hG (by omega)
  have hr := (h.ltr hn hG hj).2.2.2
  exact ⟨h.x.new hn hG hj (h.sn.no hr h0), h.sp.new hwl hi, h.sn.put hr, fun k hk => by rw [getD_snoc (by omega)]; exact h.no k hk⟩
theorem ClS.next (hn : 1 ≤ n ∧ n ≤ 12) (hG : ∀ x ∈ G, RowN n x) (h : ClS n G L W i (2 * G.length) r SP f) : ClO n G L W (i + 1) r SP f := ⟨h.x.next, by have := (h.x.reps hn hG (by omega)).2.2; omega, h.sp, h.sn, fun k hk => h.no k (by omega)⟩
theorem ClS.keep (_h : ClS n G L W i j r SP f) (hi : i < L.length) {y z : List Int} (e : L.getD i [] = z) : (L ++ [y]).getD i [] = z := by rw [getD_snoc hi]; exact e
noncomputable def wordE (n : Nat) (c : Nat → Lev) (G : List (List Int)) (r : List Int) : Int := if fitsE n r ≠ 0 then fitsE n r else if hasB n c r = false then 14 else if 5040 < szTo n (fun y => y ∈ G) n then 3 else 0
def WrdP (n : Nat) (c : Nat → Lev) (G : List (List Int)) (r w : List Int) : Prop := (wordE n c G r = 0 → WordOf n G r w) ∧ (wordE n c G r ≠ 0 → w = [])
theorem word_fit (h : fitsE n r ≠ 0) : wordE n c G r = fitsE n r := by unfold wordE; rw [if_pos h]
theorem word_14 (h : fitsE n r = 0) (h2 : hasB n c r = false) : wordE n c G r = 14 := by unfold wordE; rw [if_neg (by omega), if_pos h2]
theorem word_3 (h : fitsE n r = 0) (h2 : hasB n c r = true) (h3 : 5040 < szTo n (fun y => y ∈ G) n) : wordE n c G r = 3 := by unfold wordE; rw [if_neg (by omega), if_neg (by simp [h2]), if_pos h3]
theorem word_0 (h : fitsE n r = 0) (h2 : hasB n c r = true) (h3 : ¬ 5040 < szTo n (fun y => y ∈ G) n) : wordE n c G r = 0 := by unfold wordE; rw [if_neg (by omega), if_neg (by simp [h2]), if_neg h3]
theorem wrdP_no (h : wordE n c G r ≠ 0) : WrdP n c G r [] := ⟨fun e => absurd e h, fun _ => rfl⟩
theorem ClO.word (h : ClO n G L W i r SP f) (hi : i < L.length) (e : L.getD i [] = r) (he : wordE n c G r = 0) : WrdP n c G r (backW SP (i + 1) (i : Int)).reverse :=
  ⟨fun _ => ⟨i, L, W, i, h.y, hi, e, (backW_word h.sp (i + 1) i (by omega) hi).symm⟩, fun e' => absurd he e'⟩
/-! ### The way back, step by step -/
structure BackP (SP : List Spt) (i : Nat) (out : List Int) (q : Nat) : Prop where
  lt : q ≤ i
  eq : backW SP (i + 1) (i : Int) = out ++ backW SP (q + 1) (q : Int)
theorem BackP.start : BackP SP i [] i := ⟨Nat.le_refl _, rfl⟩
theorem backW_more {R W : List (List Int)} (h : SpotP SP R W) : ∀ (f g k : Nat), k < f → k < g → k < R.length → backW SP f (k : Int) = backW SP g (k : Int)
  | 0, _, _, h1, _, _ => by omega
  | _, 0, _, _, h1, _ => by omega
  | f + 1, g + 1, k, h1, h2, hk => by
    have hu := h.up k hk
    rw [backW, backW, Int.toNat_natCast]
    by_cases h3 : (SP.getD k ([], 0, 0)).2.2 < 0
    · rw [if_pos h3, if_pos h3]
    · rw [if_neg h3, if_neg h3]
      have := backW_more h f g (SP.getD k ([], 0, 0)).2.2.toNat (by omega) (by omega) (by omega)
      rw [show (((SP.getD k ([], 0, 0)).2.2.toNat : Nat) : Int) = (SP.getD k ([], 0, 0)).2.2 by omega] at this
      rw [this]
theorem BackP.step {R W : List (List Int)} {out : List Int} {q : Nat} (hs : SpotP SP R W) (hi : i < R.length) (h : BackP SP i out q) (h0 : 0 ≤ (SP.getD q ([], 0, 0)).2.2) : BackP SP i (out ++ [(SP.getD q ([], 0, 0)).2.1]) (SP.getD q ([], 0, 0)).2.2.toNat ∧ (SP.getD q ([], 0, 0)).2.2.toNat < q ∧ (((SP.getD q ([], 0, 0)).2.2.toNat : Nat) : Int) = (SP.getD q ([], 0, 0)).2.2 := by
  have hl := h.lt
  have hu := hs.up q (by omega)
  refine ⟨⟨by omega, ?_⟩, by omega, by omega⟩
  rw [h.eq, backW, Int.toNat_natCast, if_neg (by omega), List.append_assoc]
  congr 1
  have := backW_more hs q ((SP.getD q ([], 0, 0)).2.2.toNat + 1) (SP.getD q ([], 0, 0)).2.2.toNat (by omega) (by omega) (by omega)
  rw [show (((SP.getD q ([], 0, 0)).2.2.toNat : Nat) : Int) = (SP.getD q ([], 0, 0)).2.2 by omega] at this ⊢
  rw [this]; rfl
theorem BackP.done {out : List Int} {q : Nat} (h : BackP SP i out q) (h0 : (SP.getD q ([], 0, 0)).2.2 < 0) : out = backW SP (i + 1) (i : Int) := by
  rw [h.eq, backW, Int.toNat_natCast, if_pos h0, List.append_nil]
theorem BackP.len {R W : List (List Int)} {out : List Int} {q : Nat} (hs : SpotP SP R W) (hi : i < R.length) (h : BackP SP i out q) : out.length ≤ i + 1 := by
  have hb : ∀ (f : Nat) (k : Int), (backW SP f k).length ≤ f := fun f => by
    induction f with
    | zero => intro k; simp [backW]
    | succ f ih => intro k; rw [backW]; split <;> simp_all
  have := hb (i + 1) (i : Int)
  rw [h.eq, List.length_append] at this
  omega
end
end Go.KL

/- Lists compared; a world that a reader leaves behind. -/
namespace Go.KL
open Go.RowKit Go.Sort
def cmpI (x y : Int) : Int := if x < y then -1 else if y < x then 1 else 0
def cmpL : List Int → List Int → Int
  | [], [] => 0
  | [], _ :: _ => -1
  | _ :: _, [] => 1
  | x :: a, y :: b => if cmpI x y ≠ 0 then cmpI x y else cmpL a b
theorem cmpI_zero {x y : Int} : cmpI x y = 0 ↔ x = y := by unfold cmpI; split <;> (try split) <;> omega
theorem cmpI_neg {x y : Int} : cmpI x y < 0 ↔ x < y := by unfold cmpI; split <;> (try split) <;> omega
theorem cmpL_lt : ∀ a b : List Int, decide (cmpL a b < 0) = belowL a b
  | [], [] => rfl
  | [], _ :: _ => by simp [cmpL, belowL]
  | _ :: _, [] => by simp [cmpL, belowL]
  | x :: a, y :: b => by
    rw [cmpL, belowL]
    by_cases h : x = y
    · rw [if_neg (by rw [Classical.not_not]; exact cmpI_zero.2 h), if_pos h]; exact cmpL_lt a b
    · rw [if_pos (fun e => h (cmpI_zero.1 e)), if_neg h, decide_eq_decide]; exact cmpI_neg
theorem cmp_step {a b : List Int} {i : Nat} {z : Int} (h : cmpL (a.drop i) (b.drop i) = z) (h1 : i < a.length) (h2 : i < b.length) (e : ¬ cmpI (a.getD i 0) (b.getD i 0) ≠ 0) : cmpL (a.drop (i + 1)) (b.drop (i + 1)) = z := by
  rw [drop_consD 0 h1, drop_consD 0 h2, cmpL, if_neg e] at h; exact h
theorem cmp_ne {a b : List Int} {i : Nat} {z : Int} (h : cmpL (a.drop i) (b.drop i) = z) (h1 : i < a.length) (h2 : i < b.length) (e : cmpI (a.getD i 0) (b.getD i 0) ≠ 0) : cmpI (a.getD i 0) (b.getD i 0) = z := by
  rw [drop_consD 0 h1, drop_consD 0 h2, cmpL, if_pos e] at h; exact h
theorem cmp_long {a b : List Int} {i : Nat} {z : Int} (h : cmpL (a.drop i) (b.drop i) = z) (h1 : i < a.length) (h2 : b.length ≤ i) : z = 1 := by
  rw [drop_consD 0 h1, List.drop_eq_nil_of_le h2, cmpL] at h; exact h.symm
theorem cmp_short {a b : List Int} {i : Nat} {z : Int} (h : cmpL (a.drop i) (b.drop i) = z) (h1 : a.length ≤ i) (h2 : i < b.length) : z = -1 := by
  rw [drop_consD 0 h2, List.drop_eq_nil_of_le h1, cmpL] at h; exact h.symm
theorem cmp_same {a b : List Int} {i : Nat} {z : Int} (h : cmpL (a.drop i) (b.drop i) = z) (h1 : a.length ≤ i) (h2 : b.length ≤ i) : z = 0 := by
  rw [List.drop_eq_nil_of_le h1, List.drop_eq_nil_of_le h2, cmpL] at h; exact h.symm
end Go.KL

/- slices.SortFunc of a row of lists that is owned, the comparison one that leaves the world as it is. -/
namespace Go.KL
open Go.RowKit Go.Sort Go.Shelf Go.Lib Go.Proofs
variable {P : Program}
def Elt (σ : GW) : Type := { p : Value × List Int // (Ty.ints p.2).has σ p.1 }
instance (σ : GW) : Inhabited (Elt σ) := ⟨⟨(.slice none 0 0, []), nil_has rfl⟩⟩
def Elt.enc {σ : GW} (x : Elt σ) : Value := x.1.1
def Elt.cf {σ : GW} (x y : Elt σ) : Int := cmpL x.1.2 y.1.2
theorem Elt.lt {σ : GW} (x y : Elt σ) : ltOf Elt.cf x y = belowL x.1.2 y.1.2 := cmpL_lt _ _
theorem Elt.swo (σ : GW) : SWO (ltOf (Elt.cf (σ := σ))) where
  irrefl x := by rw [Elt.lt, below_irr]
  trans x y z h1 h2 := by rw [Elt.lt] at *; exact below_trans h1 h2
  ntrans x y z h1 h2 := by
    rw [Elt.lt] at *
    have := leL_trans z.1.2 y.1.2 x.1.2 (by unfold leL; rw [h2]; rfl) (by unfold leL; rw [h1]; rfl)
    unfold leL at this; simpa using this
theorem Elt.one {σ : GW} : OneCell (Elt.enc (σ := σ)) := fun x => by
  obtain ⟨_, _, _, _, e, _⟩ := x.2
  unfold Elt.enc; rw [e]; rfl
theorem heap_sortWorld {α : Type} [Inhabited α] {enc : α → Value} {w : World} {blk off m : Nat} {dk : Array α} {os : Array Obj} {b : Nat} (hb : b < w.heap.size) : (sortWorld enc w blk off m dk os).heap[b]? = if blk = b then (w.heap[b]?).map (onCells (putCells enc off dk)) else w.heap[b]? := by
  unfold sortWorld
  rw [heap_grow_old _ _ (by simpa using hb)]
  unfold putRow mapBlock
  simp only [Array.getElem?_modify, heap_ahead]
theorem size_sortWorld {α : Type} [Inhabited α] {enc : α → Value} {w : World} {blk off m : Nat} {dk : Array α} {os : Array Obj} : w.heap.size ≤ (sortWorld enc w blk off m dk os).heap.size := by
  unfold sortWorld; rw [size_grow, Sort.size_putRow]; simp only [heap_ahead]; omega
theorem m_sortP {d : Option Tmp} {ty : TypeId} {pos : String} {af : Array Edge} {gd : Option (Nat × Bool)} {a : Act} {σ : GW} {f g : FuncId} {fn : Func} {x : Operand} {tys : Array TypeId} {k : Nat} {e : TypeId} {v : Value} {D : List (List Int)} (hk : 2 ≤ k) (h : Own σ k e 1 v D.length (D.map Ty.ints)) (hx : a.eval x = v) (hD : D.length < 4611686018427387904)
    (hf : P.funcs[f]? = some fn) (hn : (fn.name == "runtime.NumGoroutine") = false) (hb : fn.body.isSome = true)
    (hS : ∀ (α : Type) [Inhabited α] (enc : α → Value), OneCell enc → ∀ (cf : α → α → Int), SWO (ltOf cf) → ∀ (blk off cap : Nat) (d : Array α) (w : World), CmpLays1 P g #[] enc cf blk off d.size w → Holds enc w blk off d → blk < w.heap.size → d.size < 4611686018427387904 →
      Calls P f #[.slice (some ⟨blk, off, none⟩) d.size cap, .func (.func g) #[] #[]] w fun e w' => e = .returned (.tuple #[]) ∧ ∃ d' n os, PermIn 0 d.size d d' ∧ SortedIn (ltOf cf) 0 d.size d' ∧ w' = sortWorld enc w blk off n d' os)
    (hN : ∀ (p : Option Addr) (cap : Nat) (fv : Value) (w : World), Calls P f #[.slice p 0 cap, fv] w fun e w' => e = .returned (.tuple #[]) ∧ w' = w)
    (hcmp : ∀ (σ : GW) (u w : Value) (xs ys : List Int), (Ty.ints xs).has σ u → (Ty.ints ys).has σ w → Calls P g #[u, w] σ.w fun e w' => e = .returned (.int .i64 (cmpL xs ys)) ∧ w' = σ.w) :
    YldL [k] P ⟨d, .call ⟨.value (.func f), #[x, .func g], tys⟩, ty, pos, af, gd⟩ a σ (fun _ τ => ∃ S : List (List Int), S.Perm D ∧ S.Pairwise (fun x y => leL x y = true) ∧ Own τ k e 1 v D.length (S.map Ty.ints)) := by
  intro K Q hk'
  have hr : (execOp a.eval ⟨d, .call ⟨.value (.func f), #[x, .func g], tys⟩, ty, pos, af, gd⟩).run P σ.w = .ok (.enter f #[v, .func (.func g) #[] #[]]) σ.w := by
    have hn' : ¬ fn.name = "runtime.NumGoroutine" := by simpa using hn
    have hb' : ¬ fn.body = none := by intro e; simp [e] at hb
    simp only [execOp, resolve, List.map_toArray, List.map_cons, List.map_nil, hx]
    simp [Act.eval, Deferred.ofValue, invoke, callFunc, hf, hn', hb', program, Sem.run, Sem.run_bind]
  unfold Oper.wp
  rw [hr]
  obtain ⟨us, ⟨hl, hc⟩, hl2, hty, hst⟩ := h
  rcases hc with ⟨rfl, hn0⟩ | ⟨gb, cap, cur, rfl, _, hg, hnc, hcm, hcs, htk⟩
  · refine Calls.mono (hN none 0 _ σ.w) ?_
    rintro e' w' ⟨rfl, rfl⟩
    have hD0 : D = [] := List.eq_nil_of_length_eq_zero hn0
    subst hD0
    exact hk' _ σ (StpL.refl _ _) ⟨[], List.Perm.refl _, List.Pairwise.nil, us, ⟨hl, .inl ⟨rfl, rfl⟩⟩, hl2, hty, hst⟩
  · have hgk := hst gb rfl
    have hgs := (Array.getElem?_eq_some_iff.1 hg).1
    rw [Nat.mul_one] at hl hcs htk
    rw [List.length_map] at hl2
    have hel : ∀ i : Fin D.length, (Ty.ints (D[i.1]'i.2)).has σ (us[i.1]'(by omega)) := fun i => hty i.1 _ _ (by simp) (by simp [hl])
    let dd : Array (Elt σ) := (List.ofFn fun i : Fin D.length => (⟨(us[i.1]'(by omega), D[i.1]'i.2), hel i⟩ : Elt σ)).toArray
    have hds : dd.size = D.length := by show (List.ofFn _).length = _; exact List.length_ofFn
    have hdg : ∀ j (hj : j < D.length), dd[j]! = ⟨(us[j]'(by omega), D[j]), hel ⟨j, hj⟩⟩ := fun j hj => by
      rw [getElem!_pos dd j (by omega)]; show (List.ofFn _)[j]'_ = _; exact List.getElem_ofFn _
    have hcu : ∀ j, j < D.length → cur[j]? = us[j]? := fun j hj => by
      rw [← htk, List.getElem?_take, if_pos hj]; simp
    have hH : Holds (Elt.enc (σ := σ)) σ.w gb 0 dd := fun j hj => by
      rw [hds] at hj
      rw [Nat.zero_add]
      constructor
      · rw [hdg j hj]
        simp only [World.cell?, hg]
        rw [hcu j hj]
        simp [Elt.enc, show j < us.length by omega]
      · simp [World.frozen?, hg]
    have hC : CmpLays1 P g #[] (Elt.enc (σ := σ)) Elt.cf gb 0 dd.size σ.w := fun m os dk _ x y => by
      let σ' : GW := ⟨sortWorld Elt.enc σ.w gb 0 m dk os, fun b => if σ.st b = 1 then 1 else 0, fun b hb => by
        refine Nat.lt_of_lt_of_le (σ.lt b ?_) size_sortWorld
        intro e; rw [e] at hb; simp at hb⟩
      have hle : σ.Le σ' := ⟨fun b hb => by show (if σ.st b = 1 then 1 else 0) = 1; rw [if_pos hb], fun b hb => by
        have := σ.lt b (by omega)
        show (sortWorld _ _ _ _ _ _ _).heap[b]? = _
        rw [heap_sortWorld this, if_neg (by rintro rfl; omega)]⟩
      refine Calls.mono (hcmp σ' x.1.1 y.1.1 x.1.2 y.1.2 (Ty.up _ hle x.2) (Ty.up _ hle y.2)) ?_
      rintro e' w' ⟨rfl, rfl⟩
      exact ⟨rfl, 0, #[], by rw [grow_empty]; rfl⟩
    have hcon := hS (Elt σ) Elt.enc Elt.one Elt.cf (Elt.swo σ) gb 0 cap dd σ.w hC hH hgs (by omega)
    rw [hds] at hcon
    refine Calls.mono hcon ?_
    rintro e' w' ⟨rfl, d', n', os, ⟨p1, _, p3⟩, hso, rfl⟩
    have hex : ∀ q : Array (Elt σ), q.size = D.length → (q.extract 0 D.length).toList = q.toList := fun q hq => by
      rw [← hq, Array.extract_size]
    rw [hex d' (by omega), hex dd hds] at p3
    have hmap : dd.toList.map (fun z => z.1.2) = D := by
      apply List.ext_getElem
      · rw [List.length_map]; exact hds
      · intro i h1 h2
        have h3 := hdg i h2
        rw [getElem!_pos dd i (by omega)] at h3
        rw [List.getElem_map, Array.getElem_toList, h3]
    have hlt : ∀ b, b < σ.w.heap.size → b < (sortWorld Elt.enc σ.w gb 0 n' d' os).heap.size := fun b hb => Nat.lt_of_lt_of_le hb size_sortWorld
    let ρ : GW := ⟨sortWorld Elt.enc σ.w gb 0 n' d' os, fun b => σ.st b, fun b hb => hlt b (σ.lt b hb)⟩
    have hne : ∀ b, σ.st b ≠ k → gb ≠ b := fun b hb e => hb (e ▸ hgk)
    have hst2 : StpL [k] σ ρ := ⟨rfl, rfl, rfl, by (refine .inl ?_; show σ.w.drawn ≤ σ.w.drawn + n'; omega), size_sortWorld, fun b hb hm => by
      show (sortWorld _ _ _ _ _ _ _).heap[b]? = _
      rw [heap_sortWorld hb, if_neg (hne b (by simpa using hm))], fun _ _ _ => rfl⟩
    refine hk' _ ρ hst2 ⟨d'.toList.map (fun z => z.1.2), ?_, ?_, ?_⟩
    · have := p3.map (fun z : Elt σ => z.1.2)
      rwa [hmap] at this
    · rw [List.pairwise_map, List.pairwise_iff_getElem]
      intro i j hi hj hij
      have hj' : j < d'.size := by simpa using hj
      have := hso i j (Nat.zero_le _) hij (by omega)
      rw [getElem!_pos d' i (by omega), getElem!_pos d' j hj', Elt.lt] at this
      unfold leL
      simp only [Array.getElem_toList, this, Bool.not_false]
    · have hd's : d'.size = D.length := by omega
      have hg2 : ρ.w.heap[gb]? = some (.cells (putCells Elt.enc 0 d' cur) e (0, 0)) := by
        show (sortWorld _ _ _ _ _ _ _).heap[gb]? = _
        rw [heap_sortWorld hgs, if_pos rfl, hg]; rfl
      have htake : (putCells Elt.enc 0 d' cur).toList.take (D.length * 1) = d'.toList.map Elt.enc := by
        rw [Nat.mul_one]
        apply List.ext_getElem
        · simp [putCells]; omega
        · intro i h1 h2
          simp only [List.length_map, Array.length_toList] at h2
          simp [putCells, h2]
      refine Own.intro (us := d'.toList.map Elt.enc) hg2 hgk hnc hcm (by simp [putCells, hcs]) htake (by simp) fun j T u hT hu => ?_
      rw [List.getElem?_map, List.getElem?_map] at hT
      rw [List.getElem?_map] at hu
      obtain ⟨z, hz⟩ : ∃ z, d'.toList[j]? = some z := by
        cases hq : d'.toList[j]? with
        | none => rw [hq] at hu; simp at hu
        | some z => exact ⟨z, rfl⟩
      rw [hz] at hT hu
      simp at hT hu
      subst hT; subst hu
      exact Ty.up _ (hst2.le (by simp; omega)) z.2
end Go.KL

/- A row of numbers that is owned, written in its place by the library. -/
namespace Go.KL
open Go.RowKit Go.Sort Go.Shelf Go.Lib Go.Proofs
def sortI (xs : List Int) : List Int := xs.mergeSort fun x y => decide (x ≤ y)
theorem own_ints {σ : GW} {k : Nat} {e : TypeId} {v : Value} {xs : List Int} (_hk : 2 ≤ k) (h : Own σ k e 1 v xs.length (xs.map Ty.int)) : (v = .slice none 0 0 ∧ xs = []) ∨
    ∃ gb cap, v = .slice (some ⟨gb, 0, none⟩) xs.length cap ∧ gb < σ.w.heap.size ∧ Holds (Value.int .i64) σ.w gb 0 xs.toArray ∧
      ∀ (ys : List Int) (m : Nat) (os : Array Obj), ys.length = xs.length → ∃ τ : GW, τ.w = sortWorld (Value.int .i64) σ.w gb 0 m ys.toArray os ∧ StpL [k] σ τ ∧ Own τ k e 1 v ys.length (ys.map Ty.int) := by
  obtain ⟨us, ⟨hl, hc⟩, hl2, hty, hst⟩ := h
  rcases hc with ⟨rfl, hn0⟩ | ⟨gb, cap, cur, rfl, _, hg, hnc, hcm, hcs, htk⟩
  · exact .inl ⟨rfl, List.eq_nil_of_length_eq_zero hn0⟩
  · refine .inr ⟨gb, cap, rfl, ?_⟩
    have hgk := hst gb rfl
    have hgs := (Array.getElem?_eq_some_iff.1 hg).1
    rw [Nat.mul_one] at hl hcs htk
    rw [List.length_map] at hl2
    have hel : ∀ i (hi : i < xs.length), us[i]? = some (Value.int .i64 xs[i]) := fun i hi => by
      have hu : us[i]? = some (us[i]'(by omega)) := by simp [hl, hi]
      have := hty i (Ty.int xs[i]) (us[i]'(by omega)) (by simp [hi]) hu
      have e2 : us[i]'(by omega) = Value.int .i64 xs[i] := this
      rw [hu, e2]
    have hcu : ∀ j, j < xs.length → cur[j]? = us[j]? := fun j hj => by
      rw [← htk, List.getElem?_take, if_pos hj]; simp
    refine ⟨hgs, fun j hj => ?_, fun ys m os hys => ?_⟩
    · have hj : j < xs.length := by simpa using hj
      rw [Nat.zero_add]
      constructor
      · simp only [World.cell?, hg]
        rw [hcu j hj, hel j hj]
        simp [hj]
      · simp [World.frozen?, hg]
    · have hlt : ∀ b, b < σ.w.heap.size → b < (sortWorld (Value.int .i64) σ.w gb 0 m ys.toArray os).heap.size := fun b hb => Nat.lt_of_lt_of_le hb size_sortWorld
      let ρ : GW := ⟨sortWorld (Value.int .i64) σ.w gb 0 m ys.toArray os, fun b => σ.st b, fun b hb => hlt b (σ.lt b hb)⟩
      have hne : ∀ b, σ.st b ≠ k → gb ≠ b := fun b hb e => hb (e ▸ hgk)
      have hst2 : StpL [k] σ ρ := ⟨rfl, rfl, rfl, by (refine .inl ?_; show σ.w.drawn ≤ σ.w.drawn + m; omega), size_sortWorld, fun b hb hm => by
        show (sortWorld _ _ _ _ _ _ _).heap[b]? = _
        rw [heap_sortWorld hb, if_neg (hne b (by simpa using hm))], fun _ _ _ => rfl⟩
      refine ⟨ρ, rfl, hst2, ?_⟩
      have hg2 : ρ.w.heap[gb]? = some (.cells (putCells (Value.int .i64) 0 ys.toArray cur) e (0, 0)) := by
        show (sortWorld _ _ _ _ _ _ _).heap[gb]? = _
        rw [heap_sortWorld hgs, if_pos rfl, hg]; rfl
      have htake : (putCells (Value.int .i64) 0 ys.toArray cur).toList.take (xs.length * 1) = ys.map (Value.int .i64) := by
        rw [Nat.mul_one]
        apply List.ext_getElem
        · simp [putCells]; omega
        · intro i h1 h2
          simp only [List.length_map] at h2
          simp [putCells, h2]
      have := Own.intro (σ := ρ) (us := ys.map (Value.int .i64)) (n := xs.length) (ts := ys.map Ty.int) hg2 hgk hnc hcm (by simp [putCells, hcs]) htake (by simp) (fun j T u hT hu => by
        simp only [List.getElem?_map, Option.map_eq_some_iff] at hT hu
        obtain ⟨x, hx, rfl⟩ := hT
        obtain ⟨y, hy, rfl⟩ := hu
        rw [hx] at hy; cases hy
        exact rfl)
      rw [hys]; exact this
end Go.KL

/- Orbits: which bells come to each other's places. -/
namespace Go.KL
open Go.RowKit
section
variable {n i j k b q : Nat} {G L R : List (List Int)} {o S : List Int} {r : List Int}
def InO (n : Nat) (G : List (List Int)) (b q : Nat) : Prop := ∃ r, Cl n (fun y => y ∈ G) r ∧ r.getD b 0 = (q : Int)
theorem InO.refl (hb : b < n) : InO n G b b := ⟨roundsL n, .one, roundsL_get hb⟩
theorem InO.trans (hn : 1 ≤ n ∧ n ≤ 12) (hG : ∀ x ∈ G, RowN n x) (hb : b < n) (h : InO n G b q) (h2 : InO n G q k) : InO n G b k := by
  obtain ⟨r, hr, e⟩ := h
  obtain ⟨s, hs, e2⟩ := h2
  refine ⟨byL s r, hs.prod hn hG hr, ?_⟩
  rw [byL_get _ _ _ (by rw [(hr.row hn hG).len]; exact hb), e, Int.toNat_natCast, e2]
theorem InO.symm (hn : 1 ≤ n ∧ n ≤ 12) (hG : ∀ x ∈ G, RowN n x) (hb : b < n) (h : InO n G b q) : InO n G q b := by
  obtain ⟨r, hr, e⟩ := h
  have hrr := hr.row hn hG
  refine ⟨undoL r, hr.undo hn hG, ?_⟩
  have h1 : byL (undoL r) r = roundsL n := undo_left hrr
  have h2 : (byL (undoL r) r).getD b 0 = (b : Int) := by rw [h1]; exact roundsL_get hb
  rwa [byL_get _ _ _ (by rw [hrr.len]; exact hb), e, Int.toNat_natCast] at h2
open Classical in
noncomputable def orbT (n : Nat) (G : List (List Int)) (b m : Nat) : List Int := ((List.range m).filter fun k => decide (InO n G b k)).map fun (k : Nat) => (k : Int)
open Classical in
noncomputable def orbsL (n : Nat) (G : List (List Int)) (m : Nat) : List (List Int) := ((List.range m).filter fun b => decide (∀ k, k < b → ¬ InO n G b k)).map fun b => orbT n G b n
theorem orbT_mem {m : Nat} {x : Int} : x ∈ orbT n G b m ↔ ∃ k : Nat, x = (k : Int) ∧ k < m ∧ InO n G b k := by
  unfold orbT
  simp only [List.mem_map, List.mem_filter, List.mem_range, decide_eq_true_eq]
  constructor
  · rintro ⟨k, ⟨h1, h2⟩, rfl⟩; exact ⟨k, rfl, h1, h2⟩
  · rintro ⟨k, rfl, h1, h2⟩; exact ⟨k, ⟨h1, h2⟩, rfl⟩
theorem orbT_lt {m : Nat} : (orbT n G b m).Pairwise (· < ·) := by
  unfold orbT
  rw [List.pairwise_map]
  exact ((List.pairwise_lt_range).filter _).imp fun h => by omega
theorem orbT_len {m : Nat} : (orbT n G b m).length ≤ m := by
  unfold orbT
  rw [List.length_map]
  exact Nat.le_trans (List.length_filter_le _ _) (by simp)
theorem orbT_yes {m : Nat} (h : InO n G b m) : orbT n G b (m + 1) = orbT n G b m ++ [(m : Int)] := by
  unfold orbT; rw [List.range_succ, List.filter_append, List.map_append]; simp [h]
theorem orbT_no {m : Nat} (h : ¬ InO n G b m) : orbT n G b (m + 1) = orbT n G b m := by
  unfold orbT; rw [List.range_succ, List.filter_append, List.map_append]; simp [h]
theorem orbs_yes (h : ∀ k, k < b → ¬ InO n G b k) : orbsL n G (b + 1) = orbsL n G b ++ [orbT n G b n] := by
  unfold orbsL; rw [List.range_succ, List.filter_append, List.map_append]
  simp only [List.filter_cons, List.filter_nil]
  rw [if_pos (by simpa using h)]; rfl
theorem orbs_no (h : ¬ ∀ k, k < b → ¬ InO n G b k) : orbsL n G (b + 1) = orbsL n G b := by
  unfold orbsL; rw [List.range_succ, List.filter_append, List.map_append]
  simp only [List.filter_cons, List.filter_nil]
  rw [if_neg (by simpa using h)]; simp
theorem orbs_len {m : Nat} : (orbsL n G m).length ≤ m := by
  unfold orbsL
  rw [List.length_map]
  exact Nat.le_trans (List.length_filter_le _ _) (by simp)
theorem sortI_eq {xs ys : List Int} (h1 : xs.Nodup) (h2 : ys.Pairwise (· < ·)) (h : ∀ x, x ∈ xs ↔ x ∈ ys) : sortI xs = ys := by
  have hp : (sortI xs).Perm xs := List.mergeSort_perm _ _
  have hs : (sortI xs).Pairwise (fun x y => decide (x ≤ y) = true) := List.pairwise_mergeSort (by intro a b c; simp; omega) (by intro a b; simp; omega) xs
  have hp2 : xs.Perm ys := (List.perm_ext_iff_of_nodup h1 (h2.imp fun h => by omega)).2 h
  exact List.Perm.eq_of_pairwise (le := fun x y => decide (x ≤ y) = true) (fun a b _ _ h1 h2 => by simp at h1 h2; omega) hs (h2.imp fun h => by simp; omega) (hp.trans hp2)
/-! ### What is seen of those that are done -/
structure SnO (n : Nat) (G : List (List Int)) (b : Nat) (S : List Int) : Prop where
  len : S.length = n
  v : ∀ k, k < n → 0 ≤ S.getD k 0 ∧ S.getD k 0 ≤ 1
  i : ∀ k, k < n → (S.getD k 0 ≠ 0 ↔ ∃ b', b' < b ∧ InO n G b' k)
theorem SnO.start : SnO n G 0 (List.replicate n 0) where
  len := by simp
  v k hk := by simp [hk]
  i k hk := by simp [hk]
theorem SnO.skip (hn : 1 ≤ n ∧ n ≤ 12) (hG : ∀ x ∈ G, RowN n x) (h : SnO n G b S) (hb : b < n) (h0 : S.getD b 0 > 0) : SnO n G (b + 1) S ∧ orbsL n G (b + 1) = orbsL n G b := by
  obtain ⟨b', h1, h2⟩ := (h.i b hb).1 (by omega)
  refine ⟨⟨h.len, h.v, fun k hk => (h.i k hk).trans ⟨fun ⟨c, h3, h4⟩ => ⟨c, by omega, h4⟩, fun ⟨c, h3, h4⟩ => ?_⟩⟩, orbs_no fun h => h b' h1 (h2.symm hn hG (by omega))⟩
  rcases Nat.lt_or_ge c b with h5 | h5
  · exact ⟨c, h5, h4⟩
  · obtain rfl : c = b := by omega
    exact ⟨b', h1, h2.trans hn hG (by omega) h4⟩
structure OBf (n : Nat) (G : List (List Int)) (b : Nat) (o S : List Int) (i j : Nat) : Prop where
  len : S.length = n
  lt : b < n
  new : ¬ ∃ b', b' < b ∧ InO n G b' b
  nd : o.Nodup
  mem : ∀ x ∈ o, ∃ k : Nat, x = (k : Int) ∧ k < n ∧ InO n G b k
  z : (b : Int) ∈ o
  v : ∀ k, k < n → 0 ≤ S.getD k 0 ∧ S.getD k 0 ≤ 1
  sn : ∀ k, k < n → (S.getD k 0 ≠ 0 ↔ (∃ b', b' < b ∧ InO n G b' k) ∨ (k : Int) ∈ o)
  il : i ≤ o.length
  cl : ∀ a, a < i → ∀ x ∈ G, x.getD (o.getD a 0).toNat 0 ∈ o
  clj : ∀ a, a < j → (G.getD a []).getD (o.getD i 0).toNat 0 ∈ o
theorem OBf.start (h : SnO n G b S) (hb : b < n) (h0 : ¬ S.getD b 0 > 0) : OBf n G b [(b : Int)] (S.set b (S.getD b 0 + 1)) 0 0 := by
  have hv := h.v b hb
  have hl := h.len
  have hz : S.getD b 0 = 0 := by omega
  refine ⟨by rw [List.length_set, hl], hb, fun h' => absurd ((h.i b hb).2 h') (by omega), by simp, fun x hx => ⟨b, by simpa using hx, hb, InO.refl hb⟩, by simp, fun k hk => ?_, fun k hk => ?_, by simp, fun a ha => by omega, fun a ha => by omega⟩
  · by_cases e : k = b
    · rw [e, gtSetSelf (by omega), hz]; omega
    · rw [gtSetNe (fun e' => e e'.symm)]; exact h.v k hk
  · by_cases e : k = b
    · subst e; rw [gtSetSelf (by omega), hz]; simp
    · rw [gtSetNe (fun e' => e e'.symm), h.i k hk]
      have : (k : Int) ∉ [(b : Int)] := by simp; omega
      simp [this]
theorem OBf.olen (h : OBf n G b o S i j) : o.length ≤ n := nodup_len n o h.nd fun x hx => by
  obtain ⟨k, rfl, hk, _⟩ := h.mem x hx
  omega
theorem OBf.at_ (h : OBf n G b o S i j) (hi : i < o.length) : 0 ≤ o.getD i 0 ∧ o.getD i 0 < n := by
  obtain ⟨k, e, hk, _⟩ := h.mem _ (mem_atD 0 hi)
  omega
theorem OBf.img (hn : 1 ≤ n ∧ n ≤ 12) (hG : ∀ x ∈ G, RowN n x) (h : OBf n G b o S i j) (hi : i < o.length) {x : List Int} (hx : x ∈ G) : ∃ k : Nat, x.getD (o.getD i 0).toNat 0 = (k : Int) ∧ k < n ∧ InO n G b k := by
  obtain ⟨q, e, hq, hO⟩ := h.mem _ (mem_atD 0 hi)
  rw [e, Int.toNat_natCast]
  have := (hG x hx).at hq
  refine ⟨(x.getD q 0).toNat, by omega, by omega, hO.trans hn hG h.lt ⟨x, Cl.gen (S := fun y => y ∈ G) hG hx, by omega⟩⟩
theorem OBf.old (hn : 1 ≤ n ∧ n ≤ 12) (hG : ∀ x ∈ G, RowN n x) (h : OBf n G b o S i j) (hi : i < o.length) (hj : j < G.length) (h0 : S.getD ((G.getD j []).getD (o.getD i 0).toNat 0).toNat 0 ≠ 0) : OBf n G b o S i (j + 1) := by
  obtain ⟨k, e, hk, hO⟩ := h.img hn hG hi (mem_atD [] hj)
  refine ⟨h.len, h.lt, h.new, h.nd, h.mem, h.z, h.v, h.sn, h.il, h.cl, fun a ha => ?_⟩
  by_cases ea : a = j
  · rw [ea, e]
    rw [e, Int.toNat_natCast, h.sn k hk] at h0
    rcases h0 with ⟨b', h1, h2⟩ | h1
    · exact absurd ⟨b', h1, h2.trans hn hG (by have := h.lt; omega) (hO.symm hn hG h.lt)⟩ h.new
    · exact h1
  · exact h.clj a (by omega)
theorem OBf.put (hn : 1 ≤ n ∧ n ≤ 12) (hG : ∀ x ∈ G, RowN n x) (h : OBf n G b o S i j) (hi : i < o.length) (hj : j < G.length) (h0 : S.getD ((G.getD j []).getD (o.getD i 0).toNat 0).toNat 0 = 0) :
    OBf n G b (o ++ [(G.getD j []).getD (o.getD i 0).toNat 0]) (S.set ((G.getD j []).getD (o.getD i 0).toNat 0).toNat (S.getD ((G.getD j []).getD (o.getD i 0).toNat 0).toNat 0 + 1)) i (j + 1) := by
  obtain ⟨k, e, hk, hO⟩ := h.img hn hG hi (mem_atD [] hj)
  have hl := h.len
  rw [e, Int.toNat_natCast] at h0 ⊢
  have hno : (k : Int) ∉ o := fun hm => by have := (h.sn k hk).2 (.inr hm); omega
  have hgt : (o ++ [(k : Int)]).getD i 0 = o.getD i 0 := by simp [List.getD_eq_getElem?_getD, List.getElem?_append_left hi]
  refine ⟨by rw [List.length_set, hl], h.lt, h.new, ?_, fun x hx => ?_, List.mem_append_left _ h.z, fun m hm => ?_, fun m hm => ?_, by rw [List.length_append]; have := h.il; omega, fun a ha x hx => ?_, fun a ha => ?_⟩
  · rw [List.nodup_append]
    exact ⟨h.nd, by simp, fun a ha c hc => by rw [List.mem_singleton] at hc; rintro rfl; exact hno (hc ▸ ha)⟩
  · rcases List.mem_append.1 hx with hx | hx
    · exact h.mem x hx
    · exact ⟨k, by simpa using hx, hk, hO⟩
  · by_cases em : m = k
    · rw [em, gtSetSelf (by omega), h0]; omega
    · rw [gtSetNe (fun e' => em e'.symm)]; exact h.v m hm
  · by_cases em : m = k
    · subst em; rw [gtSetSelf (by omega), h0]; simp
    · rw [gtSetNe (fun e' => em e'.symm), h.sn m hm]
      have : ((m : Int) = (k : Int)) ↔ False := ⟨fun h => em (by omega), False.elim⟩
      simp [this]
  · have hal := h.il
    have : (o ++ [(k : Int)]).getD a 0 = o.getD a 0 := by simp [List.getD_eq_getElem?_getD, List.getElem?_append_left (show a < o.length by omega)]
    rw [this]; exact List.mem_append_left _ (h.cl a ha x hx)
  · rw [hgt]
    by_cases ea : a = j
    · rw [ea, e]; simp
    · exact List.mem_append_left _ (h.clj a (by omega))
theorem OBf.next (h : OBf n G b o S i G.length) (hi : i < o.length) : OBf n G b o S (i + 1) 0 :=
  ⟨h.len, h.lt, h.new, h.nd, h.mem, h.z, h.v, h.sn, by omega, fun a ha x hx => by
    by_cases e : a = i
    · rw [e]
      obtain ⟨c, hc, rfl⟩ := List.getElem_of_mem hx
      have := h.clj c hc
      simpa [List.getD_eq_getElem?_getD, hc] using this
    · exact h.cl a (by omega) x hx, fun a ha => by omega⟩
theorem OBf.all (hn : 1 ≤ n ∧ n ≤ 12) (hG : ∀ x ∈ G, RowN n x) (h : OBf n G b o S o.length j) (hr : Cl n (fun y => y ∈ G) r) : r.getD b 0 ∈ o := by
  induction hr with
  | one => rw [roundsL_get h.lt]; exact h.z
  | @mul x y hx hy ih =>
    have hyr := hy.row hn hG
    rw [byL_get _ _ _ (by rw [hyr.len]; exact h.lt)]
    obtain ⟨a, ha, e⟩ := List.getElem_of_mem ih
    have := h.cl a ha x hx
    rwa [show o.getD a 0 = y.getD b 0 by rw [← e]; simp [ha]] at this
theorem OBf.done (hn : 1 ≤ n ∧ n ≤ 12) (hG : ∀ x ∈ G, RowN n x) (h : OBf n G b o S i j) (hi : i = o.length) : sortI o = orbT n G b n ∧ SnO n G (b + 1) S ∧ orbsL n G (b + 1) = orbsL n G b ++ [orbT n G b n] := by
  subst hi
  have hm : ∀ k : Nat, k < n → ((k : Int) ∈ o ↔ InO n G b k) := fun k hk => ⟨fun hk' => by
    obtain ⟨m, e, _, hO⟩ := h.mem _ hk'
    obtain rfl : k = m := by omega
    exact hO, fun ⟨r, hr, e⟩ => e ▸ h.all hn hG hr⟩
  refine ⟨sortI_eq h.nd orbT_lt fun x => ?_, ⟨h.len, h.v, fun k hk => ?_⟩, orbs_yes fun k hk hO => h.new ⟨k, hk, hO.symm hn hG h.lt⟩⟩
  · rw [orbT_mem]
    constructor
    · intro hx
      obtain ⟨k, rfl, hk, hO⟩ := h.mem x hx
      exact ⟨k, rfl, hk, hO⟩
    · rintro ⟨k, rfl, hk, hO⟩
      exact (hm k hk).2 hO
  · rw [h.sn k hk, hm k hk]
    constructor
    · rintro (⟨b', h1, h2⟩ | h1)
      · exact ⟨b', by omega, h2⟩
      · exact ⟨b, by omega, h1⟩
    · rintro ⟨b', h1, h2⟩
      rcases Nat.lt_or_ge b' b with h3 | h3
      · exact .inl ⟨b', h3, h2⟩
      · obtain rfl : b' = b := by omega
        exact .inr h2
/-! ### The document's orbits -/
structure ThO (n : Nat) (L : List (List Int)) (b i : Nat) (S : List Int) : Prop where
  len : S.length = n
  v : ∀ k, k < n → (S.getD k 0 > 0 ↔ ∃ a, a < i ∧ (L.getD a []).getD b 0 = (k : Int))
theorem ThO.start : ThO n L b 0 (List.replicate n 0) := ⟨by simp, fun k hk => by simp [hk]⟩
theorem ThO.put (h : ThO n L b i S) (h0 : 0 ≤ (L.getD i []).getD b 0 ∧ (L.getD i []).getD b 0 < n) : ThO n L b (i + 1) (S.set ((L.getD i []).getD b 0).toNat 1) := by
  have hl := h.len
  refine ⟨by rw [List.length_set, hl], fun k hk => ?_⟩
  by_cases e : k = ((L.getD i []).getD b 0).toNat
  · rw [e, gtSetSelf (by omega)]
    exact ⟨fun _ => ⟨i, by omega, by omega⟩, fun _ => by omega⟩
  · rw [gtSetNe (fun e' => e e'.symm), h.v k hk]
    constructor
    · rintro ⟨a, h1, h2⟩; exact ⟨a, by omega, h2⟩
    · rintro ⟨a, h1, h2⟩
      rcases Nat.lt_or_ge a i with h3 | h3
      · exact ⟨a, h3, h2⟩
      · obtain rfl : a = i := by omega
        omega
theorem ThO.done (h : ThO n L b L.length S) (hL : ∀ x, x ∈ L ↔ Cl n (fun y => y ∈ G) x) (hk : k < n) : S.getD k 0 > 0 ↔ InO n G b k := by
  rw [h.v k hk]
  constructor
  · rintro ⟨a, h1, h2⟩; exact ⟨_, (hL _).1 (mem_atD [] h1), h2⟩
  · rintro ⟨r, hr, e⟩
    obtain ⟨a, ha, rfl⟩ := List.getElem_of_mem ((hL r).2 hr)
    exact ⟨a, ha, by simpa [List.getD_eq_getElem?_getD, ha] using e⟩
theorem orbT_head (hb : b < n) : 0 < (orbT n G b n).length ∧ ((orbT n G b n).getD 0 0 = (b : Int) ↔ ∀ k, k < b → ¬ InO n G b k) := by
  have hbm : (b : Int) ∈ orbT n G b n := orbT_mem.2 ⟨b, rfl, hb, InO.refl hb⟩
  have hpos := List.length_pos_of_mem hbm
  refine ⟨hpos, fun e k hk hO => ?_, fun h => ?_⟩
  · have hkm : (k : Int) ∈ orbT n G b n := orbT_mem.2 ⟨k, rfl, by omega, hO⟩
    obtain ⟨a, ha, e2⟩ := List.getElem_of_mem hkm
    rcases Nat.eq_zero_or_pos a with h0 | h0
    · subst h0
      rw [List.getD_eq_getElem?_getD, List.getElem?_eq_getElem hpos] at e
      simp only [Option.getD_some] at e
      omega
    · have := List.pairwise_iff_getElem.1 (orbT_lt (n := n) (G := G) (b := b) (m := n)) 0 a hpos ha h0
      rw [List.getD_eq_getElem?_getD, List.getElem?_eq_getElem hpos] at e
      simp only [Option.getD_some] at e
      omega
  · obtain ⟨k, e, hk, hO⟩ := orbT_mem.1 (mem_atD 0 hpos)
    have h1 : ¬ k < b := fun hlt => h k hlt hO
    obtain ⟨a, ha, e2⟩ := List.getElem_of_mem hbm
    rcases Nat.eq_zero_or_pos a with h0 | h0
    · subst h0
      rw [List.getD_eq_getElem?_getD, List.getElem?_eq_getElem hpos]
      simpa using e2
    · have := List.pairwise_iff_getElem.1 (orbT_lt (n := n) (G := G) (b := b) (m := n)) 0 a hpos ha h0
      rw [List.getD_eq_getElem?_getD, List.getElem?_eq_getElem hpos] at e
      simp only [Option.getD_some] at e
      omega
end
end Go.KL

/- Those that leave a bell in its place: by a chain whose first base is this bell. -/
namespace Go.KL
open Go.RowKit
section
variable {n b i j : Nat} {G K : List (List Int)} {x y r : List Int} {c d tc : Nat → Lev}
def swapL (n b : Nat) : List Int := ((roundsL n).set 0 (b : Int)).set b 0
theorem swap_len : (swapL n b).length = n := by unfold swapL; rw [List.length_set, List.length_set, roundsL_len]
theorem swap_get (hb : b < n) {k : Nat} (hk : k < n) : (swapL n b).getD k 0 = if k = 0 then (b : Int) else if k = b then 0 else (k : Int) := by
  unfold swapL
  by_cases h1 : k = b
  · subst h1
    rw [gtSetSelf (by rw [List.length_set, roundsL_len]; exact hk)]
    by_cases h2 : k = 0
    · subst h2; rfl
    · rw [if_neg h2, if_pos rfl]
  · rw [gtSetNe (fun e => h1 e.symm)]
    by_cases h2 : k = 0
    · subst h2; rw [gtSetSelf (by rw [roundsL_len]; exact hk), if_pos rfl]
    · rw [gtSetNe (fun e => h2 e.symm), roundsL_get hk, if_neg h2, if_neg h1]
theorem swap_back (hb : b < n) {k : Nat} (hk : k < n) : (swapL n b).getD ((swapL n b).getD k 0).toNat 0 = (k : Int) := by
  rw [swap_get hb hk]
  by_cases h1 : k = 0
  · subst h1
    rw [if_pos rfl, Int.toNat_natCast, swap_get hb hb]
    by_cases h2 : b = 0
    · subst h2; rfl
    · rw [if_neg h2, if_pos rfl]; rfl
  · rw [if_neg h1]
    by_cases h2 : k = b
    · subst h2
      rw [if_pos rfl, show (0 : Int).toNat = 0 from rfl, swap_get hb (by omega), if_pos rfl]
    · rw [if_neg h2, Int.toNat_natCast, swap_get hb hk, if_neg h1, if_neg h2]
theorem swap_twice (hb : b < n) : byL (swapL n b) (swapL n b) = roundsL n := by
  refine ext0 (by rw [byL_len, swap_len, roundsL_len]) fun k hk => ?_
  rw [byL_len, swap_len] at hk
  rw [byL_get _ _ _ (by rw [swap_len]; exact hk), swap_back hb hk, roundsL_get hk]
theorem swap_lt (hb : b < n) {k : Nat} (hk : k < n) : 0 ≤ (swapL n b).getD k 0 ∧ (swapL n b).getD k 0 < n := by
  rw [swap_get hb hk]
  by_cases h1 : k = 0
  · rw [if_pos h1]; omega
  · rw [if_neg h1]
    by_cases h2 : k = b
    · rw [if_pos h2]; omega
    · rw [if_neg h2]; omega
theorem swap_row (hn : 1 ≤ n ∧ n ≤ 12) (hb : b < n) : RowN n (swapL n b) := by
  have hl := swap_len (n := n) (b := b)
  refine ⟨⟨by omega, by omega, fun k hk => ?_⟩, hl⟩
  rw [hl] at hk
  have hm : (k : Int) ∈ swapL n b := by
    have h1 := swap_lt hb hk
    have := mem_atD (l := swapL n b) 0 (show ((swapL n b).getD k 0).toNat < (swapL n b).length by omega)
    rwa [swap_back hb hk] at this
  have hnd : (swapL n b).Nodup := by
    rw [List.nodup_iff_pairwise_ne, List.pairwise_iff_getElem]
    intro u v hu hv huv e
    have e1 : (swapL n b).getD u 0 = (swapL n b).getD v 0 := by simp [List.getD_eq_getElem?_getD, hu, hv, e]
    have h1 := swap_back hb (show u < n by omega)
    rw [e1, swap_back hb (show v < n by omega)] at h1
    omega
  have h1 := List.count_pos_iff.2 hm
  have h2 := List.nodup_iff_count.1 hnd (k : Int)
  omega
def turnL (n b : Nat) (x : List Int) : List Int := byL (swapL n b) (byL x (swapL n b))
variable (hn : 1 ≤ n ∧ n ≤ 12) (hb : b < n)
include hn hb
theorem turn_row (hx : RowN n x) : RowN n (turnL n b x) := (swap_row hn hb).by (hx.by (swap_row hn hb))
theorem turn_mul (hx : RowN n x) (hy : RowN n y) : turnL n b (byL x y) = byL (turnL n b x) (turnL n b y) := by
  have hs := swap_row hn hb
  unfold turnL
  rw [← by_as _ (hx.by hs) (hs.by (hy.by hs)), ← by_as x hs (hs.by (hy.by hs)), by_as _ hs (hy.by hs), swap_twice hb, byL_rounds_left (hy.by hs).bd, by_as x hy hs]
theorem turn_one : turnL n b (roundsL n) = roundsL n := by
  unfold turnL; rw [byL_rounds_left (swap_row hn hb).bd, swap_twice hb]
theorem turn_turn (hx : RowN n x) : turnL n b (turnL n b x) = x := by
  have hs := swap_row hn hb
  unfold turnL
  rw [← by_as _ (hx.by hs) hs, ← by_as x hs hs, swap_twice hb, byL_rounds_right hx.len, by_as _ hs hx, swap_twice hb, byL_rounds_left hx.bd]
theorem turn_zero (hx : RowN n x) : (turnL n b x).getD 0 0 = 0 ↔ x.getD b 0 = (b : Int) := by
  have hs := swap_row hn hb
  have h0 : (swapL n b).getD 0 0 = (b : Int) := by rw [swap_get hb (by omega), if_pos rfl]
  unfold turnL
  rw [byL_get _ _ _ (by rw [byL_len, swap_len]; omega), byL_get _ _ _ (by rw [swap_len]; omega), h0, Int.toNat_natCast]
  have hx0 := hx.at hb
  constructor
  · intro h
    have h1 := swap_back hb (show (x.getD b 0).toNat < n by omega)
    rw [h, show (0 : Int).toNat = 0 from rfl, h0] at h1
    omega
  · intro h
    rw [h, Int.toNat_natCast, swap_get hb hb]
    by_cases e : b = 0
    · rw [if_pos e, e]; rfl
    · rw [if_neg e, if_pos rfl]
theorem turn_cl (hG : ∀ x ∈ G, RowN n x) (hK : ∀ x ∈ K, RowN n x) (h : ∀ x ∈ G, Cl n (fun y => y ∈ K) (turnL n b x)) (hr : Cl n (fun y => y ∈ G) r) : Cl n (fun y => y ∈ K) (turnL n b r) := by
  induction hr with
  | one => rw [turn_one hn hb]; exact .one
  | @mul x y hx hy ih =>
    rw [turn_mul hn hb (hG x hx) (hy.row hn hG)]
    exact (h x hx).prod hn hK ih
omit hn hb in
structure StI (n b : Nat) (G : List (List Int)) (tc : Nat → Lev) (j i : Nat) (K : List (List Int)) (c : Nat → Lev) : Prop where
  of : ChnOf n K c
  row : ∀ x ∈ K, RowN n x
  sub : ∀ x ∈ K, Cl n (fun y => y ∈ G) x ∧ x.getD b 0 = (b : Int)
  cov : ∀ l, 1 ≤ l → l ≤ j → ∀ s ∈ (tc l).gens, Cl n (fun y => y ∈ K) (turnL n b s)
  cur : ∀ a, a < i → Cl n (fun y => y ∈ K) (turnL n b ((tc (1 + j)).gens.getD a []))
  len : K.length ≤ j * 1000000 + i
omit hn hb in
theorem StI.start (h : ChnOf n [] c) : StI n b G tc 0 0 [] c := ⟨h, fun x hx => (by cases hx), fun x hx => (by cases hx), fun l h1 h2 => by omega, fun a ha => by omega, by simp⟩
omit hn hb in
theorem lev_gens (hT : ChnOf n (G.map (turnL n b)) tc) (hl : j < n) : (tc j).gens.length ≤ 1000000 := by
  have := hT.room j (Nat.zero_le _) hl
  have h2 : 0 ≤ (j - 0 + 1) * miss n tc 0 := Nat.zero_le _
  omega
theorem StI.at_ (hG : ∀ x ∈ G, RowN n x) (hT : ChnOf n (G.map (turnL n b)) tc) (hj : j + 1 < n) (hi : i < (tc (1 + j)).gens.length) :
    RowN n ((tc (1 + j)).gens.getD i []) ∧ RowN n (turnL n b ((tc (1 + j)).gens.getD i [])) ∧ Cl n (fun y => y ∈ G) (turnL n b ((tc (1 + j)).gens.getD i [])) ∧ (turnL n b ((tc (1 + j)).gens.getD i [])).getD b 0 = (b : Int) := by
  have hM : ∀ x ∈ G.map (turnL n b), RowN n x := fun x hx => by
    obtain ⟨y, hy, rfl⟩ := List.mem_map.1 hx
    exact turn_row hn hb (hG y hy)
  have hm := mem_atD [] hi
  have hs := ((hT.wc.lev (1 + j) (by omega)).gen _ hm)
  have hcl : Cl n (GS tc (1 + j)) ((tc (1 + j)).gens.getD i []) := Cl.gen (S := GS tc (1 + j)) (hT.wc.gs (by omega)) hm
  have h0 : Cl n (GS tc 0) ((tc (1 + j)).gens.getD i []) := Good.dn hT.wc (1 + j) 0 hT.good (by omega) (by simpa using hcl)
  have h1 := (hT.cl _).1 h0
  have h2 : Cl n (fun y => y ∈ G) (turnL n b ((tc (1 + j)).gens.getD i [])) := turn_cl hn hb hM hG (fun x hx => by
    obtain ⟨y, hy, rfl⟩ := List.mem_map.1 hx
    rw [turn_turn hn hb (hG y hy)]
    exact Cl.gen (S := fun y => y ∈ G) hG hy) h1
  have h3 := turn_row hn hb hs.1
  refine ⟨hs.1, h3, h2, ?_⟩
  rw [← turn_zero hn hb h3, turn_turn hn hb hs.1]
  exact hs.2 0 (by omega)
omit hb hn in
theorem StI.old (h : StI n b G tc j i K c) (hm : Cl n (fun y => y ∈ K) (turnL n b ((tc (1 + j)).gens.getD i []))) : StI n b G tc j (i + 1) K c := ⟨h.of, h.row, h.sub, h.cov, fun a ha => by
  by_cases e : a = i
  · rw [e]; exact hm
  · exact h.cur a (by omega), by have := h.len; omega⟩
omit hb hn in
theorem StI.new (h : StI n b G tc j i K c) (hx : RowN n x) (e : turnL n b ((tc (1 + j)).gens.getD i []) = x) (h1 : Cl n (fun y => y ∈ G) x) (h2 : x.getD b 0 = (b : Int)) (ha : AddP n 0 x c d) : StI n b G tc j (i + 1) (K ++ [x]) d := by
  have hn := h.of.wc.nn
  have hK : ∀ y ∈ K ++ [x], RowN n y := fun y hy => by
    rcases List.mem_append.1 hy with hy | hy
    · exact h.row y hy
    · rw [List.mem_singleton.1 hy]; exact hx
  have up : ∀ z, Cl n (fun y => y ∈ K) z → Cl n (fun y => y ∈ K ++ [x]) z := fun z hz => hz.sub hn hK fun y hy => Cl.gen (S := fun y => y ∈ K ++ [x]) hK (List.mem_append_left _ hy)
  refine ⟨h.of.add h.row hx ha, hK, fun y hy => ?_, fun l a1 a2 s hs => up _ (h.cov l a1 a2 s hs), fun a ha' => ?_, by rw [List.length_append, List.length_singleton]; have := h.len; omega⟩
  · rcases List.mem_append.1 hy with hy | hy
    · exact h.sub y hy
    · rw [List.mem_singleton.1 hy]; exact ⟨h1, h2⟩
  · by_cases ea : a = i
    · rw [ea, e]; exact Cl.gen (S := fun y => y ∈ K ++ [x]) hK (by simp)
    · exact up _ (h.cur a (by omega))
omit hb hn in
theorem StI.next (h : StI n b G tc j (tc (1 + j)).gens.length K c) (hl : (tc (1 + j)).gens.length ≤ 1000000) : StI n b G tc (j + 1) 0 K c := ⟨h.of, h.row, h.sub, fun l h1 h2 s hs => by
  by_cases e : l = 1 + j
  · subst e
    obtain ⟨a, ha, rfl⟩ := List.getElem_of_mem hs
    have := h.cur a ha
    simpa [List.getD_eq_getElem?_getD, ha] using this
  · exact h.cov l h1 (by omega) s hs, fun a ha => by omega, (by have h2 := h.len; rw [Nat.add_mul, Nat.one_mul]; exact Nat.le_trans h2 (Nat.add_le_add_left hl _))⟩
omit hn hb in
structure StlP (n b : Nat) (G K : List (List Int)) (c : Nat → Lev) : Prop where
  of : ChnOf n K c
  row : ∀ x ∈ K, RowN n x
  cl : ∀ r, Cl n (fun y => y ∈ K) r ↔ Cl n (fun y => y ∈ G) r ∧ r.getD b 0 = (b : Int)
  len : K.length ≤ 12000000
theorem StI.done (hG : ∀ x ∈ G, RowN n x) (hT : ChnOf n (G.map (turnL n b)) tc) (h : StI n b G tc j 0 K c) (hj : j + 1 = n) : StlP n b G K c := by
  refine ⟨h.of, h.row, fun r => ⟨fun hr => ?_, fun ⟨hr, hf⟩ => ?_⟩, by have := h.len; omega⟩
  · refine ⟨hr.sub hn hG fun y hy => (h.sub y hy).1, ?_⟩
    induction hr with
    | one => exact roundsL_get hb
    | @mul x y hx hy ih =>
      rw [byL_get _ _ _ (by rw [(hy.row hn h.row).len]; exact hb), ih, Int.toNat_natCast, (h.sub x hx).2]
  · have hM : ∀ x ∈ G.map (turnL n b), RowN n x := fun x hx => by
      obtain ⟨y, hy, rfl⟩ := List.mem_map.1 hx
      exact turn_row hn hb (hG y hy)
    have hrr := hr.row hn hG
    have htr := turn_row hn hb hrr
    have h1 : Cl n (fun y => y ∈ G.map (turnL n b)) (turnL n b r) := turn_cl hn hb hG hM (fun x hx => Cl.gen (S := fun y => y ∈ G.map (turnL n b)) hM (List.mem_map.2 ⟨x, hx, rfl⟩)) hr
    have hfx : Fx 1 (turnL n b r) := fun k hk => by
      obtain rfl : k = 0 := by omega
      exact (turn_zero hn hb hrr).2 hf
    have h2 := (hT.has htr).2 h1
    rw [mem_down hT.wc (by omega) htr hfx] at h2
    have h3 := (hT.good 1 (by omega) (by omega) _ htr hfx).1 h2
    have hg1 : ∀ x ∈ (tc 1).gens, RowN n x := fun x hx => (hT.wc.gs (k := 1) (by omega)) x hx
    have h4 := turn_cl hn hb hg1 h.row (fun s hs => by
      by_cases e : n = 1
      · have := hT.wc.top; rw [e] at this; rw [this] at hs; cases hs
      · exact h.cov 1 (Nat.le_refl _) (by omega) s hs) h3
    rwa [turn_turn hn hb hrr] at h4
end
end Go.KL

/- Groups, as the document says: what the law's functions ask of words, orbits and stabilisers. -/
namespace Go.KL
open Go.RowKit
section
variable {n b i : Nat} {G K R W E F : List (List Int)} {r w : List Int} {c d : Nat → Lev} {z : Int}
theorem has_sz (hC : ChnOf n G c) (hG : ∀ x ∈ G, RowN n x) (hr : RowN n r) : szTo n (fun y => y ∈ G ++ [r]) n = szTo n (fun y => y ∈ G) n ↔ hasB n c r = true := by
  rw [sz_app hC.wc.nn hG (fun x hx => by rw [List.mem_singleton.1 hx]; exact hr), hasB_iff hC hG hr]
  exact ⟨fun h => h r (by simp), fun h x hx => by rw [List.mem_singleton.1 hx]; exact h⟩
theorem has_szB (hC : ChnOf n G c) (hG : ∀ x ∈ G, RowN n x) (hr : RowN n r) : hasB n c r = decide (((szTo n (fun y => y ∈ G ++ [r]) n : Nat) : Int) = ((szTo n (fun y => y ∈ G) n : Nat) : Int)) := by
  have h := has_sz hC hG hr
  by_cases e : szTo n (fun y => y ∈ G ++ [r]) n = szTo n (fun y => y ∈ G) n
  · rw [h.1 e, e]; simp
  · rw [show hasB n c r = false by cases hh : hasB n c r <;> simp_all]
    exact (decide_eq_false (by omega)).symm
theorem word_big (h : 5040 < szTo n (fun y => y ∈ G) n) : wordE n c G r ≠ 0 := by
  unfold wordE
  by_cases h1 : fitsE n r ≠ 0
  · rw [if_pos h1]; exact h1
  · rw [if_neg h1]
    by_cases h2 : hasB n c r = false
    · rw [if_pos h2]; decide
    · rw [if_neg h2, if_pos h]; decide
def AtI (R : List (List Int)) (r : List Int) (f : Int) (i : Nat) (z : Int) : Prop := (z = -1 ∧ (f = 0 → ∀ k, k < i → R.getD k [] ≠ r)) ∨ (f = 0 ∧ ∃ a : Nat, z = (a : Int) ∧ a < i ∧ R.getD a [] = r)
theorem AtI.start {f : Int} : AtI R r f 0 (-1) := .inl ⟨rfl, fun _ k hk => by omega⟩
theorem AtI.yes {f : Int} (_h : AtI R r f i z) (hf : f = 0) (e : R.getD i [] = r) : AtI R r f (i + 1) (i : Int) := .inr ⟨hf, i, rfl, by omega, e⟩
theorem AtI.no {f : Int} (h : AtI R r f i z) (e : R.getD i [] ≠ r) : AtI R r f (i + 1) z := by
  rcases h with ⟨h1, h2⟩ | ⟨h1, a, h2, h3, h4⟩
  · refine .inl ⟨h1, fun hf k hk => ?_⟩
    rcases Nat.lt_or_ge k i with h3 | h3
    · exact h2 hf k h3
    · rw [show k = i by omega]; exact e
  · exact .inr ⟨h1, a, h2, by omega, h4⟩
theorem AtI.fin (hC : ChnOf n G c) (hG : ∀ x ∈ G, RowN n x) (hs : szTo n (fun y => y ∈ G) n ≤ 5040) (hm : ∀ x, x ∈ R ↔ Cl n (fun y => y ∈ G) x) (hwl : W.length = R.length) (hY : ClY n G R W R.length) (hW : WrdP n c G r w) (h : AtI R r (fitsE n r) i z) (hi : fitsE n r = 0 → i = R.length) :
    (fitsE n r = 0 → z < 0 → wordE n c G r = 14) ∧ ((fitsE n r = 0 → ¬ z < 0) → fitsE n r = wordE n c G r) ∧ (wordE n c G r = 0 → ∃ a : Nat, z = (a : Int) ∧ a < W.length ∧ w = W.getD a []) := by
  have hn := hC.wc.nn
  by_cases hf : fitsE n r = 0
  · have hr := fits_ok.1 hf
    have hb := hasB_iff hC hG hr
    rcases h with ⟨h1, h2⟩ | ⟨_, a, h2, h3, h4⟩
    · have hb0 : hasB n c r = false := by
        cases hh : hasB n c r with
        | false => rfl
        | true =>
          obtain ⟨k, hk, e⟩ := List.getElem_of_mem ((hm r).2 (hb.1 hh))
          exact absurd (by simpa [List.getD_eq_getElem?_getD, hk] using e) (h2 hf k (by rw [hi hf]; exact hk))
      have h14 := word_14 (G := G) hf hb0
      exact ⟨fun _ _ => h14, fun h => absurd (by omega) (h hf), fun h => by omega⟩
    · have hal : a < R.length := by rw [← hi hf]; exact h3
      have hin : r ∈ R := h4 ▸ mem_atD [] hal
      have h0 := word_0 hf (hb.2 ((hm r).1 hin)) (show ¬ 5040 < szTo n (fun y => y ∈ G) n by omega)
      refine ⟨fun _ hz => by omega, fun _ => by omega, fun _ => ⟨a, h2, by omega, ?_⟩⟩
      exact (hW.1 h0).uniq hn hG ⟨R.length, R, W, a, hY, hal, h4, rfl⟩
  · have h1 := word_fit (c := c) (G := G) hf
    exact ⟨fun h => absurd h hf, fun _ => h1.symm, fun h => absurd (h1 ▸ h) hf⟩
/-! ### Those that stay -/
def stayT (R : List (List Int)) (b i : Nat) : List (List Int) := (R.take i).filter fun x => decide (x.getD b 0 = (b : Int))
theorem stay_yes (hi : i < R.length) (h : (R.getD i []).getD b 0 = (b : Int)) : stayT R b (i + 1) = stayT R b i ++ [R.getD i []] := by
  unfold stayT; rw [take_snoc R [] i hi, List.filter_append, List.filter_cons, if_pos (decide_eq_true h)]; rfl
theorem stay_no (hi : i < R.length) (h : (R.getD i []).getD b 0 ≠ (b : Int)) : stayT R b (i + 1) = stayT R b i := by
  unfold stayT; rw [take_snoc R [] i hi, List.filter_append, List.filter_cons, if_neg (by rw [decide_eq_false h]; decide)]; simp
theorem stay_len : (stayT R b i).length ≤ i := by
  unfold stayT
  exact Nat.le_trans (List.length_filter_le _ _) (List.length_take_le _ _)
theorem StlP.sz (hG : ∀ x ∈ G, RowN n x) (hF : EltsOk n G F) (h : StlP n b G K d) : szTo n (fun y => y ∈ K) n ≤ szTo n (fun y => y ∈ G) n := by
  obtain ⟨E, hE⟩ := h.of.elts h.row
  rw [← hE.len, ← hF.len]
  exact nd_sub hE.nd fun x hx => (hF.mem x).2 ((h.cl x).1 ((hE.mem x).1 hx)).1
theorem StlP.stay (h : StlP n b G K d) (hE : EltsOk n K E) (hnd : R.Nodup) (hm : ∀ x, x ∈ R ↔ Cl n (fun y => y ∈ G) x) : ordS (stayT R b R.length) = E := by
  have hp := ordS_perm (stayT R b R.length)
  have hnd2 : (stayT R b R.length).Nodup := by unfold stayT; rw [List.take_length]; exact hnd.filter _
  have hs : (ordS (stayT R b R.length)).Pairwise fun x y => belowL x y = true := (List.Pairwise.and (ordS_sort _) (hp.nodup_iff.2 hnd2)).imp fun {a b} h => (leL_cases h.1).resolve_left h.2
  refine strict_one hs (lt_of_elts hE) fun x => ?_
  rw [hp.mem_iff, hE.mem, h.cl]
  unfold stayT
  rw [List.take_length, List.mem_filter, hm]
  simp
theorem getD_i64 (h : ∀ x ∈ w, -9223372036854775808 ≤ x ∧ x ≤ 9223372036854775807) (j : Nat) : -9223372036854775808 ≤ w.getD j 0 ∧ w.getD j 0 ≤ 9223372036854775807 := by
  rcases Nat.lt_or_ge j w.length with hj | hj
  · exact h _ (mem_atD 0 hj)
  · rw [List.getD_eq_getElem?_getD, List.getElem?_eq_none hj]; simp
end
end Go.KL

/- Rows that share an array: 'append' leaves alone what is ahead. -/
namespace Go.KL
open Go.RowKit
variable {P : Program}

variable {d : Option Tmp} {ty : TypeId} {pos : String} {af : Array Edge} {g : Option (Nat × Bool)} {a : Act} {σ : GW}

end Go.KL

/- 'append' to a fresh empty row, in any order with what stands beside it. -/
namespace Go.KL
open Go.RowKit
variable {P : Program}

theorem own_append0 {σ : GW} {k : Nat} {t ty e : TypeId} {z : Value} {c by_ : Nat} {v src : Value} {n m : Nat} {ts us : List Ty} (hk : 2 ≤ k) (ht : P.underlying t = some (.slice e)) (he : Info P e z c by_) (hz : z.cells.size = c) (hc : 0 < c)
    (h : Own σ k e c v n ts) (hx : (Ty.sl c m us).has σ src) (h1 : ∀ U, U ∈ us → One U) (hlen : n + m ≤ 9223372036854775807) (hbytes : (n + m) * by_ ≤ 140737488355328) (hv0 : ∃ ad, v = .slice ad n 0) :
    ∃ v' τ, (Builtin.append_ #[t, t] ty #[v, src]).run P σ.w = .ok v' τ.w ∧ Stp 0 σ τ ∧ Own τ k e c v' (n + m) (ts ++ us) := by
  have h0 := h
  obtain ⟨vs, r1, r2, r3, r4⟩ := h
  obtain ⟨ad, cap0, b, o, rfl, hcap0, hl, hs, hcl⟩ := hx
  obtain ⟨i, hi, hi1, rfl, rfl⟩ := he.get
  obtain ⟨ws, w1, w2, w3⟩ := sl_news hcl
  have hone : ∀ u ∈ ws, u.oneCell' = true := fun u hu => by
    obtain ⟨j, hj⟩ := List.mem_iff_getElem?.1 hu
    obtain ⟨T, hT⟩ : ∃ T, us[j]? = some T := ⟨us[j]'(by rw [← w1]; exact (List.getElem?_eq_some_iff.1 hj).1), by simp⟩
    exact h1 T (List.mem_of_getElem? hT) σ u (w3 j T u hT hj)
  have hlw : ws.length = m * i.size := by rw [w1]; exact hl
  have hl' : (vs ++ ws).length = (ts ++ us).length := by simp [r2, w1]
  -- a new array
  have new : ∀ (old : Nat) (τw : World), old < n + m → τw = σ.w.drew.alloc (.cells (vs.toArray ++ ws.toArray ++ Builtin.zeroCells z.cells (grownCap σ.w (n + m) old e - (n + m))) e) →
      ∃ τ : GW, τ.w = τw ∧ Stp 0 σ τ ∧ Own τ k e i.size (.slice (some ⟨σ.w.heap.size, 0, none⟩) (n + m) (grownCap σ.w (n + m) old e)) (n + m) (ts ++ us) := by
    intro old τw _ hτ
    subst hτ
    have hge := grownCap_ge σ.w (n + m) old e
    have hcm : grownCap σ.w (n + m) old e ≤ maxLen := grownCap_le_maxLen σ.w (n + m) old e hlen
    have hstp : Stp 0 σ (σ.drew.mk' k (.cells (vs.toArray ++ ws.toArray ++ Builtin.zeroCells z.cells (grownCap σ.w (n + m) old e - (n + m))) e)) := (Stp.drew σ).trans (Stp.mk' σ.drew k _)
    refine ⟨_, rfl, hstp, Own.intro (us := vs ++ ws) (heap_alloc_new σ.w.drew _) (by show (if _ = _ then k else _) = k; rw [if_pos]; rfl) hge hcm ?_ ?_ hl' ?_⟩
    · simp only [Array.size_append, List.size_toArray, size_zeroCells, hz, r1.1, hlw, ← Nat.add_mul]
      congr 1; omega
    · simp only [Array.toList_append, List.append_assoc]
      rw [← List.append_assoc, show (n + m) * i.size = (vs ++ ws).length by rw [List.length_append, r1.1, hlw, Nat.add_mul]]
      exact List.take_left
    · exact typed_append r2 (fun j T u hT hu => T.up hstp.le0 (r3 j T u hT hu)) (fun j T u hT hu => T.up hstp.le0 (w3 j T u hT hu))
  rcases r1.2 with ⟨rfl, rfl⟩ | ⟨g, cap, cur, rfl, _, hg, hn, hm, hcs, htk⟩
  · have hvs : vs = [] := List.eq_nil_of_length_eq_zero (by rw [r1.1]; simp)
    by_cases hm0 : m = 0
    · subst hm0
      have hus : us = [] := List.eq_nil_of_length_eq_zero (by rw [hl]; simp)
      subst hus
      refine ⟨.slice none 0 0, σ, ?_, Stp.refl _ _, by simpa using h0⟩
      cases ad <;> simp [Builtin.append_, run_underlying ht, sizeOf, typeInfo, hi, Builtin.lenOf, Builtin.firstCells, loadCells, loadCellsFrom]
    · have hus : us ≠ [] := by
        intro e; subst e
        have : 0 < m * i.size := Nat.mul_pos (by omega) hc
        simp only [List.length_nil] at hl
        omega
      obtain ⟨rfl, hst⟩ := hs.resolve_left hus
      have hr := run_append_nil (P := P) σ.w t ty e i z ht hi hi1 ⟨b, o, none⟩ m cap0 ws hlw (fun j u hj => by rw [Addr.add_lit]; exact w2 j u hj) (by omega) (by omega) (by simp only [Nat.zero_add] at hbytes; omega)
      obtain ⟨τ, e1, e2, e3⟩ := new 0 _ (by omega) rfl
      simp only [Nat.zero_add] at e1 e3 ⊢
      exact ⟨_, τ, by rw [hr, e1, hvs]; simp, e2, e3⟩
  · have hlt : g < σ.w.heap.size := (Array.getElem?_eq_some_iff.1 hg).1
    have hgk := r4 g rfl
    by_cases hnone : ad = none
    · subst hnone
      have hus : us = [] := hs.resolve_right (fun h => by cases h.1)
      have hm0 : m = 0 := by
        subst hus
        rcases Nat.eq_zero_or_pos m with h | h
        · exact h
        · have : 0 < m * i.size := Nat.mul_pos h hc
          simp only [List.length_nil] at hl
          omega
      subst hm0; subst hus
      refine ⟨_, σ, ?_, Stp.refl _ _, by simpa using h0⟩
      simp [Builtin.append_, run_underlying ht, sizeOf, typeInfo, hi, Builtin.lenOf, Builtin.firstCells, hn, storeCells, loadCells]
    · obtain ⟨ad', rfl⟩ := Option.ne_none_iff_exists'.1 hnone
      have hnews : ∀ (j : Nat) (u : Value), ws[j]? = some u → σ.w.cell? (ad'.add j) = some u := fun j u hj => by
        rcases hs with rfl | ⟨he', _⟩
        · have : ws = [] := List.eq_nil_of_length_eq_zero w1
          subst this; simp at hj
        · cases he'; rw [Addr.add_lit]; exact w2 j u hj
      have hcap : cap = 0 := by
        obtain ⟨ad0, e0⟩ := hv0
        cases e0; rfl
      by_cases hroom : n + m ≤ cap
      · have hm0 : m = 0 := by omega
        have hn0 : n = 0 := by omega
        have hfit : n * i.size + ws.length ≤ cur.size := by rw [hlw, hcs, ← Nat.add_mul]; exact Nat.mul_le_mul_right _ hroom
        have hr := run_append_room (P := P) σ.w t ty e i ht hi g n cap cur hg ad' m cap0 ws hlw hnews hone hroom hfit
        have hc0 : cur.size = 0 := by rw [hcs, hcap, Nat.zero_mul]
        have hw0 : ws = [] := List.eq_nil_of_length_eq_zero (by rw [hlw, hm0, Nat.zero_mul])
        have hcur : (cur.toList.take (n * i.size) ++ ws ++ cur.toList.drop (n * i.size + ws.length)).toArray = cur := by
          have : cur = #[] := Array.eq_empty_of_size_eq_zero hc0
          subst this; subst hw0; simp
        rw [hcur] at hr
        have hstp : Stp 0 σ (σ.setRow g cur) := ⟨rfl, rfl, rfl, Dr.refl _, by simp [GW.setRow, World.setRow], fun b hb _ => by
          by_cases e : b = g
          · subst e; rw [hg]; exact setRow_heap σ.w b cur cur _ (0, 0) hg
          · exact setRow_other σ.w g b cur e, fun _ _ _ => rfl⟩
        refine ⟨_, _, hr, hstp, Own.intro (us := vs ++ ws) (setRow_heap σ.w g cur _ e (0, 0) hg) hgk hroom hm hcs ?_ hl' ?_⟩
        · rw [hw0, List.append_nil, hm0, Nat.add_zero]; exact htk
        · exact typed_append r2 (fun j T u hT hu => T.up hstp.le0 (r3 j T u hT hu)) (fun j T u hT hu => T.up hstp.le0 (w3 j T u hT hu))
      · have holds : ∀ (j : Nat) (u : Value), vs[j]? = some u → σ.w.cell? ((⟨g, 0, none⟩ : Addr).add j) = some u := r1.cells (g := g) rfl
        have hr := run_append_grow (P := P) σ.w t ty e i z ht hi hi1 ⟨g, 0, none⟩ n cap vs r1.1 holds ad' m cap0 ws hlw hnews (by omega) (by omega) (growslice_fits (by omega) hbytes)
        obtain ⟨τ, e1, e2, e3⟩ := new cap _ (by omega) rfl
        exact ⟨_, τ, by rw [hr, e1], e2, e3⟩


variable {d : Option Tmp} {ty : TypeId} {pos : String} {af : Array Edge} {g : Option (Nat × Bool)} {a : Act} {σ : GW}
def Pr.own0 (k : Nat) (e : TypeId) : Pr := ⟨fun σ v => Own σ k e 1 v 0 [] ∧ ∃ ad, v = .slice ad 0 0, fun hs h => ⟨h.1.keep hs (by decide) (.inl rfl), h.2⟩⟩
theorem y_lit00 {k : Nat} {t e : TypeId} {z : Value} {b : Nat} (ht : P.underlying t = some (.slice e)) (he : Info P e z 1 b) :
    Yld P ⟨d, .buildSlice t 0 #[], ty, pos, af, g⟩ a σ (Pr.own0 k e) := by
  intro K Q hk
  have hr : (execOp a.eval ⟨d, .buildSlice t 0 #[], ty, pos, af, g⟩).run P σ.w = .ok (.value (.slice (some ⟨σ.w.heap.size, 0, none⟩) 0 0)) (σ.w.alloc (.cells #[] e)) := by
    simp only [execOp, List.map_toArray, List.map_nil]
    simp [Instr.buildSlice, run_underlying ht, he.size, Instr.fill, newRow, newObj, Sem.run, Sem.run_bind, Array.range_zero']
  unfold Oper.wp
  rw [hr]
  exact hk _ (σ.mk' k (.cells #[] e)) (Stp.mk' σ k _) ⟨Own.intro (us := []) (heap_alloc_new σ.w _) (by show (if _ = _ then k else _) = k; rw [if_pos rfl]) (Nat.le_refl _) (Nat.zero_le _) rfl rfl rfl (fun j T u h => by simp at h), _, rfl⟩
theorem y_append0 {k : Nat} {t e : TypeId} {z : Value} {by_ : Nat} {x y : Operand} {m : Nat} {us : List Ty} (ht : P.underlying t = some (.slice e)) (he : Info P e z 1 by_) (hk : 2 ≤ k) (hz : z.cells.size = 1)
    (h : (Pr.own0 k e).has σ (a.eval x)) (hx : At (.sl 1 m us) σ a y) (h1 : ∀ U, U ∈ us → One U) (hlen : m ≤ 9223372036854775807) (hbytes : m * by_ ≤ 140737488355328) :
    Yld P ⟨d, .call ⟨.builtin .append, #[x, y], #[t, t]⟩, ty, pos, af, g⟩ a σ (Pr.own k e 1 m us) := by
  intro K Q hk'
  obtain ⟨v', τ, hr, hs, ho⟩ := own_append0 (ty := ty) hk ht he hz (by decide) h.1 hx h1 (by omega) (by rw [Nat.zero_add]; exact hbytes) h.2
  have hr' : (execOp a.eval ⟨d, .call ⟨.builtin .append, #[x, y], #[t, t]⟩, ty, pos, af, g⟩).run P σ.w = .ok (.value v') τ.w := by
    simp only [execOp, resolve, Sem.run_bind, Sem.run_pure, Result.andThen_ok, invoke, List.map_toArray, List.map_cons, List.map_nil, builtin, hr]
  unfold Oper.wp
  rw [hr']
  exact hk' v' τ hs (by rw [Nat.zero_add, List.nil_append] at ho; exact ho)
end Go.KL

/- A region in whatever order, one operation of which writes: the others neither read nor write what it writes. -/
namespace Go.KL
open Go.RowKit
variable {P : Program}

theorem half_any3 {m N : Nat} {ops : Array Oper} {Q : Exit → Act → World → Prop} (hF : Form N ops) (hm : m ≤ ops.size) (hB : forcedB m ops.toList = true) (M : (Nat → Bool) → Act → GW → Prop)
    (hstep : ∀ (i : Nat) o (L : Nat → Bool) a σ (K : Act → World → Prop), ops[i]? = some o → i < m → M L a σ → L i = false → (∀ e ∈ o.after, Region.binds .any e = true → L e.on = true) →
      (∀ (j : Nat) oj, ops[j]? = some oj → L j = true → ∀ e ∈ oj.after, Region.binds .any e = true → L e.on = true) → (∀ a' σ', M (fun j => L j || j == i) a' σ' → K a' σ'.w) → wpOp P ops Q i K a σ.w)
    (hQ : ∀ a σ, M (fun j => decide (j < m)) a σ → wpList P ops Q (ops.toList.drop m) a σ.w) : ∀ (f : Nat) (L : Array Bool) (a : Act) (σ : GW), L.size = ops.size → left ops.size L ≤ f → (∀ j, j < ops.size → m ≤ j → L.getD j true = false) →
    (∀ (j : Nat) oj, ops[j]? = some oj → L.getD j true = true → ∀ e ∈ oj.after, Region.binds .any e = true → L.getD e.on true = true) → M (fun j => decide (j < m) && L.getD j true) a σ → wpAny P .any ops Q f L a σ.w := by
  intro f
  induction f with
  | zero =>
    intro L a σ hs hf hLm hcl hmid
    have hnone : ∀ j, j < ops.size → L.getD j true = true := fun j hj => by
      cases h : L.getD j true with
      | true => rfl
      | false => have := left_set hs hj h; omega
    have hmm : m = ops.size := by
      rcases Nat.lt_or_ge m ops.size with h | h
      · have := hnone m h; rw [hLm m h (Nat.le_refl _)] at this; cases this
      · omega
    have e : (fun j => decide (j < m) && L.getD j true) = (fun j => decide (j < m)) := by
      funext j
      by_cases h : j < m
      · rw [hnone j (by omega)]; simp
      · simp [h]
    rw [e] at hmid
    exact tail_any hF hB 0 m 0 L a σ.w (by omega) (Nat.le_refl _) hs (Nat.le_refl _) (fun j hj => by rw [hnone j hj]; simp; omega) (hQ a σ hmid)
  | succ f ih =>
    intro L a σ hs hf hLm hcl hmid
    by_cases hdone : ∀ j, j < m → L.getD j true = true
    · have hL : ∀ j, j < ops.size → L.getD j true = decide (j < m) := fun j hj => by
        by_cases h : j < m
        · rw [hdone j h]; simp [h]
        · rw [hLm j hj (by omega)]; simp [h]
      have e : (fun j => decide (j < m) && L.getD j true) = (fun j => decide (j < m)) := by
        funext j
        by_cases h : j < m
        · rw [hdone j h]; simp
        · simp [h]
      rw [e] at hmid
      refine tail_any hF hB (ops.size - m) m (f + 1) L a σ.w (by omega) (Nat.le_refl _) hs ?_ hL (hQ a σ hmid)
      refine Nat.le_trans ?_ hf
      unfold left
      have : (List.range ops.size).countP (fun i => !L.getD i true) = (List.range ops.size).countP (fun i => decide (m ≤ i)) := List.countP_congr fun i hi => by rw [hL i (List.mem_range.1 hi)]; simp
      rw [this]
      have hcnt : ∀ n, (List.range n).countP (fun i => decide (m ≤ i)) = n - m := fun n => by
        induction n with
        | zero => simp
        | succ n ihn =>
          rw [List.range_succ, List.countP_append, ihn]
          by_cases h : m ≤ n <;> simp [h] <;> omega
      rw [hcnt]
      exact Nat.le_refl _
    · have hsome : ∃ j, j < m ∧ L.getD j true = false := by
        refine Classical.byContradiction fun hn => hdone fun j hj => ?_
        cases h : L.getD j true with
        | true => rfl
        | false => exact absurd ⟨j, hj, h⟩ hn
      have up : ∀ k, L.getD k false = true → L.getD k true = true := fun k h => by
        by_cases hk : k < L.size
        · simp [hk] at h ⊢; exact h
        · simp [hk] at h
      refine ⟨fun hr => ?_, fun i hi => ?_⟩
      · exfalso
        have key : ∀ j, j < m → L.getD j true = true := by
          intro j
          induction j using Nat.strongRecOn with
          | _ j ihj =>
          intro hj
          cases hL : L.getD j true with
          | true => rfl
          | false =>
            exfalso
            obtain ⟨o, ho⟩ : ∃ o, ops[j]? = some o := ⟨ops[j]'(by omega), by simp⟩
            have : j ∈ Region.ready .any ops L := mem_ready.2 ⟨hL, o, ho, fun e he hb => by
              have hlt := hF.back j o ho e he hb
              have := ihj e.on hlt (Nat.lt_trans hlt hj)
              have hsz : e.on < L.size := by rw [hs]; omega
              simp [hsz] at this ⊢; exact this⟩
            rw [hr] at this; cases this
        exact hdone key
      · obtain ⟨h0, o, ho, hall⟩ := mem_ready.1 hi
        have hi' : i < ops.size := (Array.getElem?_eq_some_iff.1 ho).1
        have him : i < m := by
          rcases Nat.lt_or_ge i m with h | h
          · exact h
          · exfalso
            obtain ⟨j, hj, hjL⟩ := hsome
            have := forced_spec (L := fun j => decide (j < ops.size) && L.getD j true) hB (fun j oj hj hLj e he hb => by
              simp only [Bool.and_eq_true, decide_eq_true_eq] at hLj ⊢
              exact ⟨by have := hF.back j oj hj e he hb; omega, hcl j oj hj hLj.2 e he hb⟩) ho h (fun e he hb => by
              simp only [Bool.and_eq_true, decide_eq_true_eq]
              exact ⟨by have := hF.back i o ho e he hb; omega, up _ (hall e he hb)⟩) j (by omega)
            simp only [Bool.and_eq_true] at this
            rw [hjL] at this; cases this.2
        refine hstep i o _ a σ _ ho him hmid (by simp [h0]) (fun e he hb => ?_) (fun j oj hj hLj e he hb => ?_) fun a' σ' hm' => ih _ a' σ' (by simpa using hs) (by have := left_set hs hi' h0; omega) (fun j hj hmj => ?_) ?_ ?_
        · have := hF.back i o ho e he hb
          simp only [up _ (hall e he hb), Bool.and_true, decide_eq_true_eq]; omega
        · simp only [Bool.and_eq_true, decide_eq_true_eq] at hLj ⊢
          exact ⟨by have := hF.back j oj hj e he hb; omega, hcl j oj hj hLj.2 e he hb⟩
        · rw [getD_set_ne true (by omega)]; exact hLm j hj hmj
        · intro j oj hj hLj e he hb
          by_cases hji : j = i
          · subst hji
            rw [ho] at hj; cases hj
            have hne := hF.back j o ho e he hb
            rw [getD_set_ne true (by omega)]
            exact up _ (hall e he hb)
          · rw [getD_set_ne true (Ne.symm hji)] at hLj
            have := hcl j oj hj hLj e he hb
            by_cases hei : e.on = i
            · rw [hei, h0] at this; cases this
            · rw [getD_set_ne true (Ne.symm hei)]; exact this
        · have : (fun j => (decide (j < m) && L.getD j true) || j == i) = (fun j => decide (j < m) && (L.setIfInBounds i true).getD j true) := by
            funext j
            by_cases hji : j = i
            · subst hji; simp [him, hs, hi']
            · rw [getD_set_ne true (Ne.symm hji)]; simp [hji]
          rwa [this] at hm'

theorem half_seq3 {m N : Nat} {ops : Array Oper} {Q : Exit → Act → World → Prop} (hF : Form N ops) (hm : m ≤ ops.size) (M : (Nat → Bool) → Act → GW → Prop)
    (hstep : ∀ (i : Nat) o (L : Nat → Bool) a σ (K : Act → World → Prop), ops[i]? = some o → i < m → M L a σ → L i = false → (∀ e ∈ o.after, Region.binds .any e = true → L e.on = true) →
      (∀ (j : Nat) oj, ops[j]? = some oj → L j = true → ∀ e ∈ oj.after, Region.binds .any e = true → L e.on = true) → (∀ a' σ', M (fun j => L j || j == i) a' σ' → K a' σ'.w) → wpOp P ops Q i K a σ.w)
    (hQ : ∀ a σ, M (fun j => decide (j < m)) a σ → wpOps P ops Q (List.range' m (ops.size - m)) a σ.w) : ∀ (n k : Nat) (a : Act) (σ : GW), k + n = m → M (fun j => decide (j < k)) a σ → wpOps P ops Q (List.range' k (n + (ops.size - m))) a σ.w
  | 0, k, a, σ, hk, hmid => by
    obtain rfl : k = m := by omega
    rw [Nat.zero_add]
    exact hQ a σ hmid
  | n + 1, k, a, σ, hk, hmid => by
    rw [show n + 1 + (ops.size - m) = (n + (ops.size - m)) + 1 by omega, List.range'_succ, wpOps_cons]
    obtain ⟨o, ho⟩ : ∃ o, ops[k]? = some o := ⟨ops[k]'(by omega), by simp⟩
    refine hstep k o _ a σ _ ho (by omega) hmid (by simp) (fun e he hbi => by simpa using hF.back k o ho e he hbi)
      (fun j oj hj hlt e he hbi => by have := hF.back j oj hj e he hbi; simp at hlt ⊢; omega) fun a' σ' hm' => half_seq3 hF hm M hstep hQ n (k + 1) a' σ' (by omega) ?_
    have : (fun j => decide (j < k) || j == k) = (fun j => decide (j < k + 1)) := by
      funext j; rw [Bool.eq_iff_iff]; simp; omega
    rwa [this] at hm'

def Ty.any : Ty := ⟨fun _ _ => True, fun _ h => h⟩

structure Mid3 (p d N : Nat) (D : List Deferred) (W : List Nat) (B : Pr) (ops : Array Oper) (Φ : Nat → Ty) (a0 : Act) (σ0 : GW) (L : Nat → Bool) (a : Act) (σ : GW) : Prop where
  stp : StpL W σ0 σ
  stp0 : L p = false → Stp 0 σ0 σ
  ok : Ok N D a
  done : ∀ j, L j = true → j ≠ p → rd ops (fun i => (Φ i).pr) j a σ
  donep : L p = true → B.has σ (a.eval (.tmp d))
  same : ∀ t, (∀ j, dstOf ops j = some t → L j = false) → a.eval (.tmp t) = a0.eval (.tmp t)

def Obl3 (P : Program) (N : Nat) (D : List Deferred) (W : List Nat) (ops : Array Oper) (Φ : Nat → Ty) (a0 : Act) (σ0 : GW) (i : Nat) (o : Oper) : Prop :=
  ∀ a σ, StpL W σ0 σ → Ok N D a → (∀ t, free ops i t = true → a.eval (.tmp t) = a0.eval (.tmp t)) → Deps ops (fun i => (Φ i).pr) a σ o.after.toList (Run P ops o a σ (Φ i).pr)
def OblW (P : Program) (N : Nat) (D : List Deferred) (W : List Nat) (B : Pr) (ops : Array Oper) (Φ : Nat → Ty) (a0 : Act) (σ0 : GW) (i : Nat) (o : Oper) : Prop :=
  ∀ a σ, Stp 0 σ0 σ → Ok N D a → (∀ t, free ops i t = true → a.eval (.tmp t) = a0.eval (.tmp t)) → Deps ops (fun i => (Φ i).pr) a σ o.after.toList (YldL W P o a σ (fun v τ => B.has τ v))
def Obls3 (P : Program) (p N : Nat) (D : List Deferred) (W : List Nat) (B : Pr) (ops : Array Oper) (Φ : Nat → Ty) (a0 : Act) (σ0 : GW) : Nat → List Oper → Prop
  | _, [] => True
  | i, o :: l => (if i = p then OblW P N D W B ops Φ a0 σ0 i o else Obl3 P N D W ops Φ a0 σ0 i o) ∧ Obls3 P p N D W B ops Φ a0 σ0 (i + 1) l
theorem Obls3.get {p N : Nat} {D : List Deferred} {W : List Nat} {B : Pr} {ops : Array Oper} {Φ : Nat → Ty} {a0 : Act} {σ0 : GW} : ∀ (l : List Oper) (k : Nat), Obls3 P p N D W B ops Φ a0 σ0 k l → ∀ j o, l[j]? = some o → (if k + j = p then OblW P N D W B ops Φ a0 σ0 (k + j) o else Obl3 P N D W ops Φ a0 σ0 (k + j) o)
  | [], _, _, j, o, h => by simp at h
  | x :: l, k, h, 0, o, hj => by simp at hj; subst hj; exact h.1
  | x :: l, k, h, j + 1, o, hj => by
    have := Obls3.get l (k + 1) h.2 j o (by simpa using hj)
    rwa [show k + 1 + j = k + (j + 1) by omega] at this
theorem Obls3.up {p N : Nat} {D : List Deferred} {W : List Nat} {B : Pr} {ops : Array Oper} {Φ : Nat → Ty} {a0 : Act} {σ0 σ1 : GW} (hs : Stp 0 σ0 σ1) : ∀ (l : List Oper) (k : Nat), Obls3 P p N D W B ops Φ a0 σ0 k l → Obls3 P p N D W B ops Φ a0 σ1 k l
  | [], _, _ => trivial
  | x :: l, k, h => by
    refine ⟨?_, Obls3.up hs l (k + 1) h.2⟩
    have h1 := h.1
    split at h1
    · rename_i e; rw [if_pos e]; exact fun a σ hs' => h1 a σ (hs.trans hs')
    · rename_i e; rw [if_neg e]; exact fun a σ hs' => h1 a σ (hs.toL0.trans hs')

theorem Mid3.op {p d N : Nat} {D : List Deferred} {W : List Nat} {B : Pr} {ops : Array Oper} {Φ : Nat → Ty} {a0 : Act} {σ0 : GW} {L : Nat → Bool} {a : Act} {σ : GW} {i : Nat} {o : Oper} {Q : Exit → Act → World → Prop} {K : Act → World → Prop}
    (hF : Form N ops) (h1 : 1 ∉ W) (hp : dstOf ops p = some d) (hΦ : ∀ e v, (Φ p).has e v) (hpg : ∀ o, ops[p]? = some o → o.guard = none) (hm : Mid3 p d N D W B ops Φ a0 σ0 L a σ) (ho : ops[i]? = some o) (hL : L i = false)
    (hob : if i = p then OblW P N D W B ops Φ a0 σ0 i o else Obl3 P N D W ops Φ a0 σ0 i o)
    (hall : ∀ e ∈ o.after, Region.binds .any e = true → L e.on = true) (hclosed : ∀ (j : Nat) oj, ops[j]? = some oj → L j = true → ∀ e ∈ oj.after, Region.binds .any e = true → L e.on = true)
    (hK : ∀ a' σ', Mid3 p d N D W B ops Φ a0 σ0 (fun j => L j || j == i) a' σ' → K a' σ'.w) : wpOp P ops Q i K a σ.w := by
  have hdi : dstOf ops i = o.dst := by simp [dstOf, ho]
  have hsame : ∀ t, free ops i t = true → a.eval (.tmp t) = a0.eval (.tmp t) := by
    intro t ht
    refine hm.same t fun j hj => ?_
    cases hLj : L j with
    | false => rfl
    | true =>
      exfalso
      unfold dstOf at hj
      obtain ⟨oj, hoj, hd⟩ := Option.bind_eq_some_iff.1 hj
      unfold free at ht
      have := (List.all_eq_true.1 ht) oj (List.mem_of_getElem? hoj)
      simp only [hd, bne_self_eq_false, Bool.false_or, List.any_eq_true, Bool.and_eq_true, beq_iff_eq] at this
      obtain ⟨e, he, hb, hon⟩ := this
      have := hclosed j oj (by simpa using hoj) hLj e (by simpa using he) hb
      rw [hon, hL] at this
      cases this
  have hdeps : ∀ e ∈ o.after.toList, Region.binds .any e = true → rd ops (fun i => (Φ i).pr) e.on a σ := fun e he hb => by
    by_cases hep : e.on = p
    · rw [hep]; unfold rd; rw [hp]; exact hΦ _ _
    · exact hm.done e.on (hall e (by simpa using he) hb) hep
  -- whatever step of whichever kind: what holds behind it
  have done' : ∀ v (τ : GW), σ.Le τ → (i ≠ p → (Φ i).has τ v) → ∀ j, (L j || j == i) = true → j ≠ p → rd ops (fun i => (Φ i).pr) j (a.put o.dst v) τ := by
    intro v τ hle hv j hLj hjp
    by_cases hji : j = i
    · subst hji
      unfold rd
      cases hd : dstOf ops j with
      | none => trivial
      | some d =>
        have : o.dst = some d := by rw [← hdi]; exact hd
        simp only [this]
        rw [eval_put_same hm.ok (hF.lt j d hd)]
        exact hv hjp
    · have hLj' : L j = true := by simpa [hji] using hLj
      have h0 := hm.done j hLj' hjp
      unfold rd at h0 ⊢
      cases hd : dstOf ops j with
      | none => trivial
      | some d =>
        rw [hd] at h0
        simp only at h0 ⊢
        rw [eval_put_ne (fun he => hji (hF.uniq j i d hd (by rw [hdi]; exact he)))]
        exact (Φ j).up hle h0
  have same' : ∀ v t, (∀ j, dstOf ops j = some t → (L j || j == i) = false) → (a.put o.dst v).eval (.tmp t) = a0.eval (.tmp t) := by
    intro v t ht
    have h1 : o.dst ≠ some t := fun he => by
      have := ht i (by rw [hdi]; exact he)
      simp at this
    rw [eval_put_ne h1]
    exact hm.same t fun j hj => by
      have := ht j hj
      simp at this
      exact this.1
  by_cases hip : i = p
  · subst hip
    rw [if_pos rfl] at hob
    have hy := Deps.elim o.after.toList hdeps (hob a σ (hm.stp0 hL) hm.ok hsame)
    unfold wpOp
    simp only [ho]
    have hw : Region.wanted o (yielded ops a.tmps) = true := by simp [Region.wanted, hpg o ho]
    rw [if_pos hw]
    refine .inl (hy K Q fun v τ hs hr => hK _ τ ⟨hm.stp.trans hs, fun h => (by simp at h), hm.ok.put _ _, done' v τ (hs.le h1) (fun h => absurd rfl h), fun _ => ?_, same' v⟩)
    have : o.dst = some d := by rw [← hdi]; exact hp
    rw [this, eval_put_same hm.ok (hF.lt i d hp)]
    exact hr
  · rw [if_neg hip] at hob
    have hrun := Deps.elim o.after.toList hdeps (hob a σ hm.stp hm.ok hsame)
    have next : ∀ v τ, Stp 0 σ τ → (Φ i).has τ v → K (a.put o.dst v) τ.w := by
      intro v τ hs hv
      refine hK _ τ ⟨hm.stp.trans hs.toL0, fun h => ?_, hm.ok.put _ _, done' v τ hs.le0 (fun _ => hv), fun h => ?_, same' v⟩
      · simp at h; exact (hm.stp0 h.1).trans hs
      · have hLp : L p = true := by simpa [Ne.symm hip] using h
        rw [eval_put_ne (fun he => hip (hF.uniq i p d (by rw [hdi]; exact he) hp))]
        exact B.up hs (hm.donep hLp)
    unfold wpOp
    simp only [ho]
    by_cases hw : Region.wanted o (yielded ops a.tmps) = true
    · rw [if_pos hw]
      exact .inl (hrun.1 hw K Q next)
    · rw [if_neg hw]
      exact next undef σ (Stp.refl _ _) (hrun.2 (by simpa using hw))

theorem obR3 {i p : Nat} {A B : Prop} (h : i ≠ p) (k : B) : if i = p then A else B := by rw [if_neg h]; exact k
theorem obR3w {i p : Nat} {A B : Prop} (h : i = p) (k : A) : if i = p then A else B := by rw [if_pos h]; exact k

structure Half3 (m d N : Nat) (D : List Deferred) (W : List Nat) (B : Pr) (ops : Array Oper) (Φ : Nat → Ty) (a0 : Act) (σ0 : GW) (a : Act) (σ : GW) : Prop where
  stp : StpL W σ0 σ
  ok : Ok N D a
  done : ∀ j, j < m → rd ops (fun i => (Φ i).pr) j a σ
  donep : B.has σ (a.eval (.tmp d))
  same : ∀ t, ((ops.toList.take m).all fun o => o.dst != some t) = true → a.eval (.tmp t) = a0.eval (.tmp t)

theorem Mid3.half {m p d N : Nat} {D : List Deferred} {W : List Nat} {B : Pr} {ops : Array Oper} {Φ : Nat → Ty} {a0 : Act} {σ0 : GW} {a : Act} {σ : GW} (h : Mid3 p d N D W B ops Φ a0 σ0 (fun j => decide (j < m)) a σ) (hpm : p < m) (hp : dstOf ops p = some d) (hΦ : ∀ e v, (Φ p).has e v) : Half3 m d N D W B ops Φ a0 σ0 a σ := by
  refine ⟨h.stp, h.ok, fun j hj => ?_, h.donep (by simpa using hpm), fun t ht => h.same t fun j hj => ?_⟩
  · by_cases hjp : j = p
    · rw [hjp]; unfold rd; rw [hp]; exact hΦ _ _
    · exact h.done j (by simpa using hj) hjp
  · by_cases hjm : j < m
    · obtain ⟨o, ho, hd⟩ := Option.bind_eq_some_iff.1 hj
      have := (List.all_eq_true.1 ht) o (List.mem_of_getElem? (i := j) (by rw [List.getElem?_take, if_pos hjm]; exact ho))
      simp [hd] at this
    · simpa using hjm

theorem reg3 {N : Nat} {D : List Deferred} {ops : Array Oper} {id : Nat} {draw : Bool} {Q : Exit → Act → World → Prop} {a : Act} {σ : GW} (hP : P.follows .mixedOrders = true) (m p d : Nat) (W : List Nat) (h1 : 1 ∉ W) (B : Pr) (Φ : Nat → Ty) (ok : Ok N D a) (hF : formB N ops = true) (hm : m ≤ ops.size) (hB : (!draw || forcedB m ops.toList) = true)
    (hpm : p < m) (hp : dstOf ops p = some d) (hΦ : ∀ e v, (Φ p).has e v) (hpg : (ops.toList[p]?).all (fun o => o.guard.isNone) = true) (hob : Obls3 P p N D W B ops Φ a σ 0 (ops.toList.take m))
    (hQ : ∀ a' σ', Half3 m d N D W B ops Φ a σ a' σ' → wpList P ops Q (ops.toList.drop m) a' σ'.w) : (Code.region id ops draw).wp P Q a σ.w := by
  have hF' := Form.of_B hF
  have hpg' : ∀ o, ops[p]? = some o → o.guard = none := fun o ho => by
    rw [show ops.toList[p]? = some o by simpa using ho] at hpg
    simpa using hpg
  have step : ∀ σ0, Stp 0 σ σ0 → ∀ (i : Nat) o (L : Nat → Bool) a' σ' (K : Act → World → Prop), ops[i]? = some o → i < m → Mid3 p d N D W B ops Φ a σ0 L a' σ' → L i = false → (∀ e ∈ o.after, Region.binds .any e = true → L e.on = true) →
      (∀ (j : Nat) oj, ops[j]? = some oj → L j = true → ∀ e ∈ oj.after, Region.binds .any e = true → L e.on = true) → (∀ a' σ', Mid3 p d N D W B ops Φ a σ0 (fun j => L j || j == i) a' σ' → K a' σ'.w) → wpOp P ops Q i K a' σ'.w :=
    fun σ0 hs i o L a' σ' K ho him hmid hL hall hcl hK => Mid3.op hF' h1 hp hΦ hpg' hmid ho hL
      (by simpa using Obls3.get (ops.toList.take m) 0 (Obls3.up hs _ _ hob) i o (by rw [List.getElem?_take, if_pos him]; simpa using ho)) hall hcl hK
  have start : ∀ σ0, Mid3 p d N D W B ops Φ a σ0 (fun _ => false) a σ0 := fun σ0 => ⟨StpL.refl _ _, fun _ => Stp.refl _ _, ok, fun _ h => (by cases h), fun h => (by cases h), fun _ _ => rfl⟩
  cases draw with
  | false =>
    refine wp_region ?_
    rw [List.range_eq_range']
    have := half_seq3 (Q := Q) hF' hm (Mid3 p d N D W B ops Φ a σ) (step σ (Stp.refl _ _)) (fun a' σ' h => ?_) m 0 a σ (by simp) (by have := start σ; simpa using this)
    · rwa [show m + (ops.size - m) = ops.size by omega] at this
    · have := wpOps_eq_wpList (P := P) (ops := ops) (Q := Q) (ops.toList.drop m) m (fun j => by rw [List.getElem?_drop]; simp)
      rw [show (ops.toList.drop m).length = ops.size - m by simp] at this
      rw [this]
      exact hQ a' σ' (h.half hpm hp hΦ)
  | true =>
    refine wp_region_any hP ?_
    have hd := Stp.drew σ
    refine half_any3 hF' hm (by simpa using hB) (Mid3 p d N D W B ops Φ a σ.drew) (step σ.drew hd) (fun a' σ' h => ?_) _ _ a σ.drew (by simp) (Nat.le_trans List.countP_le_length (by simp)) ?_ ?_ ?_
    · have h2 := h.half hpm hp hΦ
      exact hQ a' σ' ⟨hd.toL0.trans h2.stp, h2.ok, h2.done, h2.donep, h2.same⟩
    · intro j hj _; simp [hj]
    · intro j oj hj h
      have : j < ops.size := (Array.getElem?_eq_some_iff.1 hj).1
      simp [this] at h
    · have e : (fun j => decide (j < m) && (Array.replicate ops.size false).getD j true) = fun _ => false := by
        funext j; by_cases hj : j < ops.size
        · simp [hj]
        · simp; omega
      rw [e]; exact start σ.drew
theorem Half3.kt {m d N : Nat} {D : List Deferred} {W : List Nat} {B : Pr} {ops : Array Oper} {Φ : Nat → Ty} {a0 a : Act} {σ0 σ : GW} {T : Ty} {t : Nat} (h : Half3 m d N D W B ops Φ a0 σ0 a σ) (h1 : 1 ∉ W) (k : T.has σ0 (a0.eval (.tmp t))) (ht : ((ops.toList.take m).all fun o => o.dst != some t) = true) : T.has σ (a.eval (.tmp t)) := by
  rw [h.same t ht]; exact T.up (h.stp.le h1) k
end Go.KL

/- A region in whatever order, of which one operation stores into what another one has made. -/
namespace Go.KL
open Go.RowKit
variable {P : Program}

/-! ### The operation that writes is a store into what an operation of the region has made -/
end Go.KL

/- A region in whatever order, of which one operation appends to what another one has made. -/
namespace Go.KL
open Go.RowKit
variable {P : Program}

/-! ### The operation that writes appends to what an operation of the region has made -/
end Go.KL

/- A region in whatever order, of which one operation appends to what another one has made (sealed at once), and a third one writes what was there. -/
namespace Go.KL
open Go.RowKit
variable {P : Program}

/-! ### The operation that writes appends to what an operation of the region has made; another one writes; another one writes -/
end Go.KL

/- A region in whatever order, one operation of which stores: the others neither read nor write what it writes. -/
namespace Go.KL
open Go.RowKit
variable {P : Program}
structure Mid7 (p N : Nat) (D : List Deferred) (W : List Nat) (B : Pr) (ops : Array Oper) (Φ : Nat → Ty) (a0 : Act) (σ0 : GW) (L : Nat → Bool) (a : Act) (σ : GW) : Prop where
  stp : StpL W σ0 σ
  stp0 : L p = false → Stp 0 σ0 σ
  ok : Ok N D a
  done : ∀ j, L j = true → j ≠ p → rd ops (fun i => (Φ i).pr) j a σ
  donep : L p = true → B.has σ undef
  same : ∀ t, (∀ j, dstOf ops j = some t → L j = false) → a.eval (.tmp t) = a0.eval (.tmp t)

def OblW7 (P : Program) (N : Nat) (D : List Deferred) (W : List Nat) (B : Pr) (ops : Array Oper) (Φ : Nat → Ty) (a0 : Act) (σ0 : GW) (i : Nat) (o : Oper) : Prop :=
  ∀ a σ, Stp 0 σ0 σ → Ok N D a → (∀ t, free ops i t = true → a.eval (.tmp t) = a0.eval (.tmp t)) → Deps ops (fun i => (Φ i).pr) a σ o.after.toList (YldL W P o a σ (fun _ τ => B.has τ undef))
def Obls7 (P : Program) (p N : Nat) (D : List Deferred) (W : List Nat) (B : Pr) (ops : Array Oper) (Φ : Nat → Ty) (a0 : Act) (σ0 : GW) : Nat → List Oper → Prop
  | _, [] => True
  | i, o :: l => (if i = p then OblW7 P N D W B ops Φ a0 σ0 i o else Obl3 P N D W ops Φ a0 σ0 i o) ∧ Obls7 P p N D W B ops Φ a0 σ0 (i + 1) l
theorem Obls7.get {p N : Nat} {D : List Deferred} {W : List Nat} {B : Pr} {ops : Array Oper} {Φ : Nat → Ty} {a0 : Act} {σ0 : GW} : ∀ (l : List Oper) (k : Nat), Obls7 P p N D W B ops Φ a0 σ0 k l → ∀ j o, l[j]? = some o → (if k + j = p then OblW7 P N D W B ops Φ a0 σ0 (k + j) o else Obl3 P N D W ops Φ a0 σ0 (k + j) o)
  | [], _, _, j, o, h => by simp at h
  | x :: l, k, h, 0, o, hj => by simp at hj; subst hj; exact h.1
  | x :: l, k, h, j + 1, o, hj => by
    have := Obls7.get l (k + 1) h.2 j o (by simpa using hj)
    rwa [show k + 1 + j = k + (j + 1) by omega] at this
theorem Obls7.up {p N : Nat} {D : List Deferred} {W : List Nat} {B : Pr} {ops : Array Oper} {Φ : Nat → Ty} {a0 : Act} {σ0 σ1 : GW} (hs : Stp 0 σ0 σ1) : ∀ (l : List Oper) (k : Nat), Obls7 P p N D W B ops Φ a0 σ0 k l → Obls7 P p N D W B ops Φ a0 σ1 k l
  | [], _, _ => trivial
  | x :: l, k, h => by
    refine ⟨?_, Obls7.up hs l (k + 1) h.2⟩
    have h1 := h.1
    split at h1
    · rename_i e; rw [if_pos e]; exact fun a σ hs' => h1 a σ (hs.trans hs')
    · rename_i e; rw [if_neg e]; exact fun a σ hs' => h1 a σ (hs.toL0.trans hs')

theorem Mid7.op {p N : Nat} {D : List Deferred} {W : List Nat} {B : Pr} {ops : Array Oper} {Φ : Nat → Ty} {a0 : Act} {σ0 : GW} {L : Nat → Bool} {a : Act} {σ : GW} {i : Nat} {o : Oper} {Q : Exit → Act → World → Prop} {K : Act → World → Prop}
    (hF : Form N ops) (h1 : 1 ∉ W) (hp : dstOf ops p = none) (hpg : ∀ o, ops[p]? = some o → o.guard = none) (hm : Mid7 p N D W B ops Φ a0 σ0 L a σ) (ho : ops[i]? = some o) (hL : L i = false)
    (hob : if i = p then OblW7 P N D W B ops Φ a0 σ0 i o else Obl3 P N D W ops Φ a0 σ0 i o)
    (hall : ∀ e ∈ o.after, Region.binds .any e = true → L e.on = true) (hclosed : ∀ (j : Nat) oj, ops[j]? = some oj → L j = true → ∀ e ∈ oj.after, Region.binds .any e = true → L e.on = true)
    (hK : ∀ a' σ', Mid7 p N D W B ops Φ a0 σ0 (fun j => L j || j == i) a' σ' → K a' σ'.w) : wpOp P ops Q i K a σ.w := by
  have hdi : dstOf ops i = o.dst := by simp [dstOf, ho]
  have hsame : ∀ t, free ops i t = true → a.eval (.tmp t) = a0.eval (.tmp t) := by
    intro t ht
    refine hm.same t fun j hj => ?_
    cases hLj : L j with
    | false => rfl
    | true =>
      exfalso
      unfold dstOf at hj
      obtain ⟨oj, hoj, hd⟩ := Option.bind_eq_some_iff.1 hj
      unfold free at ht
      have := (List.all_eq_true.1 ht) oj (List.mem_of_getElem? hoj)
      simp only [hd, bne_self_eq_false, Bool.false_or, List.any_eq_true, Bool.and_eq_true, beq_iff_eq] at this
      obtain ⟨e, he, hb, hon⟩ := this
      have := hclosed j oj (by simpa using hoj) hLj e (by simpa using he) hb
      rw [hon, hL] at this
      cases this
  have hdeps : ∀ e ∈ o.after.toList, Region.binds .any e = true → rd ops (fun i => (Φ i).pr) e.on a σ := fun e he hb => by
    by_cases hep : e.on = p
    · rw [hep]; unfold rd; rw [hp]; trivial
    · exact hm.done e.on (hall e (by simpa using he) hb) hep
  -- whatever step of whichever kind: what holds behind it
  have done' : ∀ v (τ : GW), σ.Le τ → (i ≠ p → (Φ i).has τ v) → ∀ j, (L j || j == i) = true → j ≠ p → rd ops (fun i => (Φ i).pr) j (a.put o.dst v) τ := by
    intro v τ hle hv j hLj hjp
    by_cases hji : j = i
    · subst hji
      unfold rd
      cases hd : dstOf ops j with
      | none => trivial
      | some d =>
        have : o.dst = some d := by rw [← hdi]; exact hd
        simp only [this]
        rw [eval_put_same hm.ok (hF.lt j d hd)]
        exact hv hjp
    · have hLj' : L j = true := by simpa [hji] using hLj
      have h0 := hm.done j hLj' hjp
      unfold rd at h0 ⊢
      cases hd : dstOf ops j with
      | none => trivial
      | some d =>
        rw [hd] at h0
        simp only at h0 ⊢
        rw [eval_put_ne (fun he => hji (hF.uniq j i d hd (by rw [hdi]; exact he)))]
        exact (Φ j).up hle h0
  have same' : ∀ v t, (∀ j, dstOf ops j = some t → (L j || j == i) = false) → (a.put o.dst v).eval (.tmp t) = a0.eval (.tmp t) := by
    intro v t ht
    have h1 : o.dst ≠ some t := fun he => by
      have := ht i (by rw [hdi]; exact he)
      simp at this
    rw [eval_put_ne h1]
    exact hm.same t fun j hj => by
      have := ht j hj
      simp at this
      exact this.1
  by_cases hip : i = p
  · subst hip
    rw [if_pos rfl] at hob
    have hy := Deps.elim o.after.toList hdeps (hob a σ (hm.stp0 hL) hm.ok hsame)
    unfold wpOp
    simp only [ho]
    have hw : Region.wanted o (yielded ops a.tmps) = true := by simp [Region.wanted, hpg o ho]
    rw [if_pos hw]
    refine .inl (hy K Q fun v τ hs hr => hK _ τ ⟨hm.stp.trans hs, fun h => (by simp at h), hm.ok.put _ _, done' v τ (hs.le h1) (fun h => absurd rfl h), fun _ => ?_, same' v⟩)
    exact hr
  · rw [if_neg hip] at hob
    have hrun := Deps.elim o.after.toList hdeps (hob a σ hm.stp hm.ok hsame)
    have next : ∀ v τ, Stp 0 σ τ → (Φ i).has τ v → K (a.put o.dst v) τ.w := by
      intro v τ hs hv
      refine hK _ τ ⟨hm.stp.trans hs.toL0, fun h => ?_, hm.ok.put _ _, done' v τ hs.le0 (fun _ => hv), fun h => ?_, same' v⟩
      · simp at h; exact (hm.stp0 h.1).trans hs
      · have hLp : L p = true := by simpa [Ne.symm hip] using h
        exact B.up hs (hm.donep hLp)
    unfold wpOp
    simp only [ho]
    by_cases hw : Region.wanted o (yielded ops a.tmps) = true
    · rw [if_pos hw]
      exact .inl (hrun.1 hw K Q next)
    · rw [if_neg hw]
      exact next undef σ (Stp.refl _ _) (hrun.2 (by simpa using hw))

structure Half7 (m N : Nat) (D : List Deferred) (W : List Nat) (B : Pr) (ops : Array Oper) (Φ : Nat → Ty) (a0 : Act) (σ0 : GW) (a : Act) (σ : GW) : Prop where
  stp : StpL W σ0 σ
  ok : Ok N D a
  done : ∀ j, j < m → rd ops (fun i => (Φ i).pr) j a σ
  donep : B.has σ undef
  same : ∀ t, ((ops.toList.take m).all fun o => o.dst != some t) = true → a.eval (.tmp t) = a0.eval (.tmp t)

theorem Mid7.half {m p N : Nat} {D : List Deferred} {W : List Nat} {B : Pr} {ops : Array Oper} {Φ : Nat → Ty} {a0 : Act} {σ0 : GW} {a : Act} {σ : GW} (h : Mid7 p N D W B ops Φ a0 σ0 (fun j => decide (j < m)) a σ) (hpm : p < m) (hp : dstOf ops p = none) : Half7 m N D W B ops Φ a0 σ0 a σ := by
  refine ⟨h.stp, h.ok, fun j hj => ?_, h.donep (by simpa using hpm), fun t ht => h.same t fun j hj => ?_⟩
  · by_cases hjp : j = p
    · rw [hjp]; unfold rd; rw [hp]; trivial
    · exact h.done j (by simpa using hj) hjp
  · by_cases hjm : j < m
    · obtain ⟨o, ho, hd⟩ := Option.bind_eq_some_iff.1 hj
      have := (List.all_eq_true.1 ht) o (List.mem_of_getElem? (i := j) (by rw [List.getElem?_take, if_pos hjm]; exact ho))
      simp [hd] at this
    · simpa using hjm

theorem reg7 {N : Nat} {D : List Deferred} {ops : Array Oper} {id : Nat} {draw : Bool} {Q : Exit → Act → World → Prop} {a : Act} {σ : GW} (hP : P.follows .mixedOrders = true) (m p : Nat) (W : List Nat) (h1 : 1 ∉ W) (B : Pr) (Φ : Nat → Ty) (ok : Ok N D a) (hF : formB N ops = true) (hm : m ≤ ops.size) (hB : (!draw || forcedB m ops.toList) = true)
    (hpm : p < m) (hp : dstOf ops p = none) (hpg : (ops.toList[p]?).all (fun o => o.guard.isNone) = true) (hob : Obls7 P p N D W B ops Φ a σ 0 (ops.toList.take m))
    (hQ : ∀ a' σ', Half7 m N D W B ops Φ a σ a' σ' → wpList P ops Q (ops.toList.drop m) a' σ'.w) : (Code.region id ops draw).wp P Q a σ.w := by
  have hF' := Form.of_B hF
  have hpg' : ∀ o, ops[p]? = some o → o.guard = none := fun o ho => by
    rw [show ops.toList[p]? = some o by simpa using ho] at hpg
    simpa using hpg
  have step : ∀ σ0, Stp 0 σ σ0 → ∀ (i : Nat) o (L : Nat → Bool) a' σ' (K : Act → World → Prop), ops[i]? = some o → i < m → Mid7 p N D W B ops Φ a σ0 L a' σ' → L i = false → (∀ e ∈ o.after, Region.binds .any e = true → L e.on = true) →
      (∀ (j : Nat) oj, ops[j]? = some oj → L j = true → ∀ e ∈ oj.after, Region.binds .any e = true → L e.on = true) → (∀ a' σ', Mid7 p N D W B ops Φ a σ0 (fun j => L j || j == i) a' σ' → K a' σ'.w) → wpOp P ops Q i K a' σ'.w :=
    fun σ0 hs i o L a' σ' K ho him hmid hL hall hcl hK => Mid7.op hF' h1 hp hpg' hmid ho hL
      (by simpa using Obls7.get (ops.toList.take m) 0 (Obls7.up hs _ _ hob) i o (by rw [List.getElem?_take, if_pos him]; simpa using ho)) hall hcl hK
  have start : ∀ σ0, Mid7 p N D W B ops Φ a σ0 (fun _ => false) a σ0 := fun σ0 => ⟨StpL.refl _ _, fun _ => Stp.refl _ _, ok, fun _ h => (by cases h), fun h => (by cases h), fun _ _ => rfl⟩
  cases draw with
  | false =>
    refine wp_region ?_
    rw [List.range_eq_range']
    have := half_seq3 (Q := Q) hF' hm (Mid7 p N D W B ops Φ a σ) (step σ (Stp.refl _ _)) (fun a' σ' h => ?_) m 0 a σ (by simp) (by have := start σ; simpa using this)
    · rwa [show m + (ops.size - m) = ops.size by omega] at this
    · have := wpOps_eq_wpList (P := P) (ops := ops) (Q := Q) (ops.toList.drop m) m (fun j => by rw [List.getElem?_drop]; simp)
      rw [show (ops.toList.drop m).length = ops.size - m by simp] at this
      rw [this]
      exact hQ a' σ' (h.half hpm hp)
  | true =>
    refine wp_region_any hP ?_
    have hd := Stp.drew σ
    refine half_any3 hF' hm (by simpa using hB) (Mid7 p N D W B ops Φ a σ.drew) (step σ.drew hd) (fun a' σ' h => ?_) _ _ a σ.drew (by simp) (Nat.le_trans List.countP_le_length (by simp)) ?_ ?_ ?_
    · have h2 := h.half hpm hp
      exact hQ a' σ' ⟨hd.toL0.trans h2.stp, h2.ok, h2.done, h2.donep, h2.same⟩
    · intro j hj _; simp [hj]
    · intro j oj hj h
      have : j < ops.size := (Array.getElem?_eq_some_iff.1 hj).1
      simp [this] at h
    · have e : (fun j => decide (j < m) && (Array.replicate ops.size false).getD j true) = fun _ => false := by
        funext j; by_cases hj : j < ops.size
        · simp [hj]
        · simp; omega
      rw [e]; exact start σ.drew
theorem Half7.kt {m N : Nat} {D : List Deferred} {W : List Nat} {B : Pr} {ops : Array Oper} {Φ : Nat → Ty} {a0 a : Act} {σ0 σ : GW} {T : Ty} {t : Nat} (h : Half7 m N D W B ops Φ a0 σ0 a σ) (h1 : 1 ∉ W) (k : T.has σ0 (a0.eval (.tmp t))) (ht : ((ops.toList.take m).all fun o => o.dst != some t) = true) : T.has σ (a.eval (.tmp t)) := by
  rw [h.same t ht]; exact T.up (h.stp.le h1) k
def At0 (v : Value) (n : Nat) : Prop := 0 < n → ∃ g cap, v = .slice (some ⟨g, 0, none⟩) n cap
theorem Own.at0 {σ : GW} {k : Nat} {e : TypeId} {c n : Nat} {v : Value} {ts : List Ty} (h : Own σ k e c v n ts) : At0 v n := fun hn => by
  obtain ⟨g, cap, e, _, _⟩ := h.at hn
  exact ⟨g, cap, e⟩
theorem y_indexF {d : Option Tmp} {ty : TypeId} {pos : String} {af : Array Edge} {g : Option (Nat × Bool)} {a : Act} {σ : GW} {x y : Operand} {n : Nat} {t e : TypeId} {z v : Value} {b : Nat} {ki : IntKind} {i : Int} (ht : P.underlying t = some (.slice e)) (he : Info P e z 1 b)
    (h : At0 v n) (hx : a.eval x = v) (hy : a.eval y = .int ki i) (h0 : 0 ≤ i) (h1 : i < n) :
    Yld P ⟨d, .indexAddr t x y, ty, pos, af, g⟩ a σ (Ty.val (cellPtr v i.toNat)).pr := by
  obtain ⟨g, cap, rfl⟩ := h (by omega)
  refine Yld.of_run (v := .pointer (some ⟨g, i.toNat, none⟩)) ?_ rfl
  simp only [execOp, hx, hy]
  simp [Instr.indexAt, asIntOf, run_underlying ht, h0, h1, he.size, Addr.add_lit]
def Pr.st (k : Nat) (e : TypeId) (c : Nat) (v : Value) (n : Nat) (ts : List Ty) : Pr := ⟨fun σ _ => Own σ k e c v n ts, fun hs h => h.keep hs (by decide) (.inl rfl)⟩
end Go.KL

/- A call that only reads what is owned: it is shown sealed, and its answer hangs on no memory. -/
namespace Go.KL
open Go.RowKit
section
variable {P : Program} {d : Option Tmp} {ty : TypeId} {pos : String} {af : Array Edge} {g : Option (Nat × Bool)} {a : Act} {σ : GW}
theorem y_nilnil {t u : TypeId} {x y : Operand} {e : TypeId} (ht : P.underlying t = some (.pointer e)) (hx : a.eval x = .pointer none) (hy : a.eval y = .pointer none) : Yld P ⟨d, .binOp .eql t x y u, ty, pos, af, g⟩ a σ (Ty.bool true).pr := by
  have hp : P.underlying t = some (.pointer (P.pointee t)) := by
    have : P.pointee t = e := by simp [Program.pointee, ht]
    rw [this]; exact ht
  have h1 := run_eql_pointer_nil (P := P) (w := σ.w) t none hp
  refine Yld.of_run (v := .bool true) ?_ rfl
  simp only [execOp, hx, hy]
  simp_all [eqGuard]
end
end Go.KL

/- Touches that are read. -/
namespace Go.KL
structure ItP where
  err : Int
  out : List Int
  rest : List Int
section
variable {sg : List Int}
/-! What is left is a tail. -/
/-! Fuel. -/
/-! What is told of errors. -/
/-! Step by step. -/
end
/-! Runes of a text, as a loop over it gives them. -/
abbrev Ty.rune (n : Int) : Ty := .val (.int .i32 n)
section
variable {sg : List Int} {deep : Nat} {l s : List Int}
end
section
variable {sg : List Int} {s : ByteArray} {X : ItP}
end
end Go.KL

/- 'copy' into a row that is owned; a row told several times. -/
namespace Go.KL
open Go.RowKit
variable {P : Program} {d : Option Tmp} {ty : TypeId} {pos : String} {af : Array Edge} {g : Option (Nat × Bool)} {a : Act} {σ : GW}
def SlForm (v : Value) (n : Nat) : Prop := ∃ ad cap, v = .slice ad n cap ∧ n ≤ cap ∧ cap ≤ 9223372036854775807
section
variable {x y : Operand} {n : Nat} {t e' : TypeId} {z v : Value} {b : Nat} {ki : IntKind} (ht : P.underlying t = some (.slice e')) (he : Info P e' z 1 b) (ho : SlForm v n) (hx : a.eval x = v)
include ht he ho hx
end
/-! Some arithmetic of 64 bits without a sign. -/
/-! A row told several times. -/
end Go.KL

/- A row from an element on: its length, its elements' places. -/
namespace Go.KL
open Go.RowKit
variable {P : Program} {d : Option Tmp} {ty : TypeId} {pos : String} {af : Array Edge} {g : Option (Nat × Bool)} {a : Act} {σ : GW}
theorem sufOf_some (gg n cap j : Nat) : sufOf (.slice (some ⟨gg, 0, none⟩) n cap) j = if j < cap then .slice (some ⟨gg, j, none⟩) (n - j) (cap - j) else sufOf (.slice (some ⟨gg, 0, none⟩) n cap) j := by
  by_cases h : j < cap
  · rw [if_pos h]
    show sliced (some ⟨gg, 0, none⟩) j n cap 1 = _
    unfold sliced
    rw [if_neg (by omega)]
    simp [Addr.add_lit]
  · rw [if_neg h]
theorem sufOf_at {gg n cap j : Nat} (h : j < cap) : sufOf (.slice (some ⟨gg, 0, none⟩) n cap) j = .slice (some ⟨gg, j, none⟩) (n - j) (cap - j) := by rw [sufOf_some, if_pos h]
theorem y_sufLen {x : Operand} {t e : TypeId} {v : Value} {n j : Nat} (ht : P.underlying t = some (.slice e)) (hv : SlForm v n) (hx : a.eval x = sufOf v j) : Yld P ⟨d, .call ⟨.builtin .len, #[x], #[t]⟩, ty, pos, af, g⟩ a σ (Ty.nat (n - j)).pr := by
  obtain ⟨ad, cap, rfl, _, _⟩ := hv
  obtain ⟨ad', cap', e1⟩ : ∃ ad' cap', sufOf (.slice ad n cap) j = .slice ad' (n - j) cap' := by
    show ∃ ad' cap', sliced ad j n cap 1 = _
    unfold sliced
    split <;> exact ⟨_, _, rfl⟩
  exact Yld.of_run (v := .int .i64 ((n - j : Nat) : Int)) (run_builtin1 (hx.trans e1) (fun cs => by simp [builtin, Builtin.len_, run_underlying ht, goInt])) rfl
theorem y_sufIdx {k : Nat} {x y : Operand} {n j i : Nat} {ts : List Ty} {t e : TypeId} {z v : Value} {b : Nat} {ki : IntKind} (ht : P.underlying t = some (.slice e)) (he : Info P e z 1 b) (h : Own σ k e 1 v n ts) (hx : a.eval x = sufOf v j) (hy : a.eval y = .int ki ((i : Nat) : Int)) (h1 : j + i < n) :
    Yld P ⟨d, .indexAddr t x y, ty, pos, af, g⟩ a σ (Ty.val (cellPtr v (j + i))).pr := by
  have hc := h.cap
  obtain ⟨gg, cap, rfl, _, _⟩ := h.at (by omega)
  have hc' : n ≤ cap := hc
  have hx' : a.eval x = .slice (some ⟨gg, j, none⟩) (n - j) (cap - j) := by rw [hx]; exact sufOf_at (by omega)
  refine Yld.of_run (v := .pointer (some ⟨gg, j + i, none⟩)) ?_ rfl
  have h2 : ((i : Nat) : Int) < ((n - j : Nat) : Int) := by omega
  simp only [execOp, hx', hy]
  have h3 : ¬ n ≤ i + j := by omega
  simp [Instr.indexAt, asIntOf, run_underlying ht, h2, h3, he.size, Addr.add_lit]
end Go.KL

/- Rows of structs that are owned: an element's address, its fields, the whole of it. -/
namespace Go.KL
open Go.RowKit
section
variable {P : Program} {d : Option Tmp} {ty : TypeId} {pos : String} {af : Array Edge} {g : Option (Nat × Bool)} {a : Act} {σ : GW}
theorem y_idxc {k : Nat} {x y : Operand} {c n i : Nat} {ts : List Ty} {t e : TypeId} {z v : Value} {b : Nat} {ki : IntKind} (ht : P.underlying t = some (.slice e)) (he : Info P e z c b)
    (h : Own σ k e c v n ts) (hx : a.eval x = v) (hy : a.eval y = .int ki (i : Int)) (h1 : i < n) :
    Yld P ⟨d, .indexAddr t x y, ty, pos, af, g⟩ a σ (Ty.val (cellPtr v (i * c))).pr := by
  have := own_index (d := d) (ty := ty) (pos := pos) (af := af) (g := g) (i := (i : Int)) ht he h hx hy (by omega) (by omega)
  rwa [Int.toNat_natCast] at this
theorem y_fieldcc {k : Nat} {x : Operand} {n i : Nat} {ts : List Ty} {e t ft : TypeId} {f off c c2 by_ : Nat} {z v : Value} (hf : fieldOf P t f = some (ft, off)) (he : Info P ft z c by_) (hc : 0 < c) (h : Own σ k e c2 v n ts) (hn : 0 < n) (hx : a.eval x = cellPtr v i) :
    Yld P ⟨d, .fieldAddr t x f, ty, pos, af, g⟩ a σ (Ty.val (cellPtr v (i + off))).pr := by
  obtain ⟨gg, cap, rfl, _, _⟩ := h.at hn
  refine Yld.of_run (v := .pointer (some ⟨gg, i + off, none⟩)) ?_ rfl
  simp only [execOp, hx, cellPtr]
  have := run_fieldAt (o := i) (b := gg) hf he hc σ.w
  simp [this]
theorem own_loadst {k o n c m : Nat} {x : Operand} {ts : List Ty} {t e : TypeId} {fs : Array Field} {z v : Value} {by_ : Nat} (ht : P.underlying t = some (.struct fs)) (he : Info P t z c by_) (hl : o + c ≤ ts.length) (hc : 0 < c) (h : Own σ k e m v n ts) (hx : a.eval x = cellPtr v o) :
    Yld P ⟨d, .load t x, ty, pos, af, g⟩ a σ (Ty.agg ((ts.drop o).take c)).pr := by
  have hlen := h.len
  have hn : 0 < n := by
    rcases Nat.eq_zero_or_pos n with h0 | h0
    · subst h0; omega
    · exact h0
  obtain ⟨gg, cap, rfl, _, _⟩ := h.at hn
  obtain ⟨us, r1, r2, r3, _⟩ := h
  have hx' : a.eval x = .pointer (some ⟨gg, o, none⟩) := hx
  have hlen2 : ((us.drop o).take c).length = c := by rw [List.length_take, List.length_drop]; omega
  have hget : ∀ j, j < c → ((us.drop o).take c)[j]? = us[o + j]? := fun j hj => by rw [List.getElem?_take_of_lt hj, List.getElem?_drop]
  refine Yld.of_run (v := .agg ((us.drop o).take c).toArray) ?_ ⟨_, rfl, ?_, fun j T u hj hu => ?_⟩
  · simp only [execOp, hx']
    have := run_loadVar (P := P) ht he (w := σ.w) (ad := ⟨gg, o, none⟩) (us := (us.drop o).take c) hlen2 (fun j u hj => by
      have hlt : j < c := by have := (List.getElem?_eq_some_iff.1 hj).1; omega
      rw [hget j hlt] at hj
      rw [Addr.add_lit]
      have hc' := r1.cellAt (o + j) (by omega)
      rw [hj] at hc'
      exact hc')
    simp [Instr.loadAt, Instr.sureAddr, this]
  · simp only [List.size_toArray, hlen2]; rw [List.length_take, List.length_drop]; omega
  · have hlt : j < c := by have := (List.getElem?_eq_some_iff.1 hj).1; rw [List.length_take] at this; omega
    rw [List.getElem?_take_of_lt hlt, List.getElem?_drop] at hj
    have hu2 : ((us.drop o).take c)[j]? = some u := by simpa using hu
    rw [hget j hlt] at hu2
    exact r3 _ T u hj hu2
end
theorem spots_len {xs : List Spt} : (xs.flatMap spotC).length = xs.length * 3 := by
  induction xs with
  | nil => rfl
  | cons x xs ih => rw [List.flatMap_cons, List.length_append, ih, List.length_cons]; show 3 + _ = _; omega
theorem spots_drop : ∀ {xs : List Spt} {i : Nat}, i < xs.length → ((xs.flatMap spotC).drop (i * 3)).take 3 = spotC (xs.getD i ([], 0, 0))
  | x :: xs, 0, _ => rfl
  | x :: xs, i + 1, h => by
    have ih := spots_drop (xs := xs) (i := i) (by simpa using h)
    rw [List.flatMap_cons, show (i + 1) * 3 = 3 + i * 3 by omega, ← List.drop_drop]
    exact ih
theorem spots_get {xs : List Spt} {i f : Nat} {T : Ty} (h : i < xs.length) (hf : f < 3) (hT : (spotC (xs.getD i ([], 0, 0)))[f]? = some T) : (xs.flatMap spotC)[i * 3 + f]? = some T := by
  rw [← spots_drop h, List.getElem?_take_of_lt hf, List.getElem?_drop] at hT
  exact hT
theorem yld_agg {P : Program} {o : Oper} {a : Act} {σ : GW} {ts us : List Ty} (e : ts = us) (h : Yld P o a σ (Ty.agg ts).pr) : Yld P o a σ (Ty.agg us).pr := e ▸ h
end Go.KL

/- Arrays as values: built of two parts, and what stands at a place. -/
namespace Go.KL
open Go.RowKit
variable {P : Program} {d : Option Tmp} {ty : TypeId} {pos : String} {af : Array Edge} {g : Option (Nat × Bool)} {a : Act} {σ : GW}
/-! ### Bells that are told -/
end Go.KL

/- How many rows are like a pattern: as many as there are ways to place the other bells. -/
namespace Go.KL
/-! ### A pattern as one list -/
end Go.KL

/- Of all rows so many are like a pattern as there are ways to place the other bells. -/
namespace Go.KL
section
variable {P : Program} {d : Option Tmp} {ty : TypeId} {pos : String} {af : Array Edge} {g : Option (Nat × Bool)} {a : Act} {σ : GW}
end
section
variable (raw r : List Int) (star : Nat)
end
section
variable {raw r : List Int} {star : Nat}
end
end Go.KL

/- Bytes of a text, appended; touches, printed. -/
namespace Go.KL
open Go.RowKit Go.Lib
variable {P : Program} {d : Option Tmp} {ty : TypeId} {pos : String} {af : Array Edge} {g : Option (Nat × Bool)} {a : Act} {σ : GW}
/-! Numbers, printed. -/
/-! Touches, printed. -/
section
variable {cs : List BCall} {s T : ByteArray} {l : List Int} {i n : Nat}
end
end Go.KL

/- Runes, written as bytes: bits of bytes, rows of three and four new bytes. -/
namespace Go.KL
open Go.RowKit Go.Lib
section
variable {P : Program} {d : Option Tmp} {ty : TypeId} {pos : String} {af : Array Edge} {g : Option (Nat × Bool)} {a : Act} {σ : GW}
end
end Go.KL

/- Touches there and back: what is printed of leads is read as these. -/
namespace Go.KL
open Go.RowKit Go.Lib
section
variable {cs : List BCall}
end
end Go.KL

/- A text cut at each byte of a kind. -/
namespace Go.KL
open Go.Lib
end Go.KL
namespace Go.KL
section
variable {P : Program} {d : Option Tmp} {ty : TypeId} {pos : String} {af : Array Edge} {g : Option (Nat × Bool)} {a : Act} {σ : GW}
end
end Go.KL
namespace Go.KL
open Go.Lib
variable {ys T : List ByteArray} {l : List UInt8} {i m : Nat} {c : UInt8} {v : ByteArray}
end Go.KL
namespace Go.KL
variable {ys T : List ByteArray} {L : List UInt8} {i j : Nat} {s : ByteArray}
end Go.KL
namespace Go.KL
variable {ys T : List ByteArray} {L : List UInt8} {i j : Nat} {s : ByteArray}
end Go.KL

/- Contracts of the shelf, as contracts here. -/
namespace Go.KL
variable {P : Program}
def GW.grow (σ : GW) (w' : World) (h : σ.w.heap.size ≤ w'.heap.size) : GW := ⟨w', fun b => if b < σ.w.heap.size then σ.st b else 0, fun b hb => by
  by_cases hlt : b < σ.w.heap.size
  · omega
  · simp [hlt] at hb⟩
end Go.KL

