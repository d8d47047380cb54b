/- Maps of the function's own: what is held for each key. -/
import Derived.Test.YtbilebfnanlgfaaKlHeap
namespace Go.KL
open Go.RowKit
variable {P : Program} {α β : Type}

theorem run_checkKey {kt : TypeId} {d : TypeDesc} (h : P.underlying kt = some d) (hd : (match d with | .int _ | .string => true | _ => false) = true) (e : Bool) (n : Nat) (v : Value) (w : World) : (Instr.checkKey e (n + 1) kt v).run P w = .ok () w := by
  cases d <;> simp at hd <;> simp [Instr.checkKey, Sem.run_bind, run_underlying h]

structure KeyK [DecidableEq α] (P : Program) (kt : TypeId) (kv : α → Value) (d : TypeDesc) : Prop where
  under : P.underlying kt = some d
  same : ∀ a b, Instr.sameNow d (kv a) (kv b) = some (decide (a = b))
  chk : ∀ e w a, (Instr.checkKey e 10000 kt (kv a)).run P w = .ok () w
  bits : ∀ a, Instr.sameBits 10000 (kv a) (kv a) = true

theorem keyInt {kt : TypeId} (h : P.underlying kt = some (.int .i64)) : KeyK (α := Int) P kt (fun i => .int .i64 i) (.int .i64) where
  under := h
  same a b := by simp only [Instr.sameNow, if_true, Option.some.injEq]; rw [Bool.eq_iff_iff]; simp
  chk e w a := run_checkKey h rfl e 9999 _ w
  bits a := by simp [Instr.sameBits]
theorem KeyK.inj [DecidableEq α] {kt : TypeId} {kv : α → Value} {d : TypeDesc} (K : KeyK P kt kv d) {a b : α} (h : kv a = kv b) : a = b := by
  have := K.same a b
  have h2 := K.same b b
  rw [h, h2] at this
  simpa using this.symm

structure Ents (F : β → Ty) (kv : α → Value) (σ : GW) (es : List MapEntry) (clock : Nat) (f : α → Option β) : Prop where
  key : ∀ e ∈ es, ∃ i b, e.key = kv i ∧ f i = some b ∧ (F b).has σ e.val
  mem : ∀ i b, f i = some b → ∃ e ∈ es, e.key = kv i
  uniq : es.Pairwise (fun x y => x.key ≠ y.key)
  born : es.Pairwise (fun x y => x.born < y.born)
  lt : ∀ e ∈ es, e.born < clock

theorem Ents.up {F : β → Ty} {kv : α → Value} {σ τ : GW} {es : List MapEntry} {clock : Nat} {f : α → Option β} (h : Ents F kv σ es clock f) (hs : σ.Le τ) : Ents F kv τ es clock f :=
  ⟨fun e he => by obtain ⟨i, b, h1, h2, h3⟩ := h.key e he; exact ⟨i, b, h1, h2, (F b).up hs h3⟩, h.mem, h.uniq, h.born, h.lt⟩

theorem findNow_spec [DecidableEq α] {kt : TypeId} {kv : α → Value} {d : TypeDesc} (K : KeyK P kt kv d) (a : α) : ∀ (es : List MapEntry) (n : Nat), (∀ e ∈ es, ∃ x, e.key = kv x) →
    (∃ (i : Nat) (e : MapEntry), es[i]? = some e ∧ e.key = kv a ∧ Instr.findNow d (kv a) es n = some (some (n + i, e.val))) ∨ ((∀ e ∈ es, e.key ≠ kv a) ∧ Instr.findNow d (kv a) es n = some none)
  | [], n, _ => .inr ⟨by simp, rfl⟩
  | e :: es, n, h => by
    obtain ⟨x, hx⟩ := h e (by simp)
    by_cases hax : a = x
    · subst hax
      refine .inl ⟨0, e, rfl, hx, ?_⟩
      simp [Instr.findNow, hx, K.same]
    · have hs : Instr.findNow d (kv a) (e :: es) n = Instr.findNow d (kv a) es (n + 1) := by
        simp [Instr.findNow, hx, K.same, hax]
      rw [hs]
      rcases findNow_spec K a es (n + 1) (fun e he => h e (by simp [he])) with ⟨i, e', h1, h2, h3⟩ | ⟨h1, h2⟩
      · exact .inl ⟨i + 1, e', h1, h2, by rw [h3]; simp; omega⟩
      · refine .inr ⟨fun e' he' => ?_, h2⟩
        rcases List.mem_cons.1 he' with rfl | he'
        · rw [hx]; exact fun hh => hax (K.inj hh).symm
        · exact h1 e' he'

theorem Ents.find [DecidableEq α] {F : β → Ty} {kt : TypeId} {kv : α → Value} {d : TypeDesc} (K : KeyK P kt kv d) {σ : GW} {es : List MapEntry} {clock : Nat} {f : α → Option β} (h : Ents F kv σ es clock f) (a : α) :
    (∃ (i : Nat) (e : MapEntry) (b : β), es[i]? = some e ∧ e.key = kv a ∧ f a = some b ∧ (F b).has σ e.val ∧ Instr.findNow d (kv a) es 0 = some (some (i, e.val))) ∨ (f a = none ∧ Instr.findNow d (kv a) es 0 = some none) := by
  rcases findNow_spec K a es 0 (fun e he => by obtain ⟨i, _, h1, _⟩ := h.key e he; exact ⟨i, h1⟩) with ⟨i, e, h1, h2, h3⟩ | ⟨h1, h2⟩
  · obtain ⟨j, b, k1, k2, k3⟩ := h.key e (List.mem_of_getElem? h1)
    have : j = a := K.inj (k1.symm.trans h2)
    subst this
    exact .inl ⟨i, e, b, h1, h2, k2, k3, by rw [h3]; simp⟩
  · refine .inr ⟨?_, h2⟩
    cases hf : f a with
    | none => rfl
    | some b => obtain ⟨e, he, hk⟩ := h.mem a b hf; exact absurd hk (h1 e he)

theorem run_findKey [DecidableEq α] {kt : TypeId} {kv : α → Value} {d : TypeDesc} (K : KeyK P kt kv d) {a : α} {es : List MapEntry} {r : Option (Nat × Value)} (h : Instr.findNow d (kv a) es 0 = some r) (w : World) : (Instr.findKey kt (kv a) es).run P w = .ok r w := by
  simp [Instr.findKey, Sem.run_bind, run_underlying K.under, h]

def OwnM (F : β → Ty) (kv : α → Value) (σ : GW) (k : Nat) (v : Value) (f : α → Option β) : Prop :=
  ∃ r es clock, v = .map (some r) ∧ σ.st r = k ∧ σ.w.heap[r]? = some (.map es clock) ∧ Ents F kv σ es.toList clock f
theorem OwnM.keepL {F : β → Ty} {kv : α → Value} {L : List Nat} {k : Nat} {σ τ : GW} {v : Value} {f : α → Option β} (h : OwnM F kv σ k v f) (hs : StpL L σ τ) (h1 : 1 ∉ L) (hk : k ∉ L) : OwnM F kv τ k v f := by
  obtain ⟨r, es, clock, r1, r2, r3, r4⟩ := h
  have hlt := (Array.getElem?_eq_some_iff.1 r3).1
  have hq : σ.st r ∉ L := by rw [r2]; exact hk
  exact ⟨r, es, clock, r1, (hs.st r hlt hq).trans r2, (hs.blk r hlt hq).trans r3, r4.up (hs.le h1)⟩
theorem OwnM.ren {F : β → Ty} {kv : α → Value} {k k' : Nat} {σ τ : GW} {v : Value} {f : α → Option β} (h : OwnM F kv σ k v f) (r : Ren k k' σ τ) : OwnM F kv τ k' v f := by
  obtain ⟨b, es, clock, r1, r2, r3, r4⟩ := h
  exact ⟨b, es, clock, r1, r.st b r2, by rw [r.w]; exact r3, r4.up r.le⟩
def Pr.ownm (F : β → Ty) (kv : α → Value) (k : Nat) (f : α → Option β) : Pr := ⟨fun σ v => OwnM F kv σ k v f, fun hs h => h.keepL (L := []) hs.toL0 (by simp) (by simp)⟩

variable {d : Option Tmp} {ty : TypeId} {pos : String} {af : Array Edge} {g : Option (Nat × Bool)} {a : Act} {σ : GW}
variable {F : β → Ty} {kv : α → Value} {kt et t : TypeId} {dd : TypeDesc}

theorem y_makemap (k : Nat) : Yld P ⟨d, .makeMap t none, ty, pos, af, g⟩ a σ (Pr.ownm F kv k (fun _ => none)) := by
  intro K Q hk
  have hr : (execOp a.eval ⟨d, .makeMap t none, ty, pos, af, g⟩).run P σ.w = .ok (.value (.map (some σ.w.heap.size))) (σ.w.alloc (.map #[] 0)) := by
    simp only [execOp]
    simp [Instr.makeMap, newObj, Sem.run, Sem.run_bind]
  unfold Oper.wp
  rw [hr]
  exact hk _ (σ.mk' k (.map #[] 0)) (Stp.mk' σ k _) ⟨σ.w.heap.size, #[], 0, rfl, by show (if _ = _ then k else _) = k; rw [if_pos rfl], heap_alloc_new σ.w _, ⟨by simp, by simp, by simp, by simp, by simp⟩⟩

theorem run_getObj {r : Nat} {es : Array MapEntry} {clock : Nat} {w : World} (h : w.heap[r]? = some (.map es clock)) : (getObj r).run P w = .ok (.map es clock) w := by
  simp [getObj, Sem.run, h]

theorem y_lookup [DecidableEq α] {x y : Operand} {k : Nat} {v zv : Value} {f : α → Option β} {i : α} {z : β} {c b : Nat} (ht : P.underlying t = some (.map kt et)) (K : KeyK P kt kv dd) (he : Info P et zv c b) (hz : ∀ σ, (F z).has σ zv)
    (h : OwnM F kv σ k v f) (hx : a.eval x = v) (hy : a.eval y = kv i) :
    Yld P ⟨d, .lookup t x y false, ty, pos, af, g⟩ a σ (F ((f i).getD z)).pr := by
  obtain ⟨r, es, clock, rfl, r2, r3, r4⟩ := h
  rcases r4.find K i with ⟨j, e, bb, h1, h2, h3, h4, h5⟩ | ⟨h1, h2⟩
  · refine Yld.of_run (v := e.val) ?_ (by rw [h3]; exact h4)
    simp only [execOp, hx, hy]
    simp [Instr.lookup, Sem.run_bind, run_underlying ht, run_getObj r3, K.chk, run_findKey K h5]
  · refine Yld.of_run (v := zv) ?_ (by rw [h1]; exact hz σ)
    simp only [execOp, hx, hy]
    simp [Instr.lookup, Sem.run_bind, run_underlying ht, run_getObj r3, K.chk, run_findKey K h2, he.zero]
theorem y_lookup2 [DecidableEq α] {x y : Operand} {k : Nat} {v zv : Value} {f : α → Option β} {i : α} {z : β} {c b : Nat} (ht : P.underlying t = some (.map kt et)) (K : KeyK P kt kv dd) (he : Info P et zv c b) (hz : ∀ σ, (F z).has σ zv)
    (h : OwnM F kv σ k v f) (hx : a.eval x = v) (hy : a.eval y = kv i) :
    Yld P ⟨d, .lookup t x y true, ty, pos, af, g⟩ a σ (Ty.tup2 (F ((f i).getD z)) (.bool (f i).isSome)).pr := by
  obtain ⟨r, es, clock, rfl, r2, r3, r4⟩ := h
  rcases r4.find K i with ⟨j, e, bb, h1, h2, h3, h4, h5⟩ | ⟨h1, h2⟩
  · refine Yld.of_run (v := .tuple #[e.val, .bool true]) ?_ ⟨_, _, rfl, by rw [h3]; exact h4, by rw [h3]; rfl⟩
    simp only [execOp, hx, hy]
    simp [Instr.lookup, Sem.run_bind, run_underlying ht, run_getObj r3, K.chk, run_findKey K h5]
  · refine Yld.of_run (v := .tuple #[zv, .bool false]) ?_ ⟨_, _, rfl, by rw [h1]; exact hz σ, by rw [h1]; rfl⟩
    simp only [execOp, hx, hy]
    simp [Instr.lookup, Sem.run_bind, run_underlying ht, run_getObj r3, K.chk, run_findKey K h2, he.zero]

def GW.setMap (σ : GW) (r : Nat) (es : Array MapEntry) (clock : Nat) : GW := ⟨{ σ.w with heap := σ.w.heap.setIfInBounds r (.map es clock) }, σ.st, fun b h => by have := σ.lt b h; simpa using this⟩
theorem Stp.setMap {σ : GW} {r k : Nat} {es : Array MapEntry} {clock : Nat} (hg : σ.st r = k) (hk : k ≠ 0) : Stp k σ (σ.setMap r es clock) :=
  ⟨rfl, rfl, rfl, Nat.le_refl _, by simp [GW.setMap], fun b _ hm => by simp only [GW.setMap]; rw [Array.getElem?_setIfInBounds_ne (by rintro rfl; omega)], fun _ _ _ => rfl⟩
theorem heap_setMap {σ : GW} {r : Nat} {es es' : Array MapEntry} {clock clock' : Nat} (h : σ.w.heap[r]? = some (.map es clock)) : (σ.setMap r es' clock').w.heap[r]? = some (.map es' clock') := by
  have hlt := (Array.getElem?_eq_some_iff.1 h).1
  simp [GW.setMap, hlt]
theorem run_setObj {r : Nat} {es es' : Array MapEntry} {clock clock' : Nat} {σ : GW} (h : σ.w.heap[r]? = some (.map es clock)) : (setObj r (.map es' clock')).run P σ.w = .ok () (σ.setMap r es' clock').w := by
  simp [setObj, Sem.run, h, GW.setMap]

theorem pairwise_modify_key {es : List MapEntry} (j : Nat) (u : MapEntry → MapEntry) (hk : ∀ e, es[j]? = some e → (u e).key = e.key ∧ (u e).born = e.born) :
    (es.modify j u).map (fun e => (e.key, e.born)) = es.map (fun e => (e.key, e.born)) := by
  apply List.ext_getElem?
  intro i
  simp only [List.getElem?_map, List.getElem?_modify]
  by_cases hij : j = i
  · subst hij
    cases he : es[j]? with
    | none => simp
    | some e => simp [hk e he]
  · simp [hij]
theorem pairwise_of_map {es fs : List MapEntry} {R : Value × Nat → Value × Nat → Prop} (h : es.map (fun e => (e.key, e.born)) = fs.map (fun e => (e.key, e.born))) (hp : fs.Pairwise (fun x y => R (x.key, x.born) (y.key, y.born))) : es.Pairwise (fun x y => R (x.key, x.born) (y.key, y.born)) := by
  have : (fs.map (fun e => (e.key, e.born))).Pairwise R := List.pairwise_map.2 hp
  rw [← h] at this
  exact List.pairwise_map.1 this

theorem Ents.set [DecidableEq α] {es : List MapEntry} {clock : Nat} {f : α → Option β} (K : KeyK P kt kv dd) (h : Ents F kv σ es clock f) {j : Nat} {e : MapEntry} {i : α} {b : β} {val : Value} (hj : es[j]? = some e) (he : e.key = kv i) (hv : (F b).has σ val) :
    Ents F kv σ (es.modify j fun e => { e with key := kv i, val := val }) clock (fun x => if x = i then some b else f x) := by
  have hm := pairwise_modify_key (es := es) j (fun e => { e with key := kv i, val := val }) (fun e' h' => by rw [hj] at h'; cases h'; exact ⟨he.symm, rfl⟩)
  have hmem : ∀ x, x ∈ (es.modify j fun e => { e with key := kv i, val := val }) → x = { e with key := kv i, val := val } ∨ (∃ m, m ≠ j ∧ es[m]? = some x) := by
    intro x hx
    obtain ⟨m, hm⟩ := List.mem_iff_getElem?.1 hx
    rw [List.getElem?_modify] at hm
    by_cases hjm : j = m
    · subst hjm
      rw [hj] at hm; simp at hm
      exact .inl hm.symm
    · right
      refine ⟨m, fun h => hjm h.symm, ?_⟩
      simpa [hjm] using hm
  refine ⟨fun x hx => ?_, fun x b' hx => ?_, ?_, ?_, fun x hx => ?_⟩
  · rcases hmem x hx with rfl | ⟨m, hmj, hm'⟩
    · exact ⟨i, b, rfl, by simp, hv⟩
    · obtain ⟨i', b', h1, h2, h3⟩ := h.key x (List.mem_of_getElem? hm')
      refine ⟨i', b', h1, ?_, h3⟩
      have hne : i' ≠ i := by
        intro hh; subst hh
        have hu := List.pairwise_iff_getElem.1 h.uniq
        have hml := (List.getElem?_eq_some_iff.1 hm').1
        have hjl := (List.getElem?_eq_some_iff.1 hj).1
        have e1 := (List.getElem?_eq_some_iff.1 hm').2
        have e2 := (List.getElem?_eq_some_iff.1 hj).2
        rcases Nat.lt_or_gt_of_ne hmj with hlt | hlt
        · exact hu m j hml hjl hlt (by rw [e1, e2, h1, he])
        · exact hu j m hjl hml hlt (by rw [e1, e2, h1, he])
      simp [hne, h2]
  · by_cases hxi : x = i
    · subst hxi
      refine ⟨{ e with key := kv x, val := val }, List.mem_iff_getElem?.2 ⟨j, by rw [List.getElem?_modify]; simp [hj]⟩, rfl⟩
    · simp [hxi] at hx
      obtain ⟨e', he', hk⟩ := h.mem x b' hx
      obtain ⟨m, hm'⟩ := List.mem_iff_getElem?.1 he'
      have hjm : j ≠ m := by
        rintro rfl
        rw [hj] at hm'; cases hm'
        exact hxi (K.inj (hk.symm.trans he))
      exact ⟨e', List.mem_iff_getElem?.2 ⟨m, by rw [List.getElem?_modify]; simp [hjm, hm']⟩, hk⟩
  · exact pairwise_of_map (R := fun x y => x.1 ≠ y.1) hm h.uniq
  · exact pairwise_of_map (R := fun x y => x.2 < y.2) hm h.born
  · rcases hmem x hx with rfl | ⟨m, _, hm'⟩
    · exact h.lt e (List.mem_of_getElem? hj)
    · exact h.lt x (List.mem_of_getElem? hm')
theorem Ents.push [DecidableEq α] {es : List MapEntry} {clock : Nat} {f : α → Option β} (K : KeyK P kt kv dd) (h : Ents F kv σ es clock f) {i : α} {b : β} {val : Value} (hi : f i = none) (hv : (F b).has σ val) :
    Ents F kv σ (es ++ [{ key := kv i, val := val, born := clock }]) (clock + 1) (fun x => if x = i then some b else f x) := by
  refine ⟨fun x hx => ?_, fun x b' hx => ?_, ?_, ?_, fun x hx => ?_⟩
  · rcases List.mem_append.1 hx with hx | hx
    · obtain ⟨i', b', h1, h2, h3⟩ := h.key x hx
      have hne : i' ≠ i := by rintro rfl; rw [hi] at h2; cases h2
      exact ⟨i', b', h1, by simp [hne, h2], h3⟩
    · simp at hx; subst hx
      exact ⟨i, b, rfl, by simp, hv⟩
  · by_cases hxi : x = i
    · subst hxi; exact ⟨{ key := kv x, val := val, born := clock }, by simp, rfl⟩
    · simp [hxi] at hx
      obtain ⟨e', he', hk⟩ := h.mem x b' hx
      exact ⟨e', by simp [he'], hk⟩
  · refine List.pairwise_append.2 ⟨h.uniq, by simp, fun x hx y hy => ?_⟩
    simp at hy; subst hy
    obtain ⟨i', b', h1, h2, h3⟩ := h.key x hx
    intro hh
    have : i' = i := K.inj (h1.symm.trans hh)
    subst this; rw [hi] at h2; cases h2
  · refine List.pairwise_append.2 ⟨h.born, by simp, fun x hx y hy => ?_⟩
    simp at hy; subst hy
    exact h.lt x hx
  · rcases List.mem_append.1 hx with hx | hx
    · have := h.lt x hx; omega
    · simp at hx; subst hx; simp
theorem Ents.erase [DecidableEq α] {es : List MapEntry} {clock : Nat} {f : α → Option β} (K : KeyK P kt kv dd) (h : Ents F kv σ es clock f) {j : Nat} {e : MapEntry} {i : α} (hj : es[j]? = some e) (he : e.key = kv i) :
    Ents F kv σ (es.eraseIdx j) clock (fun x => if x = i then none else f x) := by
  have hsub := List.eraseIdx_sublist es j
  refine ⟨fun x hx => ?_, fun x b' hx => ?_, h.uniq.sublist hsub, h.born.sublist hsub, fun x hx => h.lt x (hsub.subset hx)⟩
  · rw [List.mem_eraseIdx_iff_getElem?] at hx
    obtain ⟨m, hmj, hm'⟩ := hx
    obtain ⟨i', b', h1, h2, h3⟩ := h.key x (List.mem_of_getElem? hm')
    refine ⟨i', b', h1, ?_, h3⟩
    have hne : i' ≠ i := by
      intro hh; subst hh
      have hu := List.pairwise_iff_getElem.1 h.uniq
      have hml := (List.getElem?_eq_some_iff.1 hm').1
      have hjl := (List.getElem?_eq_some_iff.1 hj).1
      have e1 := (List.getElem?_eq_some_iff.1 hm').2
      have e2 := (List.getElem?_eq_some_iff.1 hj).2
      rcases Nat.lt_or_gt_of_ne hmj with hlt | hlt
      · exact hu m j hml hjl hlt (by rw [e1, e2, h1, he])
      · exact hu j m hjl hml hlt (by rw [e1, e2, h1, he])
    simp [hne, h2]
  · by_cases hxi : x = i
    · simp [hxi] at hx
    · simp [hxi] at hx
      obtain ⟨e', he', hk⟩ := h.mem x b' hx
      obtain ⟨m, hm'⟩ := List.mem_iff_getElem?.1 he'
      refine ⟨e', ?_, hk⟩
      rw [List.mem_eraseIdx_iff_getElem?]
      refine ⟨m, ?_, hm'⟩
      rintro rfl
      rw [hj] at hm'; cases hm'
      exact hxi (K.inj (hk.symm.trans he))

theorem run_mapUpdate [DecidableEq α] {k : Nat} {v val : Value} {f : α → Option β} {i : α} {b : β} (ht : P.underlying t = some (.map kt et)) (K : KeyK P kt kv dd) (hk : 2 ≤ k) (h : OwnM F kv σ k v f) (hv : (F b).has σ val) :
    ∃ τ : GW, (Instr.mapUpdate t v (kv i) val).run P σ.w = .ok () τ.w ∧ Stp k σ τ ∧ OwnM F kv τ k v (fun x => if x = i then some b else f x) := by
  obtain ⟨r, es, clock, rfl, r2, r3, r4⟩ := h
  rcases r4.find K i with ⟨j, e, bb, h1, h2, h3, h4, h5⟩ | ⟨h1, h2⟩
  · have hs : Stp k σ (σ.setMap r (es.modify j fun e => { e with key := kv i, val := val }) clock) := Stp.setMap r2 (by omega)
    refine ⟨_, ?_, hs, r, _, _, rfl, r2, heap_setMap r3, ?_⟩
    · have e0 : es[j]? = some e := by simpa using h1
      simp [Instr.mapUpdate, Sem.run_bind, run_underlying ht, run_getObj r3, K.chk, run_findKey K h5, e0, h2, Instr.keyThatStays, K.bits, run_setObj r3]
    · have := (r4.set K h1 h2 hv).up (hs.le (by omega))
      simpa using this
  · have hs : Stp k σ (σ.setMap r (es.push { key := kv i, val := val, born := clock }) (clock + 1)) := Stp.setMap r2 (by omega)
    refine ⟨_, ?_, hs, r, _, _, rfl, r2, heap_setMap r3, ?_⟩
    · simp [Instr.mapUpdate, Sem.run_bind, run_underlying ht, run_getObj r3, K.chk, run_findKey K h2, run_setObj r3]
    · have := (r4.push K h1 hv).up (hs.le (by omega))
      simpa using this
theorem m_mapset [DecidableEq α] {x y z : Operand} {k : Nat} {v : Value} {f : α → Option β} {i : α} {b : β} (ht : P.underlying t = some (.map kt et)) (K : KeyK P kt kv dd) (hk : 2 ≤ k) (h : OwnM F kv σ k v f) (hx : a.eval x = v) (hy : a.eval y = kv i) (hv : At (F b) σ a z) :
    YldM k P ⟨d, .mapUpdate t x y z, ty, pos, af, g⟩ a σ (fun _ τ => OwnM F kv τ k v (fun x => if x = i then some b else f x)) := by
  obtain ⟨τ, h1, h2, h3⟩ := run_mapUpdate (i := i) ht K hk h hv
  intro K' Q hK
  have hr : (execOp a.eval ⟨d, .mapUpdate t x y z, ty, pos, af, g⟩).run P σ.w = .ok .skip τ.w := by
    simp only [execOp, hx, hy]
    simp [h1]
  unfold Oper.wp
  rw [hr]
  exact hK undef τ h2 h3
theorem m_mapdel [DecidableEq α] {x y : Operand} {k : Nat} {v : Value} {f : α → Option β} {i : α} {t2 : TypeId} (ht : P.underlying t = some (.map kt et)) (K : KeyK P kt kv dd) (hk : 2 ≤ k) (h : OwnM F kv σ k v f) (hx : a.eval x = v) (hy : a.eval y = kv i) :
    YldM k P ⟨d, .call ⟨.builtin .delete, #[x, y], #[t, t2]⟩, ty, pos, af, g⟩ a σ (fun _ τ => OwnM F kv τ k v (fun x => if x = i then none else f x)) := by
  obtain ⟨r, es, clock, rfl, r2, r3, r4⟩ := h
  have run2 : ∀ (u : Value) (w' : World), (Builtin.delete_ #[t, t2] ty #[.map (some r), kv i]).run P σ.w = .ok u w' → (execOp a.eval ⟨d, .call ⟨.builtin .delete, #[x, y], #[t, t2]⟩, ty, pos, af, g⟩).run P σ.w = .ok (.value u) w' := by
    intro u w' hb
    simp only [execOp, resolve, Sem.run_bind, Sem.run_pure, Result.andThen_ok, invoke, List.map_toArray, List.map_cons, List.map_nil, hx, hy]
    simp [builtin, Sem.run_bind, hb]
  rcases r4.find K i with ⟨j, e, bb, h1, h2, h3, h4, h5⟩ | ⟨h1, h2⟩
  · have hs : Stp k σ (σ.setMap r (es.eraseIdxIfInBounds j) clock) := Stp.setMap r2 (by omega)
    intro K' Q hK
    have hr := run2 (.tuple #[]) (σ.setMap r (es.eraseIdxIfInBounds j) clock).w (by
      simp [Builtin.delete_, Sem.run_bind, run_underlying ht, run_getObj r3, K.chk, run_findKey K h5, run_setObj r3])
    unfold Oper.wp
    rw [hr]
    refine hK _ _ hs ⟨r, _, _, rfl, r2, heap_setMap r3, ?_⟩
    have := (r4.erase K h1 h2).up (hs.le (by omega))
    simpa using this
  · have hs : Stp k σ (σ.setMap r es clock) := Stp.setMap r2 (by omega)
    intro K' Q hK
    have hr := run2 (.tuple #[]) (σ.setMap r es clock).w (by
      simp [Builtin.delete_, Sem.run_bind, run_underlying ht, run_getObj r3, K.chk, run_findKey K h2, run_setObj r3])
    unfold Oper.wp
    rw [hr]
    refine hK _ _ hs ⟨r, _, _, rfl, r2, heap_setMap r3, ?_⟩
    have e0 : (fun x => if x = i then none else f x) = f := by
      funext x; by_cases hx : x = i
      · subst hx; simp [h1]
      · simp [hx]
    rw [e0]
    exact r4.up (hs.le (by omega))
theorem cvm {k : Nat} {v : Value} {f f' : α → Option β} (e : f = f') (h : OwnM F kv σ k v f) : OwnM F kv σ k v f' := e ▸ h
abbrev kI : Int → Value := fun i => .int .i64 i
end Go.KL
