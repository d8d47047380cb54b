/- Plain maths: courses. -/
import Derived.Test.YtdjihbjikpbhgaaGreatDoorMethodSaysK1
import Derived.Lib.Bytealg
import Derived.Scope
import Derived.Lib.Builder
import Derived.Lib.UnsafeStr
import Derived.Lib.SliceRun
import Derived.Lib.DecodeN
import Derived.Lib.AppendStr
import Derived.Laws.BitsLemmas
import Derived.Lib.IndexLaws
import Derived.Lib.SlTrimSet
import Derived.Lib.AtoiAll
import Derived.Laws.CopyRow
import Derived.Laws.Bits64b
import Derived.Lib.Overlaps
import Derived.Recover
namespace Go.KL

/-! ### A row's order -/
theorem ordTo_step_dvd (l : List (List Int)) (k : Nat) (hk : k < l.length) (hp : 0 < (l.getD k []).length) : ordTo l k ∣ ordTo l (k + 1) ∧ (l.getD k []).length ∣ ordTo l (k + 1) := by
  rw [ordTo_succ l k hk, lcm_form _ _ hp]
  exact ⟨Nat.dvd_lcm_left _ _, Nat.dvd_lcm_right _ _⟩
theorem len_dvd_ord {r : List Int} (hr : IsRow r) {j : Nat} (hj : j < (cyclesL r).length) : ∀ k, k ≤ (cyclesL r).length → j < k → ((cyclesL r).getD j []).length ∣ ordTo (cyclesL r) k
  | 0, _, h => by omega
  | k + 1, hk, h => by
    have hc := cyc_len hr (show k < (cyclesL r).length by omega)
    have hs := ordTo_step_dvd (cyclesL r) k (by omega) (by omega)
    by_cases e : j = k
    · subst e; exact hs.2
    · exact Nat.dvd_trans (len_dvd_ord hr hj k (by omega) (by omega)) hs.1
theorem per_dvd_ord {r : List Int} (hr : IsRow r) {b : Nat} (hb : b < r.length) (hl : least r b = true) : per r b ∣ ordL r := by
  have hm : orb r b ∈ cyclesL r := by
    unfold cyclesL cyclesTo
    exact List.mem_map.2 ⟨b, List.mem_filter.2 ⟨List.mem_range.2 hb, hl⟩, rfl⟩
  obtain ⟨j, hj, e⟩ := List.getElem_of_mem hm
  have := len_dvd_ord hr hj _ (Nat.le_refl _) hj
  rw [List.getD_eq_getElem?_getD] at this
  simp only [hj, List.getElem?_eq_getElem, Option.getD_some, e, orb_len] at this
  exact this
theorem least_of {r : List Int} (hr : IsRow r) : ∀ (b : Nat), b < r.length → ∃ k, k < r.length ∧ least r k = true ∧ Leads r k b := by
  intro b
  induction b using Nat.strongRecOn with
  | ind b ih =>
    intro hb
    by_cases hl : least r b = true
    · exact ⟨b, hb, hl, 0, rfl⟩
    · rw [least_iff hr hb] at hl
      obtain ⟨k, hk⟩ := Classical.not_forall.1 hl
      obtain ⟨h1, h2⟩ := Classical.not_imp.1 hk
      obtain ⟨m, h3, h4, h5⟩ := ih k (by omega) (h1.lt hr hb)
      exact ⟨m, h3, h4, h5.trans (h1.symm hr hb)⟩
theorem itr_mul {r : List Int} {b p : Nat} (h : itr r b p = b) : ∀ q, itr r b (p * q) = b
  | 0 => rfl
  | q + 1 => by rw [Nat.mul_succ, itr_add, itr_mul h q, h]
theorem itr_ord {r : List Int} (hr : IsRow r) {b : Nat} (hb : b < r.length) : itr r b (ordL r) = b := by
  obtain ⟨k, hk, hl, m, hm⟩ := least_of hr b hb
  obtain ⟨q, hq⟩ := per_dvd_ord hr hk hl
  have hp := per_spec hr hk
  rw [← hm, ← itr_add, Nat.add_comm, itr_add, hq, itr_mul hp.2.2.1 q]
theorem ordL_pos {r : List Int} (hr : IsRow r) : 1 ≤ ordL r := (ordTo_le hr _ (Nat.le_refl _)).1
/-! ### Products -/
def In (n : Nat) (l : List Int) : Prop := ∀ i, i < l.length → 0 ≤ l.getD i 0 ∧ l.getD i 0 < n
theorem IsRow.bds {r : List Int} (h : IsRow r) : In r.length r := fun _ hi => h.at hi
theorem byL_assoc (a b c : List Int) (hc : In b.length c) : byL a (byL b c) = byL (byL a b) c := by
  refine ext0 (by rw [byL_len, byL_len, byL_len]) fun i hi => ?_
  rw [byL_len, byL_len] at hi
  have := hc i hi
  rw [byL_get _ _ i (by rw [byL_len]; exact hi), byL_get _ _ i hi, byL_get _ _ i hi, byL_get a b _ (by omega)]
theorem byL_rounds_left {n : Nat} {c : List Int} (hc : In n c) : byL (roundsL n) c = c := by
  refine ext0 (byL_len _ _) fun i hi => ?_
  rw [byL_len] at hi
  have := hc i hi
  rw [byL_get _ _ i hi, roundsL_get (by omega)]; omega
theorem byL_rounds_right {n : Nat} {a : List Int} (hl : a.length = n) : byL a (roundsL n) = a := by
  refine ext0 (by rw [byL_len, roundsL_len, hl]) fun i hi => ?_
  rw [byL_len, roundsL_len] at hi
  rw [byL_get _ _ i (by rw [roundsL_len]; exact hi), roundsL_get hi]; rfl
theorem byL_row {a b : List Int} (ha : IsRow a) (hb : IsRow b) (hl : a.length = b.length) : IsRow (byL a b) := by
  apply rowMay_ok.1
  refine rowMay_of (by rw [byL_len]; exact hb.pos) (by rw [byL_len]; exact hb.le) ?_ ?_
  · unfold byL
    rw [List.nodup_iff_pairwise_ne, List.pairwise_iff_getElem]
    intro i j hi hj hij e
    simp only [List.length_map] at hi hj
    simp only [List.getElem_map] at e
    rw [gd b i hi, gd b j hj] at e
    have bi := hb.at hi
    have bj := hb.at hj
    have h1 := idxOf_at ha.nodup (k := (b.getD i 0).toNat) (by omega)
    have h2 := idxOf_at ha.nodup (k := (b.getD j 0).toNat) (by omega)
    rw [e] at h1
    have e2 : b.getD i 0 = b.getD j 0 := by omega
    have h3 := idxOf_at hb.nodup hi
    have h4 := idxOf_at hb.nodup hj
    rw [e2] at h3; omega
  · intro x hx
    unfold byL at hx
    obtain ⟨y, hy, rfl⟩ := List.mem_map.1 hx
    have := hb.bound y hy
    have := ha.at (i := y.toNat) (by omega)
    rw [byL_len]; omega

/-! ### The rows of a lead, of a course -/
theorem curL_row {n : Nat} {l : List (List Int)} (h1 : 1 ≤ n) (h2 : n ≤ 12) (h : ∀ k, k < l.length → okL 0 (l.getD k []) n) : ∀ k, k ≤ l.length → IsRow (curL (roundsL n) l k) ∧ (curL (roundsL n) l k).length = n
  | 0, _ => ⟨roundsL_row h1 h2, roundsL_len n⟩
  | k + 1, hk => by
    obtain ⟨hr, hl⟩ := curL_row h1 h2 h k (by omega)
    have ho := h k (by omega)
    have hc := (ord_inv ho h1 h2).1
    rw [curL_succ _ l k (by omega), hl]
    exact ⟨byL_row hr hc (by rw [hl, chgRow_len ho]), by rw [byL_len, chgRow_len ho]⟩
def headL (n : Nat) (l : List (List Int)) : List Int := curL (roundsL n) l l.length
def powL (n : Nat) (h : List Int) : Nat → List Int
  | 0 => roundsL n
  | k + 1 => byL (powL n h k) h
theorem powL_get {n : Nat} {h : List Int} (hr : IsRow h) (hl : h.length = n) : ∀ (k i : Nat), i < n → (powL n h k).getD i 0 = itr h i k
  | 0, i, hi => by rw [powL, roundsL_get hi]; rfl
  | k + 1, i, hi => by
    have hb := nxt_lt hr (k := i) (by omega)
    have hi2 := nxt_int hr (k := i) (by omega)
    rw [powL, byL_get _ _ i (by omega), ← hi2, Int.toNat_natCast, powL_get hr hl k _ (by omega)]
    have := itr_add h i 1 k
    rw [Nat.add_comm] at this
    rw [this]; rfl
theorem powL_len {n : Nat} {h : List Int} (hl : h.length = n) : ∀ k, (powL n h k).length = n
  | 0 => roundsL_len n
  | k + 1 => by rw [powL, byL_len, hl]
theorem powL_ord {n : Nat} {h : List Int} (hr : IsRow h) (hl : h.length = n) : powL n h (ordL h) = roundsL n := by
  refine ext0 (by rw [powL_len hl, roundsL_len]) fun i hi => ?_
  rw [powL_len hl] at hi
  rw [powL_get hr hl _ i hi, itr_ord hr (by omega), roundsL_get hi]
theorem powL_row {n : Nat} {h : List Int} (hr : IsRow h) (hl : h.length = n) : ∀ k, IsRow (powL n h k)
  | 0 => roundsL_row (by have := hr.pos; omega) (by have := hr.le; omega)
  | k + 1 => by rw [powL]; exact byL_row (powL_row hr hl k) hr (by rw [powL_len hl, hl])
def crs (n : Nat) (l : List (List Int)) (i : Nat) : List (List Int) := (List.range i).map fun x => byL (powL n (headL n l) (x / l.length)) (curL (roundsL n) l (x % l.length))
theorem crs_len (n : Nat) (l : List (List Int)) (i : Nat) : (crs n l i).length = i := by simp [crs]
theorem crs_succ (n : Nat) (l : List (List Int)) (k j : Nat) (hj : j < l.length) : crs n l (k * l.length + j + 1) = crs n l (k * l.length + j) ++ [byL (powL n (headL n l) k) (curL (roundsL n) l j)] := by
  have e1 : (k * l.length + j) / l.length = k := by rw [Nat.mul_comm, Nat.mul_add_div (by omega), Nat.div_eq_of_lt hj]; rfl
  have e2 : (k * l.length + j) % l.length = j := by rw [Nat.mul_comm, Nat.mul_add_mod, Nat.mod_eq_of_lt hj]
  unfold crs
  rw [List.range_succ, List.map_append, List.map_cons, List.map_nil, e1, e2]
theorem methMay_ok' {s : ByteArray} {n : Int} {l : List (List Int)} (h : methMay s n l = 0) : MethOk s n.toNat l ∧ ((n.toNat : Nat) : Int) = n := by
  obtain ⟨m, rfl, hm⟩ := methMay_ok.1 h
  exact ⟨by rwa [Int.toNat_natCast], rfl⟩
theorem fromL_len (r : List Int) (l : List (List Int)) : (fromL r l).length = l.length + 1 := fromTo_len r l _
theorem fromL_get {r : List Int} {l : List (List Int)} {k : Nat} (h : k ≤ l.length) : (fromL r l).getD k [] = curL r l k := by
  unfold fromL fromTo; simp [show k < l.length + 1 by omega]
theorem fromL_last (n : Nat) (l : List (List Int)) : (fromL (roundsL n) l).getD ((((fromL (roundsL n) l).length : Nat) : Int) - (1 : Int)).toNat [] = headL n l := by
  rw [fromL_len, show (((l.length + 1 : Nat) : Int) - (1 : Int)).toNat = l.length by omega, fromL_get (Nat.le_refl _)]; rfl
theorem MethOk.head {s : ByteArray} {n : Nat} {l : List (List Int)} (h : MethOk s n l) : IsRow (headL n l) ∧ (headL n l).length = n := curL_row (by have := h.n1; omega) h.n2 h.ok _ (Nat.le_refl _)
theorem take_fromL (n : Nat) (l : List (List Int)) {k j : Nat} (hk : k = l.length) (hj : j < l.length) : (List.take k (fromL (roundsL n) l)).getD j [] = curL (roundsL n) l j := by
  subst hk
  rw [← fromL_get (k := j) (by omega), List.getD_eq_getElem?_getD, List.getElem?_take, if_pos hj, List.getD_eq_getElem?_getD]
theorem MethOk.may {s : ByteArray} {n : Nat} {l : List (List Int)} (h : MethOk s n l) : methMay s n l = 0 := methMay_ok.2 ⟨n, rfl, h⟩
def courseMay (s : ByteArray) (n : Int) (l : List (List Int)) : Int := if methMay s n l ≠ 0 then methMay s n l else if 20000 < ordL (headL n.toNat l) * l.length then 3 else 0
end Go.KL

/- Maps of the function's own: what is held for each key. -/
namespace Go.KL
open Go.RowKit
variable {P : Program} {α β : Type}

structure KeyK [DecidableEq α] (P : Program) (kt : TypeId) (kv : α → Value) (d : TypeDesc) : Prop where
  under : P.underlying kt = some d
  same : ∀ a b, Instr.sameNow d (kv a) (kv b) = some (decide (a = b))
  chk : ∀ e w a, (Instr.checkKey e 10000 kt (kv a)).run P w = .ok () w
  bits : ∀ a, Instr.sameBits 10000 (kv a) (kv a) = true

theorem KeyK.inj [DecidableEq α] {kt : TypeId} {kv : α → Value} {d : TypeDesc} (K : KeyK P kt kv d) {a b : α} (h : kv a = kv b) : a = b := by
  have := K.same a b
  have h2 := K.same b b
  rw [h, h2] at this
  simpa using this.symm

structure Ents (F : β → Ty) (kv : α → Value) (σ : GW) (es : List MapEntry) (clock : Nat) (f : α → Option β) : Prop where
  key : ∀ e ∈ es, ∃ i b, e.key = kv i ∧ f i = some b ∧ (F b).has σ e.val
  mem : ∀ i b, f i = some b → ∃ e ∈ es, e.key = kv i
  uniq : es.Pairwise (fun x y => x.key ≠ y.key)
  born : es.Pairwise (fun x y => x.born < y.born)
  lt : ∀ e ∈ es, e.born < clock

theorem Ents.up {F : β → Ty} {kv : α → Value} {σ τ : GW} {es : List MapEntry} {clock : Nat} {f : α → Option β} (h : Ents F kv σ es clock f) (hs : σ.Le τ) : Ents F kv τ es clock f :=
  ⟨fun e he => by obtain ⟨i, b, h1, h2, h3⟩ := h.key e he; exact ⟨i, b, h1, h2, (F b).up hs h3⟩, h.mem, h.uniq, h.born, h.lt⟩

def OwnM (F : β → Ty) (kv : α → Value) (σ : GW) (k : Nat) (v : Value) (f : α → Option β) : Prop :=
  ∃ r es clock, v = .map (some r) ∧ σ.st r = k ∧ σ.w.heap[r]? = some (.map es clock) ∧ Ents F kv σ es.toList clock f
theorem OwnM.keepL {F : β → Ty} {kv : α → Value} {L : List Nat} {k : Nat} {σ τ : GW} {v : Value} {f : α → Option β} (h : OwnM F kv σ k v f) (hs : StpL L σ τ) (h1 : 1 ∉ L) (hk : k ∉ L) : OwnM F kv τ k v f := by
  obtain ⟨r, es, clock, r1, r2, r3, r4⟩ := h
  have hlt := (Array.getElem?_eq_some_iff.1 r3).1
  have hq : σ.st r ∉ L := by rw [r2]; exact hk
  exact ⟨r, es, clock, r1, (hs.st r hlt hq).trans r2, (hs.blk r hlt hq).trans r3, r4.up (hs.le h1)⟩
theorem OwnM.ren {F : β → Ty} {kv : α → Value} {k k' : Nat} {σ τ : GW} {v : Value} {f : α → Option β} (h : OwnM F kv σ k v f) (r : Ren k k' σ τ) : OwnM F kv τ k' v f := by
  obtain ⟨b, es, clock, r1, r2, r3, r4⟩ := h
  exact ⟨b, es, clock, r1, r.st b r2, by rw [r.w]; exact r3, r4.up r.le⟩
variable {d : Option Tmp} {ty : TypeId} {pos : String} {af : Array Edge} {g : Option (Nat × Bool)} {a : Act} {σ : GW}
variable {F : β → Ty} {kv : α → Value} {kt et t : TypeId} {dd : TypeDesc}

theorem pairwise_modify_key {es : List MapEntry} (j : Nat) (u : MapEntry → MapEntry) (hk : ∀ e, es[j]? = some e → (u e).key = e.key ∧ (u e).born = e.born) :
    (es.modify j u).map (fun e => (e.key, e.born)) = es.map (fun e => (e.key, e.born)) := by
  apply List.ext_getElem?
  intro i
  simp only [List.getElem?_map, List.getElem?_modify]
  by_cases hij : j = i
  · subst hij
    cases he : es[j]? with
    | none => simp
    | some e => simp [hk e he]
  · simp [hij]
theorem pairwise_of_map {es fs : List MapEntry} {R : Value × Nat → Value × Nat → Prop} (h : es.map (fun e => (e.key, e.born)) = fs.map (fun e => (e.key, e.born))) (hp : fs.Pairwise (fun x y => R (x.key, x.born) (y.key, y.born))) : es.Pairwise (fun x y => R (x.key, x.born) (y.key, y.born)) := by
  have : (fs.map (fun e => (e.key, e.born))).Pairwise R := List.pairwise_map.2 hp
  rw [← h] at this
  exact List.pairwise_map.1 this

theorem Ents.set [DecidableEq α] {es : List MapEntry} {clock : Nat} {f : α → Option β} (K : KeyK P kt kv dd) (h : Ents F kv σ es clock f) {j : Nat} {e : MapEntry} {i : α} {b : β} {val : Value} (hj : es[j]? = some e) (he : e.key = kv i) (hv : (F b).has σ val) :
    Ents F kv σ (es.modify j fun e => { e with key := kv i, val := val }) clock (fun x => if x = i then some b else f x) := by
  have hm := pairwise_modify_key (es := es) j (fun e => { e with key := kv i, val := val }) (fun e' h' => by rw [hj] at h'; cases h'; exact ⟨he.symm, rfl⟩)
  have hmem : ∀ x, x ∈ (es.modify j fun e => { e with key := kv i, val := val }) → x = { e with key := kv i, val := val } ∨ (∃ m, m ≠ j ∧ es[m]? = some x) := by
    intro x hx
    obtain ⟨m, hm⟩ := List.mem_iff_getElem?.1 hx
    rw [List.getElem?_modify] at hm
    by_cases hjm : j = m
    · subst hjm
      rw [hj] at hm; simp at hm
      exact .inl hm.symm
    · right
      refine ⟨m, fun h => hjm h.symm, ?_⟩
      simpa [hjm] using hm
  refine ⟨fun x hx => ?_, fun x b' hx => ?_, ?_, ?_, fun x hx => ?_⟩
  · rcases hmem x hx with rfl | ⟨m, hmj, hm'⟩
    · exact ⟨i, b, rfl, by simp, hv⟩
    · obtain ⟨i', b', h1, h2, h3⟩ := h.key x (List.mem_of_getElem? hm')
      refine ⟨i', b', h1, ?_, h3⟩
      have hne : i' ≠ i := by
        intro hh; subst hh
        have hu := List.pairwise_iff_getElem.1 h.uniq
        have hml := (List.getElem?_eq_some_iff.1 hm').1
        have hjl := (List.getElem?_eq_some_iff.1 hj).1
        have e1 := (List.getElem?_eq_some_iff.1 hm').2
        have e2 := (List.getElem?_eq_some_iff.1 hj).2
        rcases Nat.lt_or_gt_of_ne hmj with hlt | hlt
        · exact hu m j hml hjl hlt (by rw [e1, e2, h1, he])
        · exact hu j m hjl hml hlt (by rw [e1, e2, h1, he])
      simp [hne, h2]
  · by_cases hxi : x = i
    · subst hxi
      refine ⟨{ e with key := kv x, val := val }, List.mem_iff_getElem?.2 ⟨j, by rw [List.getElem?_modify]; simp [hj]⟩, rfl⟩
    · simp [hxi] at hx
      obtain ⟨e', he', hk⟩ := h.mem x b' hx
      obtain ⟨m, hm'⟩ := List.mem_iff_getElem?.1 he'
      have hjm : j ≠ m := by
        rintro rfl
        rw [hj] at hm'; cases hm'
        exact hxi (K.inj (hk.symm.trans he))
      exact ⟨e', List.mem_iff_getElem?.2 ⟨m, by rw [List.getElem?_modify]; simp [hjm, hm']⟩, hk⟩
  · exact pairwise_of_map (R := fun x y => x.1 ≠ y.1) hm h.uniq
  · exact pairwise_of_map (R := fun x y => x.2 < y.2) hm h.born
  · rcases hmem x hx with rfl | ⟨m, _, hm'⟩
    · exact h.lt e (List.mem_of_getElem? hj)
    · exact h.lt x (List.mem_of_getElem? hm')
theorem Ents.push [DecidableEq α] {es : List MapEntry} {clock : Nat} {f : α → Option β} (K : KeyK P kt kv dd) (h : Ents F kv σ es clock f) {i : α} {b : β} {val : Value} (hi : f i = none) (hv : (F b).has σ val) :
    Ents F kv σ (es ++ [{ key := kv i, val := val, born := clock }]) (clock + 1) (fun x => if x = i then some b else f x) := by
  refine ⟨fun x hx => ?_, fun x b' hx => ?_, ?_, ?_, fun x hx => ?_⟩
  · rcases List.mem_append.1 hx with hx | hx
    · obtain ⟨i', b', h1, h2, h3⟩ := h.key x hx
      have hne : i' ≠ i := by rintro rfl; rw [hi] at h2; cases h2
      exact ⟨i', b', h1, by simp [hne, h2], h3⟩
    · simp at hx; subst hx
      exact ⟨i, b, rfl, by simp, hv⟩
  · by_cases hxi : x = i
    · subst hxi; exact ⟨{ key := kv x, val := val, born := clock }, by simp, rfl⟩
    · simp [hxi] at hx
      obtain ⟨e', he', hk⟩ := h.mem x b' hx
      exact ⟨e', by simp [he'], hk⟩
  · refine List.pairwise_append.2 ⟨h.uniq, by simp, fun x hx y hy => ?_⟩
    simp at hy; subst hy
    obtain ⟨i', b', h1, h2, h3⟩ := h.key x hx
    intro hh
    have : i' = i := K.inj (h1.symm.trans hh)
    subst this; rw [hi] at h2; cases h2
  · refine List.pairwise_append.2 ⟨h.born, by simp, fun x hx y hy => ?_⟩
    simp at hy; subst hy
    exact h.lt x hx
  · rcases List.mem_append.1 hx with hx | hx
    · have := h.lt x hx; omega
    · simp at hx; subst hx; simp
theorem Ents.erase [DecidableEq α] {es : List MapEntry} {clock : Nat} {f : α → Option β} (K : KeyK P kt kv dd) (h : Ents F kv σ es clock f) {j : Nat} {e : MapEntry} {i : α} (hj : es[j]? = some e) (he : e.key = kv i) :
    Ents F kv σ (es.eraseIdx j) clock (fun x => if x = i then none else f x) := by
  have hsub := List.eraseIdx_sublist es j
  refine ⟨fun x hx => ?_, fun x b' hx => ?_, h.uniq.sublist hsub, h.born.sublist hsub, fun x hx => h.lt x (hsub.subset hx)⟩
  · rw [List.mem_eraseIdx_iff_getElem?] at hx
    obtain ⟨m, hmj, hm'⟩ := hx
    obtain ⟨i', b', h1, h2, h3⟩ := h.key x (List.mem_of_getElem? hm')
    refine ⟨i', b', h1, ?_, h3⟩
    have hne : i' ≠ i := by
      intro hh; subst hh
      have hu := List.pairwise_iff_getElem.1 h.uniq
      have hml := (List.getElem?_eq_some_iff.1 hm').1
      have hjl := (List.getElem?_eq_some_iff.1 hj).1
      have e1 := (List.getElem?_eq_some_iff.1 hm').2
      have e2 := (List.getElem?_eq_some_iff.1 hj).2
      rcases Nat.lt_or_gt_of_ne hmj with hlt | hlt
      · exact hu m j hml hjl hlt (by rw [e1, e2, h1, he])
      · exact hu j m hjl hml hlt (by rw [e1, e2, h1, he])
    simp [hne, h2]
  · by_cases hxi : x = i
    · simp [hxi] at hx
    · simp [hxi] at hx
      obtain ⟨e', he', hk⟩ := h.mem x b' hx
      obtain ⟨m, hm'⟩ := List.mem_iff_getElem?.1 he'
      refine ⟨e', ?_, hk⟩
      rw [List.mem_eraseIdx_iff_getElem?]
      refine ⟨m, ?_, hm'⟩
      rintro rfl
      rw [hj] at hm'; cases hm'
      exact hxi (K.inj (hk.symm.trans he))

end Go.KL

/- What the walks of the second kind say: facts carried on, returns, cuts of rows that are owned. -/
namespace Go.KL
open Go.RowKit
variable {P : Program}

theorem Own.k0 {k : Nat} {σ τ : GW} {e : TypeId} {c : Nat} {v : Value} {n : Nat} {ts : List Ty} (h : Own σ k e c v n ts) (hs : Stp 0 σ τ) : Own τ k e c v n ts := h.keepL (L := []) hs.toL0 (by simp) (by simp)
theorem OwnP.k0 {k : Nat} {σ τ : GW} {v : Value} {ts : List Ty} (h : OwnP σ k v ts) (hs : Stp 0 σ τ) : OwnP τ k v ts := h.keepL (L := []) hs.toL0 (by simp) (by simp)
theorem Iter.k0 {k : Nat} {σ τ : GW} {v : Value} {s : ByteArray} {p : Nat} (h : Iter σ k v s p) (hs : Stp 0 σ τ) : Iter τ k v s p := h.keepL (L := []) hs.toL0 (by simp) (by simp)
theorem OwnM.k0 {α β : Type} {F : β → Ty} {kv : α → Value} {k : Nat} {σ τ : GW} {v : Value} {f : α → Option β} (h : OwnM F kv σ k v f) (hs : Stp 0 σ τ) : OwnM F kv τ k v f := h.keepL (L := []) hs.toL0 (by simp) (by simp)
theorem al2 {R : Pr} {σ : GW} {u v : Value} (e : u = v) (h : R.has σ u) : R.has σ v := e ▸ h
theorem kpL {L : List Nat} {T : Ty} {σ σ' : GW} {a a' : Act} {x : Operand} (hs : StpL L σ σ') (hL : 1 ∉ L) (e : a'.eval x = a.eval x) (h : T.has σ (a.eval x)) : T.has σ' (a'.eval x) := by rw [e]; exact T.up (hs.le hL) h
variable {fn : Func} {σ0 σ : GW} {a : Act} {N d e f : Nat} {D : List Deferred} {L : List Nat} {R : Value → GW → Prop}
theorem retL0 (hr : fn.results = #[]) (ok : Ok N [] a) (hF : FromL L σ0 σ) (h : R (.tuple #[]) σ) : bodyPost P fn (RetL σ0 L R) .ret a σ.w :=
  bodyPost_ret (v := .tuple #[]) (by simp [results, hr]) ok.defers ⟨_, σ, rfl, hF, rfl, h⟩
theorem retL1 (hr : fn.results = #[.tmp d]) (ok : Ok N [] a) (hF : FromL L σ0 σ) (h : R (a.eval (.tmp d)) σ) : bodyPost P fn (RetL σ0 L R) .ret a σ.w :=
  bodyPost_ret (results_tmp hr _ _ _) ok.defers ⟨_, σ, rfl, hF, rfl, h⟩
theorem retL2 (hr : fn.results = #[.tmp d, .tmp e]) (ok : Ok N [] a) (hF : FromL L σ0 σ) (h : R (.tuple #[a.eval (.tmp d), a.eval (.tmp e)]) σ) : bodyPost P fn (RetL σ0 L R) .ret a σ.w :=
  bodyPost_ret (results_tmp2 hr _ _ _) ok.defers ⟨_, σ, rfl, hF, rfl, h⟩
theorem nL0 (hr : fn.results = #[]) (ok : Ok N [] a) (hF : FromL L σ0 σ) (h : R (.tuple #[]) σ) : bodyPost P fn (RetL σ0 L R) .normal a σ.w := by
  have := retL0 (P := P) hr ok hF h
  exact this
theorem hasT2 {T U : Ty} {x y : Value} (h : T.has σ x) (k : U.has σ y) : (Ty.tup2 T U).has σ (.tuple #[x, y]) := ⟨x, y, rfl, h, k⟩
variable {dd : Option Tmp} {ty : TypeId} {pos : String} {af : Array Edge} {g : Option (Nat × Bool)}
theorem Own.cut {k : Nat} {e : TypeId} {c n : Nat} {v : Value} {ts : List Ty} (h : Own σ k e c v n ts) {m : Nat} (hm : m ≤ n) : ∃ ad cap, v = .slice ad n cap ∧ n ≤ cap ∧ Own σ k e c (.slice ad m cap) m (ts.take (m * c)) := by
  obtain ⟨us, r1, r2, r3, r4⟩ := h
  rcases r1.2 with ⟨rfl, rfl⟩ | ⟨g, cap, cur, rfl, hb, hg, hn, hm', hcs, htk⟩
  · obtain rfl : m = 0 := by omega
    have hts : ts = [] := List.eq_nil_of_length_eq_zero (by rw [← r2, r1.1]; simp)
    subst hts
    exact ⟨none, 0, rfl, Nat.le_refl _, by simpa using Own.nil σ k e c⟩
  · refine ⟨some ⟨g, 0, none⟩, cap, rfl, hn, ?_⟩
    refine Own.intro (us := us.take (m * c)) hg (r4 g rfl) (by omega) hm' hcs ?_ (by simp [r2]) ?_
    · rw [← htk, List.take_take, Nat.min_eq_left (Nat.mul_le_mul_right _ hm)]
    · intro j T u hT hu
      rw [List.getElem?_take] at hT hu
      split at hT
      · rw [if_pos (by assumption)] at hu
        exact r3 j T u hT hu
      · cases hT
theorem y_otake {k : Nat} {x y : Operand} {c n : Nat} {ts : List Ty} {t e e' : TypeId} {z v : Value} {b : Nat} {ki : IntKind} {h : Nat} (ht : P.underlying t = some (.slice e')) (he : Info P e' z c b) (ho : Own σ k e c v n ts) (hx : a.eval x = v) (hy : a.eval y = .int ki h) (hl : h ≤ n) :
    Yld P ⟨dd, .slice t x none (some y) none, ty, pos, af, g⟩ a σ (Pr.own k e c h (ts.take (h * c))) := by
  obtain ⟨ad, cap, rfl, hn, hO⟩ := ho.cut hl
  have hcap : cap ≤ 9223372036854775807 := by
    obtain ⟨us, r1, _⟩ := ho
    rcases r1.2 with ⟨e1, _⟩ | ⟨g, cap', cur, e1, _, _, _, hm', _⟩
    · cases e1; omega
    · cases e1; exact hm'
  refine Yld.of_run (v := sliced ad 0 h cap c) ?_ ?_
  · have h1 := run_slice_h (P := P) σ.w t ad n cap (elem_of ht) ki (h : Int) (by omega) (by omega)
    rw [elem_eq ht, he.size] at h1
    simp only [execOp, hx, hy, Option.map_some, Option.map_none, Sem.run_bind, run_sliceAt_slice σ.w t _ _ _ _ (elem_of ht), h1, Result.andThen_ok, Sem.run_pure, Int.toNat_natCast]
  · show Own σ k e c (sliced ad 0 h cap c) h _
    have : sliced ad 0 h cap c = .slice ad h cap := by
      unfold sliced
      cases ad with
      | none => simp
      | some ad => simp [Addr.add_zero']
    rw [this]; exact hO
theorem own_lst_take {α : Type} {f : α → Ty} {xs : List α} {k : Nat} {e : TypeId} {v : Value} {h : Nat} (hl : h ≤ xs.length) (ho : Own σ k e 1 v h ((xs.map f).take (h * 1))) : Own σ k e 1 v (xs.take h).length ((xs.take h).map f) := by
  rw [Nat.mul_one, ← List.map_take] at ho
  rwa [show (xs.take h).length = h by simp [Nat.min_eq_left hl]]
end Go.KL
namespace Go.KL
variable {P : Program}
theorem ptr0 {σ : GW} {k : Nat} {u v : Value} {ts : List Ty} (h : OwnP σ k v ts) (e : u = v) : u = ptrAt v 0 := by
  obtain ⟨g, e', cur, rfl, _⟩ := h
  exact e
theorem Own.one {σ : GW} {k : Nat} {e : TypeId} {c n : Nat} {v : Value} {ts : List Ty} (h : Own σ k e c v n ts) : v.oneCell' = true := by
  obtain ⟨us, r1, _⟩ := h
  rcases r1.2 with ⟨rfl, _⟩ | ⟨g, cap, cur, rfl, _⟩ <;> rfl
theorem OwnP.one {σ : GW} {k : Nat} {v : Value} {ts : List Ty} (h : OwnP σ k v ts) : v.oneCell' = true := by
  obtain ⟨g, e', cur, rfl, _⟩ := h; rfl
theorem OwnM.one {α β : Type} {F : β → Ty} {kv : α → Value} {σ : GW} {k : Nat} {v : Value} {f : α → Option β} (h : OwnM F kv σ k v f) : v.oneCell' = true := by
  obtain ⟨r, es, clock, rfl, _⟩ := h; rfl
theorem ownp_cellq {σ : GW} {k : Nat} {v x : Value} {ts : List Ty} (j : Nat) (U : Ty) (h : OwnP σ k v ts) (e : ts[j]? = some (Ty.val x)) (hx : U.has σ x) : OwnP σ k v (ts.set j U) := by
  obtain ⟨gg, e', cur, rfl, h2, h3, h4, h5⟩ := h
  refine ⟨gg, e', cur, rfl, h2, h3, by simpa using h4, fun i V u hV hu => ?_⟩
  by_cases hij : i = j
  · subst hij
    rw [List.getElem?_set_self (by exact (List.getElem?_eq_some_iff.1 e).1)] at hV
    cases hV
    have hu' : u = x := h5 i _ u e hu
    rw [hu']; exact hx
  · rw [List.getElem?_set_ne (Ne.symm hij)] at hV
    exact h5 i V u hV hu
end Go.KL
namespace Go.KL
variable {P : Program}
def Typed (σ : GW) (cs : Array Value) (ts : List Ty) : Prop := cs.size = ts.length ∧ ∀ (j : Nat) (T : Ty) (u : Value), ts[j]? = some T → cs[j]? = some u → T.has σ u
def bldT (l : List (Nat × Nat)) : List (Nat × Operand × Ty) → List Ty → List Ty
  | [], ts => ts
  | p :: ps, ts => bldT l ps (match l[p.1]? with | some (off, _) => ts.set off p.2.2 | none => ts)
def bldOk (l : List (Nat × Nat)) (n : Nat) (is : List Nat) : Bool := is.all fun i => match l[i]? with | some (off, 1) => decide (off < n) | _ => false
theorem Typed.set {σ : GW} {cs : Array Value} {ts : List Ty} (h : Typed σ cs ts) {off : Nat} {v : Value} {T : Ty} (hv : T.has σ v) : Typed σ (cs.setIfInBounds off v) (ts.set off T) := by
  refine ⟨by simp [h.1], fun j U u hU hu => ?_⟩
  by_cases hj : j = off
  · subst hj
    have hlt : j < cs.size := by have := (Array.getElem?_eq_some_iff.1 hu).1; simpa using this
    rw [List.getElem?_set_self (by rw [← h.1]; exact hlt)] at hU
    rw [Array.getElem?_setIfInBounds_self_of_lt hlt] at hu
    cases hU; cases hu; exact hv
  · rw [List.getElem?_set_ne (Ne.symm hj)] at hU
    rw [Array.getElem?_setIfInBounds_ne (Ne.symm hj)] at hu
    exact h.2 j U u hU hu
theorem fill_typed {σ : GW} {a : Act} {l : List (Nat × Nat)} {n : Nat} : ∀ (ps : List (Nat × Operand × Ty)) (cur : Array Value) (ts : List Ty), cur.size = n → Typed σ cur ts → (∀ p ∈ ps, One p.2.2 ∧ At p.2.2 σ a p.2.1) → bldOk l n (ps.map (·.1)) = true →
    ∃ cells, Instr.fill (fun i => l[i]?) cur (ps.map fun p => (p.1, a.eval p.2.1)) = some cells ∧ Typed σ cells (bldT l ps ts)
  | [], cur, ts, _, h, _, _ => ⟨cur, rfl, h⟩
  | p :: ps, cur, ts, hn, h, hp, hb => by
    obtain ⟨h1, h2⟩ := hp p (by simp)
    have hc := cells_of_one (h1 _ _ h2)
    rw [bldOk, List.map_cons, List.all_cons, Bool.and_eq_true] at hb
    obtain ⟨hb1, hb2⟩ := hb
    cases hl : l[p.1]? with
    | none => rw [hl] at hb1; cases hb1
    | some q =>
      obtain ⟨off, sz⟩ := q
      rw [hl] at hb1
      have hsz : sz = 1 ∧ off < n := by
        split at hb1
        · rename_i e; cases e; exact ⟨rfl, by simpa using hb1⟩
        · cases hb1
      obtain ⟨rfl, hoff⟩ := hsz
      obtain ⟨cells, e1, e2⟩ := fill_typed ps (cur.setIfInBounds off (a.eval p.2.1)) (ts.set off p.2.2) (by simpa using hn) (h.set h2) (fun q hq => hp q (by simp [hq])) hb2
      refine ⟨cells, ?_, ?_⟩
      · rw [List.map_cons, Instr.fill]
        generalize a.eval p.2.1 = v at hc e1 ⊢
        simp only [hl, hc]
        have : ¬ (off + 1 > cur.size) := by omega
        simp [this]
        simpa using e1
      · rw [bldT, hl]; exact e2
variable {d : Option Tmp} {ty : TypeId} {pos : String} {af : Array Edge} {g : Option (Nat × Bool)} {a : Act} {σ : GW}
theorem y_bld {t : TypeId} {l : List (Nat × Nat)} {z : Value} {c by_ : Nat} (ps : List (Nat × Operand × Ty)) (ts : List Ty) (hp : placesOk P t l = true) (he : Info P t z c by_) (hz : z.cells.size = ts.length) (hT : ∀ (j : Nat) (T : Ty) (u : Value), ts[j]? = some T → z.cells[j]? = some u → ∀ σ, T.has σ u)
    (hok : bldOk l z.cells.size (ps.map (·.1)) = true) (hps : ∀ p ∈ ps, One p.2.2 ∧ At p.2.2 σ a p.2.1) :
    Yld P ⟨d, .build t (ps.map fun p => (p.1, p.2.1)).toArray, ty, pos, af, g⟩ a σ (Ty.agg (bldT l ps ts)).pr := by
  obtain ⟨cells, e1, e2⟩ := fill_typed (σ := σ) ps z.cells ts rfl ⟨hz, fun j T u h1 h2 => hT j T u h1 h2 σ⟩ hps hok
  refine Yld.of_run (v := .agg cells) ?_ ⟨cells, rfl, e2.1, e2.2⟩
  simp only [execOp]
  have := run_build (P := P) (parts := (ps.map fun p => (p.1, a.eval p.2.1)).toArray) (cells := cells) hp he (by simpa using e1) σ.w
  simp only [List.map_toArray, List.map_map]
  have e : (fun (p : Nat × Operand) => (p.1, a.eval p.2)) ∘ (fun (p : Nat × Operand × Ty) => (p.1, p.2.1)) = fun p => (p.1, a.eval p.2.1) := rfl
  rw [e]
  simp [this]
end Go.KL

/- Strings: cut, joined, compared, made of runes; numbers converted; joins of branches; scopes; functions without a body. -/
namespace Go.KL
open Go.RowKit
variable {P : Program} {d : Option Tmp} {ty : TypeId} {pos : String} {af : Array Edge} {g : Option (Nat × Bool)} {a : Act} {σ : GW}

/-! ### Ways on -/
theorem join_then {c : Code} {N Q' : Act → World → Prop} {Q : Exit → Act → World → Prop} {a : Act} {w : World} (h1 : c.wp P (Exit.then Q' Q) a w) (h2 : ∀ a w, Q' a w → N a w) : c.wp P (Exit.then N Q) a w :=
  Code.wp_mono (fun e a' w' hq => by cases e <;> first | exact h2 _ _ hq | exact hq) h1
section
variable {Q : Exit → Act → World → Prop} {w : World}
theorem scr (h : Q .ret a w) : Exit.noGoto Q .ret a w := h
end

/-! ### Numbers -/
theorem y_conv {x : Operand} {t u : TypeId} {k j : IntKind} {n m : Int} (hu : P.underlying u = some (.int j)) (hx : a.eval x = .int k n) (hm : j.wrap n = m) (ht : (P.underlying t).isSome = true) :
    Yld P ⟨d, .convert t u x, ty, pos, af, g⟩ a σ (Ty.val (.int j m)).pr := by
  obtain ⟨td, htd⟩ := Option.isSome_iff_exists.1 ht
  refine Yld.of_run (v := .int j m) ?_ rfl
  simp only [execOp, hx]
  subst hm
  simp [convert, Sem.run_bind, run_underlying hu, run_underlying htd, Conv.intToInt]
theorem y_convrs {x : Operand} {t u : TypeId} {k : IntKind} {n : Int} (hu : P.underlying u = some .string) (hx : a.eval x = .int k n) (ht : (P.underlying t).isSome = true) :
    Yld P ⟨d, .convert t u x, ty, pos, af, g⟩ a σ (Ty.val (.string (Utf8.encode n))).pr := by
  obtain ⟨td, htd⟩ := Option.isSome_iff_exists.1 ht
  refine Yld.of_run (v := .string (Utf8.encode n)) ?_ rfl
  simp only [execOp, hx]
  simp [convert, Sem.run_bind, run_underlying hu, run_underlying htd, Conv.intToString]

/-! ### Strings -/
theorem str_eq_iff (s t : ByteArray) : (s.toList == t.toList) = decide (s = t) := by
  rw [Bool.eq_iff_iff]
  simp only [beq_iff_eq, decide_eq_true_eq, ByteArray.toList_eq]
  constructor
  · intro h
    cases s with | mk s => cases t with | mk t =>
    simp only at h
    congr 1
    exact Array.toList_inj.1 h
  · rintro rfl; rfl
theorem y_seql {x y : Operand} {t u : TypeId} {r s : ByteArray} (ht : P.underlying t = some .string) (hx : a.eval x = .string r) (hy : a.eval y = .string s) : Yld P ⟨d, .binOp .eql t x y u, ty, pos, af, g⟩ a σ (Ty.bool (decide (r = s))).pr :=
  Yld.of_run (v := .bool (r.toList == s.toList)) (by simp only [execOp, hx, hy]; simp [binOp_string_eql, eqGuard, run_underlying ht]) (by show Value.bool _ = _; rw [str_eq_iff])
theorem y_sneq {x y : Operand} {t u : TypeId} {r s : ByteArray} (ht : P.underlying t = some .string) (hx : a.eval x = .string r) (hy : a.eval y = .string s) : Yld P ⟨d, .binOp .neq t x y u, ty, pos, af, g⟩ a σ (Ty.bool (!decide (r = s))).pr :=
  Yld.of_run (v := .bool (!(r.toList == s.toList))) (by simp only [execOp, hx, hy]; simp [binOp_string_neq, eqGuard, run_underlying ht]) (by show Value.bool _ = _; rw [str_eq_iff])
theorem y_scat {x y : Operand} {t u : TypeId} {r s : ByteArray} (hx : a.eval x = .string r) (hy : a.eval y = .string s) (hl : r.size + s.size ≤ 9223372036854775807) : Yld P ⟨d, .binOp .add t x y u, ty, pos, af, g⟩ a σ (Ty.val (.string (r ++ s))).pr := by
  refine Yld.of_run (v := .string (r ++ s)) ?_ rfl
  simp only [execOp, hx, hy]
  have h2 : ¬ (((r.size + s.size : Nat) : Int) > IntKind.i64.max) := by
    have : IntKind.i64.max = 9223372036854775807 := by decide
    rw [this]; omega
  simp only [binOp_string_add, Op.stringOp, if_neg h2]
  simp [eqGuard]
theorem y_sfrom {x y : Operand} {t : TypeId} {s : ByteArray} {k : IntKind} {l : Nat} (ht : P.underlying t = some .string) (hx : a.eval x = .string s) (hy : a.eval y = .int k l) (hl : l ≤ s.size) :
    Yld P ⟨d, .slice t x (some y) none none, ty, pos, af, g⟩ a σ (Ty.val (.string (s.extract l s.size))).pr := by
  refine Yld.of_run (v := .string (s.extract l s.size)) ?_ rfl
  simp only [execOp, hx, hy, Option.map_some, Option.map_none]
  have hl' : (0 : Int) ≤ (l : Int) ∧ (l : Int) ≤ ((s.size : Nat) : Int) := by omega
  simp [Instr.sliceAt, Instr.slice, Sem.run_bind, run_underlying ht, Instr.sliceBounds, Instr.sliceBound, asIntOf, hl]
theorem y_sto {x y : Operand} {t : TypeId} {s : ByteArray} {k : IntKind} {h : Nat} (ht : P.underlying t = some .string) (hx : a.eval x = .string s) (hy : a.eval y = .int k h) (hl : h ≤ s.size) :
    Yld P ⟨d, .slice t x none (some y) none, ty, pos, af, g⟩ a σ (Ty.val (.string (s.extract 0 h))).pr := by
  refine Yld.of_run (v := .string (s.extract 0 h)) ?_ rfl
  simp only [execOp, hx, hy, Option.map_some, Option.map_none]
  simp [Instr.sliceAt, Instr.slice, Sem.run_bind, run_underlying ht, Instr.sliceBounds, Instr.sliceBound, asIntOf, hl]
theorem y_sft {x y z : Operand} {t : TypeId} {s : ByteArray} {k k' : IntKind} {l h : Nat} (ht : P.underlying t = some .string) (hx : a.eval x = .string s) (hy : a.eval y = .int k l) (hz : a.eval z = .int k' h) (hl : l ≤ h) (hh : h ≤ s.size) :
    Yld P ⟨d, .slice t x (some y) (some z) none, ty, pos, af, g⟩ a σ (Ty.val (.string (s.extract l h))).pr := by
  refine Yld.of_run (v := .string (s.extract l h)) ?_ rfl
  simp only [execOp, hx, hy, hz, Option.map_some, Option.map_none]
  simp [Instr.sliceAt, Instr.slice, Sem.run_bind, run_underlying ht, Instr.sliceBounds, Instr.sliceBound, asIntOf, hl, hh]

/-! ### A function without a body -/
theorem y_extern {f : FuncId} {xs : Array Operand} {tys : Array TypeId} {R : Ty} {v : Value} (args : Array Value) (hargs : xs.map a.eval = args) (hr : (callFunc f args).run P σ.w = .ok (.value v) σ.w) (h : R.has σ v) :
    Yld P ⟨d, .call ⟨.value (.func f), xs, tys⟩, ty, pos, af, g⟩ a σ R.pr := by
  refine Yld.of_run (v := v) ?_ h
  simp only [execOp, resolve, hargs]
  simp only [Act.eval, Deferred.ofValue, Sem.run_bind, Sem.run_pure, Result.andThen_ok]
  simpa [invoke] using hr
end Go.KL

/- Plain maths: the sign of a row. -/
namespace Go.KL

def invB : List Int → Bool
  | [] => false
  | x :: l => (decide (l.countP (fun y => decide (y < x)) % 2 = 1)) != invB l
theorem par_add (a b : Nat) : decide ((a + b) % 2 = 1) = (decide (a % 2 = 1) != decide (b % 2 = 1)) := by
  rcases Nat.mod_two_eq_zero_or_one a with h | h <;> rcases Nat.mod_two_eq_zero_or_one b with k | k <;> rw [Nat.add_mod, h, k] <;> decide
theorem row_perm {r : List Int} (h : IsRow r) : r.Perm (roundsL r.length) := by
  rw [List.perm_ext_iff_of_nodup h.nodup (roundsL_row h.pos h.le).nodup]
  intro x
  constructor
  · intro hx
    have := h.bound x hx
    exact List.mem_map.2 ⟨x.toNat, List.mem_range.2 (by omega), by omega⟩
  · intro hx
    obtain ⟨k, hk, rfl⟩ := List.mem_map.1 hx
    exact h.mem (List.mem_range.1 hk)
end Go.KL

/- Plain maths: a row's sign, by its cycles and by its inversions. -/
namespace Go.KL

/-! ### Inversions -/
theorem invB_adj : ∀ (A : List Int) (u v : Int) (C : List Int), u ≠ v → invB (A ++ u :: v :: C) = !invB (A ++ v :: u :: C)
  | [], u, v, C, h => by
    simp only [List.nil_append, invB, List.countP_cons]
    rw [par_add, par_add]
    have e1 : (decide ((if decide (v < u) = true then 1 else 0) % 2 = 1) != decide ((if decide (u < v) = true then 1 else 0) % 2 = 1)) = true := by
      by_cases h1 : v < u
      · have h2 : ¬ u < v := by omega
        simp [h1, h2]
      · have h2 : u < v := by omega
        simp [h1, h2]
    revert e1
    generalize decide ((if decide (v < u) = true then 1 else 0) % 2 = 1) = p1
    generalize decide ((if decide (u < v) = true then 1 else 0) % 2 = 1) = p2
    generalize invB C = a
    generalize decide (List.countP (fun z => decide (z < u)) C % 2 = 1) = c
    generalize decide (List.countP (fun z => decide (z < v)) C % 2 = 1) = d
    revert p1 p2 a c d; decide
  | x :: A, u, v, C, h => by
    have ih := invB_adj A u v C h
    have hp : (A ++ u :: v :: C).Perm (A ++ v :: u :: C) := (List.Perm.swap v u C).append_left A
    have e : (A ++ u :: v :: C).countP (fun y => decide (y < x)) = (A ++ v :: u :: C).countP (fun y => decide (y < x)) := hp.countP_eq _
    simp only [List.cons_append, invB, e, ih]
    generalize invB (A ++ v :: u :: C) = a
    generalize decide (List.countP (fun y => decide (y < x)) (A ++ v :: u :: C) % 2 = 1) = b
    revert a b; decide
theorem invB_move : ∀ (B A C : List Int) (u : Int), u ∉ B → invB (A ++ u :: (B ++ C)) = (invB (A ++ (B ++ u :: C)) != decide (B.length % 2 = 1))
  | [], A, C, u, _ => by simp
  | b :: B, A, C, u, h => by
    have hub : u ≠ b := fun e => h (by rw [e]; simp)
    have ih := invB_move B (A ++ [b]) C u (fun hm => h (List.mem_cons_of_mem _ hm))
    have e1 := invB_adj A u b (B ++ C) hub
    simp only [List.append_assoc, List.singleton_append] at ih
    simp only [List.cons_append, List.length_cons]
    rw [e1, ih, par_add]
    generalize invB (A ++ b :: (B ++ u :: C)) = p
    generalize decide (B.length % 2 = 1) = q
    revert p q; decide
theorem invB_swap (A B C : List Int) (u v : Int) (hu : u ∉ B) (hv : v ∉ B) (huv : u ≠ v) : invB (A ++ u :: (B ++ v :: C)) = !invB (A ++ v :: (B ++ u :: C)) := by
  have h1 := invB_move B A (v :: C) u hu
  have h2 := invB_move B A (u :: C) v hv
  have h3 := invB_adj (A ++ B) u v C huv
  simp only [List.append_assoc] at h3
  rw [h1, h2, h3]
  generalize invB (A ++ (B ++ v :: u :: C)) = p
  generalize decide (B.length % 2 = 1) = q
  revert p q; decide
theorem invB_max : ∀ (A : List Int) (n : Int), (∀ x ∈ A, x < n) → invB (A ++ [n]) = invB A
  | [], n, _ => rfl
  | x :: A, n, h => by
    have hx := h x (by simp)
    have e : (A ++ [n]).countP (fun y => decide (y < x)) = A.countP (fun y => decide (y < x)) := by
      rw [List.countP_append]
      have : ¬ n < x := by omega
      simp [this]
    simp only [List.cons_append, invB, e, invB_max A n (fun y hy => h y (by simp [hy]))]

/-! ### Cycles -/
theorem oddF (l : List (List Int)) : oddTo l l.length = decide ((l.flatten.length + l.length) % 2 = 1) := by
  have key : ∀ (l : List (List Int)) (b : Bool), l.foldl (fun b c => b != decide (((c.length % 2 : Nat) : Int) = (0 : Int))) b = (b != decide ((l.flatten.length + l.length) % 2 = 1)) := by
    intro l
    induction l with
    | nil => intro b; simp
    | cons c l ih =>
      intro b
      rw [List.foldl_cons, ih, List.flatten_cons, List.length_append, List.length_cons]
      rw [show c.length + l.flatten.length + (l.length + 1) = (c.length + 1) + (l.flatten.length + l.length) by omega, par_add (c.length + 1) (l.flatten.length + l.length)]
      have e : decide (((c.length % 2 : Nat) : Int) = (0 : Int)) = decide ((c.length + 1) % 2 = 1) := by rw [decide_eq_decide]; omega
      rw [e]
      generalize decide ((c.length + 1) % 2 = 1) = p
      generalize decide ((l.flatten.length + l.length) % 2 = 1) = q
      revert b p q; decide
  unfold oddTo
  rw [List.take_length, key]
  simp
theorem orb_mem {r : List Int} {b : Nat} {x : Int} : x ∈ orb r b ↔ ∃ m, m < per r b ∧ ((itr r b m : Nat) : Int) = x := by
  unfold orb; simp
theorem orb_nodup {r : List Int} (hr : IsRow r) {b : Nat} (hb : b < r.length) : (orb r b).Nodup := by
  unfold orb
  rw [List.nodup_iff_pairwise_ne, List.pairwise_map]
  refine List.Pairwise.imp_of_mem ?_ List.pairwise_lt_range
  intro i j hi hj hij e
  exact itr_inj hr hb hij (List.mem_range.1 hj) (by omega)
theorem cycles_perm {r : List Int} (hr : IsRow r) : (cyclesL r).flatten.Perm (roundsL r.length) := by
  rw [List.perm_ext_iff_of_nodup ?_ (roundsL_row hr.pos hr.le).nodup]
  · intro x
    rw [List.mem_flatten]
    constructor
    · rintro ⟨c, hc, hx⟩
      obtain ⟨b, hb, _, rfl⟩ := cyc_mem hc
      obtain ⟨m, _, rfl⟩ := orb_mem.1 hx
      exact List.mem_map.2 ⟨itr r b m, List.mem_range.2 (itr_lt hr hb m), rfl⟩
    · intro hx
      obtain ⟨k, hk, rfl⟩ := List.mem_map.1 hx
      have hk := List.mem_range.1 hk
      obtain ⟨b, hb, hl, hle⟩ := least_of hr k hk
      obtain ⟨m, hm, e⟩ := hle.small hr hb
      exact ⟨orb r b, List.mem_map.2 ⟨b, List.mem_filter.2 ⟨List.mem_range.2 hb, hl⟩, rfl⟩, orb_mem.2 ⟨m, hm, by rw [e]⟩⟩
  · rw [List.nodup_iff_pairwise_ne, List.pairwise_flatten]
    constructor
    · intro c hc
      obtain ⟨b, hb, _, rfl⟩ := cyc_mem hc
      exact List.nodup_iff_pairwise_ne.1 (orb_nodup hr hb)
    · unfold cyclesL cyclesTo
      rw [List.pairwise_map]
      refine List.Pairwise.imp_of_mem ?_ (List.Pairwise.filter _ List.pairwise_lt_range)
      intro b c hb hc hbc x hx y hy e
      subst e
      obtain ⟨hb1, hb2⟩ := List.mem_filter.1 hb
      obtain ⟨hc1, hc2⟩ := List.mem_filter.1 hc
      have hb1 := List.mem_range.1 hb1
      have hc1 := List.mem_range.1 hc1
      obtain ⟨m, _, e1⟩ := orb_mem.1 hx
      obtain ⟨m', _, e2⟩ := orb_mem.1 hy
      have e3 : itr r b m = itr r c m' := by omega
      have h1 : Leads r b (itr r c m') := ⟨m, e3⟩
      have h2 : Leads r c b := Leads.trans ⟨m', rfl⟩ (h1.symm hr hb1)
      have := (least_iff hr hc1).1 hc2 b h2
      omega
theorem oddL_count {r : List Int} (hr : IsRow r) : oddL r = decide ((r.length + (List.range r.length).countP (least r)) % 2 = 1) := by
  unfold oddL
  rw [oddF]
  have h1 := (cycles_perm hr).length_eq
  rw [roundsL_len] at h1
  have h2 : (cyclesL r).length = (List.range r.length).countP (least r) := by
    unfold cyclesL cyclesTo
    rw [List.length_map, List.countP_eq_length_filter]
  rw [h1, h2]
end Go.KL

/- Plain maths: the largest bell is taken out; the sign by cycles is that by inversions. -/
namespace Go.KL

def cutR (r : List Int) (n p : Nat) : List Int := (r.take n).set p (r.getD n 0)
structure Cut (r : List Int) (n p : Nat) : Prop where
  row : IsRow r
  len : r.length = n + 1
  pos : 1 ≤ n
  at' : r.getD p 0 = n
  le : p ≤ n
theorem cut_exists {r : List Int} {n : Nat} (hr : IsRow r) (hl : r.length = n + 1) (hn : 1 ≤ n) : ∃ p, Cut r n p := by
  have hm := hr.mem (b := n) (by omega)
  obtain ⟨p, hp, e⟩ := List.getElem_of_mem hm
  exact ⟨p, hr, hl, hn, by rw [← gd r p hp]; exact e, by omega⟩
theorem Cut.len' {r : List Int} {n p : Nat} (h : Cut r n p) : (cutR r n p).length = n := by
  have := h.len
  simp [cutR]; omega
theorem Cut.get {r : List Int} {n p : Nat} (h : Cut r n p) {k : Nat} (hk : k < n) : (cutR r n p).getD k 0 = if k = p then r.getD n 0 else r.getD k 0 := by
  have hl := h.len
  unfold cutR
  rw [List.getD_eq_getElem?_getD, List.getElem?_set]
  by_cases e : p = k
  · subst e
    rw [if_pos rfl, if_pos rfl, if_pos (by simp; omega)]; rfl
  · rw [if_neg e, if_neg (fun q => e q.symm), List.getElem?_take, if_pos hk, ← List.getD_eq_getElem?_getD]
theorem Cut.only {r : List Int} {n p : Nat} (h : Cut r n p) {k : Nat} (hk : k ≤ n) : r.getD k 0 = n ↔ k = p := by
  have hl := h.len
  constructor
  · intro e
    have h1 := idxOf_at h.row.nodup (k := k) (by omega)
    have h2 := idxOf_at h.row.nodup (k := p) (by have := h.le; omega)
    rw [e] at h1; rw [h.at'] at h2; omega
  · rintro rfl; exact h.at'
theorem Cut.nxt {r : List Int} {n p : Nat} (h : Cut r n p) {k : Nat} (hk : k < n) : nxt (cutR r n p) k = if nxt r k = n then nxt r n else nxt r k := by
  have hl := h.len
  have hb := h.row.at (i := k) (by omega)
  have ho := h.only (k := k) (by omega)
  unfold Go.KL.nxt
  rw [h.get hk]
  by_cases e : k = p
  · have := ho.2 e
    rw [if_pos e, if_pos (by omega)]
  · have : r.getD k 0 ≠ n := fun q => e (ho.1 q)
    rw [if_neg e, if_neg (by omega)]
theorem Cut.row' {r : List Int} {n p : Nat} (h : Cut r n p) : IsRow (cutR r n p) := by
  have hl := h.len
  have hl' := h.len'
  have hle := h.row.le
  have hpos := h.pos
  have hbd : ∀ k, k < n → 0 ≤ (cutR r n p).getD k 0 ∧ (cutR r n p).getD k 0 < n := by
    intro k hk
    rw [h.get hk]
    have hb := h.row.at (i := k) (by omega)
    have hbn := h.row.at (i := n) (by omega)
    have ho := h.only (k := k) (by omega)
    have hon := h.only (k := n) (Nat.le_refl _)
    split
    · rename_i e
      have : ¬ r.getD n 0 = n := fun q => by have := hon.1 q; omega
      omega
    · rename_i e
      have : ¬ r.getD k 0 = n := fun q => e (ho.1 q)
      omega
  apply rowMay_ok.1
  refine rowMay_of (by omega) (by omega) ?_ ?_
  · rw [List.nodup_iff_pairwise_ne, List.pairwise_iff_getElem]
    intro i j hi hj hij
    rw [gd _ i hi, gd _ j hj, h.get (by omega), h.get (by omega)]
    have inj : ∀ a b, a < n + 1 → b < n + 1 → r.getD a 0 = r.getD b 0 → a = b := fun a b ha hb e => by
      have h1 := idxOf_at h.row.nodup (k := a) (by omega)
      have h2 := idxOf_at h.row.nodup (k := b) (by omega)
      rw [e] at h1; omega
    intro e
    split at e <;> split at e
    · omega
    · have := inj _ _ (by omega) (by omega) e; omega
    · have := inj _ _ (by omega) (by omega) e; omega
    · have := inj _ _ (by omega) (by omega) e; omega
  · intro x hx
    obtain ⟨k, hk, e⟩ := List.getElem_of_mem hx
    rw [gd _ k hk] at e
    have := hbd k (by omega)
    omega
theorem itr_one (r : List Int) (b : Nat) : itr r b 1 = nxt r b := rfl
theorem itr_step (r : List Int) (b m : Nat) : itr r b (m + 1) = nxt r (itr r b m) := rfl
theorem Cut.leads {r : List Int} {n p : Nat} (h : Cut r n p) {b : Nat} (hb : b < n) : ∀ m, Leads r b (itr (cutR r n p) b m)
  | 0 => ⟨0, rfl⟩
  | m + 1 => by
    have hi := itr_lt h.row' (b := b) (by rw [h.len']; exact hb) m
    rw [h.len'] at hi
    have ih := h.leads hb m
    rw [itr_step, h.nxt hi]
    split
    · rename_i e
      refine Leads.trans ih ⟨2, ?_⟩
      rw [itr_step, itr_one, e]
    · exact Leads.trans ih ⟨1, rfl⟩
theorem Cut.back {r : List Int} {n p : Nat} (h : Cut r n p) {b : Nat} (hb : b < n) : ∀ m, (itr r b m < n → Leads (cutR r n p) b (itr r b m)) ∧ (itr r b m = n → Go.KL.nxt r n < n → Leads (cutR r n p) b (Go.KL.nxt r n))
  | 0 => ⟨fun _ => ⟨0, rfl⟩, fun e => by have : itr r b 0 = b := rfl; omega⟩
  | m + 1 => by
    obtain ⟨i1, i2⟩ := h.back hb m
    have hl := h.len
    have hlt := itr_lt h.row (b := b) (by omega) m
    rw [itr_step]
    by_cases e : itr r b m = n
    · rw [e]
      refine ⟨fun hn => i2 e hn, fun e2 hn => by omega⟩
    · have hm : itr r b m < n := by omega
      have hx := h.nxt hm
      refine ⟨fun hn => ?_, fun e2 hn => ?_⟩
      · rw [if_neg (by omega)] at hx
        exact Leads.trans (i1 hm) ⟨1, hx⟩
      · rw [if_pos e2] at hx
        exact Leads.trans (i1 hm) ⟨1, hx⟩
theorem Cut.least {r : List Int} {n p : Nat} (h : Cut r n p) {b : Nat} (hb : b < n) : least (cutR r n p) b = Go.KL.least r b := by
  have hl := h.len
  have hl' := h.len'
  rw [Bool.eq_iff_iff, least_iff h.row' (by omega), least_iff h.row (by omega)]
  constructor
  · rintro hc k ⟨m, rfl⟩
    by_cases e : itr r b m < n
    · exact hc _ ((h.back hb m).1 e)
    · omega
  · rintro hc k ⟨m, rfl⟩
    exact hc _ (h.leads hb m)
theorem Cut.top {r : List Int} {n p : Nat} (h : Cut r n p) : Go.KL.least r n = decide (p = n) := by
  have hl := h.len
  have hle := h.le
  rw [Bool.eq_iff_iff, least_iff h.row (by omega), decide_eq_true_iff]
  have hon := h.only (k := n) (Nat.le_refl _)
  have hb := h.row.at (i := n) (by omega)
  constructor
  · intro hc
    have h1 := hc _ ⟨1, rfl⟩
    rw [itr_one] at h1
    unfold Go.KL.nxt at h1
    exact (hon.1 (by omega)).symm
  · rintro rfl k ⟨m, rfl⟩
    have : ∀ m, itr r p m = p := by
      intro m
      induction m with
      | zero => rfl
      | succ m ih => rw [itr_step, ih]; unfold Go.KL.nxt; rw [h.at']; rfl
    rw [this m]; exact Nat.le_refl _
theorem Cut.oddL {r : List Int} {n p : Nat} (h : Cut r n p) : Go.KL.oddL r = (Go.KL.oddL (cutR r n p) != decide (p ≠ n)) := by
  rw [oddL_count h.row, oddL_count h.row', h.len, h.len', List.range_succ, List.countP_append, List.countP_cons, List.countP_nil, h.top]
  have e : (List.range n).countP (Go.KL.least (cutR r n p)) = (List.range n).countP (Go.KL.least r) := by
    apply List.countP_congr
    intro b hb
    rw [h.least (List.mem_range.1 hb)]
  rw [e]
  generalize (List.range n).countP (Go.KL.least r) = c
  by_cases e : p = n
  · have e1 : (n + 1 + (c + (0 + if decide (p = n) = true then 1 else 0))) = (n + c) + 2 := by rw [decide_eq_true e, if_pos rfl]; omega
    rw [e1, Nat.add_mod_right, decide_eq_false (Classical.not_not.2 e)]
    simp
  · have e1 : (n + 1 + (c + (0 + if decide (p = n) = true then 1 else 0))) = (n + c) + 1 := by rw [decide_eq_false e, if_neg (by simp)]; omega
    rw [e1, decide_eq_true e, par_add]
    simp
theorem Cut.invB {r : List Int} {n p : Nat} (h : Cut r n p) : Go.KL.invB r = (Go.KL.invB (cutR r n p) != decide (p ≠ n)) := by
  have hl := h.len
  have hl' := h.len'
  have hnd := h.row.nodup
  have hsplit : r = r.take n ++ [r.getD n 0] := by
    rw [← take_snoc r 0 n (by omega), List.take_of_length_le (by omega)]
  by_cases e : p = n
  · have h1 : cutR r n p = r.take n := by
      unfold cutR; rw [List.set_eq_of_length_le (by simp; omega)]
    have h2 : r.getD n 0 = (n : Int) := by have := h.at'; rwa [e] at this
    have h3 : Go.KL.invB r = Go.KL.invB (r.take n) := by
      conv => lhs; rw [hsplit, h2]
      refine invB_max _ _ fun x hx => ?_
      obtain ⟨k, hk, rfl⟩ := List.getElem_of_mem hx
      simp only [List.length_take] at hk
      rw [List.getElem_take, gd r k (by omega)]
      have hb := h.row.at (i := k) (by omega)
      have ho := h.only (k := k) (by omega)
      have : ¬ r.getD k 0 = n := fun q => by have := ho.1 q; omega
      omega
    rw [h1, h3, decide_eq_false (Classical.not_not.2 e)]; simp
  · have hp : p < n := by have := h.le; omega
    have h1 := List.take_append_drop p (r.take n)
    have h2 : (r.take n).drop p = (n : Int) :: (r.take n).drop (p + 1) := by
      rw [List.drop_eq_getElem_cons (by simp; omega)]
      congr 1
      rw [List.getElem_take, gd r p (by omega), h.at']
    rw [h2] at h1
    have hAl : ((r.take n).take p).length = p := by simp; omega
    have hcut : cutR r n p = (r.take n).take p ++ r.getD n 0 :: (r.take n).drop (p + 1) := by
      unfold cutR
      conv => lhs; rw [← h1]
      rw [List.set_append_right _ _ (by omega), hAl, Nat.sub_self]; rfl
    have hr : r = (r.take n).take p ++ (n : Int) :: ((r.take n).drop (p + 1) ++ [r.getD n 0]) := by
      conv => lhs; rw [hsplit, ← h1]
      simp
    revert hcut hr
    generalize (r.take n).take p = A
    generalize (r.take n).drop (p + 1) = B
    generalize r.getD n 0 = v
    intro hcut hr
    rw [hr] at hnd
    have hnd2 := (List.nodup_append.1 hnd).2.1
    have hn1 := List.nodup_cons.1 hnd2
    have hnB : (n : Int) ∉ B := fun hm => hn1.1 (List.mem_append_left _ hm)
    have hnv : (n : Int) ≠ v := fun hm => hn1.1 (by rw [hm]; simp)
    have hvB : v ∉ B := fun hm => (List.nodup_append.1 hn1.2).2.2 v hm v (by simp) rfl
    have hmax := invB_max (A ++ v :: B) (n : Int) (fun x hx => by
      rw [← hcut] at hx
      have := h.row'.bound x hx
      omega)
    have hsw := invB_swap A B [] (n : Int) v hnB hvB hnv
    rw [hcut, decide_eq_true e]
    conv => lhs; rw [hr]
    rw [hsw]
    have e3 : A ++ v :: (B ++ [(n : Int)]) = (A ++ v :: B) ++ [(n : Int)] := by simp
    rw [e3, hmax]; simp
theorem sign_eq : ∀ (n : Nat) (r : List Int), IsRow r → r.length = n + 1 → oddL r = invB r
  | 0, r, hr, hl => by
    obtain ⟨x, rfl⟩ : ∃ x, r = [x] := by
      cases r with
      | nil => simp at hl
      | cons x l => simp at hl; exact ⟨x, by rw [hl]⟩
    have hb := hr.at (i := 0) (by simp)
    simp only [List.length_cons, List.length_nil] at hb
    have hx : x = 0 := by
      have h1 : ([x] : List Int).getD 0 0 = x := rfl
      rw [h1] at hb; omega
    subst hx
    rw [oddL_count hr]
    decide
  | n + 1, r, hr, hl => by
    obtain ⟨p, hc⟩ := cut_exists hr hl (by omega)
    rw [hc.oddL, hc.invB, sign_eq n _ hc.row' hc.len']
theorem oddL_inv {r : List Int} (hr : IsRow r) : oddL r = invB r := sign_eq (r.length - 1) r hr (by have := hr.pos; omega)
end Go.KL

/- The place of a row among all of its bells, counted in two ways; the row at a place. -/
namespace Go.KL
def fct : Nat → Nat
  | 0 => 1
  | n + 1 => (n + 1) * fct n
theorem fct_pos : ∀ n, 1 ≤ fct n
  | 0 => by decide
  | n + 1 => Nat.mul_pos (by omega) (fct_pos n)
theorem fct_le_succ (n : Nat) : fct n ≤ fct (n + 1) := by
  have := fct_pos n
  rw [fct, Nat.succ_mul]; omega
theorem fct_mono {m n : Nat} (h : m ≤ n) : fct m ≤ fct n := by
  induction h with
  | refl => exact Nat.le_refl _
  | step _ ih => exact Nat.le_trans ih (fct_le_succ _)
def lessN (b : Int) (r : List Int) : Nat := r.countP fun c => decide (c < b)
theorem lessN_le (b : Int) (r : List Int) : lessN b r ≤ r.length := List.countP_le_length
def rankL : List Int → Nat
  | [] => 0
  | b :: r => lessN b r * fct r.length + rankL r
theorem rankL_lt : ∀ r : List Int, rankL r < fct r.length
  | [] => by decide
  | b :: r => by
    have h1 := rankL_lt r
    have h2 : lessN b r * fct r.length ≤ r.length * fct r.length := Nat.mul_le_mul_right _ (lessN_le b r)
    rw [rankL, List.length_cons, fct, Nat.succ_mul]; omega
theorem lessN_perm {b : Int} {r s : List Int} (h : r.Perm s) : lessN b r = lessN b s := h.countP_eq _
theorem rankL_inj : ∀ (r s : List Int), r.Perm s → rankL r = rankL s → r = s
  | [], s, h, _ => by
    have := h.length_eq
    exact (List.eq_nil_of_length_eq_zero (by simpa using this.symm)).symm
  | b :: r, [], h, _ => by have := h.length_eq; simp at this
  | b :: r, c :: s, h, e => by
    have hl : r.length = s.length := by have := h.length_eq; simpa using this
    rw [rankL, rankL, hl] at e
    have h1 := rankL_lt r
    have h2 := rankL_lt s
    rw [hl] at h1
    have hp := fct_pos s.length
    have e1 : lessN b r = lessN c s := by
      have ha : (lessN b r * fct s.length + rankL r) / fct s.length = lessN b r := by rw [Nat.add_comm, Nat.add_mul_div_right _ _ hp, Nat.div_eq_of_lt h1, Nat.zero_add]
      have hb : (lessN c s * fct s.length + rankL s) / fct s.length = lessN c s := by rw [Nat.add_comm, Nat.add_mul_div_right _ _ hp, Nat.div_eq_of_lt h2, Nat.zero_add]
      rw [← ha, e, hb]
    have e2 : rankL r = rankL s := by rw [e1] at e; omega
    have hb : lessN b r = lessN b (b :: r) := by simp [lessN]
    have hc : lessN c s = lessN c (c :: s) := by simp [lessN]
    have e3 : lessN b (b :: r) = lessN c (b :: r) := by rw [← hb, e1, hc]; exact (lessN_perm h).symm
    have lt : ∀ (x y : Int) (l : List Int), x ∈ l → x < y → lessN x l < lessN y l := by
      intro x y l hx hxy
      unfold lessN
      induction l with
      | nil => cases hx
      | cons z l ih =>
        have mono : l.countP (fun c => decide (c < x)) ≤ l.countP (fun c => decide (c < y)) := List.countP_mono_left fun w _ hw => by simp at hw ⊢; omega
        rw [List.countP_cons, List.countP_cons]
        by_cases hz : z = x
        · subst hz
          simp [hxy]; omega
        · have := ih (by simpa [Ne.symm hz] using hx)
          by_cases h1 : z < x
          · have h2 : z < y := by omega
            simp [h1, h2]; omega
          · simp [h1]; split <;> omega
    have hbc : b = c := by
      rcases Int.lt_trichotomy b c with h3 | h3 | h3
      · have := lt b c (b :: r) (by simp) h3; omega
      · exact h3
      · have := lt c b (b :: r) (h.mem_iff.2 (by simp)) h3; omega
    subst hbc
    rw [rankL_inj r s (List.perm_cons b |>.1 h) e2]
theorem rank_row_inj {r s : List Int} (hr : IsRow r) (hs : IsRow s) (hl : r.length = s.length) (e : rankL r = rankL s) : r = s :=
  rankL_inj r s ((row_perm hr).trans (by rw [hl]; exact (row_perm hs).symm)) e
/-! ### The row at a place -/
end Go.KL

/- The signs of bells: where a rune stands among them. -/
namespace Go.KL
abbrev SIGNS : ByteArray := ByteArray.mk #[49, 50, 51, 52, 53, 54, 55, 56, 57, 48, 69, 84]
def signIdx (c : Int) : Int := if 0 ≤ c ∧ c < 128 then Lib.indexByte SIGNS.data.toList c.toNat.toUInt8 else -1

theorem ixb_no {l : List UInt8} {c : UInt8} (h : ∀ b ∈ l, b ≠ c) : Lib.indexByte l c = -1 := by
  induction l with
  | nil => rfl
  | cons b l ih =>
    rw [Lib.indexByte, if_neg (by simpa using h b (by simp)), ih fun x hx => h x (by simp [hx])]
    simp
theorem ixb_yes {c : UInt8} : ∀ {l : List UInt8} {i : Nat} (hi : i < l.length), l[i] = c → (∀ j (hj : j < i), l[j]'(by omega) ≠ c) → Lib.indexByte l c = i
  | b :: l, 0, hi, h, _ => by
    simp at h
    rw [Lib.indexByte, if_pos (by simpa using h)]; rfl
  | b :: l, i + 1, hi, h, hn => by
    have h0 : b ≠ c := hn 0 (by omega)
    have ih := ixb_yes (l := l) (i := i) (by simpa using hi) (by simpa using h) (fun j hj => by have := hn (j + 1) (by omega); simpa using this)
    rw [Lib.indexByte, if_neg (by simpa using h0), ih]
    rw [if_neg (by simp)]; omega
theorem get_list {s : ByteArray} {i : Nat} (h : i < s.size) : s.get! i = s.data.toList[i]'(by simpa using h) := by
  have h' : i < s.data.size := h
  simp only [ByteArray.get!]
  rw [getElem!_pos s.data i h']
  simp
theorem u8_eq {b c : UInt8} : ((b.toNat : Nat) : Int) = ((c.toNat : Nat) : Int) ↔ b = c := by
  rw [Int.natCast_inj]; exact UInt8.toNat_inj
theorem u8_of {c : Int} (h0 : 0 ≤ c) (h1 : c < 256) : ((c.toNat.toUInt8.toNat : Nat) : Int) = c := by
  have : c.toNat.toUInt8.toNat = c.toNat := by
    show (UInt8.ofNat c.toNat).toNat = _
    rw [UInt8.toNat_ofNat']; omega
  omega
theorem ixs_yes {s : ByteArray} {c : Int} {i : Nat} (h0 : 0 ≤ c) (h1 : c < 256) (hi : i < s.size) (h : (((s.get! i).toNat : Nat) : Int) = c) (hn : ∀ j, j < i → (((s.get! j).toNat : Nat) : Int) ≠ c) : Lib.indexByte s.data.toList c.toNat.toUInt8 = i := by
  have hc := u8_of h0 h1
  refine ixb_yes (by simpa using hi) ?_ (fun j hj => ?_)
  · rw [← get_list hi, ← u8_eq, hc]; exact h
  · have := hn j hj
    rw [← get_list (by omega), Ne, ← u8_eq, hc]; exact this
theorem signs_lt {j : Nat} (h : j < 12) : (SIGNS.get! j).toNat < 128 := by
  have : ∀ j : Fin 12, (SIGNS.get! j).toNat < 128 := by decide
  exact this ⟨j, h⟩
theorem signs_run {p : Nat} (h : p < 12) : run1 SIGNS p < 128 ∧ stepTo SIGNS p = p + 1 := by
  have : ∀ j : Fin 12, run1 SIGNS j < 128 ∧ stepTo SIGNS j = j.val + 1 := by decide
  exact this ⟨p, h⟩
theorem signs_size : SIGNS.size = 12 := rfl
theorem signs_cut {l : Nat} {c : Int} (h0 : 128 ≤ c) (h1 : c < 256) : Lib.indexByte (SIGNS.extract l SIGNS.size).data.toList c.toNat.toUInt8 = -1 := by
  refine ixb_no fun b hb => ?_
  have hc := u8_of (c := c) (by omega) h1
  have hm : b ∈ SIGNS.data.toList := by
    simp only [ByteArray.data_extract, Array.toList_extract, List.extract_eq_take_drop] at hb
    exact List.mem_of_mem_drop (List.mem_of_mem_take hb)
  have hlt : b.toNat < 128 := by
    have : ∀ b ∈ SIGNS.data.toList, b.toNat < 128 := by decide
    exact this b hm
  intro e
  rw [← e] at hc; omega
theorem enc_facts {r : Int} (h : 128 ≤ r) (hv : Utf8.valid r = true) : 2 ≤ (Utf8.encode r).size ∧ (Utf8.encode r).size ≤ 4 ∧ 128 ≤ ((Utf8.encode r).get! ((Utf8.encode r).size - 1)).toNat ∧ ((Utf8.encode r).get! ((Utf8.encode r).size - 1)).toNat < 256 := by
  have hm : ∀ m : Nat, m % 64 < 64 := fun m => Nat.mod_lt _ (by decide)
  have hb : ∀ m : Nat, (UInt8.ofNat (0x80 + m % 64)).toNat = 128 + m % 64 := fun m => by rw [UInt8.toNat_ofNat']; have := hm m; omega
  unfold Utf8.encode
  simp only [hv, if_true]
  rw [if_neg (by omega)]
  split
  · refine ⟨Nat.le_of_ble_eq_true rfl, Nat.le_of_ble_eq_true rfl, ?_, ?_⟩
    · show 128 ≤ (UInt8.ofNat (0x80 + r.toNat % 64)).toNat
      rw [hb]; omega
    · show (UInt8.ofNat (0x80 + r.toNat % 64)).toNat < 256
      rw [hb]; have := hm r.toNat; omega
  · split
    · refine ⟨Nat.le_of_ble_eq_true rfl, Nat.le_of_ble_eq_true rfl, ?_, ?_⟩
      · show 128 ≤ (UInt8.ofNat (0x80 + r.toNat % 64)).toNat
        rw [hb]; omega
      · show (UInt8.ofNat (0x80 + r.toNat % 64)).toNat < 256
        rw [hb]; have := hm r.toNat; omega
    · refine ⟨Nat.le_of_ble_eq_true rfl, Nat.le_of_ble_eq_true rfl, ?_, ?_⟩
      · show 128 ≤ (UInt8.ofNat (0x80 + r.toNat % 64)).toNat
        rw [hb]; omega
      · show (UInt8.ofNat (0x80 + r.toNat % 64)).toNat < 256
        rw [hb]; have := hm r.toNat; omega
theorem signIdx_lo {c : Int} (h0 : 0 ≤ c) (h1 : c < 128) : signIdx c = Lib.indexByte SIGNS.data.toList c.toNat.toUInt8 := if_pos ⟨h0, h1⟩
theorem signIdx_hi {c : Int} (h : ¬ (0 ≤ c ∧ c < 128)) : signIdx c = -1 := if_neg h
theorem wrap_u8 {c : Int} (h0 : 0 ≤ c) (h1 : c < 256) : IntKind.u8.wrap c = c := by
  simp [IntKind.wrap, IntKind.bits, IntKind.signed]; omega
end Go.KL

/- What package strings' Builder meets: pointers held against each other, a row of bytes that becomes a string. -/
namespace Go.KL
open Go.RowKit
variable {P : Program} {d : Option Tmp} {ty : TypeId} {pos : String} {af : Array Edge} {g : Option (Nat × Bool)} {a : Act} {σ : GW}

abbrev Ty.byte (b : UInt8) : Ty := .val (.int .u8 ((b.toNat : Nat) : Int))
def bsL (l : List UInt8) : ByteArray := ⟨l.toArray⟩
def OwnPT (E : TypeId) (σ : GW) (k : Nat) (v : Value) (ts : List Ty) : Prop :=
  ∃ g cur, v = .pointer (some ⟨g, 0, none⟩) ∧ σ.st g = k ∧ σ.w.heap[g]? = some (.cells cur E (0, 0)) ∧ cur.size = ts.length ∧ ∀ (j : Nat) (T : Ty) (u : Value), ts[j]? = some T → cur[j]? = some u → T.has σ u
theorem OwnPT.toP {E : TypeId} {k : Nat} {v : Value} {ts : List Ty} (h : OwnPT E σ k v ts) : OwnP σ k v ts := by
  obtain ⟨g, cur, h1, h2, h3, h4, h5⟩ := h; exact ⟨g, E, cur, h1, h2, h3, h4, h5⟩
theorem OwnPT.keepL {E : TypeId} {L : List Nat} {k : Nat} {σ τ : GW} {v : Value} {ts : List Ty} (h : OwnPT E σ k v ts) (hs : StpL L σ τ) (h1 : 1 ∉ L) (hk : k ∉ L) : OwnPT E τ k v ts := by
  obtain ⟨g, cur, rfl, r2, r3, r4, r5⟩ := h
  have hg := (Array.getElem?_eq_some_iff.1 r3).1
  have hq : σ.st g ∉ L := by rw [r2]; exact hk
  exact ⟨g, cur, rfl, (hs.st g hg hq).trans r2, (hs.blk g hg hq).trans r3, r4, fun j T u hj hu => T.up (hs.le h1) (r5 j T u hj hu)⟩
theorem OwnPT.k0 {E : TypeId} {k : Nat} {σ τ : GW} {v : Value} {ts : List Ty} (h : OwnPT E σ k v ts) (hs : Stp 0 σ τ) : OwnPT E τ k v ts := h.keepL (L := []) hs.toL0 (by simp) (by simp)
theorem OwnPT.ren {E : TypeId} {k k' : Nat} {σ τ : GW} {v : Value} {ts : List Ty} (h : OwnPT E σ k v ts) (r : Ren k k' σ τ) : OwnPT E τ k' v ts := by
  obtain ⟨g, cur, rfl, r2, r3, r4, r5⟩ := h
  exact ⟨g, cur, rfl, r.st g r2, by rw [r.w]; exact r3, r4, fun j T u hj hu => T.up r.le (r5 j T u hj hu)⟩
theorem OwnPT.one {E : TypeId} {k : Nat} {v : Value} {ts : List Ty} (h : OwnPT E σ k v ts) : v.oneCell' = true := h.toP.one
def Pr.ownpt (E : TypeId) (k : Nat) (ts : List Ty) : Pr := ⟨fun σ v => OwnPT E σ k v ts, fun hs h => h.k0 hs⟩
theorem ownpt_cell {E : TypeId} {k : Nat} {v : Value} {ts : List Ty} {T : Ty} (j : Nat) (U : Ty) (h : OwnPT E σ k v ts) (e : ts[j]? = some T) (hTU : ∀ σ u, T.has σ u → U.has σ u) : OwnPT E σ k v (ts.set j U) := by
  obtain ⟨gg, cur, rfl, h2, h3, h4, h5⟩ := h
  refine ⟨gg, cur, rfl, h2, h3, by simpa using h4, fun i V u hV hu => ?_⟩
  by_cases hij : i = j
  · subst hij
    rw [List.getElem?_set_self (by exact (List.getElem?_eq_some_iff.1 e).1)] at hV
    cases hV
    exact hTU _ _ (h5 i T u e hu)
  · rw [List.getElem?_set_ne (Ne.symm hij)] at hV
    exact h5 i V u hV hu
theorem y_alloct {k : Nat} {e : TypeId} {z : Value} {c b : Nat} {ts : List Ty} (he : Info P e z c b) (hl : ts.length = z.cells.size) (hT : ∀ (j : Nat) (T : Ty) (u : Value), ts[j]? = some T → z.cells[j]? = some u → ∀ σ, T.has σ u) :
    Yld P ⟨d, .alloc e, ty, pos, af, g⟩ a σ (Pr.ownpt e k ts) := by
  intro K Q hk
  have hr' : (execOp a.eval ⟨d, .alloc e, ty, pos, af, g⟩).run P σ.w = .ok (.value (.pointer (some ⟨σ.w.heap.size, 0, none⟩))) (σ.w.alloc (.cells z.cells e)) := by
    simp only [execOp]
    simp [Instr.alloc, he.zero, newVar, newRow, newObj, Sem.run, Sem.run_bind]
  unfold Oper.wp
  rw [hr']
  exact hk _ (σ.mk' k (.cells z.cells e)) (Stp.mk' σ k _) ⟨σ.w.heap.size, z.cells, rfl, by show (if _ = _ then k else _) = k; rw [if_pos rfl], heap_alloc_new σ.w _, hl.symm, fun j T u hj hu => hT j T u hj hu _⟩
theorem m_storept {E : TypeId} {k : Nat} {x y : Operand} {i : Nat} {ts : List Ty} {T : Ty} {t : TypeId} {z v : Value} {by_ : Nat} (he : Info P t z 1 by_) (hk : 2 ≤ k) (h : OwnPT E σ k v ts) (hx : a.eval x = ptrAt v i) (hi : i < ts.length) (hy : At T σ a y) (h1 : One T) :
    YldM k P ⟨d, .store t x y, ty, pos, af, g⟩ a σ (fun _ τ => OwnPT E τ k v (ts.set i T)) := by
  obtain ⟨gg, cur, rfl, h2, h3, h4, h5⟩ := h
  have ho := h1 _ _ hy
  have hlt : i < cur.size := by omega
  have hc : σ.w.cell? ⟨gg, i, none⟩ = some cur[i] := by simp [World.cell?, h3, hlt]
  have hf : σ.w.frozen? ⟨gg, i, none⟩ = false := by simp [World.frozen?, h3]
  have hx' : a.eval x = .pointer (some ⟨gg, i, none⟩) := hx
  intro K Q hK
  have hr : (execOp a.eval ⟨d, .store t x y, ty, pos, af, g⟩).run P σ.w = .ok .skip (σ.w.setCell ⟨gg, i, none⟩ (a.eval y)) := by
    simp only [execOp, hx']
    have hst : (store ⟨gg, i, none⟩ (a.eval y)).run P σ.w = .ok () (σ.w.setCell ⟨gg, i, none⟩ (a.eval y)) := by
      rw [run_store P σ.w _ _ _ ho, hc, hf]; rfl
    simp [Instr.storeAt, Instr.sureAddr, storeVar, Sem.run_bind, cells_of_one ho, he.size, storeCells, Addr.add_zero', hst]
  unfold Oper.wp
  rw [hr]
  have hstp : Stp k σ ⟨σ.w.setCell ⟨gg, i, none⟩ (a.eval y), σ.st, fun b h => by have := σ.lt b h; simpa using this⟩ :=
    ⟨rfl, rfl, rfl, Dr.refl _, by simp, fun b hb hm => Below.heap_setCell σ.w _ _ b (by rintro rfl; simp at hm; omega), fun _ _ _ => rfl⟩
  have hh : (σ.w.setCell ⟨gg, i, none⟩ (a.eval y)).heap[gg]? = some (.cells (cur.setIfInBounds i (a.eval y)) E (0, 0)) := by
    unfold World.setCell
    rw [Array.getElem?_modify, if_pos rfl, h3]
    rfl
  refine hK undef _ hstp ⟨gg, _, rfl, h2, hh, by simp [h4], fun j U u hU hu => ?_⟩
  by_cases hji : j = i
  · subst hji
    rw [List.getElem?_set_self (by omega)] at hU
    rw [Array.getElem?_setIfInBounds_self_of_lt hlt] at hu
    cases hU; cases hu
    exact T.up (hstp.le (by omega)) hy
  · rw [List.getElem?_set_ne (Ne.symm hji)] at hU
    rw [Array.getElem?_setIfInBounds_ne (Ne.symm hji)] at hu
    exact U.up (hstp.le (by omega)) (h5 j U u hU hu)

def bAddr (nb : Bool) (b : Value) : Value := if nb then .pointer none else b
theorem y_bnil {E tp te u : TypeId} {x y : Operand} {k : Nat} {nb : Bool} {b : Value} {ts : List Ty} {z : Value} {c by_ : Nat} (hp : P.underlying tp = some (.pointer te)) (he : Info P te z c by_) (h : OwnPT E σ k b ts) (hx : a.eval x = bAddr nb b) (hy : a.eval y = .pointer none) :
    Yld P ⟨d, .binOp .eql tp x y u, ty, pos, af, g⟩ a σ (Ty.bool nb).pr := by
  obtain ⟨gg, cur, rfl, _⟩ := h
  obtain ⟨i, hi, _⟩ := he.get
  have hr : ∀ q : Option Addr, (binOp .eql tp (.pointer q) (.pointer none)).run P σ.w = .ok (.bool q.isNone) σ.w := fun q => run_eql_pointer_nil σ.w tp q (by rw [hp]; simp [Program.pointee, hp])
  cases nb with
  | true =>
    refine Yld.of_run (v := .bool true) ?_ rfl
    have hx' : a.eval x = .pointer none := hx
    simp only [execOp, hx', hy]
    simp [eqGuard, hr]
  | false =>
    refine Yld.of_run (v := .bool false) ?_ rfl
    have hx' : a.eval x = .pointer (some ⟨gg, 0, none⟩) := hx
    simp only [execOp, hx', hy]
    simp [eqGuard, hr]
theorem y_bself {E tp te u : TypeId} {x y : Operand} {k : Nat} {b : Value} {ts : List Ty} {z : Value} {c by_ : Nat} (hp : P.underlying tp = some (.pointer te)) (he : Info P te z c by_) (h : OwnPT E σ k b ts) (hx : a.eval x = bAddr false b) (hy : a.eval y = b) :
    Yld P ⟨d, .binOp .neq tp x y u, ty, pos, af, g⟩ a σ (Ty.bool false).pr := by
  obtain ⟨gg, cur, rfl, _⟩ := h
  obtain ⟨i, hi, _⟩ := he.get
  refine Yld.of_run (v := .bool false) ?_ rfl
  have hx' : a.eval x = .pointer (some ⟨gg, 0, none⟩) := hx
  simp only [execOp, hx', hy]
  have := Lib.run_neq_ptr_same (P := P) σ.w ⟨gg, 0, none⟩ hp hi
  simp [eqGuard, this]
theorem y_tounsafe {E src dst te : TypeId} {x : Operand} {k : Nat} {b : Value} {ts : List Ty} {z : Value} {c by_ : Nat} (hs : P.underlying src = some (.pointer te)) (hd : P.underlying dst = some .unsafePointer) (he : Info P te z c by_) (hc : c ≠ 0) (h : OwnPT E σ k b ts) (hl : 0 < ts.length) (hx : a.eval x = b) :
    Yld P ⟨d, .convert src dst x, ty, pos, af, g⟩ a σ (Ty.val b).pr := by
  obtain ⟨gg, cur, rfl, h2, h3, h4, h5⟩ := h
  obtain ⟨i, hi, _, hsz, _⟩ := he.get
  refine Yld.of_run (v := .pointer (some ⟨gg, 0, none⟩)) ?_ rfl
  simp only [execOp, hx]
  have := Lib.run_to_unsafe (P := P) σ.w ⟨gg, 0, none⟩ hs hd hi (by rw [hsz]; exact hc) (e := E) (cells := cur.size) (by simp [World.shape?, h3]) (by show 0 < cur.size; omega)
  simp [this]
theorem y_fromunsafe {E src dst te : TypeId} {x : Operand} {k : Nat} {b : Value} {ts : List Ty} {z : Value} {c by_ : Nat} (hs : P.underlying src = some .unsafePointer) (hd : P.underlying dst = some (.pointer te)) (he : Info P te z c by_) (h : OwnPT E σ k b ts) (hx : a.eval x = b)
    (hlies : liesAt P P.depth E (ts.length / P.cellsOf E) 0 te 1 = true) : Yld P ⟨d, .convert src dst x, ty, pos, af, g⟩ a σ (Ty.val b).pr := by
  obtain ⟨gg, cur, rfl, h2, h3, h4, h5⟩ := h
  obtain ⟨i, hi, _⟩ := he.get
  refine Yld.of_run (v := .pointer (some ⟨gg, 0, none⟩)) ?_ rfl
  simp only [execOp, hx]
  have := Lib.run_from_unsafe (P := P) σ.w ⟨gg, 0, none⟩ hs hd hi (e := E) (cells := cur.size) (by simp [World.shape?, h3]) (by rw [h4]; exact hlies)
  simp [this]

def Ty.dptr (buf : Value) (n : Nat) : Ty := ⟨fun _ v => ∃ p, v = .pointer p ∧ (0 < n → ∃ gg m c, buf = .slice (some ⟨gg, 0, none⟩) m c ∧ p = some ⟨gg, 0, none⟩), fun _ h => h⟩
theorem y_sdata {k : Nat} {x : Operand} {e te t : TypeId} {n : Nat} {buf : Value} {ts : List Ty} (hp : P.underlying ty = some (.pointer te)) (h : Own σ k e 1 buf n ts) (hx : a.eval x = buf) :
    Yld P ⟨d, .call ⟨.builtin .unsafeSliceData, #[x], #[t]⟩, ty, pos, af, g⟩ a σ (Ty.dptr buf n).pr := by
  obtain ⟨us, r1, r2, r3, r4⟩ := h
  rcases r1.2 with ⟨rfl, hn0⟩ | ⟨gg, cap, cur, rfl, hb, hg, hn, hm, hcs, htk⟩
  · refine Yld.of_run (v := .pointer none) (run_builtin1 hx (fun cs => ?_)) ⟨none, rfl, fun h0 => by omega⟩
    show (do pure (.value (← Builtin.unsafeSliceData_ #[t] ty #[.slice none 0 0])) : Sem Next).run P σ.w = _
    rw [Sem.run_bind, Lib.run_unsafeSliceData_nil]; rfl
  · by_cases hc : cap = 0
    · subst hc
      have hn0 : n = 0 := by omega
      subst hn0
      intro K Q hk
      have hr : (execOp a.eval ⟨d, .call ⟨.builtin .unsafeSliceData, #[x], #[t]⟩, ty, pos, af, g⟩).run P σ.w = .ok (.value (.pointer (some ⟨σ.w.heap.size, 0, none⟩))) (σ.w.alloc (.view ⟨gg, 0, none⟩ te)) := by
        refine run_builtin1 hx (fun cs => ?_)
        show (do pure (.value (← Builtin.unsafeSliceData_ #[t] ty #[.slice (some ⟨gg, 0, none⟩) 0 0])) : Sem Next).run P σ.w = _
        rw [Sem.run_bind, Lib.run_unsafeSliceData_zero σ.w #[t] ty te hp ⟨gg, 0, none⟩ 0 (e, cur.size) (by simp [World.shape?, hg])]; rfl
      unfold Oper.wp
      rw [hr]
      exact hk _ (σ.mk' 0 (.view ⟨gg, 0, none⟩ te)) (Stp.mk' σ 0 _) ⟨_, rfl, fun h0 => by omega⟩
    · refine Yld.of_run (v := .pointer (some ⟨gg, 0, none⟩)) (run_builtin1 hx (fun cs => ?_)) ⟨_, rfl, fun _ => ⟨gg, n, cap, rfl, rfl⟩⟩
      show (do pure (.value (← Builtin.unsafeSliceData_ #[t] ty #[.slice (some ⟨gg, 0, none⟩) n cap])) : Sem Next).run P σ.w = _
      rw [Sem.run_bind, Lib.run_unsafeSliceData_row _ _ _ _ _ _ hc]; rfl
theorem m_sstr {k : Nat} {x y : Operand} {e t t2 : TypeId} {buf : Value} {l : List UInt8} (hk : 2 ≤ k) (hp : P.underlying t = some (.pointer e)) (hc : P.cellsOf e = 1) (h : Own σ k e 1 buf l.length (l.map Ty.byte)) (hx : At (Ty.dptr buf l.length) σ a x) (hy : a.eval y = .int .i64 ((l.length : Nat) : Int)) :
    YldM k P ⟨d, .call ⟨.builtin .unsafeString, #[x, y], #[t, t2]⟩, ty, pos, af, g⟩ a σ (fun v τ => (Ty.val (.string (bsL l))).has τ v) := by
  obtain ⟨us, r1, r2, r3, r4⟩ := h
  obtain ⟨p, hp', hpp⟩ := hx
  have step : ∀ (u : Value) (w' : World), (Builtin.unsafeString_ #[t, t2] ty #[.pointer p, .int .i64 ((l.length : Nat) : Int)]).run P σ.w = .ok u w' → (execOp a.eval ⟨d, .call ⟨.builtin .unsafeString, #[x, y], #[t, t2]⟩, ty, pos, af, g⟩).run P σ.w = .ok (.value u) w' := by
    intro u w' hb
    simp only [execOp, resolve, Sem.run_bind, Sem.run_pure, Result.andThen_ok, invoke, List.map_toArray, List.map_cons, List.map_nil, hp', hy]
    simp [builtin, Sem.run_bind, hb]
  intro K Q hK
  by_cases h0 : l = []
  · subst h0
    have hr := step _ _ (Lib.run_unsafeString_none (P := P) σ.w t t2 ty p)
    unfold Oper.wp
    rw [hr]
    exact hK _ σ ⟨rfl, rfl, rfl, Dr.refl _, Nat.le_refl _, fun _ _ _ => rfl, fun _ _ _ => rfl⟩ rfl
  · have hpos : 0 < l.length := List.length_pos_iff.2 h0
    obtain ⟨gg, m, c, rfl, rfl⟩ := hpp hpos
    rcases r1.2 with ⟨e1, _⟩ | ⟨g2, cap, cur, e1, hb, hg, hn, hm, hcs, htk⟩
    · cases e1
    · cases e1
      have hcell : ∀ j x, l[j]? = some x → σ.w.cell? ((⟨gg, 0, none⟩ : Addr).add j) = some (.int .u8 ((x.toNat : Nat) : Int)) := by
        intro j x hj
        obtain ⟨u, hu⟩ : ∃ u, us[j]? = some u := ⟨us[j]'(by rw [r2]; have := (List.getElem?_eq_some_iff.1 hj).1; simpa using this), by simp⟩
        have hT := r3 j (Ty.byte x) u (by simp [hj]) hu
        have hT' : u = .int .u8 ((x.toNat : Nat) : Int) := hT
        rw [r1.cells (g := gg) rfl j u hu, hT']
      have hr := step _ _ (Lib.run_unsafeString_row (P := P) σ.w t t2 ty e hp hc gg cur.size (by simp [World.shape?, hg]) l h0 (by omega) (by have : maxLen = 9223372036854775807 := rfl; omega) hcell)
      unfold Oper.wp
      rw [hr]
      have hgk := r4 gg rfl
      refine hK _ ⟨σ.w.freeze ⟨gg, 0, none⟩ l.length, σ.st, fun b hb' => ?_⟩ ⟨?_, ?_, ?_, ?_, ?_, fun b hb' hmm => ?_, fun _ _ _ => rfl⟩ rfl
      · have := σ.lt b hb'
        unfold World.freeze; split <;> simp <;> omega
      · show (World.freeze _ _ _).os = _; unfold World.freeze; split <;> rfl
      · show (World.freeze _ _ _).tape = _; unfold World.freeze; split <;> rfl
      · show (World.freeze _ _ _).output = _; unfold World.freeze; split <;> rfl
      · refine .inl ?_; show _ ≤ (World.freeze _ _ _).drawn; unfold World.freeze; split <;> exact Nat.le_refl _
      · show _ ≤ (World.freeze _ _ _).heap.size; unfold World.freeze; split <;> simp
      · show (World.freeze _ _ _).heap[b]? = _
        unfold World.freeze
        split
        · rfl
        · rw [Array.getElem?_modify, if_neg (by rintro rfl; simp at hmm; omega)]
end Go.KL
namespace Go.KL
theorem bAddr_f {nb : Bool} {b x : Value} (h : nb = false) (e : x = bAddr nb b) : x = bAddr false b := by rw [e, h]
def signsB (r : List Int) : List UInt8 := r.map fun k => SIGNS.get! k.toNat
theorem signsB_len (r : List Int) : (signsB r).length = r.length := by simp [signsB]
theorem signsB_take (r : List Int) (k : Nat) (h : k < r.length) : signsB (r.take (k + 1)) = signsB (r.take k) ++ [SIGNS.get! (r.getD k 0).toNat] := by
  rw [take_snoc r 0 k h]; simp [signsB]
end Go.KL

/- Cutting one out of a row that is owned: its two ends, joined in place, and the rest made zero. -/
namespace Go.KL
open Go.RowKit
variable {P : Program} {d : Option Tmp} {ty : TypeId} {pos : String} {af : Array Edge} {g : Option (Nat × Bool)} {a : Act} {σ : GW}
def preOf (v : Value) (i : Nat) : Value := match v with | .slice ad _ cap => .slice ad i cap | u => u
def sufOf (v : Value) (j : Nat) : Value := match v with | .slice ad n cap => sliced ad j n cap 1 | u => u
def tailOf (v : Value) (m h : Nat) : Value := match v with | .slice ad _ cap => sliced ad m h cap 1 | u => u
def capGe (v : Value) (n : Nat) : Prop := match v with | .slice _ _ cap => n ≤ cap | _ => False

theorem Own.form {k : Nat} {e : TypeId} {n : Nat} {v : Value} {ts : List Ty} (h : Own σ k e 1 v n ts) : ∃ ad cap, v = .slice ad n cap ∧ n ≤ cap ∧ cap ≤ 9223372036854775807 := by
  obtain ⟨us, r1, _⟩ := h
  rcases r1.2 with ⟨rfl, rfl⟩ | ⟨gg, cap, cur, rfl, _, _, hn, hm, _⟩
  · exact ⟨none, 0, rfl, Nat.le_refl _, by decide⟩
  · exact ⟨_, cap, rfl, hn, hm⟩
theorem Own.cap {k : Nat} {e : TypeId} {n : Nat} {v : Value} {ts : List Ty} (h : Own σ k e 1 v n ts) : capGe v n := by
  obtain ⟨ad, cap, rfl, hn, _⟩ := h.form; exact hn
section
variable {k : Nat} {x y y' y'' : Operand} {n : Nat} {ts : List Ty} {t e e' : TypeId} {z v : Value} {b : Nat} {ki kj kk : IntKind} (ht : P.underlying t = some (.slice e')) (he : Info P e' z 1 b) (ho : Own σ k e 1 v n ts) (hx : a.eval x = v)
include ht he ho hx
theorem y_pre {i : Nat} (hy : a.eval y = .int ki i) (hi : i ≤ n) : Yld P ⟨d, .slice t x none (some y) none, ty, pos, af, g⟩ a σ (Ty.val (preOf v i)).pr := by
  obtain ⟨ad, cap, rfl, hn, hm⟩ := ho.form
  refine Yld.of_run (v := sliced ad 0 i cap 1) ?_ ?_
  · have h1 := run_slice_h (P := P) σ.w t ad n cap (elem_of ht) ki (i : Int) (by omega) (by omega)
    rw [elem_eq ht, he.size] at h1
    simp only [execOp, hx, hy, Option.map_some, Option.map_none, Sem.run_bind, run_sliceAt_slice σ.w t _ _ _ _ (elem_of ht), h1, Result.andThen_ok, Sem.run_pure, Int.toNat_natCast]
  · show sliced ad 0 i cap 1 = preOf _ i
    unfold sliced preOf
    cases ad <;> simp [Addr.add_zero']
theorem y_suf {j : Nat} (hy : a.eval y = .int ki j) (hj : j ≤ n) : Yld P ⟨d, .slice t x (some y) none none, ty, pos, af, g⟩ a σ (Ty.val (sufOf v j)).pr := by
  obtain ⟨ad, cap, rfl, hn, hm⟩ := ho.form
  refine Yld.of_run (v := sliced ad j n cap 1) ?_ rfl
  have h1 := run_slice_l (P := P) σ.w t ad n cap (elem_of ht) ki (j : Int) (by omega) (by omega)
  rw [elem_eq ht, he.size] at h1
  simp only [execOp, hx, hy, Option.map_some, Option.map_none, Sem.run_bind, run_sliceAt_slice σ.w t _ _ _ _ (elem_of ht), h1, Result.andThen_ok, Sem.run_pure, Int.toNat_natCast]
end
theorem m_clr {k : Nat} {t e : TypeId} {z : Value} {by_ : Nat} {x : Operand} {m h : Nat} {v : Value} {ts : List Ty} (ht : P.underlying t = some (.slice e)) (he : Info P e z 1 by_) (hz : z.cells = #[z]) (hz1 : z.oneCell' = true) (hk : 2 ≤ k)
    (ho : Own σ k e 1 v m ts) (hx : a.eval x = tailOf v m h) (hm : m < h) (hh : capGe v h) :
    YldM k P ⟨d, .call ⟨.builtin .clear, #[x], #[t]⟩, ty, pos, af, g⟩ a σ (fun _ τ => Own τ k e 1 v m ts) := by
  obtain ⟨us, r1, r2, r3, r4⟩ := ho
  rcases r1.2 with ⟨rfl, h0⟩ | ⟨gg, cap, cur, rfl, _, hg, hn, hmm, hcs, htk⟩
  · have : h ≤ 0 := hh
    omega
  · have hh' : h ≤ cap := hh
    have hx' : a.eval x = .slice (some ⟨gg, m, none⟩) (h - m) (cap - m) := by
      rw [hx]
      show sliced (some ⟨gg, 0, none⟩) m h cap 1 = _
      unfold sliced
      rw [if_neg (by omega)]
      simp [Addr.add_lit]
    have hr := Lib.run_clear_slice (P := P) σ.w t e ty z ht he.zero hz hz1 gg m (h - m) (cap - m) (by omega) (fun q hq => by simp [World.cell?, hg, show m + q < cur.size by omega]) (fun q hq => by simp [World.frozen?, hg])
    intro K Q hK
    have hr' : (execOp a.eval ⟨d, .call ⟨.builtin .clear, #[x], #[t]⟩, ty, pos, af, g⟩).run P σ.w = .ok (.value (.tuple #[])) (σ.w.setCells gg m (List.replicate (h - m) z)) := by
      refine run_builtin1 hx' (fun cs => ?_)
      show (do pure (.value (← Builtin.clear_ #[t] ty #[.slice (some ⟨gg, m, none⟩) (h - m) (cap - m)])) : Sem Next).run P σ.w = _
      rw [Sem.run_bind, hr]; rfl
    unfold Oper.wp
    rw [hr']
    obtain ⟨cur', c1, c2, c3, c4, c5, c6⟩ := heap_setCells (b := gg) (e := e) (List.replicate (h - m) z) m σ.w cur hg (by simp; omega)
    have hstp : Stp k σ ⟨σ.w.setCells gg m (List.replicate (h - m) z), σ.st, fun b hb => by rw [c5]; exact σ.lt b hb⟩ :=
      ⟨World.os_setCells _ _ _ _, c6, World.output_setCells _ _ _ _, by (refine .inl ?_; show _ ≤ (World.setCells _ _ _ _).drawn; rw [drawn_setCells]; exact Nat.le_refl _), by rw [c5]; exact Nat.le_refl _, fun b hb hmk => World.heap_setCells_other _ _ _ _ hb (fun e0 => by
        have h4 := r4 gg rfl
        rw [← e0] at h4
        rcases hmk with h5 | h5
        · omega
        · exact h5 h4), fun _ _ _ => rfl⟩
    refine hK _ _ hstp (Own.intro (us := us) c1 (r4 gg rfl) hn hmm (by rw [c2, hcs]) ?_ r2 (fun q U u hU hu => U.up (hstp.le (by omega)) (r3 q U u hU hu)))
    rw [← htk]
    apply List.ext_getElem?
    intro q
    rw [List.getElem?_take, List.getElem?_take]
    by_cases hq : q < m * 1
    · rw [if_pos hq, if_pos hq]
      have := c4 q (by omega)
      simpa using this
    · rw [if_neg hq, if_neg hq]
theorem one_map {α : Type} {f : α → Ty} {xs : List α} (h : ∀ x, One (f x)) : ∀ U, U ∈ xs.map f → One U := fun U hU => by
  obtain ⟨x, _, rfl⟩ := List.mem_map.1 hU; exact h x
end Go.KL

/- All rows, each once: the way that is looked for; what rows may generate. -/
namespace Go.KL
/-! ### What may generate -/
def gensTo (n : Int) : List (List Int) → Int
  | [] => 0
  | g :: l => if rowMay g ≠ 0 then rowMay g else if ((g.length : Nat) : Int) ≠ n then 1 else gensTo n l
def gensMay (n : Int) (l : List (List Int)) : Int := if n < 1 ∨ 12 < n ∨ 8 < l.length then 1 else gensTo n l
theorem gensTo_ok {n : Int} : ∀ {l : List (List Int)}, gensTo n l = 0 → ∀ g ∈ l, IsRow g ∧ ((g.length : Nat) : Int) = n
  | [], _, g, hg => by cases hg
  | x :: l, h, g, hg => by
    rw [gensTo] at h
    split at h
    · contradiction
    · rename_i h1
      split at h
      · cases h
      · rename_i h2
        rcases List.mem_cons.1 hg with rfl | hg
        · exact ⟨rowMay_ok.1 (Classical.not_not.1 h1), Classical.not_not.1 h2⟩
        · exact gensTo_ok h g hg
theorem gensMay_ok {n : Int} {l : List (List Int)} (h : gensMay n l = 0) : (1 ≤ n ∧ n ≤ 12 ∧ l.length ≤ 8) ∧ ∀ k, k < l.length → IsRow (l.getD k []) ∧ (((l.getD k []).length : Nat) : Int) = n := by
  unfold gensMay at h
  split at h
  · cases h
  · rename_i hc
    refine ⟨by omega, fun k hk => gensTo_ok h _ ?_⟩
    simp [hk]

/-! ### The order of a row, taken again and again -/
theorem ordTo_least {r : List Int} (hr : IsRow r) {m : Nat} (h : ∀ j, j < (cyclesL r).length → ((cyclesL r).getD j []).length ∣ m) : ∀ k, k ≤ (cyclesL r).length → ordTo (cyclesL r) k ∣ m
  | 0, _ => by simp [ordTo]
  | k + 1, hk => by
    rw [ordTo_succ _ _ (by omega), lcm_form _ _ (cyc_len hr (k := k) (by omega)).1]
    exact Nat.lcm_dvd (ordTo_least hr h k (by omega)) (h k (by omega))
theorem per_dvd {r : List Int} (hr : IsRow r) {b m : Nat} (hb : b < r.length) (h : itr r b m = b) : per r b ∣ m := by
  have hp := per_spec hr hb
  have hq : itr r b (m % per r b) = b := by
    have e : m = per r b * (m / per r b) + m % per r b := (Nat.div_add_mod m (per r b)).symm
    rw [e, itr_add, itr_mul hp.2.2.1] at h
    exact h
  have hl := Nat.mod_lt m (show 0 < per r b by omega)
  rcases Nat.eq_zero_or_pos (m % per r b) with h0 | h0
  · exact Nat.dvd_of_mod_eq_zero h0
  · exact absurd hq (hp.2.2.2 _ h0 hl)
theorem ordL_least {r : List Int} (hr : IsRow r) {m : Nat} (h : ∀ b, b < r.length → itr r b m = b) : ordL r ∣ m := by
  refine ordTo_least hr (fun j hj => ?_) _ (Nat.le_refl _)
  obtain ⟨b, hb, _, e⟩ := cyc_mem (r := r) (c := (cyclesL r).getD j []) (by simp [hj])
  rw [e, orb_len]
  exact per_dvd hr hb (h b hb)
theorem pow_rounds {n : Nat} {h : List Int} (hr : IsRow h) (hl : h.length = n) {m : Nat} (e : powL n h m = roundsL n) : ordL h ∣ m := by
  refine ordL_least hr fun b hb => ?_
  have := powL_get hr hl m b (by omega)
  rw [e, roundsL_get (by omega)] at this
  omega
theorem pow_one {n : Nat} {h : List Int} (hr : IsRow h) (hl : h.length = n) : powL n h 1 = h := by
  subst hl
  exact byL_rounds_left hr.bds
theorem pow_stop {r : List Int} (hr : IsRow r) {m : Nat} (h1 : 1 ≤ m) (h2 : m ≤ ordL r) : powL r.length r m = roundsL r.length ↔ m = ordL r := by
  constructor
  · intro e
    have := Nat.le_of_dvd (by omega) (pow_rounds hr rfl e)
    omega
  · rintro rfl; exact powL_ord hr rfl

theorem par_ne (a b : Nat) : decide ((a + b) % 2 = 1) = (decide (a % 2 = 1) != decide (b % 2 = 1)) := par_add a b
def wrN (r : List Int) : Nat → Nat
  | 0 => 0
  | i + 1 => wrN r i + (r.take i).countP fun x => decide (r.getD i 0 < x)
theorem wrN_le (r : List Int) : ∀ i, wrN r i ≤ i * i
  | 0 => by simp [wrN]
  | i + 1 => by
    have := wrN_le r i
    have h1 : (r.take i).countP (fun x => decide (r.getD i 0 < x)) ≤ (r.take i).length := List.countP_le_length
    have h2 : (r.take i).length ≤ i := List.length_take_le _ _
    rw [wrN, Nat.succ_mul, Nat.mul_succ]; omega
theorem invB_snoc : ∀ (l : List Int) (x : Int), invB (l ++ [x]) = (invB l != decide ((l.countP fun y => decide (x < y)) % 2 = 1))
  | [], x => by simp [invB]
  | y :: l, x => by
    rw [List.cons_append, invB, invB, invB_snoc l x, List.countP_append, List.countP_cons, List.countP_cons, List.countP_nil]
    by_cases h : x < y
    · simp only [decide_eq_true h, if_true, Nat.zero_add, par_ne]
      cases invB l <;> cases decide (l.countP (fun z => decide (z < y)) % 2 = 1) <;> cases decide (l.countP (fun z => decide (x < z)) % 2 = 1) <;> rfl
    · simp only [decide_eq_false h, Nat.add_zero, Bool.false_eq_true, if_false]
      cases invB l <;> cases decide (l.countP (fun z => decide (z < y)) % 2 = 1) <;> cases decide (l.countP (fun z => decide (x < z)) % 2 = 1) <;> rfl
theorem wrN_inv (r : List Int) : ∀ i, i ≤ r.length → decide (wrN r i % 2 = 1) = invB (r.take i)
  | 0, _ => by simp [wrN, invB]
  | i + 1, h => by
    rw [wrN, par_ne, wrN_inv r i (by omega), take_snoc r 0 i (by omega), invB_snoc]

/-! ### The way -/
structure Tour (n : Nat) (cs : List (List Int)) (rows : List (List Int)) (path : List Int) (r : List Int) : Prop where
  len : rows.length = path.length + 1
  row : ∀ x ∈ rows, IsRow x ∧ x.length = n
  nd : rows.Nodup
  last : rows.getD (rows.length - 1) [] = r
  csr : ∀ k, k < cs.length → IsRow (cs.getD k []) ∧ (cs.getD k []).length = n
  nn : 1 ≤ n ∧ n ≤ 4
  cl : cs.length ≤ 8
theorem Tour.rr {n : Nat} {cs rows : List (List Int)} {path r : List Int} (h : Tour n cs rows path r) : IsRow r ∧ r.length = n := by
  refine h.row r ?_
  have hl : rows.length - 1 < rows.length := by have := h.len; omega
  rw [← h.last]
  have e : rows.getD (rows.length - 1) [] = rows[rows.length - 1] := by simp [hl]
  rw [e]; exact List.getElem_mem hl
theorem Tour.x {n : Nat} {cs rows : List (List Int)} {path r : List Int} (h : Tour n cs rows path r) {k : Nat} (hk : k < cs.length) : IsRow (byL r (cs.getD k [])) ∧ (byL r (cs.getD k [])).length = n := by
  have h1 := h.rr
  have h2 := h.csr k hk
  exact ⟨byL_row h1.1 h2.1 (by omega), by rw [byL_len]; exact h2.2⟩
theorem rows_le {n : Nat} {rows : List (List Int)} (h : ∀ x ∈ rows, IsRow x ∧ x.length = n) (hn : rows.Nodup) : rows.length ≤ fct n := by
  have := nodup_len (fct n) (rows.map fun x => ((rankL x : Nat) : Int)) (by
    refine List.pairwise_map.2 (hn.imp_of_mem ?_)
    intro a b ha hb hab e
    refine hab (rank_row_inj (h a ha).1 (h b hb).1 (by rw [(h a ha).2, (h b hb).2]) (by omega))) (fun x hx => by
    obtain ⟨y, hy, rfl⟩ := List.mem_map.1 hx
    have := rankL_lt y
    rw [(h y hy).2] at this
    omega)
  simpa using this
theorem Tour.next {n : Nat} {cs rows : List (List Int)} {path r : List Int} (h : Tour n cs rows path r) {k : Nat} (hk : k < cs.length) (hx : byL r (cs.getD k []) ∉ rows) : Tour n cs (rows ++ [byL r (cs.getD k [])]) (path ++ [(k : Int)]) (byL r (cs.getD k [])) := by
  refine ⟨by simp [h.len], fun x hxm => ?_, ?_, by simp, h.csr, h.nn, h.cl⟩
  · rcases List.mem_append.1 hxm with hm | hm
    · exact h.row x hm
    · simp at hm; subst hm; exact h.x hk
  · refine List.nodup_append.2 ⟨h.nd, by simp, fun a ha b hb => ?_⟩
    simp at hb; subst hb
    rintro rfl; exact hx ha
theorem Tour.full {n : Nat} {cs rows : List (List Int)} {path r : List Int} (h : Tour n cs rows path r) {x : List Int} (hx : IsRow x ∧ x.length = n) (hn : x ∉ rows) : path.length + 1 < fct n := by
  have := rows_le (n := n) (rows := rows ++ [x]) (fun y hy => by
    rcases List.mem_append.1 hy with hm | hm
    · exact h.row y hm
    · simp at hm; subst hm; exact hx) (List.nodup_append.2 ⟨h.nd, by simp, fun a ha b hb => by simp at hb; subst hb; rintro rfl; exact hn ha⟩)
  simp at this
  have := h.len
  omega
theorem Tour.lt {n : Nat} {cs rows : List (List Int)} {path r : List Int} (h : Tour n cs rows path r) : path.length < fct n ∧ fct n ≤ 24 := by
  have h1 := rows_le h.row h.nd
  have h2 := h.len
  have h3 : fct n ≤ fct 4 := fct_mono h.nn.2
  have h4 : fct 4 = 24 := by decide
  omega
def SeenT (n : Nat) (rows : List (List Int)) (f : Int → Option Int) : Prop := ∀ x, IsRow x → x.length = n → (f ((rankL x : Nat) : Int)).getD 0 = if x ∈ rows then 1 else 0
theorem SeenT.put {n : Nat} {rows : List (List Int)} {f : Int → Option Int} (h : SeenT n rows f) {x : List Int} (hx : IsRow x ∧ x.length = n) : SeenT n (rows ++ [x]) (fun p => if p = ((rankL x : Nat) : Int) then some 1 else f p) := by
  intro y hy hl
  by_cases e : y = x
  · subst e; simp
  · have hne : rankL y ≠ rankL x := fun hh => e (rank_row_inj hy hx.1 (by omega) hh)
    simp only [Int.natCast_inj, if_neg hne]
    rw [h y hy hl]
    simp [e]
theorem SeenT.drop {n : Nat} {rows : List (List Int)} {f : Int → Option Int} {x : List Int} (h : SeenT n (rows ++ [x]) f) (hx : IsRow x ∧ x.length = n) (hn : x ∉ rows) : SeenT n rows (fun p => if p = ((rankL x : Nat) : Int) then some 0 else f p) := by
  intro y hy hl
  by_cases e : y = x
  · subst e; simp [hn]
  · have hne : rankL y ≠ rankL x := fun hh => e (rank_row_inj hy hx.1 (by omega) hh)
    simp only [Int.natCast_inj, if_neg hne]
    rw [h y hy hl]
    simp [e]
end Go.KL
namespace Go.KL
section
variable {F : List (List Int) → List Int → Option (List Int)} {cs : List (List Int)} {N : Nat} {rows : List (List Int)} {path r : List Int} {k : Nat} (hl : rows.getD (rows.length - 1) [] = r)
include hl
end
theorem Tour.start {n : Int} {cs : List (List Int)} (h : ¬ (n < 1 ∨ 4 < n ∨ 8 < cs.length)) (h2 : ¬ gensMay n cs ≠ 0) : Tour n.toNat cs [roundsL n.toNat] [] (roundsL n.toNat) := by
  have hg := gensMay_ok (Classical.not_not.1 h2)
  refine ⟨rfl, fun x hx => ?_, by simp, rfl, fun k hk => ⟨(hg.2 k hk).1, by have := (hg.2 k hk).2; omega⟩, ⟨by omega, by omega⟩, by omega⟩
  simp at hx; subst hx
  exact ⟨roundsL_row (by omega) (by omega), roundsL_len _⟩
end Go.KL
namespace Go.KL
end Go.KL

/- All rows, each once: what is found rings, and nothing ahead of it does. -/
namespace Go.KL
def belowL : List Int → List Int → Bool
  | [], b => decide (0 < b.length)
  | _ :: _, [] => false
  | x :: a, y :: b => if x = y then belowL a b else decide (x < y)
def SeenB (n : Nat) (vis : List (List Int)) (f : Int → Option Bool) : Prop := ∀ x, IsRow x → x.length = n → (f ((rankL x : Nat) : Int)).getD false = decide (x ∈ vis)
theorem SeenB.put {n : Nat} {vis : List (List Int)} {f : Int → Option Bool} (h : SeenB n vis f) {x : List Int} (hx : IsRow x) (hl : x.length = n) : SeenB n (vis ++ [x]) (fun p => if p = ((rankL x : Nat) : Int) then some true else f p) := by
  intro y hy hly
  by_cases e : y = x
  · subst e; simp
  · have hne : rankL y ≠ rankL x := fun hh => e (rank_row_inj hy hx (by omega) hh)
    simp only [Int.natCast_inj, if_neg hne]
    rw [h y hy hly]
    simp [e]
end Go.KL

/- Rows read and written as text; the row at a place; the laws of rows. -/
namespace Go.KL
theorem run1_lo {s : ByteArray} {p : Nat} (hb : (s.get! p).toNat < 128) : run1 s p = (s.get! p).toNat ∧ wid s p = 1 := by
  unfold run1 wid Utf8.decode
  simp only [Nat.add_zero]
  rw [if_pos hb]
  exact ⟨rfl, rfl⟩
theorem run1_bd (s : ByteArray) (p : Nat) : run1 s p ≤ 1114111 := by
  unfold run1 Utf8.decode
  simp only
  have hm : ∀ m : Nat, m % 64 < 64 := fun m => Nat.mod_lt _ (by decide)
  have hv : ∀ c : Nat, Utf8.valid ((c : Nat) : Int) = true → c ≤ 1114111 := fun c h => by
    unfold Utf8.valid at h
    simp only [Bool.or_eq_true, Bool.and_eq_true, decide_eq_true_eq] at h
    omega
  repeat' split
  all_goals first
    | (show Utf8.runeError ≤ _; decide)
    | (rename_i h; simp only [Bool.and_eq_true] at h; exact hv _ h.2)
    | (have h1 := hm (s.get! (p + 1)).toNat
       have h2 : (s.get! (p + 0)).toNat % 32 < 32 := Nat.mod_lt _ (by decide)
       simp only []
       omega)
theorem signs_inj {i j : Nat} (hi : i < 12) (hj : j < 12) (h : (SIGNS.get! i).toNat = (SIGNS.get! j).toNat) : i = j := by
  have : ∀ i j : Fin 12, (SIGNS.get! i).toNat = (SIGNS.get! j).toNat → i = j := by decide
  have := this ⟨i, hi⟩ ⟨j, hj⟩ h
  simpa using this
theorem sign_of {k : Nat} (h : k < 12) : signIdx (((SIGNS.get! k).toNat : Nat) : Int) = k := by
  have h1 := signs_lt h
  rw [signIdx_lo (by omega) (by omega)]
  refine ixs_yes (by omega) (by omega) (by rw [signs_size]; exact h) rfl (fun j hj e => ?_)
  have := signs_inj (i := j) (j := k) (by omega) h (by omega)
  omega
theorem bsL_size (l : List UInt8) : (bsL l).size = l.length := by simp [bsL, ByteArray.size]
theorem bsL_get {l : List UInt8} {j : Nat} (h : j < l.length) : (bsL l).get! j = l[j] := by
  rw [get_list (by rw [bsL_size]; exact h)]
  simp [bsL]
end Go.KL
namespace Go.KL
end Go.KL

/- Runes as the document reads them: -1 for a byte that is none. -/
namespace Go.KL
def runM (s : ByteArray) (p : Nat) : Int := if run1 s p = 65533 ∧ wid s p = 1 then -1 else run1 s p
def nB (b : Nat) : Nat := if 194 ≤ b ∧ b < 224 then 2 else if 224 ≤ b ∧ b < 240 then 3 else if 240 ≤ b ∧ b < 245 then 4 else 0
def cB (b : Nat) : Nat := if 194 ≤ b ∧ b < 224 then b - 192 else if 224 ≤ b ∧ b < 240 then b - 224 else if 240 ≤ b ∧ b < 245 then b - 240 else b
def lowB (b : Nat) : Nat := if 194 ≤ b ∧ b < 224 then 128 else if 224 ≤ b ∧ b < 240 then 2048 else if 240 ≤ b ∧ b < 245 then 65536 else 0
def accR (s : ByteArray) (c : Nat) : Nat → Nat
  | 0 => c
  | j + 1 => accR s c j * 64 + ((s.get! (j + 1)).toNat - 128)
theorem accR1 (s : ByteArray) (c : Nat) : accR s c 1 = c * 64 + ((s.get! 1).toNat - 128) := rfl
theorem accR2 (s : ByteArray) (c : Nat) : accR s c 2 = (c * 64 + ((s.get! 1).toNat - 128)) * 64 + ((s.get! 2).toNat - 128) := rfl
theorem accR3 (s : ByteArray) (c : Nat) : accR s c 3 = ((c * 64 + ((s.get! 1).toNat - 128)) * 64 + ((s.get! 2).toNat - 128)) * 64 + ((s.get! 3).toNat - 128) := rfl
def decP (s : ByteArray) (N : Nat) : Nat × Nat := Lib.decodeN N (s.get! 0).toNat (s.get! 1).toNat (s.get! 2).toNat (s.get! 3).toNat
theorem dec0 (s : ByteArray) : Utf8.decode s 0 = decP s s.size := by rw [Lib.decode_at]; rfl
theorem runM_of {s : ByteArray} {c n : Nat} (h : decP s s.size = (c, n)) (hn : n ≠ 1 ∨ c ≠ 65533) : runM s 0 = c ∧ wid s 0 = n := by
  unfold runM run1 wid
  rw [dec0, h]
  refine ⟨if_neg ?_, rfl⟩
  simp only; omega
theorem runM_no {s : ByteArray} (h : decP s s.size = (65533, 1)) : runM s 0 = -1 ∧ wid s 0 = 1 := by
  unfold runM run1 wid
  rw [dec0, h]
  exact ⟨if_pos ⟨rfl, rfl⟩, rfl⟩
theorem rn_low {s : ByteArray} (h : (s.get! 0).toNat < 128) : runM s 0 = (s.get! 0).toNat ∧ wid s 0 = 1 :=
  runM_of (by unfold decP Lib.decodeN; rw [if_pos h]) (by omega)
theorem nB_cases {b j : Nat} (h0 : nB b ≠ 0) (hj : j + 1 = nB b) : (j = 1 ∧ 194 ≤ b ∧ b < 224) ∨ (j = 2 ∧ 224 ≤ b ∧ b < 240) ∨ (j = 3 ∧ 240 ≤ b ∧ b < 245) := by
  unfold nB at hj h0
  by_cases h1 : 194 ≤ b ∧ b < 224
  · rw [if_pos h1] at hj; exact .inl ⟨by omega, h1⟩
  · rw [if_neg h1] at hj h0
    by_cases h2 : 224 ≤ b ∧ b < 240
    · rw [if_pos h2] at hj; exact .inr (.inl ⟨by omega, h2⟩)
    · rw [if_neg h2] at hj h0
      by_cases h3 : 240 ≤ b ∧ b < 245
      · rw [if_pos h3] at hj; exact .inr (.inr ⟨by omega, h3⟩)
      · rw [if_neg h3] at h0; omega
section
variable {s : ByteArray} (h128 : ¬ (s.get! 0).toNat < 128)
include h128 in
set_option maxRecDepth 100000 in
set_option maxHeartbeats 4000000 in
theorem rn_short (h : nB (s.get! 0).toNat = 0 ∨ s.size < nB (s.get! 0).toNat) (h1 : 1 ≤ s.size) : runM s 0 = -1 ∧ wid s 0 = 1 := by
  refine runM_no ?_
  have l1 := UInt8.toNat_lt (s.get! 1)
  have l2 := UInt8.toNat_lt (s.get! 2)
  have l3 := UInt8.toNat_lt (s.get! 3)
  have l0 := UInt8.toNat_lt (s.get! 0)
  unfold decP
  generalize (s.get! 0).toNat = b0 at *
  generalize (s.get! 1).toNat = b1 at *
  generalize (s.get! 2).toNat = b2 at *
  generalize (s.get! 3).toNat = b3 at *
  unfold nB at h
  unfold Lib.decodeN
  repeat' split
  all_goals first | rfl | (exfalso; split at h <;> (try split at h) <;> (try split at h) <;> omega)
set_option maxRecDepth 100000 in
set_option maxHeartbeats 4000000 in
theorem rn_cont {j : Nat} (hj : j + 1 < nB (s.get! 0).toNat) (h : (s.get! (j + 1)).toNat < 128 ∨ 192 ≤ (s.get! (j + 1)).toNat) : runM s 0 = -1 ∧ wid s 0 = 1 := by
  refine runM_no ?_
  have l1 := UInt8.toNat_lt (s.get! 1)
  have l2 := UInt8.toNat_lt (s.get! 2)
  have l3 := UInt8.toNat_lt (s.get! 3)
  have l0 := UInt8.toNat_lt (s.get! 0)
  have hj4 : j = 0 ∨ j = 1 ∨ j = 2 := by
    unfold nB at hj
    repeat' split at hj
    all_goals omega
  unfold decP
  rcases hj4 with rfl | rfl | rfl <;> simp only [Nat.zero_add, Nat.reduceAdd] at h hj <;> generalize (s.get! 0).toNat = b0 at * <;> generalize (s.get! 1).toNat = b1 at * <;> generalize (s.get! 2).toNat = b2 at * <;> generalize (s.get! 3).toNat = b3 at * <;> unfold nB at hj <;> unfold Lib.decodeN
  all_goals repeat' split
  all_goals first | rfl | (exfalso; split at hj <;> (try split at hj) <;> (try split at hj) <;> omega)
set_option maxRecDepth 2000 in
set_option maxHeartbeats 4000000 in
theorem rn_all (h0 : nB (s.get! 0).toNat ≠ 0) (hs : nB (s.get! 0).toNat ≤ s.size) {j : Nat} (hj : j + 1 = nB (s.get! 0).toNat) (hc : ∀ i, i < j → 128 ≤ (s.get! (i + 1)).toNat ∧ (s.get! (i + 1)).toNat < 192) :
    decP s s.size = if accR s (cB (s.get! 0).toNat) j < lowB (s.get! 0).toNat ∨ 1114111 < accR s (cB (s.get! 0).toNat) j ∨ (55296 ≤ accR s (cB (s.get! 0).toNat) j ∧ accR s (cB (s.get! 0).toNat) j < 57344) then (65533, 1) else (accR s (cB (s.get! 0).toNat) j, nB (s.get! 0).toNat) := by
  have l0 := UInt8.toNat_lt (s.get! 0)
  have hj4 := nB_cases h0 hj
  refine hj4.elim (fun ⟨e, q⟩ => ?_) (fun h => h.elim (fun ⟨e, q⟩ => ?_) (fun ⟨e, q⟩ => ?_))
  · rw [e]
    have c1 := hc 0 (by rw [e]; exact Nat.one_pos)
    rw [Nat.zero_add] at c1
    rw [accR1]
    unfold decP
    clear hc hj h0
    generalize (s.get! 0).toNat = b0 at *
    generalize (s.get! 1).toNat = b1 at *
    have e1 : nB b0 = 2 := by unfold nB; rw [if_pos q]
    have e2 : cB b0 = b0 - 192 := by unfold cB; rw [if_pos q]
    have e3 : lowB b0 = 128 := by unfold lowB; rw [if_pos q]
    rw [e1] at hs
    rw [e1, e2, e3]
    unfold Lib.decodeN
    repeat' split
    all_goals first | (exfalso; omega) | (apply Prod.ext <;> simp only <;> omega)
  · rw [e]
    have c1 := hc 0 (by omega)
    have c2 := hc 1 (by omega)
    simp only [Nat.zero_add, Nat.reduceAdd] at c1 c2
    rw [accR2]
    clear hc hj h0
    unfold decP
    generalize (s.get! 0).toNat = b0 at *
    generalize (s.get! 1).toNat = b1 at *
    generalize (s.get! 2).toNat = b2 at *
    have e1 : nB b0 = 3 := by unfold nB; rw [if_neg (by omega), if_pos q]
    have e2 : cB b0 = b0 - 224 := by unfold cB; rw [if_neg (by omega), if_pos q]
    have e3 : lowB b0 = 2048 := by unfold lowB; rw [if_neg (by omega), if_pos q]
    rw [e1] at hs
    rw [e1, e2, e3]
    unfold Lib.decodeN
    repeat' split
    all_goals first | (exfalso; omega) | (apply Prod.ext <;> simp only <;> omega)
  · rw [e]
    have c1 := hc 0 (by omega)
    have c2 := hc 1 (by omega)
    have c3 := hc 2 (by omega)
    simp only [Nat.zero_add, Nat.reduceAdd] at c1 c2 c3
    rw [accR3]
    clear hc hj h0
    unfold decP
    generalize (s.get! 0).toNat = b0 at *
    generalize (s.get! 1).toNat = b1 at *
    generalize (s.get! 2).toNat = b2 at *
    generalize (s.get! 3).toNat = b3 at *
    have e1 : nB b0 = 4 := by unfold nB; rw [if_neg (by omega), if_neg (by omega), if_pos q]
    have e2 : cB b0 = b0 - 240 := by unfold cB; rw [if_neg (by omega), if_neg (by omega), if_pos q]
    have e3 : lowB b0 = 65536 := by unfold lowB; rw [if_neg (by omega), if_neg (by omega), if_pos q]
    rw [e1] at hs
    rw [e1, e2, e3]
    unfold Lib.decodeN
    repeat' split
    all_goals first | (exfalso; omega) | (apply Prod.ext <;> simp only <;> omega)
end
theorem nb2 {b : Nat} (h : 194 ≤ b ∧ b < 224) : nB b = 2 ∧ cB b = b - 192 ∧ lowB b = 128 := by unfold nB cB lowB; rw [if_pos h, if_pos h, if_pos h]; exact ⟨rfl, rfl, rfl⟩
theorem nb3 {b : Nat} (h : 224 ≤ b ∧ b < 240) : nB b = 3 ∧ cB b = b - 224 ∧ lowB b = 2048 := by
  have h1 : ¬ (194 ≤ b ∧ b < 224) := by omega
  unfold nB cB lowB; rw [if_neg h1, if_neg h1, if_neg h1, if_pos h, if_pos h, if_pos h]; exact ⟨rfl, rfl, rfl⟩
theorem nb4 {b : Nat} (h : 240 ≤ b ∧ b < 245) : nB b = 4 ∧ cB b = b - 240 ∧ lowB b = 65536 := by
  have h1 : ¬ (194 ≤ b ∧ b < 224) := by omega
  have h2 : ¬ (224 ≤ b ∧ b < 240) := by omega
  unfold nB cB lowB; rw [if_neg h1, if_neg h1, if_neg h1, if_neg h2, if_neg h2, if_neg h2, if_pos h, if_pos h, if_pos h]; exact ⟨rfl, rfl, rfl⟩
theorem nb0 {b : Nat} (h1 : ¬ (194 ≤ b ∧ b < 224)) (h2 : ¬ (224 ≤ b ∧ b < 240)) (h3 : ¬ (240 ≤ b ∧ b < 245)) : nB b = 0 ∧ cB b = b ∧ lowB b = 0 := by
  unfold nB cB lowB; rw [if_neg h1, if_neg h1, if_neg h1, if_neg h2, if_neg h2, if_neg h2, if_neg h3, if_neg h3, if_neg h3]; exact ⟨rfl, rfl, rfl⟩
theorem nb_bd (b : Nat) : nB b ≤ 4 ∧ (nB b ≠ 0 → cB b ≤ 31) := by
  by_cases h1 : 194 ≤ b ∧ b < 224
  · have := nb2 h1; omega
  · by_cases h2 : 224 ≤ b ∧ b < 240
    · have := nb3 h2; omega
    · by_cases h3 : 240 ≤ b ∧ b < 245
      · have := nb4 h3; omega
      · have := nb0 h1 h2 h3; omega
theorem acc_bd {s : ByteArray} {c j : Nat} (hc : c ≤ 63) (h : ∀ i, i < j → 128 ≤ (s.get! (i + 1)).toNat ∧ (s.get! (i + 1)).toNat < 192) (hj : j ≤ 3) : accR s c j < 16777216 := by
  have h3 : j = 0 ∨ j = 1 ∨ j = 2 ∨ j = 3 := by omega
  rcases h3 with e | e | e | e
  · rw [e]; show c < _; omega
  · have h0 := h 0 (by omega)
    rw [e, accR1]; simp only [Nat.zero_add] at h0; omega
  · have h0 := h 0 (by omega); have h1 := h 1 (by omega)
    rw [e, accR2]; simp only [Nat.zero_add, Nat.reduceAdd] at h0 h1; omega
  · have h0 := h 0 (by omega); have h1 := h 1 (by omega); have h2 := h 2 (by omega)
    rw [e, accR3]; simp only [Nat.zero_add, Nat.reduceAdd] at h0 h1 h2; omega
theorem acc_snoc {s : ByteArray} {j : Nat} (h : ∀ i, i < j → 128 ≤ (s.get! (i + 1)).toNat ∧ (s.get! (i + 1)).toNat < 192) (h1 : 128 ≤ (s.get! (j + 1)).toNat) (h2 : (s.get! (j + 1)).toNat < 192) : ∀ i, i < j + 1 → 128 ≤ (s.get! (i + 1)).toNat ∧ (s.get! (i + 1)).toNat < 192 := by
  intro i hi
  by_cases e : i = j
  · rw [e]; exact ⟨h1, h2⟩
  · exact h i (by omega)
theorem rn_bad {s : ByteArray} (h0 : nB (s.get! 0).toNat ≠ 0) (hs : nB (s.get! 0).toNat ≤ s.size) {j : Nat} (hj : j + 1 = nB (s.get! 0).toNat) (hc : ∀ i, i < j → 128 ≤ (s.get! (i + 1)).toNat ∧ (s.get! (i + 1)).toNat < 192)
    (h : accR s (cB (s.get! 0).toNat) j < lowB (s.get! 0).toNat ∨ 1114111 < accR s (cB (s.get! 0).toNat) j ∨ (55296 ≤ accR s (cB (s.get! 0).toNat) j ∧ accR s (cB (s.get! 0).toNat) j < 57344)) : runM s 0 = -1 ∧ wid s 0 = 1 :=
  runM_no (by rw [rn_all h0 hs hj hc, if_pos h])
theorem rn_ok {s : ByteArray} (h0 : nB (s.get! 0).toNat ≠ 0) (hs : nB (s.get! 0).toNat ≤ s.size) {j : Nat} (hj : j + 1 = nB (s.get! 0).toNat) (hc : ∀ i, i < j → 128 ≤ (s.get! (i + 1)).toNat ∧ (s.get! (i + 1)).toNat < 192)
    (h : ¬ (accR s (cB (s.get! 0).toNat) j < lowB (s.get! 0).toNat ∨ 1114111 < accR s (cB (s.get! 0).toNat) j ∨ (55296 ≤ accR s (cB (s.get! 0).toNat) j ∧ accR s (cB (s.get! 0).toNat) j < 57344))) : runM s 0 = accR s (cB (s.get! 0).toNat) j ∧ wid s 0 = nB (s.get! 0).toNat :=
  runM_of (by rw [rn_all h0 hs hj hc, if_neg h]) (by have := nB_cases h0 hj; omega)
/-! ### All runes of a text -/
def runsF (s : ByteArray) : Nat → Nat → List Int
  | 0, _ => []
  | f + 1, p => if p < s.size then runM s p :: runsF s f (p + wid s p) else []
def runsL (s : ByteArray) : List Int := runsF s s.size 0
theorem runsF_end {s : ByteArray} {f p : Nat} (h : s.size ≤ p) : runsF s f p = [] := by cases f <;> simp [runsF, show ¬ p < s.size by omega]
theorem runsF_step {s : ByteArray} {f p : Nat} {xs zs : List Int} (h : xs ++ runsF s f p = zs) (hp : p < s.size) (hf : s.size ≤ f + p) : (xs ++ [runM s p]) ++ runsF s (f - 1) (p + wid s p) = zs := by
  obtain ⟨f, rfl⟩ : ∃ g, f = g + 1 := ⟨f - 1, by omega⟩
  rw [runsF, if_pos hp] at h
  rw [← h]; simp
theorem get_ext {s : ByteArray} {p i : Nat} : (s.extract p s.size).get! i = s.get! (p + i) := by
  have hsz : (s.extract p s.size).size = s.size - p := by rw [ByteArray.size_extract]; omega
  by_cases h : i < s.size - p
  · have h1 : i < (s.extract p s.size).size := by omega
    rw [get_list h1, get_list (s := s) (i := p + i) (by omega)]
    simp [ByteArray.data_extract]
  · have a1 : (s.extract p s.size).get! i = default := by
      show (s.extract p s.size).data[i]! = default
      rw [getElem!_neg]
      show ¬ i < (s.extract p s.size).size
      omega
    have a2 : s.get! (p + i) = default := by
      show s.data[p + i]! = default
      rw [getElem!_neg]
      show ¬ p + i < s.size
      omega
    rw [a1, a2]
theorem dec_ext (s : ByteArray) (p : Nat) : Utf8.decode (s.extract p s.size) 0 = Utf8.decode s p := by
  have hsz : (s.extract p s.size).size = s.size - p := by rw [ByteArray.size_extract]; omega
  rw [Lib.decode_at, Lib.decode_at, hsz, get_ext, get_ext, get_ext, get_ext]
  simp only [Nat.add_zero, Nat.zero_add, Nat.sub_zero]
theorem ext_run (s : ByteArray) (p : Nat) : runM (s.extract p s.size) 0 = runM s p ∧ wid (s.extract p s.size) 0 = wid s p := by
  unfold runM run1 wid; rw [dec_ext]; exact ⟨rfl, rfl⟩
theorem wid_in {s : ByteArray} {p : Nat} (h : p < s.size) : p + wid s p ≤ s.size := by
  have hw : wid s p ≤ s.size - p := by
    unfold wid
    rw [Lib.decode_at]
    unfold Lib.decodeN
    repeat' split
    all_goals (simp only; omega)
  omega
theorem ext_ext {s : ByteArray} {p n : Nat} (h : p + n ≤ s.size) : (s.extract p s.size).extract n (s.extract p s.size).size = s.extract (p + n) s.size := by
  rw [ByteArray.extract_extract, ByteArray.size_extract]
  congr 1
  omega
end Go.KL

/- What the law RowSays wants beside: cycles as the document finds them, text by signs. -/
namespace Go.KL
theorem lists_ext {a b : List (List Int)} (hl : a.length = b.length) (h : ∀ j, j < a.length → a.getD j [] = b.getD j []) : a = b := by
  refine List.ext_getElem hl fun j h1 h2 => ?_
  have := h j h1
  simpa [h1, h2] using this
theorem all_snocs {xs ys : List (List Int)} {k : Nat} (h : ∀ j, j < k → xs.getD j [] = ys.getD j []) (e : xs.getD k [] = ys.getD k []) : ∀ j, j < k + 1 → xs.getD j [] = ys.getD j [] := by
  intro j hj
  by_cases hjk : j = k
  · subst hjk; exact e
  · exact h j (by omega)
end Go.KL

/- Patterns of bells: the maths. -/
namespace Go.KL
theorem runsF_cons {s : ByteArray} {f p : Nat} (hp : p < s.size) (hf : s.size ≤ f + p) : runsF s f p = runM s p :: runsF s (f - 1) (p + wid s p) := by
  obtain ⟨f, rfl⟩ : ∃ g, f = g + 1 := ⟨f - 1, by omega⟩
  rw [runsF, if_pos hp]; rfl
/-! ### Signs -/
theorem run_m (s : ByteArray) (p : Nat) : runM s p = ((run1 s p : Nat) : Int) ∨ (runM s p = -1 ∧ run1 s p = 65533) := by
  unfold runM
  split
  · rename_i h; exact .inr ⟨rfl, h.1⟩
  · exact .inl rfl
/-! ### Ahead of the star and behind it -/
/-! ### What was seen -/
/-! ### Like a pattern -/
/-! ### Steps -/
/-! ### A pattern that may be -/
/-! ### The walks of Like and fits -/
end Go.KL

/- Results of which the first lies in a struct's variable. -/
namespace Go.KL
open Go.RowKit
variable {P : Program} {fn : Func} {σ0 σ : GW} {a : Act} {N d e f : Nat} {D : List Deferred} {L : List Nat} {R : Value → GW → Prop}
theorem run_cell {t k : Nat} {T : TypeId} {fs : Array Field} {z : Value} {by_ : Nat} {ts : List Ty} (hT : P.underlying T = some (.struct fs)) (he : Info P T z ts.length by_) (h : OwnP σ k (a.eval (.tmp t)) ts) :
    ∃ ad cur, a.tmps.getD t undef = .pointer (some ad) ∧ (loadVar T ad).run P σ.w = .ok (.agg cur) σ.w ∧ (Ty.agg ts).has σ (.agg cur) := by
  obtain ⟨gg, e', cur, e1, h2, h3, h4, h5⟩ := h
  have hl := run_loadVar (P := P) hT he (w := σ.w) (ad := ⟨gg, 0, none⟩) (us := cur.toList) (by simp [h4]) (fun j u hj => by
    rw [Addr.add_lit, Nat.zero_add]
    simp at hj
    simp [World.cell?, h3, hj])
  exact ⟨_, cur, e1, by simpa using hl, cur, rfl, h4, h5⟩
theorem retL2c {t k : Nat} {T : TypeId} {fs : Array Field} {z : Value} {by_ : Nat} {ts : List Ty} (hr : fn.results = #[.cell t T, .tmp e]) (ok : Ok N [] a) (hF : FromL L σ0 σ) (hT : P.underlying T = some (.struct fs)) (he : Info P T z ts.length by_) (h : OwnP σ k (a.eval (.tmp t)) ts)
    (hR : ∀ v, (Ty.agg ts).has σ v → R (.tuple #[v, a.eval (.tmp e)]) σ) : bodyPost P fn (RetL σ0 L R) .ret a σ.w := by
  obtain ⟨ad, cur, e2, hl, hv⟩ := run_cell hT he h
  refine bodyPost_ret (v := .tuple #[.agg cur, a.eval (.tmp e)]) ?_ ok.defers ⟨_, σ, rfl, hF, rfl, hR _ hv⟩
  have e3 : a.tmps[t]?.getD undef = .pointer (some ad) := by rw [← e2, Array.getD_eq_getD_getElem?]
  simp [results, hr, e3, asAddr, hl, Act.eval]
theorem nil_has {α : Type} {f : α → Ty} {xs : List α} {σ : GW} (e : xs = []) : (Ty.lst f xs).has σ (.slice none 0 0) := by subst e; exact sl_nil
end Go.KL

/- How many rows are like patterns. -/
namespace Go.KL
abbrev Ty.str (s : ByteArray) : Ty := Ty.val (.string s)
end Go.KL

/- Rows whose elements are structs of c cells. -/
namespace Go.KL
open Go.RowKit
variable {P : Program} {d : Option Tmp} {ty : TypeId} {pos : String} {af : Array Edge} {g : Option (Nat × Bool)} {a : Act} {σ : GW}
/-! ### Patterns -/
end Go.KL

/- Plain maths: calls and touches. -/
namespace Go.KL
abbrev BCall := Int × List (List Int)
/-! ### Which calls may be -/
abbrev D0 : BCall := (0, [])
theorem mem_getDD {α : Type} (d : α) {l : List α} {k : Nat} (h : k < l.length) : l.getD k d ∈ l := by
  rw [List.getD_eq_getElem?_getD, List.getElem?_eq_getElem h]; exact List.getElem_mem _
/-! ### The changes of a lead -/
/-! ### The rows of a touch -/
section
variable {nm : ByteArray} {n : Nat} {l : List (List Int)} {cs : List BCall} {leads : List Int}
theorem fromL_getj {r : List Int} {l : List (List Int)} {j : Nat} (h : j ≤ l.length) : (fromL r l).getD j [] = curL r l j := by
  unfold fromL fromTo
  rw [List.getD_eq_getElem?_getD]; simp [show j < l.length + 1 by omega]
end
/-! ### Which touches may be -/
end Go.KL

/- Closures over one variable; slices.Grow of nothing; cuts of rows of structs. -/
namespace Go.KL
open Go.RowKit
variable {P : Program} {d : Option Tmp} {ty : TypeId} {pos : String} {af : Array Edge} {g : Option (Nat × Bool)} {a : Act} {σ : GW}
/-! ### slices.Grow of nothing -/
/-! ### Cuts of rows of structs -/
/-! ### Signs of calls -/
theorem getD_fst (cs : List BCall) (j : Nat) : (cs.map (·.1)).getD j 0 = (cs.getD j D0).1 := by
  rw [List.getD_eq_getElem?_getD, List.getD_eq_getElem?_getD, List.getElem?_map]
  cases cs[j]? <;> rfl
theorem idxC_yes {cs : List BCall} {s : Int} {k : Nat} (hk : k < cs.length) (h : (cs.getD k D0).1 = s) (hno : ∀ j, j < k → (cs.getD j D0).1 ≠ s) : indexL (cs.map (·.1)) s = k :=
  indexL_yes (by rw [List.length_map]; exact hk) (by rw [getD_fst]; exact h.symm) (fun j hj => by rw [getD_fst]; exact hno j hj)
end Go.KL

/- Touches that are read. -/
namespace Go.KL
abbrev sgOf (cs : List BCall) : List Int := cs.map (·.1)
structure NumP where
  err : Int
  n : Int
  some : Bool
  rest : List Int
def numR : Int → Bool → List Int → NumP
  | n, b, [] => ⟨0, n, b, []⟩
  | n, b, c :: r => if 48 ≤ c ∧ c ≤ 57 then (if n * 10 + c - 48 = 0 ∨ 99 < n * 10 + c - 48 then ⟨12, 0, true, r⟩ else numR (n * 10 + c - 48) true r) else ⟨0, n, b, c :: r⟩
structure ItP where
  err : Int
  out : List Int
  rest : List Int
def repL (n : Nat) (one : List Int) : List Int := (List.replicate n one).flatten
def rpM (n : Int) (one r : List Int) : ItP := if 400 < n * one.length then ⟨3, [], []⟩ else ⟨0, repL n.toNat one, r⟩
def oneM (sg : List Int) (F : Nat → List Int → List Int → ItP) (deep : Nat) (r : List Int) : ItP :=
  if r.getD 0 0 = 40 then
    (if deep = 6 then ⟨13, [], []⟩ else if (F (deep + 1) [] (r.drop 1)).err ≠ 0 then ⟨(F (deep + 1) [] (r.drop 1)).err, [], []⟩
    else if (F (deep + 1) [] (r.drop 1)).rest = [] then ⟨5, [], []⟩ else if (F (deep + 1) [] (r.drop 1)).out = [] then ⟨4, [], []⟩
    else ⟨0, (F (deep + 1) [] (r.drop 1)).out, (F (deep + 1) [] (r.drop 1)).rest.drop 1⟩)
  else if r.getD 0 0 ∉ sg ∨ r.getD 0 0 < 0 then ⟨4, [], []⟩ else ⟨0, [indexL sg (r.getD 0 0)], r.drop 1⟩
def timesM (x : NumP) : Int := if x.some = true then x.n else 1
def itemM (sg : List Int) (F : Nat → List Int → List Int → ItP) (deep : Nat) (rest : List Int) : ItP :=
  if (numR 0 false rest).err ≠ 0 then ⟨12, [], []⟩ else if (numR 0 false rest).rest = [] then ⟨5, [], []⟩
  else if (oneM sg F deep (numR 0 false rest).rest).err ≠ 0 then ⟨(oneM sg F deep (numR 0 false rest).rest).err, [], []⟩
  else rpM (timesM (numR 0 false rest)) (oneM sg F deep (numR 0 false rest).rest).out (oneM sg F deep (numR 0 false rest).rest).rest
def itemsM (sg : List Int) : Nat → Nat → List Int → List Int → ItP
  | 0, _, out, rest => ⟨0, out, rest⟩
  | f + 1, deep, out, rest =>
    if rest = [] ∨ rest.getD 0 0 = 41 then ⟨0, out, rest⟩
    else if (itemM sg (itemsM sg f) deep rest).err ≠ 0 then ⟨(itemM sg (itemsM sg f) deep rest).err, [], []⟩
    else if 400 < (out ++ (itemM sg (itemsM sg f) deep rest).out).length then ⟨3, [], []⟩
    else itemsM sg f deep (out ++ (itemM sg (itemsM sg f) deep rest).out) (itemM sg (itemsM sg f) deep rest).rest
section
variable {sg : List Int}
/-! What is left is a tail. -/
theorem numR_tail : ∀ (r : List Int) (n : Int) (b : Bool), (numR n b r).err = 0 → ∃ k, k ≤ r.length ∧ (numR n b r).rest = r.drop k
  | [], n, b, _ => ⟨0, Nat.le_refl _, rfl⟩
  | c :: r, n, b, h => by
    rw [numR] at h ⊢
    split
    · split
      · rename_i h1 h2; rw [if_pos h1, if_pos h2] at h; cases h
      · rename_i h1 h2
        rw [if_pos h1, if_neg h2] at h
        obtain ⟨k, h3, h4⟩ := numR_tail r _ _ h
        exact ⟨k + 1, by rw [List.length_cons]; omega, by rw [h4, List.drop_succ_cons]⟩
    · exact ⟨0, Nat.zero_le _, rfl⟩
def Tail (a r : List Int) : Prop := ∃ k, k ≤ r.length ∧ a = r.drop k
theorem Tail.refl (r : List Int) : Tail r r := ⟨0, Nat.zero_le _, rfl⟩
theorem Tail.trans {a b c : List Int} (h : Tail a b) (k : Tail b c) : Tail a c := by
  obtain ⟨i, h1, rfl⟩ := h
  obtain ⟨j, h2, rfl⟩ := k
  rw [List.length_drop] at h1
  exact ⟨j + i, by omega, by rw [List.drop_drop]⟩
theorem Tail.drop1 {a r : List Int} (h : Tail a r) (hne : a ≠ []) : Tail (a.drop 1) r ∧ (a.drop 1).length < r.length := by
  obtain ⟨i, h1, rfl⟩ := h
  have hl : (r.drop i).length ≠ 0 := fun e => hne (List.eq_nil_of_length_eq_zero e)
  rw [List.length_drop] at hl
  rw [List.drop_drop]
  exact ⟨⟨i + 1, by omega, rfl⟩, by rw [List.length_drop]; omega⟩
theorem rpM_rest {n : Int} {one r : List Int} (h : (rpM n one r).err = 0) : (rpM n one r).rest = r ∧ (rpM n one r).out = repL n.toNat one ∧ ¬ 400 < n * one.length := by
  unfold rpM at h ⊢
  split at h
  · cases h
  · rename_i h2; rw [if_neg h2]; exact ⟨rfl, rfl, h2⟩
theorem oneM_tail {F : Nat → List Int → List Int → ItP} (hF : ∀ d o r, (F d o r).err = 0 → Tail (F d o r).rest r) {deep : Nat} {r : List Int} (hne : r ≠ []) (h : (oneM sg F deep r).err = 0) : Tail (oneM sg F deep r).rest r ∧ (oneM sg F deep r).rest.length < r.length := by
  obtain ⟨t1, t2⟩ := Tail.drop1 (Tail.refl r) hne
  unfold oneM at h ⊢
  split at h
  · rename_i h3
    rw [if_pos h3]
    split at h
    · cases h
    rename_i h4
    rw [if_neg h4]
    split at h
    · rename_i h5; exact absurd h h5
    rename_i h5
    rw [if_neg h5]
    have h5 := Classical.not_not.1 h5
    split at h
    · cases h
    rename_i h6
    rw [if_neg h6]
    split at h
    · cases h
    rename_i h7
    rw [if_neg h7]
    obtain ⟨t3, t4⟩ := Tail.drop1 (hF _ _ _ h5) h6
    exact ⟨t3.trans t1, by show ((F (deep + 1) [] (r.drop 1)).rest.drop 1).length < _; omega⟩
  · rename_i h3
    rw [if_neg h3]
    split at h
    · cases h
    rename_i h4
    rw [if_neg h4]
    exact ⟨t1, t2⟩
theorem itemM_tail {F : Nat → List Int → List Int → ItP} (hF : ∀ d o r, (F d o r).err = 0 → Tail (F d o r).rest r) {deep : Nat} {rest : List Int} (h : (itemM sg F deep rest).err = 0) : Tail (itemM sg F deep rest).rest rest ∧ (itemM sg F deep rest).rest.length < rest.length := by
  unfold itemM at h ⊢
  split at h
  · cases h
  rename_i h1
  rw [if_neg h1]
  have h1 := Classical.not_not.1 h1
  have ht : Tail (numR 0 false rest).rest rest := numR_tail rest 0 false h1
  split at h
  · cases h
  rename_i h2
  rw [if_neg h2]
  split at h
  · rename_i h3; exact absurd h h3
  rename_i h3
  rw [if_neg h3]
  have h3 := Classical.not_not.1 h3
  rw [(rpM_rest h).1]
  obtain ⟨t1, t2⟩ := oneM_tail hF h2 h3
  refine ⟨t1.trans ht, ?_⟩
  obtain ⟨k, hk, e⟩ := ht
  rw [e] at t2
  rw [List.length_drop] at t2
  rw [e]; omega
theorem itemsM_tail : ∀ (f deep : Nat) (out rest : List Int), (itemsM sg f deep out rest).err = 0 → Tail (itemsM sg f deep out rest).rest rest
  | 0, _, _, rest, _ => Tail.refl _
  | f + 1, deep, out, rest, h => by
    rw [itemsM] at h ⊢
    split at h
    · rename_i h1; rw [if_pos h1]; exact Tail.refl _
    rename_i h1
    rw [if_neg h1]
    split at h
    · rename_i h2; exact absurd h h2
    rename_i h2
    rw [if_neg h2]
    have h2 := Classical.not_not.1 h2
    split at h
    · cases h
    rename_i h3
    rw [if_neg h3]
    exact (itemsM_tail f deep _ _ h).trans (itemM_tail (fun d o r => itemsM_tail f d o r) h2).1
theorem itemM_tl {f deep : Nat} {rest : List Int} (h : (itemM sg (itemsM sg f) deep rest).err = 0) : Tail (itemM sg (itemsM sg f) deep rest).rest rest ∧ (itemM sg (itemsM sg f) deep rest).rest.length < rest.length := itemM_tail (fun d o r => itemsM_tail f d o r) h
/-! Fuel. -/
theorem oneM_congr {F G : Nat → List Int → List Int → ItP} {deep : Nat} {r : List Int} (h : F (deep + 1) [] (r.drop 1) = G (deep + 1) [] (r.drop 1)) : oneM sg F deep r = oneM sg G deep r := by unfold oneM; rw [h]
theorem itemM_congr {F G : Nat → List Int → List Int → ItP} {deep : Nat} {rest : List Int} (h : ∀ r, r.length < rest.length → F (deep + 1) [] r = G (deep + 1) [] r) : itemM sg F deep rest = itemM sg G deep rest := by
  by_cases h1 : (numR 0 false rest).err = 0
  · by_cases h2 : (numR 0 false rest).rest = []
    · unfold itemM; rw [if_neg (by rw [h1]; simp), if_pos h2, if_neg (by rw [h1]; simp), if_pos h2]
    · have ht : Tail (numR 0 false rest).rest rest := numR_tail rest 0 false h1
      have := (Tail.drop1 ht h2).2
      unfold itemM
      rw [oneM_congr (h _ this)]
  · unfold itemM; rw [if_pos h1, if_pos h1]
theorem itemsM_fuel : ∀ (f g deep : Nat) (out rest : List Int), rest.length < f → rest.length < g → itemsM sg f deep out rest = itemsM sg g deep out rest
  | 0, _, _, _, _, h, _ => absurd h (by omega)
  | _, 0, _, _, _, _, h => absurd h (by omega)
  | f + 1, g + 1, deep, out, rest, h1, h2 => by
    have e : itemM sg (itemsM sg f) deep rest = itemM sg (itemsM sg g) deep rest := itemM_congr fun r hr => itemsM_fuel f g (deep + 1) [] r (by omega) (by omega)
    rw [itemsM, itemsM, e]
    split
    · rfl
    split
    · rfl
    rename_i h3
    split
    · rfl
    have := (itemM_tl (f := g) (Classical.not_not.1 h3)).2
    exact itemsM_fuel f g deep _ _ (by omega) (by omega)
def parM (sg : List Int) (deep : Nat) (out rest : List Int) : ItP := itemsM sg (rest.length + 1) deep out rest
def itM (sg : List Int) (deep : Nat) (rest : List Int) : ItP := itemM sg (parM sg) deep rest
theorem itM_fuel (f deep : Nat) (rest : List Int) (h : rest.length ≤ f) : itemM sg (itemsM sg f) deep rest = itM sg deep rest := itemM_congr fun r hr => itemsM_fuel _ _ _ _ _ (by omega) (by omega)
theorem par_stop {deep : Nat} {out rest : List Int} (h : rest = [] ∨ rest.getD 0 0 = 41) : parM sg deep out rest = ⟨0, out, rest⟩ := by unfold parM; rw [itemsM, if_pos h]
theorem itM_tl {deep : Nat} {rest : List Int} (h : (itM sg deep rest).err = 0) : Tail (itM sg deep rest).rest rest ∧ (itM sg deep rest).rest.length < rest.length := itemM_tail (fun _ _ r h => itemsM_tail _ _ _ r h) h
theorem par_go {deep : Nat} {out rest : List Int} (h : ¬ (rest = [] ∨ rest.getD 0 0 = 41)) (h2 : (itM sg deep rest).err = 0) (h3 : ¬ 400 < (out ++ (itM sg deep rest).out).length) : parM sg deep (out ++ (itM sg deep rest).out) (itM sg deep rest).rest = parM sg deep out rest := by
  have ht := (itM_tl h2).2
  have e : parM sg deep out rest = itemsM sg rest.length deep (out ++ (itM sg deep rest).out) (itM sg deep rest).rest := by
    conv => lhs; unfold parM
    rw [itemsM, if_neg h, itM_fuel _ _ _ (Nat.le_refl _), if_neg (by rw [h2]; simp), if_neg h3]
  rw [e]
  exact itemsM_fuel _ _ _ _ _ (by omega) (by omega)
/-! What is told of errors. -/
/-! Step by step. -/
theorem it_rp {deep : Nat} {r s : List Int} {v : Int} {b : Bool} (h : numR 0 false r = ⟨0, v, b, s⟩) (hs : s ≠ []) (h2 : (oneM sg (parM sg) deep s).err = 0) : itM sg deep r = rpM (if b = true then v else 1) (oneM sg (parM sg) deep s).out (oneM sg (parM sg) deep s).rest := by
  unfold itM itemM; rw [h, if_neg (by simp), if_neg hs, if_neg (by rw [h2]; simp)]; rfl
theorem rp_ok {n : Int} {one r : List Int} (h : ¬ 400 < n * one.length) : rpM n one r = ⟨0, repL n.toNat one, r⟩ := by unfold rpM; rw [if_neg h]
theorem repL_succ (k : Nat) (one : List Int) : repL (k + 1) one = repL k one ++ one := by unfold repL; rw [List.replicate_succ', List.flatten_append]; simp
theorem one_sign {F : Nat → List Int → List Int → ItP} {deep : Nat} {s : List Int} (h : ¬ s.getD 0 0 = 40) (h2 : ¬ (s.getD 0 0 ∉ sg ∨ s.getD 0 0 < 0)) : oneM sg F deep s = ⟨0, [indexL sg (s.getD 0 0)], s.drop 1⟩ := by unfold oneM; rw [if_neg h, if_neg h2]
theorem sign_at {cs : List BCall} {c : Int} {k : Nat} (hk : k < cs.length) (hno : ∀ j, j < k → (cs.getD j D0).1 ≠ c) (h : (cs.getD k D0).1 = c) : c ∈ cs.map (·.1) ∧ indexL (cs.map (·.1)) c = k := by
  have e := idxC_yes hk h hno
  exact ⟨indexL_iff.1 (by rw [e]; omega), e⟩
theorem x_go {deep : Nat} {out r o s : List Int} {X : ItP} (hx : parM sg deep out r = X) (hne : ¬ (r = [] ∨ r.getD 0 0 = 41)) (h : itM sg deep r = ⟨0, o, s⟩) (h2 : ¬ 400 < (out ++ o).length) : parM sg deep (out ++ o) s = X := by
  have := par_go (sg := sg) (deep := deep) (out := out) hne (by rw [h]) (by rw [h]; exact h2)
  rw [h] at this
  rw [← hx, ← this]
end
/-! Runes of a text, as a loop over it gives them. -/
abbrev Ty.rune (n : Int) : Ty := .val (.int .i32 n)
theorem Tail.len {a r : List Int} (h : Tail a r) : a.length ≤ r.length := by
  obtain ⟨k, h1, rfl⟩ := h; rw [List.length_drop]; omega
section
variable {sg : List Int} {deep : Nat} {l s : List Int}
end
def ptM (sg : List Int) (s : ByteArray) : ItP :=
  if 4000 < s.size then ⟨3, [], []⟩ else if (parM sg 0 [] (runsL s)).err ≠ 0 then ⟨(parM sg 0 [] (runsL s)).err, [], []⟩
  else if (parM sg 0 [] (runsL s)).rest ≠ [] then ⟨4, [], []⟩ else if (parM sg 0 [] (runsL s)).out = [] then ⟨5, [], []⟩ else ⟨0, (parM sg 0 [] (runsL s)).out, []⟩
section
variable {sg : List Int} {s : ByteArray} {X : ItP}
theorem pt_ok (h : ¬ 4000 < s.size) (hX : X = parM sg 0 [] (runsL s)) (h1 : X.err = 0) (h2 : X.rest = []) (h3 : X.out ≠ []) : ptM sg s = ⟨0, X.out, []⟩ := by unfold ptM; rw [if_neg h, ← hX, if_neg (by rw [h1]; simp), if_neg (by rw [h2]; simp), if_neg h3]
end
end Go.KL

/- Arrays as values: built of two parts, and what stands at a place. -/
namespace Go.KL
open Go.RowKit
variable {P : Program} {d : Option Tmp} {ty : TypeId} {pos : String} {af : Array Edge} {g : Option (Nat × Bool)} {a : Act} {σ : GW}
/-! ### Bells that are told -/
end Go.KL

/- How many rows are like a pattern: as many as there are ways to place the other bells. -/
namespace Go.KL
/-! ### A pattern as one list -/
end Go.KL

/- Of all rows so many are like a pattern as there are ways to place the other bells. -/
namespace Go.KL
section
variable {P : Program} {d : Option Tmp} {ty : TypeId} {pos : String} {af : Array Edge} {g : Option (Nat × Bool)} {a : Act} {σ : GW}
end
theorem asc_runs {l : List UInt8} (h : ∀ b ∈ l, b.toNat < 128) : runsL (bsL l) = l.map fun b => ((b.toNat : Nat) : Int) := by
  have key : ∀ (f p : Nat), l.length ≤ f + p → runsF (bsL l) f p = (l.drop p).map fun b => ((b.toNat : Nat) : Int) := by
    intro f
    induction f with
    | zero => intro p hp; rw [List.drop_eq_nil_of_le (by omega)]; rfl
    | succ f ih =>
      intro p hp
      by_cases hpl : p < l.length
      · have hg := bsL_get hpl
        have hb := h l[p] (List.getElem_mem hpl)
        have hr := run1_lo (s := bsL l) (p := p) (by rw [hg]; exact hb)
        have hm : runM (bsL l) p = ((l[p].toNat : Nat) : Int) := by
          unfold runM
          rw [if_neg (by rw [hr.1, hg]; omega), hr.1, hg]
        rw [runsF_cons (by rw [bsL_size]; exact hpl) (by rw [bsL_size]; omega), hm, hr.2, Nat.add_sub_cancel, ih (p + 1) (by omega), List.drop_eq_getElem_cons hpl, List.map_cons]
      · rw [runsF_end (by rw [bsL_size]; omega), List.drop_eq_nil_of_le (by omega)]; rfl
  have := key (bsL l).size 0 (by rw [bsL_size]; omega)
  unfold runsL
  rw [this, List.drop_zero]
section
variable (raw r : List Int) (star : Nat)
end
section
variable {raw r : List Int} {star : Nat}
end
end Go.KL

/- Plain maths: is a touch true? -/
namespace Go.KL
end Go.KL
namespace Go.KL
theorem getD_takeD {α : Type} (d : α) {l : List α} {m k : Nat} (h : k < m) : (l.take m).getD k d = l.getD k d := by
  rw [List.getD_eq_getElem?_getD, List.getD_eq_getElem?_getD, List.getElem?_take_of_lt h]
end Go.KL

/- Plain maths: names by their runes. -/
namespace Go.KL
theorem run0_facts {s : ByteArray} (h1 : 1 ≤ s.size) : ((s.get! 0).toNat < 128 ∧ runM s 0 = (s.get! 0).toNat ∧ wid s 0 = 1) ∨ (runM s 0 ≠ 32 ∧ 128 ≤ (s.get! (wid s 0 - 1)).toNat) := by
  by_cases hb : (s.get! 0).toNat < 128
  · exact .inl ⟨hb, rn_low hb⟩
  · refine .inr ?_
    have bad : runM s 0 = -1 ∧ wid s 0 = 1 → runM s 0 ≠ 32 ∧ 128 ≤ (s.get! (wid s 0 - 1)).toNat := fun ⟨a, b⟩ => by rw [a, b]; exact ⟨by decide, by simpa using hb⟩
    by_cases h2 : nB (s.get! 0).toNat = 0 ∨ s.size < nB (s.get! 0).toNat
    · exact bad (rn_short hb h2 h1)
    · have h0 : nB (s.get! 0).toNat ≠ 0 := fun e => h2 (.inl e)
      have hs : nB (s.get! 0).toNat ≤ s.size := by omega
      obtain ⟨j, hj⟩ : ∃ j, j + 1 = nB (s.get! 0).toNat := ⟨nB (s.get! 0).toNat - 1, by omega⟩
      have hjc := nB_cases h0 hj
      by_cases hc : ∀ i, i < j → 128 ≤ (s.get! (i + 1)).toNat ∧ (s.get! (i + 1)).toNat < 192
      · by_cases hv : accR s (cB (s.get! 0).toNat) j < lowB (s.get! 0).toNat ∨ 1114111 < accR s (cB (s.get! 0).toNat) j ∨ (55296 ≤ accR s (cB (s.get! 0).toNat) j ∧ accR s (cB (s.get! 0).toNat) j < 57344)
        · exact bad (rn_bad h0 hs hj hc hv)
        · obtain ⟨a, b⟩ := rn_ok h0 hs hj hc hv
          have hlow : 128 ≤ lowB (s.get! 0).toNat := by
            rcases hjc with ⟨_, h⟩ | ⟨_, h⟩ | ⟨_, h⟩
            · rw [(nb2 h).2.2]; omega
            · rw [(nb3 h).2.2]; omega
            · rw [(nb4 h).2.2]; omega
          rw [a, b]
          refine ⟨by omega, ?_⟩
          have := hc (j - 1) (by omega)
          rw [show nB (s.get! 0).toNat - 1 = j - 1 + 1 by omega]; exact this.1
      · obtain ⟨i, hi⟩ := Classical.not_forall.1 hc
        obtain ⟨hi1, hi2⟩ := Classical.not_imp.1 hi
        exact bad (rn_cont (j := i) (by omega) (by omega))
theorem run_facts {s : ByteArray} {p : Nat} (h : p < s.size) : ((s.get! p).toNat < 128 ∧ runM s p = (s.get! p).toNat ∧ wid s p = 1) ∨ (runM s p ≠ 32 ∧ 128 ≤ (s.get! (p + (wid s p - 1))).toNat) := by
  have h0 := run0_facts (s := s.extract p s.size) (by rw [ByteArray.size_extract]; omega)
  rwa [(ext_run s p).1, (ext_run s p).2, get_ext, get_ext, Nat.add_zero] at h0
theorem letter_m (s : ByteArray) (p : Nat) : letterB (runM s p) = letterB ((run1 s p : Nat) : Int) := by
  rcases run_m s p with h | ⟨h1, h2⟩
  · rw [h]
  · rw [h1, h2]; rfl
theorem runs_all (s : ByteArray) : ∀ (f p : Nat), (runsF s f p).all letterB = (runesF s f p).all (fun (c : Nat) => letterB (c : Int)) ∧ (runsF s f p).length = (runesF s f p).length
  | 0, p => ⟨rfl, rfl⟩
  | f + 1, p => by
    rw [runsF, runesF]
    obtain ⟨h1, h2⟩ := runs_all s f (p + wid s p)
    split
    · exact ⟨by rw [List.all_cons, List.all_cons, h1, letter_m], by rw [List.length_cons, List.length_cons, h2]⟩
    · exact ⟨rfl, rfl⟩
theorem runs_last {s : ByteArray} : ∀ (f p : Nat), p < s.size → s.size ≤ f + p → ((runsF s f p).getD ((runsF s f p).length - 1) 0 = 32 ↔ (s.get! (s.size - 1)).toNat = 32)
  | 0, p, h1, h2 => by omega
  | f + 1, p, h1, h2 => by
    have hw := wid_pos s p
    have hi := wid_in h1
    rw [runsF, if_pos h1]
    by_cases e : p + wid s p < s.size
    · have ih := runs_last f (p + wid s p) e (by omega)
      have hne : 1 ≤ (runsF s f (p + wid s p)).length := by
        rw [runsF_cons e (by omega), List.length_cons]; omega
      rw [List.length_cons, Nat.add_sub_cancel]
      obtain ⟨m, hm⟩ : ∃ m, (runsF s f (p + wid s p)).length = m + 1 := ⟨_, (Nat.sub_add_cancel hne).symm⟩
      rw [hm, List.getD_cons_succ]
      rw [hm, Nat.add_sub_cancel] at ih
      exact ih
    · rw [runsF_end (by omega)]
      show runM s p = 32 ↔ _
      rcases run_facts h1 with ⟨_, h4, h5⟩ | ⟨h3, h4⟩
      · rw [h4, show s.size - 1 = p by omega]; omega
      · rw [show p + (wid s p - 1) = s.size - 1 by omega] at h4
        constructor
        · intro h; exact absurd h h3
        · intro h; omega
def nameI (l : List Int) : Bool := decide (1 ≤ l.length ∧ l.length ≤ 20 ∧ l.getD 0 0 ≠ 32 ∧ l.getD (l.length - 1) 0 ≠ 32) && l.all letterB
theorem name_eq (s : ByteArray) : nameI (runsL s) = nameL s := by
  obtain ⟨h1, h2⟩ := runs_all s s.size 0
  unfold nameI nameL runsL runesL
  rw [h1, ← h2, Bool.and_comm]
  congr 1
  by_cases hz : s.size = 0
  · rw [runsF_end (s := s) (f := s.size) (p := 0) (by omega)]
    simp
  · have hl := runs_last (s := s) s.size 0 (by omega) (by omega)
    have hf : (runsF s s.size 0).getD 0 0 = 32 ↔ (s.get! 0).toNat = 32 := by
      rw [runsF_cons (s := s) (f := s.size) (p := 0) (by omega) (by omega), List.getD_cons_zero]
      rcases run_facts (s := s) (p := 0) (by omega) with ⟨_, h4, _⟩ | ⟨h3, h4⟩
      · rw [h4]; omega
      · constructor
        · intro h; exact absurd h h3
        · intro h
          have := (rn_low (s := s) (by omega)).1
          rw [h] at this; exact absurd this h3
    rw [Bool.eq_iff_iff]
    simp only [Bool.and_eq_true, decide_eq_true_eq]
    constructor
    · rintro ⟨a, b, c, d⟩
      exact ⟨⟨⟨by omega, by omega⟩, fun h => c (hf.2 (by omega))⟩, fun h => d (hl.2 (by omega))⟩
    · rintro ⟨⟨⟨a, b⟩, c⟩, d⟩
      exact ⟨by omega, by omega, fun h => c (by have := hf.1 h; omega), fun h => d (by have := hl.1 h; omega)⟩
theorem name_bad {l : List Int} (h : l.length < 1 ∨ 20 < l.length ∨ l.getD 0 0 = 32 ∨ l.getD (l.length - 1) 0 = 32) : nameI l = false := by
  unfold nameI
  rw [decide_eq_false (by omega), Bool.false_and]
theorem name_let {l : List Int} {i : Nat} (hi : i < l.length) (h : letterB (l.getD i 0) = false) : nameI l = false := by
  unfold nameI
  rw [Bool.and_eq_false_iff]; right
  rw [List.all_eq_false]
  exact ⟨_, mem_getDD 0 hi, by rw [h]; exact Bool.false_ne_true⟩
theorem name_good {l : List Int} (h : ¬ (l.length < 1 ∨ 20 < l.length ∨ l.getD 0 0 = 32 ∨ l.getD (l.length - 1) 0 = 32)) (h2 : ∀ i, i < l.length → letterB (l.getD i 0) = true) : nameI l = true := by
  unfold nameI
  rw [decide_eq_true (by omega), Bool.true_and, List.all_eq_true]
  intro x hx
  obtain ⟨i, hi, rfl⟩ := List.getElem_of_mem hx
  have := h2 i hi
  rw [List.getD_eq_getElem?_getD, List.getElem?_eq_getElem hi] at this; exact this
end Go.KL

/- Literals of structs in rows of one's own. -/
namespace Go.KL
open Go.RowKit
variable {P : Program} {d : Option Tmp} {ty : TypeId} {pos : String} {af : Array Edge} {g : Option (Nat × Bool)} {a : Act} {σ : GW}
end Go.KL

/- Bytes of a text, appended; touches, printed. -/
namespace Go.KL
open Go.RowKit Go.Lib
variable {P : Program} {d : Option Tmp} {ty : TypeId} {pos : String} {af : Array Edge} {g : Option (Nat × Bool)} {a : Act} {σ : GW}
theorem str_typed {s : ByteArray} {σ : GW} : ∀ (j : Nat) (T : Ty) (u : Value), (s.data.toList.map Ty.byte)[j]? = some T → (strCells s)[j]? = some u → T.has σ u := by
  intro j T u h1 h2
  unfold strCells at h2
  rw [List.getElem?_map] at h1 h2
  cases hq : s.data.toList[j]? with
  | none => rw [hq] at h1; cases h1
  | some b => rw [hq] at h1 h2; cases h1; cases h2; rfl
theorem own_appendS {k : Nat} {t u ty e : TypeId} {v : Value} {n : Nat} {ts : List Ty} {s : ByteArray} (hk : 2 ≤ k) (ht : P.underlying t = some (.slice e)) (hu : P.underlying u = some .string) (he : Info P e (.int .u8 0) 1 1) (h : Own σ k e 1 v n ts)
    (hlen : n + s.size ≤ 140737488355328) :
    ∃ v' τ, (Builtin.append_ #[t, u] ty #[v, .string s]).run P σ.w = .ok v' τ.w ∧ Stp k σ τ ∧ Own τ k e 1 v' (n + s.size) (ts ++ s.data.toList.map Ty.byte) := by
  have h0 := h
  obtain ⟨vs, r1, r2, r3, r4⟩ := h
  obtain ⟨i, hi, hi1, hi2, hi3⟩ := he.get
  have hwl := strCells_length s
  have hxl : vs.length = n := by simpa using r1.1
  have hl' : (vs ++ strCells s).length = (ts ++ s.data.toList.map Ty.byte).length := by simp [r2, hwl]
  have hm9 : n + s.size ≤ maxLen := by unfold maxLen; omega
  have new : ∀ (old : Nat) (τw : World), old < n + s.size → τw = σ.w.drew.alloc (.cells (vs.toArray ++ (strCells s).toArray ++ Builtin.zeroCells (Value.int .u8 0).cells (grownCap σ.w (n + s.size) old e - (n + s.size))) e) →
      ∃ τ : GW, τ.w = τw ∧ Stp k σ τ ∧ Own τ k e 1 (.slice (some ⟨σ.w.heap.size, 0, none⟩) (n + s.size) (grownCap σ.w (n + s.size) old e)) (n + s.size) (ts ++ s.data.toList.map Ty.byte) := by
    intro old τw _ hτ
    subst hτ
    have hge := grownCap_ge σ.w (n + s.size) old e
    have hcm : grownCap σ.w (n + s.size) old e ≤ maxLen := grownCap_le_maxLen σ.w (n + s.size) old e hm9
    have hstp : Stp 0 σ (σ.drew.mk' k (.cells (vs.toArray ++ (strCells s).toArray ++ Builtin.zeroCells (Value.int .u8 0).cells (grownCap σ.w (n + s.size) old e - (n + s.size))) e)) := (Stp.drew σ).trans (Stp.mk' σ.drew k _)
    refine ⟨_, rfl, hstp.of0, Own.intro (us := vs ++ strCells s) (heap_alloc_new σ.w.drew _) (by show (if _ = _ then k else _) = k; rw [if_pos]; rfl) hge hcm ?_ ?_ hl' ?_⟩
    · have hz1 : (Value.int IntKind.u8 0).cells.size = 1 := rfl
      simp only [Array.size_append, List.size_toArray, size_zeroCells, hz1, hxl, hwl]; omega
    · simp only [Array.toList_append, List.append_assoc]
      rw [← List.append_assoc, show (n + s.size) * 1 = (vs ++ strCells s).length by rw [List.length_append, hxl, hwl, Nat.mul_one]]
      exact List.take_left
    · exact typed_append r2 (fun j T u hT hu => T.up hstp.le0 (r3 j T u hT hu)) str_typed
  rcases r1.2 with ⟨rfl, rfl⟩ | ⟨g, cap, cur, rfl, _, hg, hn, hm, hcs, htk⟩
  · have hvs : vs = [] := List.eq_nil_of_length_eq_zero hxl
    by_cases hm0 : s.size = 0
    · have hn : s.data.toList = [] := List.eq_nil_of_length_eq_zero (by simpa using hm0)
      refine ⟨.slice none 0 0, σ, ?_, Stp.refl _ _, by rw [hm0, hn]; simpa using h0⟩
      have hf := run_firstCells_string (P := P) (w := σ.w) 1 s
      have hn2 : strCells s = [] := List.eq_nil_of_length_eq_zero (by rw [hwl]; exact hm0)
      simp [Builtin.append_, run_underlying ht, run_underlying hu, sizeOf, typeInfo, hi, hi2, Builtin.lenOf, hm0, hn2] at hf ⊢
      simp [hf]
    · have hr := run_append_nil_string (P := P) (w := σ.w) t u ty e i (.int .u8 0) ht hu hi hi1 s (by omega) (by omega) (by rw [hi3]; omega)
      obtain ⟨τ, e1, e2, e3⟩ := new 0 _ (by omega) rfl
      have e4 : (s.data.map fun b => Value.int .u8 b.toNat) = (strCells s).toArray := by
        apply Array.ext'
        simp [strCells]
      rw [e4] at hr
      simp only [Nat.zero_add] at e1 e3 ⊢
      exact ⟨_, τ, by rw [hr, e1, hvs]; simp, e2, e3⟩
  · have hgk := r4 g rfl
    have hcs' : cur.size = cap := by simpa using hcs
    by_cases hroom : n + s.size ≤ cap
    · have hr := run_append_room_string (P := P) (w := σ.w) t u ty e i ht hu hi hi2 g n cap cur hg s hroom (by omega)
      have hstp : Stp k σ (σ.setRow g (cur.toList.take n ++ strCells s ++ cur.toList.drop (n + s.size)).toArray) := Stp.setRow hgk (by omega)
      have ht' : cur.toList.take n = vs := by simpa using htk
      refine ⟨_, _, hr, hstp, Own.intro (us := vs ++ strCells s) (setRow_heap σ.w g cur _ e (0, 0) hg) hgk hroom hm ?_ ?_ hl' ?_⟩
      · simp only [List.size_toArray, List.length_append, List.length_take, List.length_drop, Array.length_toList, hwl]
        omega
      · rw [ht', show (n + s.size) * 1 = (vs ++ strCells s).length by rw [List.length_append, hxl, hwl, Nat.mul_one]]
        exact List.take_left
      · exact typed_append r2 (fun j T u hT hu => T.up (hstp.le (by omega)) (r3 j T u hT hu)) str_typed
    · have holds : ∀ (j : Nat) (u : Value), vs[j]? = some u → σ.w.cell? ((⟨g, 0, none⟩ : Addr).add j) = some u := r1.cells (g := g) rfl
      have hr := run_append_grow_string (P := P) (w := σ.w) t u ty e i (.int .u8 0) ht hu hi hi1 ⟨g, 0, none⟩ n cap vs (by rw [hi2]; simpa using hxl) holds s (by omega) (by omega) (by rw [hi3]; exact growslice_fits (by omega) (by omega))
      obtain ⟨τ, e1, e2, e3⟩ := new cap _ (by omega) rfl
      exact ⟨_, τ, by rw [hr, e1], e2, e3⟩
theorem m_appendS {k : Nat} {t u e : TypeId} {x y : Operand} {n : Nat} {ts : List Ty} {s : ByteArray} (ht : P.underlying t = some (.slice e)) (hu : P.underlying u = some .string) (he : Info P e (.int .u8 0) 1 1) (hk : 2 ≤ k) (h : Own σ k e 1 (a.eval x) n ts) (hy : a.eval y = .string s)
    (hlen : n + s.size ≤ 140737488355328) : YldM k P ⟨d, .call ⟨.builtin .append, #[x, y], #[t, u]⟩, ty, pos, af, g⟩ a σ (fun v τ => Own τ k e 1 v (n + s.size) (ts ++ s.data.toList.map Ty.byte)) := by
  intro K Q hk'
  obtain ⟨v', τ, hr, hs, ho⟩ := own_appendS (ty := ty) hk ht hu he h hlen
  have hr' : (execOp a.eval ⟨d, .call ⟨.builtin .append, #[x, y], #[t, u]⟩, ty, pos, af, g⟩).run P σ.w = .ok (.value v') τ.w := by
    simp only [execOp, resolve, Sem.run_bind, Sem.run_pure, Result.andThen_ok, invoke, List.map_toArray, List.map_cons, List.map_nil, builtin, hy, hr]
  unfold Oper.wp
  rw [hr']
  exact hk' v' τ hs ho
/-! Numbers, printed. -/
def digitsB : ByteArray := (ByteArray.mk #[48, 49, 50, 51, 52, 53, 54, 55, 56, 57, 97, 98, 99, 100, 101, 102, 103, 104, 105, 106, 107, 108, 109, 110, 111, 112, 113, 114, 115, 116, 117, 118, 119, 120, 121, 122])
def smallsB : ByteArray := (ByteArray.mk (List.toArray (List.append (List.append [48, 48, 48, 49, 48, 50, 48, 51, 48, 52, 48, 53, 48, 54, 48, 55, 48, 56, 48, 57, 49, 48, 49, 49, 49, 50, 49, 51, 49, 52, 49, 53, 49, 54, 49, 55, 49, 56, 49, 57, 50, 48, 50, 49, 50, 50, 50, 51, 50, 52] [50, 53, 50, 54, 50, 55, 50, 56, 50, 57, 51, 48, 51, 49, 51, 50, 51, 51, 51, 52, 51, 53, 51, 54, 51, 55, 51, 56, 51, 57, 52, 48, 52, 49, 52, 50, 52, 51, 52, 52, 52, 53, 52, 54, 52, 55, 52, 56, 52, 57]) (List.append [53, 48, 53, 49, 53, 50, 53, 51, 53, 52, 53, 53, 53, 54, 53, 55, 53, 56, 53, 57, 54, 48, 54, 49, 54, 50, 54, 51, 54, 52, 54, 53, 54, 54, 54, 55, 54, 56, 54, 57, 55, 48, 55, 49, 55, 50, 55, 51, 55, 52] [55, 53, 55, 54, 55, 55, 55, 56, 55, 57, 56, 48, 56, 49, 56, 50, 56, 51, 56, 52, 56, 53, 56, 54, 56, 55, 56, 56, 56, 57, 57, 48, 57, 49, 57, 50, 57, 51, 57, 52, 57, 53, 57, 54, 57, 55, 57, 56, 57, 57]))))
def decL (n : Nat) : List UInt8 := if n < 10 then [(48 + n).toUInt8] else [(48 + n / 10).toUInt8, (48 + n % 10).toUInt8]
def decB (n : Nat) : ByteArray := bsL (decL n)
theorem cvByte {a : Act} {x : Operand} {e : Int} (h0 : 0 ≤ e) (h1 : e < 256) (h : a.eval x = .int .u8 e) : a.eval x = .int .u8 ((e.toNat.toUInt8.toNat : Nat) : Int) := by
  rw [h]
  have : e.toNat.toUInt8.toNat = e.toNat := by simp; omega
  rw [this, Int.toNat_of_nonneg h0]
theorem digits_size : digitsB.size = 36 := by decide +kernel
theorem smalls_size : smallsB.size = 200 := by decide +kernel
theorem small_lo {n : Nat} (h : n < 10) : digitsB.extract n (n + 1) = decB n :=
  (by decide +kernel : ∀ m : Fin 10, digitsB.extract m.val (m.val + 1) = decB m.val) ⟨n, h⟩
theorem small_hi {n : Nat} (h : n < 100) (h2 : 10 ≤ n) : smallsB.extract (n * 2) (n * 2 + 2) = decB n :=
  ((by decide +kernel : ∀ m : Fin 100, m.val < 10 ∨ smallsB.extract (m.val * 2) (m.val * 2 + 2) = decB m.val) ⟨n, h⟩).resolve_left (by simp only; omega)
theorem y_convBS {x : Operand} {t u e : TypeId} {bs : List UInt8} {n : Nat} (ht : P.underlying t = some (.slice e)) (he : P.underlying e = some (.int .u8)) (hu : P.underlying u = some .string) (hx : At (.sl 1 n (bs.map Ty.byte)) σ a x) :
    Yld P ⟨d, .convert t u x, ty, pos, af, g⟩ a σ (Ty.val (.string (bsL bs))).pr := by
  obtain ⟨ad, cap0, bb, o, e1, hcap0, hul, hs, hcl⟩ := hx
  have hn : n = bs.length := by simpa using hul.symm
  subst hn
  rcases hs with hs | ⟨rfl, _⟩
  · have hb : bs = [] := by simpa using hs
    subst hb
    have hr : (convert t u (.slice ad 0 cap0)).run P σ.w = .ok (.string (bsL [])) σ.w := by
      rw [run_convert_bytes_string σ.w t u e ad 0 cap0 ht he hu]
      cases ad <;> simp [Conv.bytesToString, loadCells, loadCellsFrom, bsL] <;> rfl
    exact Yld.of_run (v := .string (bsL [])) (by simp only [execOp, e1, List.length_nil, Sem.run_bind, hr, Result.andThen_ok, Sem.run_pure]) rfl
  · have hr := run_convert_bytes_back (P := P) σ.w t u e ⟨bb, o, none⟩ cap0 bs ht he hu (fun j hj => by
      obtain ⟨v, hv, hT⟩ := hcl j (Ty.byte bs[j]) (by simp [hj])
      rw [Addr.add_lit, hv, show v = _ from hT])
    exact Yld.of_run (v := .string (bsL bs)) (by simp only [execOp, e1, Sem.run_bind, hr, Result.andThen_ok, Sem.run_pure]; rfl) rfl
theorem dec_lo {n : Nat} (h : n < 10) : bsL [(48 + n).toUInt8] = decB n := by unfold decB decL; rw [if_pos h]
theorem dec_hi {n : Nat} (h : n < 100) (h2 : 10 ≤ n) : decB (n / 10) ++ bsL [(48 + n % 10).toUInt8] = decB n := by
  unfold decB decL
  rw [if_pos (by omega), if_neg (by omega)]
  apply ByteArray.ext
  simp [bsL]
theorem dec_size {n : Nat} : (decB n).size ≤ 2 := by unfold decB decL; rw [bsL_size]; split <;> simp
/-! Touches, printed. -/
def pcB (cs : List BCall) (n : Nat) (x : Int) : ByteArray := (if 1 < n then decB n else ByteArray.empty) ++ Utf8.encode (cs.getD x.toNat D0).1
def prR (cs : List BCall) : Nat → List Int → ByteArray
  | _, [] => ByteArray.empty
  | n, x :: r => if (r ≠ [] ∧ r.getD 0 0 = x) ∧ n + 1 < 99 then prR cs (n + 1) r else pcB cs (n + 1) x ++ prR cs 0 r
section
variable {cs : List BCall} {s T : ByteArray} {l : List Int} {i n : Nat}
end
def ptE (cs : List BCall) (l : List Int) : Int := if l.length < 1 ∨ 400 < l.length then 1 else if ∀ k, k < l.length → 0 ≤ l.getD k 0 ∧ l.getD k 0 < (cs.length : Int) then 0 else 12
def ptT (cs : List BCall) (l : List Int) : ByteArray := if ptE cs l = 0 then prR cs 0 l else ByteArray.empty
theorem pt_good {cs : List BCall} {l : List Int} (h : ¬ (l.length < 1 ∨ 400 < l.length)) (hv : ∀ k, k < l.length → 0 ≤ l.getD k 0 ∧ l.getD k 0 < (cs.length : Int)) : ptE cs l = 0 ∧ ptT cs l = prR cs 0 l := by
  have : ptE cs l = 0 := by unfold ptE; rw [if_neg h, if_pos hv]
  exact ⟨this, by unfold ptT; rw [if_pos this]⟩
end Go.KL

/- Runes, written as bytes: bits of bytes, rows of three and four new bytes. -/
namespace Go.KL
open Go.RowKit Go.Lib
section
variable {P : Program} {d : Option Tmp} {ty : TypeId} {pos : String} {af : Array Edge} {g : Option (Nat × Bool)} {a : Act} {σ : GW}
end
def bt (e : Int) : UInt8 := e.toNat.toUInt8
theorem enc_1 {c : Int} (h0 : 0 ≤ c) (h1 : c ≤ 127) : (Utf8.encode c).data.toList = [bt c] := by
  have hv : Utf8.valid c = true := by simp [Utf8.valid]; omega
  unfold Utf8.encode
  simp only [hv, if_true]
  rw [if_pos (by omega)]
  rfl
end Go.KL

/- Structs that are built of structs; 'append' of what is owned. -/
namespace Go.KL
open Go.RowKit
variable {P : Program}
theorem own_appendw {σ : GW} {k : Nat} {t ty e : TypeId} {z : Value} {c by_ : Nat} {v src : Value} {n m : Nat} {ts us : List Ty} (hk : 2 ≤ k) (ht : P.underlying t = some (.slice e)) (he : Info P e z c by_) (hz : z.cells.size = c) (hc : 0 < c)
    (h : Own σ k e c v n ts) (hx : ∃ ad cap b o, src = .slice ad m cap ∧ us.length = m * c ∧ (us = [] ∨ ad = some (⟨b, o, none⟩ : Addr)) ∧ Cells σ b o us) (h1 : ∀ U, U ∈ us → One U) (hlen : n + m ≤ 9223372036854775807) (hbytes : (n + m) * by_ ≤ 140737488355328) :
    ∃ v' τ, (Builtin.append_ #[t, t] ty #[v, src]).run P σ.w = .ok v' τ.w ∧ Stp k σ τ ∧ Own τ k e c v' (n + m) (ts ++ us) := by
  have h0 := h
  obtain ⟨vs, r1, r2, r3, r4⟩ := h
  obtain ⟨ad, cap0, b, o, rfl, hl, hs, hcl⟩ := hx
  obtain ⟨i, hi, hi1, rfl, rfl⟩ := he.get
  obtain ⟨ws, w1, w2, w3⟩ := sl_news hcl
  have hone : ∀ u ∈ ws, u.oneCell' = true := fun u hu => by
    obtain ⟨j, hj⟩ := List.mem_iff_getElem?.1 hu
    obtain ⟨T, hT⟩ : ∃ T, us[j]? = some T := ⟨us[j]'(by rw [← w1]; exact (List.getElem?_eq_some_iff.1 hj).1), by simp⟩
    exact h1 T (List.mem_of_getElem? hT) σ u (w3 j T u hT hj)
  have hlw : ws.length = m * i.size := by rw [w1]; exact hl
  have hl' : (vs ++ ws).length = (ts ++ us).length := by simp [r2, w1]
  -- a new array
  have new : ∀ (old : Nat) (τw : World), old < n + m → τw = σ.w.drew.alloc (.cells (vs.toArray ++ ws.toArray ++ Builtin.zeroCells z.cells (grownCap σ.w (n + m) old e - (n + m))) e) →
      ∃ τ : GW, τ.w = τw ∧ Stp k σ τ ∧ Own τ k e i.size (.slice (some ⟨σ.w.heap.size, 0, none⟩) (n + m) (grownCap σ.w (n + m) old e)) (n + m) (ts ++ us) := by
    intro old τw _ hτ
    subst hτ
    have hge := grownCap_ge σ.w (n + m) old e
    have hcm : grownCap σ.w (n + m) old e ≤ maxLen := grownCap_le_maxLen σ.w (n + m) old e hlen
    have hstp : Stp 0 σ (σ.drew.mk' k (.cells (vs.toArray ++ ws.toArray ++ Builtin.zeroCells z.cells (grownCap σ.w (n + m) old e - (n + m))) e)) := (Stp.drew σ).trans (Stp.mk' σ.drew k _)
    refine ⟨_, rfl, hstp.of0, Own.intro (us := vs ++ ws) (heap_alloc_new σ.w.drew _) (by show (if _ = _ then k else _) = k; rw [if_pos]; rfl) hge hcm ?_ ?_ hl' ?_⟩
    · simp only [Array.size_append, List.size_toArray, size_zeroCells, hz, r1.1, hlw, ← Nat.add_mul]
      congr 1; omega
    · simp only [Array.toList_append, List.append_assoc]
      rw [← List.append_assoc, show (n + m) * i.size = (vs ++ ws).length by rw [List.length_append, r1.1, hlw, Nat.add_mul]]
      exact List.take_left
    · exact typed_append r2 (fun j T u hT hu => T.up hstp.le0 (r3 j T u hT hu)) (fun j T u hT hu => T.up hstp.le0 (w3 j T u hT hu))
  rcases r1.2 with ⟨rfl, rfl⟩ | ⟨g, cap, cur, rfl, _, hg, hn, hm, hcs, htk⟩
  · have hvs : vs = [] := List.eq_nil_of_length_eq_zero (by rw [r1.1]; simp)
    by_cases hm0 : m = 0
    · subst hm0
      have hus : us = [] := List.eq_nil_of_length_eq_zero (by rw [hl]; simp)
      subst hus
      refine ⟨.slice none 0 0, σ, ?_, Stp.refl _ _, by simpa using h0⟩
      cases ad <;> simp [Builtin.append_, run_underlying ht, sizeOf, typeInfo, hi, Builtin.lenOf, Builtin.firstCells, loadCells, loadCellsFrom]
    · have hus : us ≠ [] := by
        intro e; subst e
        have : 0 < m * i.size := Nat.mul_pos (by omega) hc
        simp only [List.length_nil] at hl
        omega
      obtain rfl := hs.resolve_left hus
      have hr := run_append_nil (P := P) σ.w t ty e i z ht hi hi1 ⟨b, o, none⟩ m cap0 ws hlw (fun j u hj => by rw [Addr.add_lit]; exact w2 j u hj) (by omega) (by omega) (by simp only [Nat.zero_add] at hbytes; omega)
      obtain ⟨τ, e1, e2, e3⟩ := new 0 _ (by omega) rfl
      simp only [Nat.zero_add] at e1 e3 ⊢
      exact ⟨_, τ, by rw [hr, e1, hvs]; simp, e2, e3⟩
  · have hlt : g < σ.w.heap.size := (Array.getElem?_eq_some_iff.1 hg).1
    have hgk := r4 g rfl
    by_cases hnone : ad = none
    · subst hnone
      have hus : us = [] := hs.resolve_right (fun h => by cases h)
      have hm0 : m = 0 := by
        subst hus
        rcases Nat.eq_zero_or_pos m with h | h
        · exact h
        · have : 0 < m * i.size := Nat.mul_pos h hc
          simp only [List.length_nil] at hl
          omega
      subst hm0; subst hus
      refine ⟨_, σ, ?_, Stp.refl _ _, by simpa using h0⟩
      simp [Builtin.append_, run_underlying ht, sizeOf, typeInfo, hi, Builtin.lenOf, Builtin.firstCells, hn, storeCells, loadCells]
    · obtain ⟨ad', rfl⟩ := Option.ne_none_iff_exists'.1 hnone
      have hnews : ∀ (j : Nat) (u : Value), ws[j]? = some u → σ.w.cell? (ad'.add j) = some u := fun j u hj => by
        rcases hs with rfl | he'
        · have : ws = [] := List.eq_nil_of_length_eq_zero w1
          subst this; simp at hj
        · cases he'; rw [Addr.add_lit]; exact w2 j u hj
      by_cases hroom : n + m ≤ cap
      · have hfit : n * i.size + ws.length ≤ cur.size := by rw [hlw, hcs, ← Nat.add_mul]; exact Nat.mul_le_mul_right _ hroom
        have hr := run_append_room (P := P) σ.w t ty e i ht hi g n cap cur hg ad' m cap0 ws hlw hnews hone hroom hfit
        have hstp : Stp k σ (σ.setRow g (cur.toList.take (n * i.size) ++ ws ++ cur.toList.drop (n * i.size + ws.length)).toArray) := Stp.setRow hgk (by omega)
        refine ⟨_, _, hr, hstp, Own.intro (us := vs ++ ws) (setRow_heap σ.w g cur _ e (0, 0) hg) hgk hroom hm ?_ ?_ hl' ?_⟩
        · simp only [List.size_toArray, List.length_append, List.length_take, List.length_drop, Array.length_toList]
          omega
        · rw [htk, show (n + m) * i.size = (vs ++ ws).length by rw [List.length_append, r1.1, hlw, Nat.add_mul]]
          exact List.take_left
        · exact typed_append r2 (fun j T u hT hu => T.up (hstp.le (by omega)) (r3 j T u hT hu)) (fun j T u hT hu => T.up (hstp.le (by omega)) (w3 j T u hT hu))
      · have holds : ∀ (j : Nat) (u : Value), vs[j]? = some u → σ.w.cell? ((⟨g, 0, none⟩ : Addr).add j) = some u := r1.cells (g := g) rfl
        have hr := run_append_grow (P := P) σ.w t ty e i z ht hi hi1 ⟨g, 0, none⟩ n cap vs r1.1 holds ad' m cap0 ws hlw hnews (by omega) (by omega) (growslice_fits (by omega) hbytes)
        obtain ⟨τ, e1, e2, e3⟩ := new cap _ (by omega) rfl
        exact ⟨_, τ, by rw [hr, e1], e2, e3⟩


theorem Own.src {σ : GW} {k : Nat} {e : TypeId} {c : Nat} {v : Value} {n : Nat} {ts : List Ty} (h : Own σ k e c v n ts) : ∃ ad cap b o, v = .slice ad n cap ∧ ts.length = n * c ∧ (ts = [] ∨ ad = some (⟨b, o, none⟩ : Addr)) ∧ Cells σ b o ts := by
  have hl := h.len
  obtain ⟨us, h1, h2, h3, h4⟩ := h
  rcases h1.2 with ⟨rfl, rfl⟩ | ⟨g, cap, cur, rfl, _⟩
  · have : ts = [] := List.eq_nil_of_length_eq_zero (by omega)
    subst this
    exact ⟨none, 0, 0, 0, rfl, by simp, .inl rfl, fun j T hj => by simp at hj⟩
  · refine ⟨_, cap, g, 0, rfl, hl, .inr rfl, fun j T hj => ?_⟩
    have hlt := (List.getElem?_eq_some_iff.1 hj).1
    have hu : us[j]? = some us[j] := by simp [show j < us.length by omega]
    refine ⟨us[j], ?_, h3 j T _ hj hu⟩
    have := h1.cells (g := g) rfl j _ hu
    rwa [Addr.add_lit] at this
variable {d : Option Tmp} {ty : TypeId} {pos : String} {af : Array Edge} {g : Option (Nat × Bool)} {a : Act} {σ : GW}
theorem m_appendo {k k2 : Nat} {t e : TypeId} {z : Value} {c by_ : Nat} {x y : Operand} {n m : Nat} {ts us : List Ty} (ht : P.underlying t = some (.slice e)) (he : Info P e z c by_) (hk : 2 ≤ k) (hz : z.cells.size = c) (hc : 0 < c)
    (h : Own σ k e c (a.eval x) n ts) (hx : Own σ k2 e c (a.eval y) m us) (h1 : ∀ U, U ∈ us → One U) (hlen : n + m ≤ 9223372036854775807) (hbytes : (n + m) * by_ ≤ 140737488355328) :
    YldM k P ⟨d, .call ⟨.builtin .append, #[x, y], #[t, t]⟩, ty, pos, af, g⟩ a σ (fun v τ => Own τ k e c v (n + m) (ts ++ us)) := by
  intro K Q hk'
  obtain ⟨v', τ, hr, hs, ho⟩ := own_appendw (ty := ty) hk ht he hz hc h hx.src h1 hlen hbytes
  have hr' : (execOp a.eval ⟨d, .call ⟨.builtin .append, #[x, y], #[t, t]⟩, ty, pos, af, g⟩).run P σ.w = .ok (.value v') τ.w := by
    simp only [execOp, resolve, Sem.run_bind, Sem.run_pure, Result.andThen_ok, invoke, List.map_toArray, List.map_cons, List.map_nil, builtin, hr]
  unfold Oper.wp
  rw [hr']
  exact hk' v' τ hs ho
theorem y_ownnil {k : Nat} {x y : Operand} {t u : TypeId} {e e' : TypeId} {c n : Nat} {ts : List Ty} {v : Value} (ht : P.underlying t = some (.slice e')) (h : Own σ k e c v n ts) (hn : 0 < n) (hx : a.eval x = v) (hy : a.eval y = .slice none 0 0) :
    Yld P ⟨d, .binOp .eql t x y u, ty, pos, af, g⟩ a σ (Ty.bool false).pr := by
  obtain ⟨gg, cap, rfl, _⟩ := h.at hn
  refine Yld.of_run (v := .bool false) ?_ rfl
  simp only [execOp, hx, hy]
  have h1 := Go.Lib.run_eql_slice_nil (P := P) σ.w t e' (some ⟨gg, 0, none⟩) n cap 0 0 ht
  simp [eqGuard, run_underlying ht, h1]
/-! ### Structs of structs -/
end Go.KL

/- Plain maths: touches that are searched. -/
namespace Go.KL
structure Qst where
  met : Nat
  found : List (List Int)
  full : Bool
section
variable (n : Nat) (l : List (List Int)) (cs : List BCall) (leads many : Nat)
end
section
variable {n : Nat} {l : List (List Int)} {cs : List BCall} {leads many : Nat}
/-! ### One lead more -/
/-! ### What was met -/
variable {nm : ByteArray}
/-! ### What is answered -/
end
end Go.KL
namespace Go.KL
section
variable {n : Nat} {l : List (List Int)} {cs : List BCall} {leads many f k : Nat} {path : List Int} {s0 s : Qst}
end
end Go.KL
namespace Go.KL
section
variable {n : Nat} {l : List (List Int)} {cs : List BCall} {leads many f k : Nat} {path : List Int} {s0 s : Qst} {nm : ByteArray}
end
end Go.KL

/- What a search finds: all, in order. -/
namespace Go.KL
section
variable {nm : ByteArray} {n : Nat} {l : List (List Int)} {cs : List BCall} {leads many : Nat}
end
theorem pair_getD {L : List (List Int)} {R : List Int → List Int → Prop} (h : L.Pairwise R) {i j : Nat} (hij : i < j) (hj : j < L.length) : R (L.getD i []) (L.getD j []) := by
  have := List.pairwise_iff_getElem.1 h i j (by omega) hj hij
  simpa [show i < L.length by omega, hj] using this
theorem behind {L : List (List Int)} (h : L.Pairwise fun a b => belowL a b = true) {m : Nat} (hm : 1 ≤ m) {g : List Int} (hg : g ∈ L) (hn : g ∉ L.take m) : (L.take m).length = m ∧ belowL ((L.take m).getD (m - 1) []) g = true := by
  have hg2 : g ∈ L.drop m := by
    rw [← List.take_append_drop m L, List.mem_append] at hg
    exact hg.resolve_left hn
  obtain ⟨j, hj, rfl⟩ := List.getElem_of_mem hg2
  rw [List.length_drop] at hj
  have hlen : (L.take m).length = m := by rw [List.length_take]; omega
  refine ⟨hlen, ?_⟩
  have := pair_getD h (i := m - 1) (j := m + j) (by omega) (by omega)
  rw [List.getElem_drop]
  rw [getD_takeD [] (by omega)]
  simpa [show m + j < L.length by omega] using this
/-! ### What is made of raw numbers -/
end Go.KL

/- Touches there and back: what is printed of leads is read as these. -/
namespace Go.KL
open Go.RowKit Go.Lib
structure Sgn (cs : List BCall) : Prop where
  lo : ∀ k, k < cs.length → 58 ≤ (cs.getD k D0).1 ∧ (cs.getD k D0).1 < 128
  un : ∀ j k, j < k → k < cs.length → (cs.getD j D0).1 ≠ (cs.getD k D0).1
def sgn (cs : List BCall) (x : Int) : Int := (cs.getD x.toNat D0).1
def pcL (cs : List BCall) (n : Nat) (x : Int) : List UInt8 := (if 1 < n then decL n else []) ++ [bt (sgn cs x)]
def prL (cs : List BCall) : Nat → List Int → List UInt8
  | _, [] => []
  | n, x :: r => if (r ≠ [] ∧ r.getD 0 0 = x) ∧ n + 1 < 99 then prL cs (n + 1) r else pcL cs (n + 1) x ++ prL cs 0 r
def rn (l : List UInt8) : List Int := l.map fun b => ((b.toNat : Nat) : Int)
theorem rn_app (a b : List UInt8) : rn (a ++ b) = rn a ++ rn b := List.map_append
theorem bsL_app (a b : List UInt8) : bsL (a ++ b) = bsL a ++ bsL b := by apply ByteArray.ext; simp [bsL]
theorem bt_toNat {c : Int} (h0 : 0 ≤ c) (h : c < 256) : (((bt c).toNat : Nat) : Int) = c := by
  unfold bt
  have : c.toNat.toUInt8.toNat = c.toNat := by simp; omega
  rw [this, Int.toNat_of_nonneg h0]
section
variable {cs : List BCall}
theorem prR_L (hs : Sgn cs) : ∀ (n : Nat) (l : List Int), (∀ k, k < l.length → 0 ≤ l.getD k 0 ∧ l.getD k 0 < (cs.length : Int)) → prR cs n l = bsL (prL cs n l)
  | _, [], _ => rfl
  | n, x :: r, h => by
    have hr : ∀ k, k < r.length → 0 ≤ r.getD k 0 ∧ r.getD k 0 < (cs.length : Int) := fun k hk => by
      have := h (k + 1) (by simp; omega)
      simpa using this
    have hx := h 0 (by simp)
    simp only [List.getD_cons_zero] at hx
    rw [prR, prL]
    split
    · exact prR_L hs (n + 1) r hr
    · have hl := hs.lo x.toNat (by omega)
      have e : Utf8.encode (cs.getD x.toNat D0).1 = bsL [bt (sgn cs x)] := by
        apply ByteArray.ext
        apply Array.ext'
        rw [enc_1 (by omega) (by omega)]
        rfl
      rw [prR_L hs 0 r hr, bsL_app]
      congr 1
      unfold pcB pcL
      rw [bsL_app, e]
      congr 1
      split
      · rfl
      · rfl
theorem decL_lo (n : Nat) (h : n < 100) : ∀ b ∈ decL n, b.toNat < 128 := by
  have : ∀ m : Fin 100, ∀ b ∈ decL m.val, b.toNat < 128 := by decide +kernel
  exact this ⟨n, h⟩
theorem pcL_lo (hs : Sgn cs) {n : Nat} {x : Int} (hn : n < 100) (hx : 0 ≤ x ∧ x < (cs.length : Int)) : ∀ b ∈ pcL cs n x, b.toNat < 128 := by
  intro b hb
  have hl := hs.lo x.toNat (by omega)
  unfold pcL at hb
  rcases List.mem_append.1 hb with h | h
  · split at h
    · exact decL_lo n hn b h
    · cases h
  · rw [List.mem_singleton.1 h]
    have := bt_toNat (c := sgn cs x) (by unfold sgn; omega) (by unfold sgn; omega)
    have h2 : sgn cs x < 128 := hl.2
    omega
theorem prL_lo (hs : Sgn cs) : ∀ (n : Nat) (l : List Int), n ≤ 98 → (∀ k, k < l.length → 0 ≤ l.getD k 0 ∧ l.getD k 0 < (cs.length : Int)) → ∀ b ∈ prL cs n l, b.toNat < 128
  | _, [], _, _ => fun b hb => by cases hb
  | n, x :: r, hn, h => by
    have hr : ∀ k, k < r.length → 0 ≤ r.getD k 0 ∧ r.getD k 0 < (cs.length : Int) := fun k hk => by
      have := h (k + 1) (by simp; omega)
      simpa using this
    have hx := h 0 (by simp)
    simp only [List.getD_cons_zero] at hx
    intro b hb
    rw [prL] at hb
    split at hb
    · exact prL_lo hs (n + 1) r (by omega) hr b hb
    · rcases List.mem_append.1 hb with h1 | h1
      · exact pcL_lo hs (by omega) hx b h1
      · exact prL_lo hs 0 r (by omega) hr b h1
theorem num_none {c : Int} {r : List Int} (h : ¬ (48 ≤ c ∧ c ≤ 57)) (n : Int) (b : Bool) : numR n b (c :: r) = ⟨0, n, b, c :: r⟩ := by rw [numR, if_neg h]
theorem num_dec {n : Nat} {c : Int} {r : List Int} (h1 : 1 ≤ n) (h : n < 100) (hc : ¬ (48 ≤ c ∧ c ≤ 57)) : numR 0 false (rn (decL n) ++ c :: r) = ⟨0, (n : Int), true, c :: r⟩ := by
  by_cases hn : n < 10
  · have e : rn (decL n) = [48 + (n : Int)] := by
      have : ∀ m : Fin 10, rn (decL m.val) = [48 + (m.val : Int)] := by decide +kernel
      exact this ⟨n, hn⟩
    rw [e, List.singleton_append, numR, if_pos (by omega), if_neg (by omega), num_none hc]
    congr 1; omega
  · have e : rn (decL n) = [48 + ((n / 10 : Nat) : Int), 48 + ((n % 10 : Nat) : Int)] := by
      have : ∀ m : Fin 100, ¬ m.val < 10 → rn (decL m.val) = [48 + ((m.val / 10 : Nat) : Int), 48 + ((m.val % 10 : Nat) : Int)] := by decide +kernel
      exact this ⟨n, h⟩ hn
    rw [e, List.cons_append, numR, if_pos (by omega), if_neg (by omega), List.singleton_append, numR, if_pos (by omega), if_neg (by omega), num_none hc]
    congr 1; omega
theorem sgn_at (hs : Sgn cs) {x : Int} (hx : 0 ≤ x ∧ x < (cs.length : Int)) : sgn cs x ∈ sgOf cs ∧ indexL (sgOf cs) (sgn cs x) = x := by
  have := sign_at (cs := cs) (c := sgn cs x) (k := x.toNat) (by omega) (fun j hj => hs.un j x.toNat hj (by omega)) rfl
  exact ⟨this.1, by rw [this.2]; omega⟩
theorem repL_single (n : Nat) (x : Int) : repL n [x] = List.replicate n x := by
  induction n with
  | zero => rfl
  | succ n ih => rw [repL_succ, ih, List.replicate_succ']
theorem it_piece (hs : Sgn cs) {deep n : Nat} {x : Int} {tl : List Int} (h1 : 1 ≤ n) (h : n < 100) (hx : 0 ≤ x ∧ x < (cs.length : Int)) :
    itM (sgOf cs) deep (rn (pcL cs n x) ++ tl) = ⟨0, List.replicate n x, tl⟩ := by
  have hl := hs.lo x.toNat (by omega)
  have hsg : 58 ≤ sgn cs x ∧ sgn cs x < 128 := hl
  have e : rn (pcL cs n x) ++ tl = rn (if 1 < n then decL n else []) ++ sgn cs x :: tl := by
    unfold pcL
    rw [rn_app, List.append_assoc]
    congr 1
    show (((bt (sgn cs x)).toNat : Nat) : Int) :: tl = _
    rw [bt_toNat (by omega) (by omega)]
  have hs1 := sgn_at hs hx
  have one : oneM (sgOf cs) (parM (sgOf cs)) deep (sgn cs x :: tl) = ⟨0, [x], tl⟩ := by
    have h40 : ¬ (sgn cs x :: tl).getD 0 0 = 40 := by show ¬ sgn cs x = 40; omega
    rw [one_sign h40 (by
      show ¬ (sgn cs x ∉ sgOf cs ∨ sgn cs x < 0)
      rintro (h_ | h_)
      · exact h_ hs1.1
      · omega)]
    show (⟨0, [indexL (sgOf cs) (sgn cs x)], tl⟩ : ItP) = _
    rw [hs1.2]
  rw [e]
  by_cases hn : 1 < n
  · rw [if_pos hn]
    have hnum := num_dec (n := n) (c := sgn cs x) (r := tl) h1 h (by omega)
    rw [it_rp hnum (by simp) (by rw [one]), one, if_pos rfl, rp_ok (by simp; omega), Int.toNat_natCast, repL_single]
  · rw [if_neg hn]
    have hn1 : n = 1 := by omega
    have hnum : numR 0 false (rn [] ++ sgn cs x :: tl) = ⟨0, 0, false, sgn cs x :: tl⟩ := num_none (by omega) 0 false
    rw [it_rp hnum (by simp) (by rw [one]), one, if_neg (by simp), rp_ok (by simp), hn1]
    rfl
theorem rn_piece_ne (hs : Sgn cs) {n : Nat} {x : Int} {tl : List Int} (h : n < 100) (hx : 0 ≤ x ∧ x < (cs.length : Int)) : ¬ (rn (pcL cs n x) ++ tl = [] ∨ (rn (pcL cs n x) ++ tl).getD 0 0 = 41) := by
  have hl := hs.lo x.toNat (by omega)
  have hsg : 58 ≤ sgn cs x ∧ sgn cs x < 128 := hl
  unfold pcL
  split
  · rename_i hn
    have hd : ∀ m : Fin 100, 1 < m.val → rn (decL m.val) ≠ [] ∧ (rn (decL m.val)).getD 0 0 ≠ 41 := by decide +kernel
    have h2 := hd ⟨n, h⟩ hn
    simp only at h2
    obtain ⟨c, r, e⟩ := List.exists_cons_of_ne_nil h2.1
    have h3 := h2.2
    rw [e] at h3
    rw [rn_app, e]
    rintro (h_ | h_)
    · simp at h_
    · exact h3 h_
  · rintro (h_ | h_)
    · simp [rn] at h_
    · have : (((bt (sgn cs x)).toNat : Nat) : Int) = 41 := h_
      rw [bt_toNat (by omega) (by omega)] at this
      omega
theorem par_print (hs : Sgn cs) {deep : Nat} {tl : List Int} : ∀ (l : List Int) (n : Nat) (out : List Int), n ≤ 98 → (0 < n → l ≠ []) → (∀ k, k < l.length → 0 ≤ l.getD k 0 ∧ l.getD k 0 < (cs.length : Int)) → out.length + n + l.length ≤ 400 →
    parM (sgOf cs) deep out (rn (prL cs n l) ++ tl) = parM (sgOf cs) deep (out ++ List.replicate n (l.getD 0 0) ++ l) tl
  | [], n, out, _, hn, _, _ => by
    have : n = 0 := by
      rcases Nat.eq_zero_or_pos n with h | h
      · exact h
      · exact absurd rfl (hn h)
    subst this
    simp [prL, rn]
  | x :: r, n, out, hn, _, h, hlen => by
    have hr : ∀ k, k < r.length → 0 ≤ r.getD k 0 ∧ r.getD k 0 < (cs.length : Int) := fun k hk => by
      have := h (k + 1) (by simp; omega)
      simpa using this
    have hx := h 0 (by simp)
    simp only [List.getD_cons_zero] at hx ⊢
    simp only [List.length_cons] at hlen
    rw [prL]
    split
    · rename_i hc
      rw [par_print hs r (n + 1) out (by omega) (fun _ => hc.1.1) hr (by omega), hc.1.2]
      congr 1
      rw [List.replicate_succ']
      simp
    · have hp := it_piece hs (deep := deep) (n := n + 1) (x := x) (tl := rn (prL cs 0 r) ++ tl) (by omega) (by omega) hx
      have hne := rn_piece_ne hs (n := n + 1) (x := x) (tl := rn (prL cs 0 r) ++ tl) (by omega) hx
      rw [rn_app, List.append_assoc]
      have hg := x_go (deep := deep) (out := out) rfl hne hp (by simp; omega)
      rw [← hg, par_print hs r 0 (out ++ List.replicate (n + 1) x) (by omega) (fun h => absurd h (by omega)) hr (by simp; omega)]
      congr 1
      rw [List.replicate_succ']
      simp
theorem prL_len (n : Nat) (l : List Int) : (prL cs n l).length ≤ 3 * l.length := by
  induction l generalizing n with
  | nil => simp [prL]
  | cons x r ih =>
    rw [prL]
    split
    · have := ih (n + 1); simp; omega
    · have h1 := ih 0
      have h2 : (pcL cs (n + 1) x).length ≤ 3 := by
        unfold pcL
        split
        · have : (decL (n + 1)).length ≤ 2 := by unfold decL; split <;> simp
          simp; omega
        · simp
      simp only [List.length_append, List.length_cons]; omega
theorem there {l : List Int} (hs : Sgn cs) (h1 : 1 ≤ l.length) (h2 : l.length ≤ 60) (hv : ∀ k, k < l.length → 0 ≤ l.getD k 0 ∧ l.getD k 0 < (cs.length : Int)) :
    (ptM (sgOf cs) (ptT cs l)).err = 0 ∧ (ptM (sgOf cs) (ptT cs l)).out = l := by
  have hg := pt_good (cs := cs) (l := l) (by omega) hv
  rw [hg.2, prR_L hs 0 l hv]
  have hL := asc_runs (prL_lo hs 0 l (by omega) hv)
  have hsz : ¬ 4000 < (bsL (prL cs 0 l)).size := by rw [bsL_size]; have := prL_len (cs := cs) 0 l; omega
  have hp : parM (sgOf cs) 0 [] (runsL (bsL (prL cs 0 l))) = ⟨0, l, []⟩ := by
    rw [hL]
    have := par_print hs (deep := 0) (tl := []) l 0 [] (by omega) (fun h => absurd h (by omega)) hv (by simp; omega)
    rw [List.append_nil] at this
    show parM _ _ _ (rn _) = _
    rw [this, par_stop (.inl rfl)]
    simp
  rw [pt_ok hsz hp.symm rfl rfl (by intro e; simp only at e; rw [e] at h1; simp at h1)]
  exact ⟨rfl, rfl⟩
end
end Go.KL

/- A text cut at each byte of a kind. -/
namespace Go.KL
open Go.Lib
def cutL (c : UInt8) : List UInt8 → List (List UInt8)
  | [] => [[]]
  | b :: r => if b = c then [] :: cutL c r else match cutL c r with | [] => [[b]] | p :: ps => (b :: p) :: ps
theorem cut_none {c : UInt8} : ∀ {l : List UInt8}, indexByte l c = -1 → cutL c l = [l]
  | [], _ => rfl
  | b :: r, h => by
    unfold indexByte at h
    split at h
    · cases h
    · rename_i hb
      have hbc : b ≠ c := by simpa using hb
      split at h
      · rename_i h1
        have h1' : indexByte r c = -1 := by simpa using h1
        rw [cutL, if_neg hbc, cut_none h1']
      · have := indexByte_ge r c
        rename_i h1
        have h1' : ¬ indexByte r c = -1 := by simpa using h1
        omega
theorem cut_at {c : UInt8} : ∀ {l : List UInt8} {o : Nat}, indexByte l c = o → cutL c l = l.take o :: cutL c (l.drop (o + 1))
  | [], o, h => by simp [indexByte] at h
  | b :: r, o, h => by
    unfold indexByte at h
    split at h
    · rename_i hb
      have hbc : b = c := by simpa using hb
      have : o = 0 := by omega
      subst this
      rw [cutL, if_pos hbc]; rfl
    · rename_i hb
      have hbc : b ≠ c := by simpa using hb
      split at h
      · omega
      · have h2 := indexByte_ge r c
        rename_i h1
        have h1' : ¬ indexByte r c = -1 := by simpa using h1
        obtain ⟨k, rfl⟩ : ∃ k, o = k + 1 := ⟨o - 1, by omega⟩
        have h3 : indexByte r c = k := by omega
        rw [cutL, if_neg hbc, cut_at h3]
        simp
theorem ix_count {c : UInt8} : ∀ {l : List UInt8}, indexByte l c = -1 ↔ l.count c = 0
  | [] => by simp [indexByte]
  | b :: r => by
    have ih := ix_count (c := c) (l := r)
    have hg := indexByte_ge r c
    unfold indexByte
    rw [List.count_cons]
    by_cases hb : (b == c) = true
    · simp [hb]
    · simp only [hb]
      by_cases h1 : indexByte r c = -1
      · simp [h1, ih.1 h1]
      · have : ¬ r.count c = 0 := fun e => h1 (ih.2 e)
        simp [h1]
        omega
theorem count_at {c : UInt8} : ∀ {l : List UInt8} {o : Nat}, indexByte l c = o → l.count c = (l.drop (o + 1)).count c + 1 ∧ o < l.length
  | [], o, h => by simp [indexByte] at h
  | b :: r, o, h => by
    unfold indexByte at h
    split at h
    · rename_i hb
      have hbc : b = c := by simpa using hb
      have : o = 0 := by omega
      subst this
      subst hbc
      simp
    · rename_i hb
      have hbc : b ≠ c := by simpa using hb
      split at h
      · omega
      · have h2 := indexByte_ge r c
        rename_i h1
        have h1' : ¬ indexByte r c = -1 := by simpa using h1
        obtain ⟨k, rfl⟩ : ∃ k, o = k + 1 := ⟨o - 1, by omega⟩
        obtain ⟨h4, h5⟩ := count_at (l := r) (c := c) (o := k) (by omega)
        rw [List.count_cons_of_ne hbc]
        simp only [List.drop_succ_cons, List.length_cons]
        exact ⟨h4, by omega⟩
def cutT (c : UInt8) (s : ByteArray) : List ByteArray := (cutL c s.data.toList).map bsL
theorem bsL_data (s : ByteArray) : bsL s.data.toList = s := by apply ByteArray.ext; simp [bsL]
theorem data_bsL (l : List UInt8) : (bsL l).data.toList = l := by simp [bsL]
theorem ext_bsL (s : ByteArray) (i j : Nat) : s.extract i j = bsL ((s.data.toList.take j).drop i) := by
  apply ByteArray.ext
  apply Array.ext'
  simp [bsL, ByteArray.data_extract, List.extract_eq_take_drop, List.drop_take]
end Go.KL
namespace Go.KL
section
variable {P : Program} {d : Option Tmp} {ty : TypeId} {pos : String} {af : Array Edge} {g : Option (Nat × Bool)} {a : Act} {σ : GW}
theorem y_min {x y : Operand} {t : Array TypeId} {m n : Int} (hx : a.eval x = .int .i64 m) (hy : a.eval y = .int .i64 n) : Yld P ⟨d, .call ⟨.builtin .min, #[x, y], t⟩, ty, pos, af, g⟩ a σ (Ty.int (min m n)).pr := by
  refine Yld.of_run (v := .int .i64 (min m n)) ?_ rfl
  have hx' := hx
  have hy' := hy
  have hb : ∀ cs, (builtin .min t ty cs #[.int .i64 m, .int .i64 n]).run P σ.w = .ok (.value (.int .i64 (min m n))) σ.w := by
    intro cs
    simp only [builtin, Builtin.min_, List.foldlM, Builtin.min2]
    simp [go_sem]
    omega
  simp only [execOp, resolve, Sem.run_bind, Sem.run_pure, Result.andThen_ok, invoke, List.map_toArray, List.map_cons, List.map_nil, hx, hy]
  exact hb _
end
end Go.KL
namespace Go.KL
open Go.Lib
theorem ext_head {l : List UInt8} {m k : Nat} (h : k = m) : (bsL l).extract 0 k = bsL (l.take m) := by
  rw [h, ext_bsL, data_bsL, List.drop_zero]
theorem ext_tail {l : List UInt8} {m k : Nat} (h : k = m) : (bsL l).extract k (bsL l).size = bsL (l.drop m) := by
  rw [h, ext_bsL, data_bsL, bsL_size, List.take_length]
variable {ys T : List ByteArray} {l : List UInt8} {i m : Nat} {c : UInt8} {v : ByteArray}
theorem set_take (hi : i < ys.length) : (ys.set i v).take (i + 1) = ys.take i ++ [v] := by
  rw [List.take_add_one, List.getElem?_set_self hi]
  rw [List.take_set_of_le (Nat.le_refl i)]
  rfl
theorem sp_go (hq : ys.take i ++ (cutL c l).map bsL = T) (hm : indexByte l c = m) (hi : i < ys.length) (hv : v = bsL (l.take m)) : (ys.set i v).take (i + 1) ++ (cutL c (l.drop (m + 1))).map bsL = T := by
  rw [set_take hi, hv, ← hq, cut_at hm]
  simp
theorem sp_end (hq : ys.take i ++ (cutL c l).map bsL = T) (hc : l.count c = 0) (hi : i < ys.length) : (ys.set i (bsL l)).take (i + 1) = T := by
  rw [set_take hi, ← hq, cut_none (ix_count.2 hc)]
  rfl
end Go.KL
namespace Go.KL
variable {ys T : List ByteArray} {L : List UInt8} {i j : Nat} {s : ByteArray}
end Go.KL
namespace Go.KL
variable {ys T : List ByteArray} {L : List UInt8} {i j : Nat} {s : ByteArray}
end Go.KL

/- Numbers of digits. -/
namespace Go.KL
def dgF (v : Int) : List UInt8 → Int
  | [] => v
  | b :: r => if b.toNat < 48 ∨ 57 < b.toNat then -1 else dgF (if 1000000000 < v * 10 + ((b.toNat : Int) - 48) then 1000000000 else v * 10 + ((b.toNat : Int) - 48)) r
def noNum (s : ByteArray) : Prop := s.size = 0 ∨ (1 < s.size ∧ (s.get! 0).toNat = 48)
instance (s : ByteArray) : Decidable (noNum s) := by unfold noNum; infer_instance
def digE (s : ByteArray) : Int := if noNum s then -1 else dgF 0 s.data.toList
variable {s : ByteArray} {i : Nat} {v T : Int} {L : List UInt8}
end Go.KL
namespace Go.KL
variable {s : ByteArray}
end Go.KL

/- Digits trimmed off; numbers read by the library and by the document. -/
namespace Go.KL
open Go.Lib
def isDig (b : UInt8) : Prop := 48 ≤ b.toNat ∧ b.toNat ≤ 57
theorem dropWhile_nil {α : Type} {p : α → Bool} : ∀ {l : List α}, l.dropWhile p = [] ↔ ∀ x ∈ l, p x = true
  | [] => by simp
  | x :: l => by
    rw [List.dropWhile_cons]
    by_cases h : p x = true
    · rw [if_pos h, dropWhile_nil]; simp [h]
    · rw [if_neg h]; simp [h]
theorem dropWhile_head {α : Type} {p : α → Bool} : ∀ {l : List α} {x : α} {r : List α}, l.dropWhile p = x :: r → p x = false
  | y :: l, x, r, h => by
    rw [List.dropWhile_cons] at h
    by_cases hy : p y = true
    · rw [if_pos hy] at h; exact dropWhile_head h
    · rw [if_neg hy] at h
      cases h
      simpa using hy
theorem trimS_nil {l cs : List UInt8} : trimS l cs = [] ↔ ∀ b ∈ l, cs.contains b = true := by
  unfold trimS trimLeftS trimRightS
  rw [dropWhile_nil]
  constructor
  · intro h
    cases e : l.reverse.dropWhile (cs.contains ·) with
    | nil =>
      intro b hb
      exact dropWhile_nil.1 e b (List.mem_reverse.2 hb)
    | cons x r =>
      have h1 := dropWhile_head e
      rw [e] at h
      have h2 := h x (by simp)
      rw [h1] at h2; cases h2
  · intro h
    have e : l.reverse.dropWhile (cs.contains ·) = [] := dropWhile_nil.2 fun b hb => h b (List.mem_reverse.1 hb)
    rw [e]
    intro x hx; simp at hx
theorem dig_mem (b : UInt8) : ([48, 49, 50, 51, 52, 53, 54, 55, 56, 57] : List UInt8).contains b = true ↔ isDig b := by
  have key : ∀ n, n < 256 → (([48, 49, 50, 51, 52, 53, 54, 55, 56, 57] : List UInt8).contains (UInt8.ofNat n) = true ↔ (48 ≤ n ∧ n ≤ 57)) := by decide +kernel
  have := key b.toNat (UInt8.toNat_lt b)
  rw [show UInt8.ofNat b.toNat = b by simp] at this
  exact this
/-! ### The number itself -/
def stN (a : Nat) (b : UInt8) : Nat := a * 10 + (b.toNat - 48)
def exN (a : Nat) (l : List UInt8) : Nat := l.foldl stN a
theorem exN_nil (a : Nat) : exN a [] = a := List.foldl_nil ..
theorem exN_cons (a : Nat) (b : UInt8) (r : List UInt8) : exN a (b :: r) = exN (stN a b) r := List.foldl_cons ..
theorem stN_eq (a : Nat) (b : UInt8) : stN a b = a * 10 + (b.toNat - 48) := rfl
theorem stN_le (a : Nat) (b : UInt8) : a ≤ stN a b := by unfold stN; omega
attribute [irreducible] exN stN
theorem exN_le (l : List UInt8) : ∀ a : Nat, a ≤ exN a l := by
  induction l with
  | nil => intro a; rw [exN_nil]; exact Nat.le_refl _
  | cons b r ih =>
    intro a
    rw [exN_cons]
    exact Nat.le_trans (stN_le a b) (ih (stN a b))
theorem parse_dig : ∀ (l : List UInt8) (a : Nat), (∀ b ∈ l, isDig b) → (parseUint10 a l = .ok (exN a l)) ∨ (parseUint10 a l = .range ∧ 18446744073709551616 ≤ exN a l)
  | [], a, _ => .inl (by rw [parseUint10, exN_nil])
  | b :: r, a, h => by
    have hb : 48 ≤ b.toNat ∧ b.toNat ≤ 57 := h b (by simp)
    have ih := parse_dig r (stN a b) (fun x hx => h x (by simp [hx]))
    have hle := exN_le r (stN a b)
    have hst := stN_eq a b
    rw [parseUint10, exN_cons, if_pos hb, ← hst]
    by_cases h1 : 1844674407370955162 ≤ a
    · rw [if_pos h1]
      exact .inr ⟨rfl, by omega⟩
    · rw [if_neg h1]
      by_cases h2 : 18446744073709551616 ≤ stN a b
      · rw [if_pos h2]
        exact .inr ⟨rfl, by omega⟩
      · rw [if_neg h2]
        exact ih
theorem dgF_ex : ∀ (l : List UInt8) (a : Nat), (∀ b ∈ l, isDig b) → dgF ((min a 1000000000 : Nat) : Int) l = ((min (exN a l) 1000000000 : Nat) : Int)
  | [], a, _ => by rw [exN_nil]; rfl
  | b :: r, a, h => by
    have hb := h b (by simp)
    have ih := dgF_ex r (stN a b) (fun x hx => h x (by simp [hx]))
    have hst := stN_eq a b
    unfold isDig at hb
    rw [dgF, exN_cons, if_neg (by omega), ← ih]
    congr 1
    split <;> omega
theorem atoi_dig {l : List UInt8} (hd : ∀ b ∈ l, isDig b) (hne : l ≠ []) : (∃ v : Nat, atoiAll l = .ok (v : Int) ∧ dgF 0 l = ((min v 1000000000 : Nat) : Int)) ∨ (atoiAll l = .range ∧ dgF 0 l = 1000000000) := by
  have hD := dgF_ex l 0 hd
  rw [show ((min 0 1000000000 : Nat) : Int) = 0 from rfl] at hD
  cases l with
  | nil => exact absurd rfl hne
  | cons c r =>
    have hc := hd c (by simp)
    unfold isDig at hc
    have e1 : (if c.toNat = 43 ∨ c.toNat = 45 then r else c :: r) = c :: r := if_neg (by omega)
    have hM : parseMag (c :: r) = parseUint10 0 (c :: r) := by unfold parseMag; rw [if_neg (by simp)]
    have hn : ¬ c.toNat = 45 := by omega
    rcases parse_dig (c :: r) 0 hd with h | ⟨h, h64⟩
    · by_cases hbig : 9223372036854775808 ≤ exN 0 (c :: r)
      · refine .inr ⟨?_, by rw [hD]; omega⟩
        simp only [atoiAll, e1, hM, h]
        rw [if_pos ⟨hn, hbig⟩]
      · refine .inl ⟨_, ?_, hD⟩
        simp only [atoiAll, e1, hM, h]
        rw [if_neg (fun e => hbig e.2), if_neg (fun e => hn e.1), if_neg hn]
    · refine .inr ⟨?_, by rw [hD]; omega⟩
      simp only [atoiAll, e1, hM, h]
theorem dgF_bad : ∀ (l : List UInt8) (v : Int), (∃ b ∈ l, ¬ isDig b) → dgF v l = -1
  | [], v, h => by obtain ⟨b, hb, _⟩ := h; cases hb
  | b :: r, v, h => by
    unfold dgF
    split
    · rfl
    · rename_i hb
      refine dgF_bad r _ ?_
      obtain ⟨x, hx, hn⟩ := h
      rcases List.mem_cons.1 hx with rfl | hx
      · exact absurd ⟨by omega, by omega⟩ hn
      · exact ⟨x, hx, hn⟩
end Go.KL

/- Changes as texts: what the reader does, sign by sign; that it is what the document's loop does. -/
namespace Go.KL
def incrB : List Int → Bool
  | [] => true
  | [_] => true
  | x :: y :: r => decide (x < y) && incrB (y :: r)
theorem incrB_iff : ∀ (l : List Int), incrB l = true ↔ ∀ k, k + 1 < l.length → l.getD k 0 < l.getD (k + 1) 0
  | [] => by simp [incrB]
  | [x] => by simp [incrB]
  | x :: y :: r => by
    rw [incrB, Bool.and_eq_true, decide_eq_true_eq, incrB_iff (y :: r)]
    constructor
    · rintro ⟨h1, h2⟩ k hk
      cases k with
      | zero => exact h1
      | succ k =>
        have := h2 k (by simp at hk ⊢; omega)
        simpa using this
    · intro h
      refine ⟨h 0 (by simp), fun k hk => ?_⟩
      have := h (k + 1) (by simp at hk ⊢; omega)
      simpa using this
def plFst (l : List Int) : List Int := if (l.getD 0 0).toNat % 2 = 0 then 1 :: l else l
def plLst (n : Int) (m : List Int) : List Int := if m.getD (m.length - 1) 0 < n ∧ (n - m.getD (m.length - 1) 0).toNat % 2 = 1 then m ++ [n] else m
def plIn (n : Int) (l : List Int) : List Int := plLst n (plFst l)
def plPutE (n : Int) (k : Nat) (l : List Int) : Int := if chgMay n l ≠ 0 then chgMay n l else if 200 < k + 1 then 3 else 0
def clE (n : Int) (blk : List (List Int)) (sm : List Int) : Int := if sm = [] then 0 else if incrB sm = false then 6 else plPutE n blk.length (plIn n sm)
def clB (n : Int) (blk : List (List Int)) (sm : List Int) : List (List Int) := if sm = [] then blk else blk ++ [plIn n sm]
def clD (sm : List Int) (d : Bool) : Bool := if sm = [] then d else true
def mirL (b : Bool) (l : List (List Int)) : List (List Int) := if b = true then l ++ (l.take (l.length - 1)).reverse else l
structure PSt where
  all : List (List Int)
  blk : List (List Int)
  mir : Bool
  sm : List Int
  dot : Bool
def enE (n : Int) (s : PSt) : Int := if clE n s.blk s.sm ≠ 0 then clE n s.blk s.sm else if clD s.sm s.dot = false then 5 else if 200 < (s.all ++ mirL s.mir (clB n s.blk s.sm)).length then 3 else 0
def enA (n : Int) (s : PSt) : List (List Int) := s.all ++ mirL s.mir (clB n s.blk s.sm)
def isX (c : Int) : Bool := decide (c = 120) || decide (c = 88) || decide (c = 45) || decide (c = 215)
def isA (f : Bool) (c : Int) : Bool := f && (decide (c = 38) || decide (c = 43))
def sgE (n : Int) (s : PSt) (f : Bool) (c : Int) : Int :=
  if isA f c = true then 0
  else if isX c = true then (if clE n s.blk s.sm ≠ 0 then clE n s.blk s.sm else plPutE n (clB n s.blk s.sm).length [])
  else if c = 46 then (if s.sm = [] ∧ s.dot = false then 4 else clE n s.blk s.sm)
  else if c = 44 then (if s.sm = [] ∧ s.dot = false then 4 else enE n s)
  else if signIdx c < 0 then (if clE n s.blk s.sm ≠ 0 then clE n s.blk s.sm else 4)
  else 0
def sgS (n : Int) (s : PSt) (f : Bool) (c : Int) : PSt :=
  if isA f c = true then { s with mir := decide (c = 38) }
  else if isX c = true then ⟨s.all, clB n s.blk s.sm ++ [[]], s.mir, [], true⟩
  else if c = 46 then ⟨s.all, clB n s.blk s.sm, s.mir, [], false⟩
  else if c = 44 then ⟨enA n s, [], false, [], false⟩
  else { s with sm := s.sm ++ [signIdx c + 1] }
def plF (n : Int) : List Int → PSt → Bool → Int × List (List Int)
  | [], s, _ => if enE n s ≠ 0 then (enE n s, []) else (0, enA n s)
  | c :: r, s, f => if sgE n s f c ≠ 0 then (sgE n s f c, []) else plF n r (sgS n s f c) (decide (c = 44))
structure QSt where
  all : List (List Int)
  blk : List (List Int)
  mir : Bool
  sm : List Int
  beg : Bool
  dot : Bool
theorem signIdx_spec {c : Int} (h : c = 38 ∨ c = 43 ∨ c = 44 ∨ c = 46 ∨ c = 120 ∨ c = 88 ∨ c = 45 ∨ c = 215) : signIdx c < 0 := by
  rcases h with rfl | rfl | rfl | rfl | rfl | rfl | rfl | rfl <;> decide +kernel
theorem isX_sign {c : Int} (h : isX c = true) : signIdx c < 0 := by
  simp only [isX, Bool.or_eq_true, decide_eq_true_eq] at h
  exact signIdx_spec (by omega)
theorem isA_sign {f : Bool} {c : Int} (h : isA f c = true) : signIdx c < 0 := by
  simp only [isA, Bool.and_eq_true, Bool.or_eq_true, decide_eq_true_eq] at h
  exact signIdx_spec (by omega)
theorem clE_nil {n : Int} {blk : List (List Int)} : clE n blk [] = 0 := by unfold clE; rw [if_pos rfl]
theorem clB_nil {n : Int} {blk : List (List Int)} : clB n blk [] = blk := by unfold clB; rw [if_pos rfl]
def ps0 : PSt := ⟨[], [], false, [], false⟩
def plM (n : Int) (t : ByteArray) : Int × List (List Int) := if n < 1 ∨ 12 < n then (1, []) else if 4000 < t.size then (3, []) else plF n (runsL t) ps0 true
end Go.KL

/- 'copy' into a row that is owned; a row told several times. -/
namespace Go.KL
open Go.RowKit
variable {P : Program} {d : Option Tmp} {ty : TypeId} {pos : String} {af : Array Edge} {g : Option (Nat × Bool)} {a : Act} {σ : GW}
theorem own_copy {k : Nat} {t e : TypeId} {z : Value} {by_ : Nat} {v : Value} {n : Nat} {ts us : List Ty} {j sLen sCap : Nat} {ad : Addr} {cs : List Value} (hk : 2 ≤ k) (ht : P.underlying t = some (.slice e)) (he : Info P e z 1 by_) (ho : Own σ k e 1 v n ts) (hj : j < n)
    (hcs : cs.length = Nat.min sLen (n - j)) (hl : cs.length = us.length) (hsrc : ∀ q u, cs[q]? = some u → σ.w.cell? (ad.add q) = some u) (hT : ∀ (q : Nat) (T : Ty) (u : Value), us[q]? = some T → cs[q]? = some u → T.has σ u) (h1 : ∀ u ∈ cs, u.oneCell' = true) :
    ∃ τ : GW, (Builtin.copy_ #[t, t] ty #[sufOf v j, .slice (some ad) sLen sCap]).run P σ.w = .ok (goInt cs.length) τ.w ∧ Stp k σ τ ∧ Own τ k e 1 v n (ts.take j ++ us ++ ts.drop (j + us.length)) := by
  have hlen := ho.len
  obtain ⟨vs, r1, r2, r3, r4⟩ := ho
  rcases r1.2 with ⟨rfl, h0⟩ | ⟨gg, cap, cur, rfl, _, hg, hn, hmm, hcz, htk⟩
  · omega
  have hx : sufOf (.slice (some ⟨gg, 0, none⟩) n cap) j = .slice (some ⟨gg, j, none⟩) (n - j) (cap - j) := by
    show sliced (some ⟨gg, 0, none⟩) j n cap 1 = _
    unfold sliced
    rw [if_neg (by omega)]
    simp [Addr.add_lit]
  have hmin : cs.length ≤ n - j := by rw [hcs]; exact Nat.min_le_right _ _
  have hr := run_copy_row (P := P) σ.w t t ty e gg j (n - j) (cap - j) ad sLen sCap cur e cs ht (by obtain ⟨i, hi, _, hi2, _⟩ := he.get; rw [hi]; simp [hi2]) hg hcs hsrc (by omega) h1
  rw [hx]
  refine ⟨σ.setRow gg (cur.toList.take j ++ cs ++ cur.toList.drop (j + cs.length)).toArray, hr, Stp.setRow (r4 gg rfl) (by omega), ?_⟩
  have hstp : Stp k σ (σ.setRow gg (cur.toList.take j ++ cs ++ cur.toList.drop (j + cs.length)).toArray) := Stp.setRow (r4 gg rfl) (by omega)
  have hle := hstp.le (by omega)
  have hvs : vs = cur.toList.take n := by rw [← htk, Nat.mul_one]
  have hcl : cur.toList.length = cap := by rw [Array.length_toList, hcz, Nat.mul_one]
  refine Own.intro (us := vs.take j ++ cs ++ vs.drop (j + cs.length)) (setRow_heap σ.w gg cur _ e (0, 0) hg) (r4 gg rfl) hn hmm ?_ ?_ ?_ ?_
  · simp only [List.size_toArray, List.length_append, List.length_take, List.length_drop]; omega
  · rw [hvs, Nat.mul_one]
    apply List.ext_getElem?
    intro q
    simp only [List.getElem?_append, List.getElem?_take, List.getElem?_drop, List.length_append, List.length_take, List.length_drop, hcl, Nat.min_eq_left (show j ≤ cap by omega), Nat.min_eq_left (show j ≤ min n cap by omega)]
    repeat' split
    all_goals first | rfl | (exfalso; omega) | (congr 1; omega) | (rw [List.getElem?_eq_none (by simp only [Array.length_toList, hcz]; omega)])
  · simp only [List.length_append, List.length_take, List.length_drop]; omega
  · have hvT : ∀ (q : Nat) (T : Ty) (u : Value), ts[q]? = some T → vs[q]? = some u → T.has (σ.setRow gg (cur.toList.take j ++ cs ++ cur.toList.drop (j + cs.length)).toArray) u := fun q T u h1 h2 => T.up hle (r3 q T u h1 h2)
    refine typed_append (by simp only [List.length_append, List.length_take]; omega) (typed_append (by simp only [List.length_take]; omega) ?_ (fun q T u h1 h2 => T.up hle (hT q T u h1 h2))) ?_
    · intro q T u h1 h2
      rw [List.getElem?_take] at h1 h2
      split at h1
      · rename_i hq; rw [if_pos hq] at h2; exact hvT q T u h1 h2
      · cases h1
    · intro q T u h1 h2
      rw [List.getElem?_drop] at h1 h2
      rw [← hl] at h1
      exact hvT _ T u h1 h2
def Pr.cpd (k : Nat) (e : TypeId) (n : Nat) (w : Value) (m : Nat) (ts : List Ty) : Pr := ⟨fun σ v => v = .int .i64 (m : Int) ∧ Own σ k e 1 w n ts, fun hs h => ⟨h.1, h.2.keep hs (by decide) (.inl rfl)⟩⟩
def SlForm (v : Value) (n : Nat) : Prop := ∃ ad cap, v = .slice ad n cap ∧ n ≤ cap ∧ cap ≤ 9223372036854775807
section
variable {x y : Operand} {n : Nat} {t e' : TypeId} {z v : Value} {b : Nat} {ki : IntKind} (ht : P.underlying t = some (.slice e')) (he : Info P e' z 1 b) (ho : SlForm v n) (hx : a.eval x = v)
include ht he ho hx
theorem y_preF {i : Nat} (hy : a.eval y = .int ki i) (hi : i ≤ n) : Yld P ⟨d, .slice t x none (some y) none, ty, pos, af, g⟩ a σ (Ty.val (preOf v i)).pr := by
  obtain ⟨ad, cap, rfl, hn, hm⟩ := ho
  refine Yld.of_run (v := sliced ad 0 i cap 1) ?_ ?_
  · have h1 := run_slice_h (P := P) σ.w t ad n cap (elem_of ht) ki (i : Int) (by omega) (by omega)
    rw [elem_eq ht, he.size] at h1
    simp only [execOp, hx, hy, Option.map_some, Option.map_none, Sem.run_bind, run_sliceAt_slice σ.w t _ _ _ _ (elem_of ht), h1, Result.andThen_ok, Sem.run_pure, Int.toNat_natCast]
  · show sliced ad 0 i cap 1 = preOf _ i
    unfold sliced preOf
    cases ad <;> simp [Addr.add_zero']
theorem y_sufF {j : Nat} (hy : a.eval y = .int ki j) (hj : j ≤ n) : Yld P ⟨d, .slice t x (some y) none none, ty, pos, af, g⟩ a σ (Ty.val (sufOf v j)).pr := by
  obtain ⟨ad, cap, rfl, hn, hm⟩ := ho
  refine Yld.of_run (v := sliced ad j n cap 1) ?_ rfl
  have h1 := run_slice_l (P := P) σ.w t ad n cap (elem_of ht) ki (j : Int) (by omega) (by omega)
  rw [elem_eq ht, he.size] at h1
  simp only [execOp, hx, hy, Option.map_some, Option.map_none, Sem.run_bind, run_sliceAt_slice σ.w t _ _ _ _ (elem_of ht), h1, Result.andThen_ok, Sem.run_pure, Int.toNat_natCast]
end
theorem Own.suf0 {k : Nat} {e : TypeId} {n : Nat} {v : Value} {ts : List Ty} (h : Own σ k e 1 v n ts) (hn : 0 < n) : sufOf v 0 = v := by
  obtain ⟨g, cap, rfl, _, _⟩ := h.at hn
  have hc : n ≤ cap := h.cap
  show sliced (some ⟨g, 0, none⟩) 0 n cap 1 = _
  unfold sliced
  rw [if_neg (by omega)]
  simp [Addr.add_zero']
/-! Some arithmetic of 64 bits without a sign. -/
/-! A row told several times. -/
end Go.KL

/- One put into a row that is owned (slices.Insert), and doubles taken out (slices.Compact): cuts beyond the length, copies within a row and from row to row. -/
namespace Go.KL
open Go.RowKit
variable {P : Program} {d : Option Tmp} {ty : TypeId} {pos : String} {af : Array Edge} {g : Option (Nat × Bool)} {a : Act} {σ : GW}
def capOf (v : Value) : Nat := match v with | .slice _ _ cap => cap | _ => 0
def Ty.any : Ty := ⟨fun _ _ => True, fun _ h => h⟩
theorem y_capO {k : Nat} {x : Operand} {n : Nat} {ts : List Ty} {t e e' : TypeId} {v : Value} (ht : P.underlying t = some (.slice e')) (ho : Own σ k e 1 v n ts) (hx : a.eval x = v) : Yld P ⟨d, .call ⟨.builtin .cap, #[x], #[t]⟩, ty, pos, af, g⟩ a σ (Ty.nat (capOf v)).pr := by
  obtain ⟨ad, cap, rfl, hn, hm⟩ := ho.form
  refine Yld.of_run (v := .int .i64 cap) ?_ rfl
  simp only [execOp, resolve, Sem.run_bind, Sem.run_pure, Result.andThen_ok, invoke, List.map_toArray, List.map_cons, List.map_nil, hx]
  simp [builtin, Builtin.cap_, run_underlying ht, goInt]
theorem Own.ext {k : Nat} {e : TypeId} {n h : Nat} {v : Value} {ts : List Ty} (ho : Own σ k e 1 v n ts) (hn0 : 0 < n) (hnh : n ≤ h) (hh : h ≤ capOf v) : Own σ k e 1 (preOf v h) h (ts ++ List.replicate (h - n) Ty.any) := by
  have hlen := ho.len
  obtain ⟨vs, r1, r2, r3, r4⟩ := ho
  rcases r1.2 with ⟨rfl, h0⟩ | ⟨gg, cap, cur, rfl, _, hg, hn, hmm, hcz, htk⟩
  · omega
  have hh' : h ≤ cap := hh
  refine Own.intro (us := cur.toList.take h) hg (r4 gg rfl) hh' hmm hcz (by rw [Nat.mul_one]) ?_ ?_
  · rw [List.length_take, Array.length_toList, hcz, List.length_append, List.length_replicate]; omega
  · intro j T u hT hu
    rw [List.getElem?_take] at hu
    split at hu
    · by_cases hj : j < ts.length
      · rw [List.getElem?_append_left hj] at hT
        refine r3 j T u hT ?_
        rw [← htk, Nat.mul_one, List.getElem?_take, if_pos (by omega)]; exact hu
      · rw [List.getElem?_append_right (by omega), List.getElem?_replicate] at hT
        split at hT
        · cases hT; trivial
        · cases hT
    · cases hu
theorem y_preX {k : Nat} {x y : Operand} {n h : Nat} {ts : List Ty} {t e e' : TypeId} {z v : Value} {b : Nat} {ki : IntKind} (ht : P.underlying t = some (.slice e')) (he : Info P e' z 1 b) (ho : Own σ k e 1 v n ts) (hx : a.eval x = v) (hy : a.eval y = .int ki h) (hh : h ≤ capOf v) :
    Yld P ⟨d, .slice t x none (some y) none, ty, pos, af, g⟩ a σ (Ty.val (preOf v h)).pr := by
  obtain ⟨ad, cap, rfl, hn, hm⟩ := ho.form
  have hh' : h ≤ cap := hh
  refine Yld.of_run (v := sliced ad 0 h cap 1) ?_ ?_
  · have h1 := run_slice_h (P := P) σ.w t ad n cap (elem_of ht) ki (h : Int) (by omega) (by omega)
    rw [elem_eq ht, he.size] at h1
    simp only [execOp, hx, hy, Option.map_some, Option.map_none, Sem.run_bind, run_sliceAt_slice σ.w t _ _ _ _ (elem_of ht), h1, Result.andThen_ok, Sem.run_pure, Int.toNat_natCast]
  · show sliced ad 0 h cap 1 = preOf _ h
    unfold sliced preOf
    cases ad <;> simp [Addr.add_zero']
theorem SlForm.pre {v : Value} {n h : Nat} (hv : SlForm v n) (hh : h ≤ capOf v) : SlForm (preOf v h) h := by
  obtain ⟨ad, cap, rfl, _, hm⟩ := hv
  exact ⟨ad, cap, rfl, hh, hm⟩
theorem m_appn0 {k kx : Nat} {t u e ex : TypeId} {z : Value} {by_ : Nat} {x y : Operand} {n nx : Nat} {ki : IntKind} {T : Ty} {v : Value} {tx : List Ty} (ht : P.underlying t = some (.slice e)) (hu : P.underlying u = some (.int ki)) (he : Info P e z 1 by_) (hz : z.cells = #[z]) (hT : ∀ σ, T.has σ z)
    (ho : Own σ kx ex 1 v nx tx) (hx : a.eval x = preOf v 0) (hy : a.eval y = .int .i64 ((n : Nat) : Int)) (hn : capOf v < n) (hlen : n ≤ 9223372036854775807) (hb : n * by_ ≤ 140737488355328) :
    YldM k P ⟨d, .call ⟨.builtin .append, #[x, y], #[t, u]⟩, ty, pos, af, g⟩ a σ (fun v τ => Own τ k e 1 v n (List.replicate n T)) := by
  intro K Q hk'
  obtain ⟨i, hi, hi1, hi2, rfl⟩ := he.get
  obtain ⟨ad, cap, rfl, hnc, hm⟩ := ho.form
  have hx' : a.eval x = .slice ad 0 cap := hx
  have hn' : cap < n := hn
  have hcap : grownCap σ.w n cap e ≥ n := grownCap_ge σ.w n cap e
  have hcm : grownCap σ.w n cap e ≤ maxLen := grownCap_le_maxLen σ.w n cap e hlen
  have hr : (Builtin.append_ #[t, u] ty #[.slice ad 0 cap, .int .i64 ((n : Nat) : Int)]).run P σ.w = .ok (.slice (some ⟨σ.w.heap.size, 0, none⟩) n (grownCap σ.w n cap e)) (σ.w.drew.alloc (.cells (Builtin.zeroCells z.cells n ++ Builtin.zeroCells z.cells (grownCap σ.w n cap e - n)) e)) := by
    have h0 : n ≠ 0 := by omega
    have hw : IntKind.i64.wrap ((n : Nat) : Int) = n := w64 (by omega) (by omega)
    have h1 : ¬ ((n : Nat) : Int) < 0 := by omega
    have h2 : ¬ (281474976710656 < ((n : Nat) : Int) * (i.bytes : Int)) := by
      have h3 : ((n * i.bytes : Nat) : Int) ≤ 281474976710656 := by omega
      rw [Int.natCast_mul] at h3; omega
    have h48 := growslice_fits (need := n) (old := cap) (bytes := i.bytes) (by omega) (by omega)
    have h63 : ¬ (9223372036854775807 < (n : Int)) := by omega
    have hnc2 : ¬ n ≤ cap := by omega
    have hf : (Builtin.firstCells 1 0 (.slice ad 0 cap)).run P σ.w.drew = .ok #[] σ.w.drew := by
      cases ad with
      | none => exact run_firstCells_none ..
      | some b => exact run_firstCells_some (P := P) σ.w.drew 1 0 b 0 cap [] rfl (by simp)
    have h48' : ¬ (281474976710656 < Builtin.nextslicecap n cap * i.bytes) := by omega
    simp [Builtin.append_, run_underlying ht, run_underlying hu, sizeOf, typeInfo, zeroValue, hi, hi1, hi2, asInt, asIntOf, hw, h1, h2, h0, h48', h63, hnc2, Question.forced, newRow, grownCap, hf]
  have hr' : (execOp a.eval ⟨d, .call ⟨.builtin .append, #[x, y], #[t, u]⟩, ty, pos, af, g⟩).run P σ.w = .ok (.value (.slice (some ⟨σ.w.heap.size, 0, none⟩) n (grownCap σ.w n cap e))) (σ.w.drew.alloc (.cells (Builtin.zeroCells z.cells n ++ Builtin.zeroCells z.cells (grownCap σ.w n cap e - n)) e)) := by
    simp only [execOp, resolve, Sem.run_bind, Sem.run_pure, Result.andThen_ok, invoke, List.map_toArray, List.map_cons, List.map_nil, builtin, hx', hy, hr]
  unfold Oper.wp
  rw [hr']
  have hstp : Stp 0 σ (σ.drew.mk' k (.cells (Builtin.zeroCells z.cells n ++ Builtin.zeroCells z.cells (grownCap σ.w n cap e - n)) e)) := (Stp.drew σ).trans (Stp.mk' σ.drew k _)
  have hzl : (Builtin.zeroCells z.cells n).toList = List.replicate n z := by
    rw [hz]; unfold Builtin.zeroCells
    refine List.ext_getElem (by simp) fun j h1 h2 => ?_
    simp [Nat.mod_one]
  refine hk' _ _ hstp.of0 (Own.intro (us := List.replicate n z) (heap_alloc_new σ.w.drew _) (by show (if _ = _ then k else _) = k; rw [if_pos]; rfl) hcap hcm ?_ ?_ (by simp) ?_)
  · simp only [Array.size_append, size_zeroCells, hz]; simp; omega
  · simp only [Array.toList_append, hzl]
    rw [List.take_append_of_le_length (by simp)]; simp
  · intro j U u hU hu
    simp only [List.getElem?_replicate] at hU hu
    split at hU
    · cases hU; rw [if_pos (by assumption)] at hu; cases hu; exact hT _
    · cases hU
end Go.KL
namespace Go.KL
open Go.RowKit
variable {P : Program} {d : Option Tmp} {ty : TypeId} {pos : String} {af : Array Edge} {g : Option (Nat × Bool)} {a : Act} {σ : GW}
theorem sufOf_some (gg n cap j : Nat) : sufOf (.slice (some ⟨gg, 0, none⟩) n cap) j = if j < cap then .slice (some ⟨gg, j, none⟩) (n - j) (cap - j) else sufOf (.slice (some ⟨gg, 0, none⟩) n cap) j := by
  by_cases h : j < cap
  · rw [if_pos h]
    show sliced (some ⟨gg, 0, none⟩) j n cap 1 = _
    unfold sliced
    rw [if_neg (by omega)]
    simp [Addr.add_lit]
  · rw [if_neg h]
theorem sufOf_at {gg n cap j : Nat} (h : j < cap) : sufOf (.slice (some ⟨gg, 0, none⟩) n cap) j = .slice (some ⟨gg, j, none⟩) (n - j) (cap - j) := by rw [sufOf_some, if_pos h]
theorem m_copyO {k k2 : Nat} {t e : TypeId} {z : Value} {by_ : Nat} {x y : Operand} {w w2 : Value} {n n2 i j : Nat} {ts us : List Ty} (ht : P.underlying t = some (.slice e)) (he : Info P e z 1 by_) (hk : 2 ≤ k) (ho : Own σ k e 1 w n ts) (ho2 : Own σ k2 e 1 w2 n2 us) (hx : a.eval x = sufOf w j) (hy : a.eval y = sufOf w2 i) (h1 : ∀ U, U ∈ us → One U) (hi : i < n2) (hj : j < n) (hmn : j + (n2 - i) ≤ n) :
    YldM k P ⟨d, .call ⟨.builtin .copy, #[x, y], #[t, t]⟩, ty, pos, af, g⟩ a σ (fun v τ => Pr.has (Pr.cpd k e n w (n2 - i) (ts.take j ++ us.drop i ++ ts.drop (j + (n2 - i)))) τ v) := by
  have hlen2 := ho2.len
  obtain ⟨vs, r1, r2, r3, r4⟩ := ho2
  rcases r1.2 with ⟨rfl, h0⟩ | ⟨gg, cap, cur, rfl, _, hg, hn, hmm, hcz, htk⟩
  · omega
  have hy' : a.eval y = .slice (some ⟨gg, i, none⟩) (n2 - i) (cap - i) := by rw [hy]; exact sufOf_at (by omega)
  have hone : ∀ u ∈ vs.drop i, u.oneCell' = true := fun u hu => by
    obtain ⟨q, hq⟩ := List.mem_iff_getElem?.1 (List.mem_of_mem_drop hu)
    obtain ⟨T, hT⟩ : ∃ T, us[q]? = some T := ⟨us[q]'(by rw [← r2]; exact (List.getElem?_eq_some_iff.1 hq).1), by simp⟩
    exact h1 T (List.mem_of_getElem? hT) _ u (r3 q T u hT hq)
  have hvl : (vs.drop i).length = n2 - i := by rw [List.length_drop]; omega
  have hul : (us.drop i).length = n2 - i := by rw [List.length_drop]; omega
  obtain ⟨τ, hr, hst, hown⟩ := own_copy (ty := ty) (j := j) (sLen := n2 - i) (sCap := cap - i) (ad := ⟨gg, i, none⟩) (cs := vs.drop i) (us := us.drop i) hk ht he ho hj (by rw [hvl]; exact (Nat.min_eq_left (by omega)).symm) (by rw [hvl, hul]) (fun q u hq => by
      rw [List.getElem?_drop] at hq
      have := r1.cells (g := gg) rfl (i + q) u hq
      rw [Addr.add_lit] at this ⊢
      simpa using this) (fun q T u h2 h3 => by
      rw [List.getElem?_drop] at h2 h3
      exact r3 _ T u h2 h3) hone
  rw [← hx, ← hy'] at hr
  have hr' : (execOp a.eval ⟨d, .call ⟨.builtin .copy, #[x, y], #[t, t]⟩, ty, pos, af, g⟩).run P σ.w = .ok (.value (goInt (vs.drop i).length)) τ.w := by
    simp only [execOp, resolve, Sem.run_bind, Sem.run_pure, Result.andThen_ok, invoke, List.map_toArray, List.map_cons, List.map_nil, builtin, hr]
  intro K Q hK
  unfold Oper.wp
  rw [hr']
  refine hK _ τ hst ⟨by rw [hvl]; rfl, ?_⟩
  rw [hul] at hown
  exact hown
theorem m_copyX {k : Nat} {t e : TypeId} {z : Value} {by_ : Nat} {x y : Operand} {v : Value} {n : Nat} {ts : List Ty} (ht : P.underlying t = some (.slice e)) (he : Info P e z 1 by_) (hk : 2 ≤ k) (ho : Own σ k e 1 v n ts) (hn0 : 0 < n) (hc : n + 1 ≤ capOf v) (hx : a.eval x = sufOf (preOf v (n + 1)) 1) (hy : a.eval y = sufOf (preOf v (n + 1)) 0) (h1 : ∀ U, U ∈ ts → One U) :
    YldM k P ⟨d, .call ⟨.builtin .copy, #[x, y], #[t, t]⟩, ty, pos, af, g⟩ a σ (fun r τ => Pr.has (Pr.cpd k e (n + 1) (preOf v (n + 1)) n (ts.take 1 ++ ts)) τ r) := by
  have hlen := ho.len
  have he2 := ho.ext hn0 (Nat.le_succ n) hc
  obtain ⟨gg, cap, rfl, _, _⟩ := ho.at hn0
  have hc' : n + 1 ≤ cap := hc
  have hp : preOf (.slice (some ⟨gg, 0, none⟩) n cap) (n + 1) = .slice (some ⟨gg, 0, none⟩) (n + 1) cap := rfl
  obtain ⟨vs, r1, r2, r3, r4⟩ := ho
  have hy' : a.eval y = .slice (some ⟨gg, 0, none⟩) (n + 1) cap := by rw [hy, hp]; exact he2.suf0 (by omega)
  have hone : ∀ u ∈ vs, u.oneCell' = true := fun u hu => by
    obtain ⟨q, hq⟩ := List.mem_iff_getElem?.1 hu
    obtain ⟨T, hT⟩ : ∃ T, ts[q]? = some T := ⟨ts[q]'(by rw [← r2]; exact (List.getElem?_eq_some_iff.1 hq).1), by simp⟩
    exact h1 T (List.mem_of_getElem? hT) _ u (r3 q T u hT hq)
  have hvl : vs.length = n := by omega
  have htl : ts.length = n := by omega
  obtain ⟨τ, hr, hst, hown⟩ := own_copy (ty := ty) (j := 1) (sLen := n + 1) (sCap := cap) (ad := ⟨gg, 0, none⟩) (cs := vs) (us := ts) hk ht he he2 (by omega) (by rw [hvl]; exact (Nat.min_eq_right (by omega)).symm) (by rw [hvl, htl]) (fun q u hq => by
      have := r1.cells (g := gg) rfl q u hq
      rwa [Addr.add_lit] at this ⊢) r3 hone
  rw [← hx, ← hy'] at hr
  have hr' : (execOp a.eval ⟨d, .call ⟨.builtin .copy, #[x, y], #[t, t]⟩, ty, pos, af, g⟩).run P σ.w = .ok (.value (goInt vs.length)) τ.w := by
    simp only [execOp, resolve, Sem.run_bind, Sem.run_pure, Result.andThen_ok, invoke, List.map_toArray, List.map_cons, List.map_nil, builtin, hr]
  intro K Q hK
  unfold Oper.wp
  rw [hr']
  refine hK _ τ hst ⟨by rw [hvl]; rfl, ?_⟩
  have e3 : (ts ++ List.replicate (n + 1 - n) Ty.any).take 1 ++ ts ++ (ts ++ List.replicate (n + 1 - n) Ty.any).drop (1 + ts.length) = ts.take 1 ++ ts := by
    rw [List.take_append_of_le_length (by omega), List.drop_eq_nil_of_le (by simp; omega), List.append_nil]
  rw [e3] at hown
  exact hown
theorem y_ovl {f : FuncId} {fn : Func} {k k2 : Nat} {t e tr : TypeId} {z : Value} {by_ : Nat} {x y : Operand} {v w : Value} {n n2 h j : Nat} {ts us : List Ty} (ht : P.underlying t = some (.slice e)) (he : Info P e z 1 by_) (ho : Own σ k e 1 v n ts) (ho2 : Own σ k2 e 1 w n2 us) (hkk : k ≠ k2) (hn : 0 < n) (hn2 : 0 < n2) (hx : a.eval x = v) (hy : a.eval y = sufOf (preOf w h) j) (hj : j < capOf w)
    (hr : ∀ args w', (callFunc f args).run P w' = (((Extern.SlicesOverlaps.overlaps #[t, t] #[tr]) args).run P w').andThen fun v w' => .ok (.value v) w') (hf : P.funcs[f]? = some fn) {tys : Array TypeId} :
    Yld P ⟨d, .call ⟨.value (.func f), #[x, y], tys⟩, ty, pos, af, g⟩ a σ (Ty.bool false).pr := by
  obtain ⟨us1, r1, _, _, r4⟩ := ho
  obtain ⟨us2, q1, _, _, q4⟩ := ho2
  rcases r1.2 with ⟨_, h0⟩ | ⟨gg, cap, cur, rfl, _, hg, hn', hmm, hcz, htk⟩
  · omega
  rcases q1.2 with ⟨_, h0⟩ | ⟨g2, cap2, cur2, rfl, _, hg2, hn2', hmm2, hcz2, htk2⟩
  · omega
  have hj' : j < cap2 := hj
  have hne : gg ≠ g2 := fun e => by
    have h1 := r4 gg rfl
    have h2 := q4 g2 rfl
    rw [e] at h1
    exact hkk (h1.symm.trans h2)
  have hy' : a.eval y = .slice (some ⟨g2, j, none⟩) (h - j) (cap2 - j) := by rw [hy]; exact sufOf_at (n := h) hj'
  have hrun := Lib.run_overlaps_apart (P := P) σ.w t tr e ht 1 (fun w => he.size w) ⟨gg, 0, none⟩ ⟨g2, j, none⟩ n cap (h - j) (cap2 - j) hne e e cur.size cur2.size (by simp [World.shape?, hg]) (by simp [World.shape?, hg2]) (by omega) (by simp [World.frozen?, hg]) (by simp [World.frozen?, hg])
  refine y_extern (R := Ty.bool false) #[.slice (some ⟨gg, 0, none⟩) n cap, .slice (some ⟨g2, j, none⟩) (h - j) (cap2 - j)] (by simp only [List.map_toArray, List.map_cons, List.map_nil, hx, hy']) ?_ rfl
  rw [hr, hrun]; rfl
theorem y_sufLen {x : Operand} {t e : TypeId} {v : Value} {n j : Nat} (ht : P.underlying t = some (.slice e)) (hv : SlForm v n) (hx : a.eval x = sufOf v j) : Yld P ⟨d, .call ⟨.builtin .len, #[x], #[t]⟩, ty, pos, af, g⟩ a σ (Ty.nat (n - j)).pr := by
  obtain ⟨ad, cap, rfl, _, _⟩ := hv
  obtain ⟨ad', cap', e1⟩ : ∃ ad' cap', sufOf (.slice ad n cap) j = .slice ad' (n - j) cap' := by
    show ∃ ad' cap', sliced ad j n cap 1 = _
    unfold sliced
    split <;> exact ⟨_, _, rfl⟩
  exact Yld.of_run (v := .int .i64 ((n - j : Nat) : Int)) (run_builtin1 (hx.trans e1) (fun cs => by simp [builtin, Builtin.len_, run_underlying ht, goInt])) rfl
theorem y_sufIdx {k : Nat} {x y : Operand} {n j i : Nat} {ts : List Ty} {t e : TypeId} {z v : Value} {b : Nat} {ki : IntKind} (ht : P.underlying t = some (.slice e)) (he : Info P e z 1 b) (h : Own σ k e 1 v n ts) (hx : a.eval x = sufOf v j) (hy : a.eval y = .int ki ((i : Nat) : Int)) (h1 : j + i < n) :
    Yld P ⟨d, .indexAddr t x y, ty, pos, af, g⟩ a σ (Ty.val (cellPtr v (j + i))).pr := by
  have hc := h.cap
  obtain ⟨gg, cap, rfl, _, _⟩ := h.at (by omega)
  have hc' : n ≤ cap := hc
  have hx' : a.eval x = .slice (some ⟨gg, j, none⟩) (n - j) (cap - j) := by rw [hx]; exact sufOf_at (by omega)
  refine Yld.of_run (v := .pointer (some ⟨gg, j + i, none⟩)) ?_ rfl
  have h2 : ((i : Nat) : Int) < ((n - j : Nat) : Int) := by omega
  simp only [execOp, hx', hy]
  have h3 : ¬ n ≤ i + j := by omega
  simp [Instr.indexAt, asIntOf, run_underlying ht, h2, h3, he.size, Addr.add_lit]
theorem Own.cutN {k : Nat} {e : TypeId} {n j : Nat} {v : Value} {ts : List Ty} (ho : Own σ k e 1 v n ts) (hn0 : 0 < n) (hj : j ≤ n) : Own σ k e 1 (preOf v j) j (ts.take j) := by
  have hlen := ho.len
  obtain ⟨vs, r1, r2, r3, r4⟩ := ho
  rcases r1.2 with ⟨rfl, h0⟩ | ⟨gg, cap, cur, rfl, _, hg, hn, hmm, hcz, htk⟩
  · omega
  refine Own.intro (us := cur.toList.take j) hg (r4 gg rfl) (by omega) hmm hcz (by rw [Nat.mul_one]) (by rw [List.length_take, List.length_take, Array.length_toList]; omega) ?_
  intro q T u hT hu
  rw [List.getElem?_take] at hT hu
  split at hT
  · rename_i hq
    rw [if_pos hq] at hu
    exact r3 q T u hT (by rw [← htk, Nat.mul_one, List.getElem?_take, if_pos (by omega)]; exact hu)
  · cases hT
theorem m_clrS {k : Nat} {t e : TypeId} {z : Value} {by_ : Nat} {x : Operand} {n j : Nat} {v : Value} {ts : List Ty} (ht : P.underlying t = some (.slice e)) (he : Info P e z 1 by_) (hz : z.cells = #[z]) (hz1 : z.oneCell' = true) (hk : 2 ≤ k) (ho : Own σ k e 1 v n ts) (hx : a.eval x = sufOf v j) (hj : j < n) :
    YldM k P ⟨d, .call ⟨.builtin .clear, #[x], #[t]⟩, ty, pos, af, g⟩ a σ (fun _ τ => Own τ k e 1 (preOf v j) j (ts.take j)) := by
  have hc := ho.cap
  have h2 := ho.cutN (j := j) (by omega) (by omega)
  obtain ⟨gg, cap, rfl, _, _⟩ := ho.at (by omega)
  exact m_clr (h := n) ht he hz hz1 hk h2 hx hj hc
theorem Own.retag {k k' : Nat} {e : TypeId} {c n : Nat} {v : Value} {ts : List Ty} (h : Own σ k e c v n ts) (hk : 2 ≤ k) (_hk' : 2 ≤ k') : ∃ τ : GW, τ.w = σ.w ∧ Stp k σ τ ∧ Own τ k' e c v n ts := by
  refine ⟨⟨σ.w, fun b => if σ.st b = k then k' else σ.st b, fun b hb => σ.lt b (fun e0 => ?_)⟩, rfl, ⟨rfl, rfl, rfl, Dr.refl _, Nat.le_refl _, fun _ _ _ => rfl, fun b hb hm => ?_⟩, ?_⟩
  · simp only [e0] at hb
    rw [if_neg (by omega)] at hb
    exact hb rfl
  · rcases hm with h1 | h1
    · omega
    · show (if σ.st b = k then k' else σ.st b) = _
      rw [if_neg h1]
  · obtain ⟨us, r1, r2, r3, r4⟩ := h
    have hle : σ.Le ⟨σ.w, fun b => if σ.st b = k then k' else σ.st b, fun b hb => σ.lt b (fun e0 => by simp only [e0] at hb; rw [if_neg (by omega)] at hb; exact hb rfl)⟩ := ⟨fun b hb => by show (if σ.st b = k then k' else σ.st b) = _; rw [if_neg (by omega)]; exact hb, fun _ _ => rfl⟩
    exact ⟨us, r1, r2, fun j T u hj hu => T.up hle (r3 j T u hj hu), fun g hg => by show (if σ.st g = k then k' else σ.st g) = _; rw [if_pos (r4 g hg)]⟩
theorem ins_tail {xs : List Int} {c : Int} (h : 1 ≤ xs.length) : List.map Ty.int (List.take 0 (List.take 1 xs ++ xs) ++ List.drop 0 [c] ++ List.drop (0 + (1 - 0)) (List.take 1 xs ++ xs)) = List.map Ty.int (c :: xs) := by
  cases xs with
  | nil => simp at h
  | cons x r => simp
end Go.KL

/- A callee that answers with what is new, called with what is owned. -/
namespace Go.KL
open Go.RowKit
variable {P : Program}
variable {d : Option Tmp} {ty : TypeId} {pos : String} {af : Array Edge} {g : Option (Nat × Bool)} {a : Act} {σ : GW}
end Go.KL

/- Functions that may panic with one value: contracts, calls, returns; a function that defers one call. -/
namespace Go.KL
variable {P : Program}
def fltC (T : TypeId) (e : Int) : List PanicEntry := [{ v := .iface T (.int .i64 e), recovered := false }]
def FnP (P : Program) (f : FuncId) (args : Array Value) (σ : GW) (L : List Nat) (R : Value → GW → Prop) (E : List PanicEntry → Prop) : Prop :=
  Calls P f args σ.w fun e w' => ∃ τ, τ.w = w' ∧ StpL L σ τ ∧ ((∃ v, e = .returned v ∧ R v τ) ∨ (∃ c, e = .panicked c ∧ E c))
def RetP (σ : GW) (L : List Nat) (R : Value → GW → Prop) (E : List PanicEntry → Prop) (e : Ending) (w' : World) : Prop :=
  ∃ τ, τ.w = w' ∧ FromL L σ τ ∧ ((∃ v, e = .returned v ∧ R v τ) ∨ (∃ c, e = .panicked c ∧ E c))
theorem fn_introP {f : FuncId} {fn : Func} {c : Code} {N : Nat} {args : Array Value} {σ : GW} {L : List Nat} {R : Value → GW → Prop} {E : List PanicEntry → Prop} (hσ : Low L σ) (hf : P.funcs[f]? = some fn) (hb : fn.body = some c) (hn : fn.ntmps = N) (ha : args.size ≤ N)
    (h : ∀ a, FromL L σ σ → Ok N [] a → (∀ i v, args.toList[i]? = some v → a.eval (.tmp i) = v) → c.wp P (bodyPost P fn (RetP σ L R E)) a σ.w) : FnP P f args σ L R E := by
  refine Calls.mono (calls_of_wp hf hb (h _ ⟨StpL.refl _ _, hσ⟩ ⟨by simp; omega, rfl⟩ fun i v hi => ?_)) ?_
  · have hi' : args[i]? = some v := by simpa using hi
    have hlt : i < args.size := (Array.getElem?_eq_some_iff.1 hi').1
    simp [Act.eval, Array.getD_eq_getD_getElem?, Array.getElem?_append, hlt]
    simpa [hlt] using hi'
  · rintro e w' ⟨τ, rfl, hF, hv⟩
    exact ⟨τ, rfl, hF.stp, hv⟩
section
variable {fn : Func} {σ0 : GW} {L : List Nat} {R : Value → GW → Prop} {E : List PanicEntry → Prop} {a : Act} {w : World} {N : Nat}
theorem toP (h : bodyPost P fn (RetL σ0 L R) .ret a w) : bodyPost P fn (RetP σ0 L R E) .ret a w := by
  obtain ⟨hd, v, hr, u, τ, e1, hF, e2, hR⟩ := h
  exact ⟨hd, v, hr, τ, e1, hF, .inl ⟨u, e2, hR⟩⟩
theorem toPn (h : bodyPost P fn (RetL σ0 L R) .normal a w) : bodyPost P fn (RetP σ0 L R E) .normal a w := by
  obtain ⟨hd, v, hr, u, τ, e1, hF, e2, hR⟩ := h
  exact ⟨hd, v, hr, τ, e1, hF, .inl ⟨u, e2, hR⟩⟩
theorem panB {c : List PanicEntry} {τ : GW} (ok : Ok N [] a) (hF : FromL L σ0 τ) (he : E c) : a.defers = [] ∧ RetP σ0 L R E (.panicked c) τ.w := ⟨ok.defers, τ, rfl, hF, .inr ⟨c, rfl, he⟩⟩
end
def YldP (L : List Nat) (P : Program) (o : Oper) (a : Act) (σ : GW) (R : Value → GW → Prop) (E : List PanicEntry → Prop) : Prop :=
  ∀ (K : Act → World → Prop) (Q : Exit → Act → World → Prop), (∀ v τ, StpL L σ τ → R v τ → K (a.put o.dst v) τ.w) → (∀ c τ, StpL L σ τ → E c → Q (.panic c) a τ.w) → o.wp P a σ.w K Q
theorem tailP {L : List Nat} {N d : Nat} {D : List Deferred} {ops : Array Oper} {Q : Exit → Act → World → Prop} {o : Oper} {rest : List Oper} {a : Act} {σ : GW} {R : Value → GW → Prop} {E : List PanicEntry → Prop} (hg : o.guard = none) (hd : o.dst = some d) (hN : d < N) (ok : Ok N D a) (hy : YldP L P o a σ R E)
    (kp : ∀ c τ, StpL L σ τ → E c → Q (.panic c) a τ.w)
    (k : ∀ a' τ, StpL L σ τ → Ok N D a' → R (a'.eval (.tmp d)) τ → (∀ t, t ≠ d → a'.eval (.tmp t) = a.eval (.tmp t)) → wpList P ops Q rest a' τ.w) : wpList P ops Q (o :: rest) a σ.w := by
  refine wpList_plain hg fun K hK => hy K Q (fun v τ hs hr => hK _ _ ?_) kp
  rw [hd]
  exact k _ τ hs (ok.put _ _) (by rw [eval_put_same ok hN]; exact hr) fun t ht => eval_put_ne (by simpa using Ne.symm ht) v
variable {d : Option Tmp} {ty : TypeId} {pos : String} {af : Array Edge} {g : Option (Nat × Bool)} {a : Act} {σ : GW}
theorem y_callP {f : FuncId} {fn : Func} {xs : Array Operand} {tys : Array TypeId} {R : Value → GW → Prop} {E : List PanicEntry → Prop} {L : List Nat} (l n : List (Nat × Nat)) (args : Array Value) (hL : l.map (·.2) = L) (h2 : ∀ x ∈ l, 2 ≤ x.1 ∧ 2 ≤ x.2)
    (hf : P.funcs[f]? = some fn) (hn : (fn.name == "runtime.NumGoroutine") = false) (hb : fn.body.isNone = false) (hargs : xs.map a.eval = args) (hc : FnP P f args (σ.lend l) L R E) :
    YldP (l.map (·.1)) P ⟨d, .call ⟨.value (.func f), xs, tys⟩, ty, pos, af, g⟩ a σ (fun v τ' => ∃ τ, R v τ ∧ Back n τ τ') E := by
  intro K Q hk hp
  have hr : (execOp a.eval ⟨d, .call ⟨.value (.func f), xs, tys⟩, ty, pos, af, g⟩).run P σ.w = .ok (.enter f args) σ.w := by
    have hn' : ¬ fn.name = "runtime.NumGoroutine" := by simpa using hn
    have hb' : ¬ fn.body = none := by intro e; simp [e] at hb
    simp only [execOp, resolve, hargs]
    simp [Act.eval, Deferred.ofValue, invoke, callFunc, hf, hn', hb', program, Sem.run, Sem.run_bind]
  unfold Oper.wp
  rw [hr]
  refine Calls.mono (show Calls P f args σ.w _ from hc) ?_
  rintro e w' ⟨τ, rfl, hs, hv⟩
  obtain ⟨h1, h3⟩ := took_spec (n := n) (fun x hx => by rw [← hL]; exact List.mem_map.2 ⟨x, hx, rfl⟩) h2 (fun x hx => by
    rw [← hL] at hx
    obtain ⟨y, hy, rfl⟩ := List.mem_map.1 hx
    exact (h2 y hy).2) hs
  rcases hv with ⟨v, rfl, hv⟩ | ⟨c, rfl, he⟩
  · exact hk v (σ.took l n τ hs.size) h1 ⟨τ, hv, h3⟩
  · exact hp c (σ.took l n τ hs.size) h1 he
end Go.KL
namespace Go.KL
variable {P : Program} {d : Option Tmp} {ty : TypeId} {pos : String} {af : Array Edge} {g : Option (Nat × Bool)} {a : Act} {σ : GW}
theorem fltTo {T : TypeId} {e e' : Int} {c : List PanicEntry} (h : e' ≠ 0 → e = e') (he : c = fltC T e' ∧ e' ≠ 0) : c = fltC T e ∧ e ≠ 0 := by
  rw [h he.2]; exact he
theorem y_mkif {x : Operand} {t : TypeId} {v : Value} {td : TypeDesc} (ht : P.underlying t = some td) (hn : (match td with | .interface _ => false | _ => true) = true) (hx : a.eval x = v) : Yld P ⟨d, .makeInterface t x, ty, pos, af, g⟩ a σ (Ty.val (.iface t v)).pr := by
  refine Yld.of_run (v := .iface t v) ?_ rfl
  simp only [execOp, hx]
  cases td <;> simp_all [Instr.makeInterface, Sem.run_bind, run_underlying ht]
theorem tail_pan {ops : Array Oper} {Q : Exit → Act → World → Prop} {rest : List Oper} {x : Operand} {t : TypeId} {v : Value} (hx : a.eval x = .iface t v) (h : Q (.panic [{ v := .iface t v, recovered := false }]) a σ.w) : wpList P ops Q (⟨d, .panic x, ty, pos, af, none⟩ :: rest) a σ.w := by
  refine wpList_plain rfl fun K hK => ?_
  have hr : (execOp a.eval ⟨d, .panic x, ty, pos, af, none⟩).run P σ.w = .halt (.panic (.iface t v)) σ.w := by
    simp only [execOp, hx]
    simp [Instr.panic, goPanic, Sem.run, Sem.run_bind]
  unfold Oper.wp
  rw [hr]
  exact h
theorem wanted_at {N : Nat} {D : List Deferred} {ops : Array Oper} {o : Oper} {j s : Nat} {want c : Bool} (ok : Ok N D a) (hg : o.guard = some (j, want)) (hd : dstOf ops j = some s) (hN : s < N) (h : At (.bool c) σ a (.tmp s)) : Region.wanted o (yielded ops a.tmps) = (c == want) := by
  simp only [Region.wanted, hg, yielded_at ok hd hN h]
  cases c <;> cases want <;> rfl
theorem tailSkip {N : Nat} {D : List Deferred} {ops : Array Oper} {Q : Exit → Act → World → Prop} {o : Oper} {rest : List Oper} {j s e : Nat} {want c : Bool} (ok : Ok N D a) (hg : o.guard = some (j, want)) (hd : dstOf ops j = some s) (hN : s < N) (h : At (.bool c) σ a (.tmp s)) (hc : (c == want) = false) (he : o.dst = some e) (heN : e < N)
    (k : ∀ a', Ok N D a' → At (Ty.val undef) σ a' (.tmp e) → (∀ t, t ≠ e → a'.eval (.tmp t) = a.eval (.tmp t)) → wpList P ops Q rest a' σ.w) : wpList P ops Q (o :: rest) a σ.w := by
  refine wpList_step fun K hK => ?_
  rw [wanted_at ok hg hd hN h, hc, if_neg (by simp), he]
  exact hK _ _ (k _ (ok.put _ _) (eval_put_same ok heN _) fun t ht => eval_put_ne (by simpa using Ne.symm ht) _)
theorem tailDo {L : List Nat} {N : Nat} {D : List Deferred} {ops : Array Oper} {Q : Exit → Act → World → Prop} {o : Oper} {rest : List Oper} {R : Value → GW → Prop} {j s e : Nat} {want c : Bool} (ok : Ok N D a) (hg : o.guard = some (j, want)) (hd : dstOf ops j = some s) (hN : s < N) (h : At (.bool c) σ a (.tmp s)) (hc : (c == want) = true) (he : o.dst = some e) (heN : e < N) (hy : YldL L P o a σ R)
    (k : ∀ a' τ, StpL L σ τ → Ok N D a' → R (a'.eval (.tmp e)) τ → (∀ t, t ≠ e → a'.eval (.tmp t) = a.eval (.tmp t)) → wpList P ops Q rest a' τ.w) : wpList P ops Q (o :: rest) a σ.w := by
  refine wpList_step fun K hK => ?_
  rw [wanted_at ok hg hd hN h, hc, if_pos rfl]
  refine hy K Q fun v τ hs hr => hK _ _ ?_
  rw [he]
  exact k _ τ hs (ok.put _ _) (by rw [eval_put_same ok heN]; exact hr) fun t ht => eval_put_ne (by simpa using Ne.symm ht) v
theorem y_pickT {c x y : Operand} {T : Ty} (hc : At (.bool true) σ a c) (hx : At T σ a x) : Yld P ⟨d, .pick c x y, ty, pos, af, g⟩ a σ T.pr := by
  refine Yld.of_run (v := a.eval x) ?_ hx
  have h1 : a.eval c = .bool true := hc
  simp only [execOp, h1]; simp [go_sem]
theorem y_pickF {c x y : Operand} {T : Ty} (hc : At (.bool false) σ a c) (hy : At T σ a y) : Yld P ⟨d, .pick c x y, ty, pos, af, g⟩ a σ T.pr := by
  refine Yld.of_run (v := a.eval y) ?_ hy
  have h1 : a.eval c = .bool false := hc
  simp only [execOp, h1]; simp [go_sem]
def Ty.nilb {α : Type} (xs : List α) : Ty := ⟨fun _ u => ∃ b, u = .bool b ∧ (b = true → xs = []), fun _ h => h⟩
theorem cond_nb {α : Type} {xs : List α} {c : Operand} {x y : Code} {Q : Exit → Act → World → Prop} (h : At (Ty.nilb xs) σ a c) (ht : xs = [] → x.wp P Q a σ.w) (hf : y.wp P Q a σ.w) : (Code.cond c x y).wp P Q a σ.w := by
  obtain ⟨b, e, hb⟩ := h
  exact wp_cond_split (t := b) e (fun h => ht (hb h)) (fun _ => hf)
theorem y_slnb {α : Type} {f : α → Ty} {xs : List α} {x y : Operand} {t u : TypeId} {e' : TypeId} (ht : P.underlying t = some (.slice e')) (h : At (.lst f xs) σ a x) (hy : a.eval y = .slice none 0 0) :
    Yld P ⟨d, .binOp .eql t x y u, ty, pos, af, g⟩ a σ (Ty.nilb xs).pr := by
  obtain ⟨ad, cap, b, o, e1, _, _, hs, _⟩ := h
  have h1 := Go.Lib.run_eql_slice_nil (P := P) σ.w t e' ad xs.length cap 0 0 ht
  refine Yld.of_run (v := .bool ad.isNone) ?_ ⟨_, rfl, fun hb => ?_⟩
  · simp only [execOp, e1, hy]
    cases ad <;> simp_all [eqGuard, run_underlying ht]
  · rcases hs with hs | ⟨rfl, _⟩
    · simpa using hs
    · cases hb
end Go.KL

