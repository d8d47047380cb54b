/- Rows of cells that the function itself made, and writes. -/
import Derived.Test.YtbilebfnanlgfaaKlOps
namespace Go.KL
open Go.RowKit
variable {P : Program}

def Own (σ : GW) (k : Nat) (e : TypeId) (c : Nat) (v : Value) (n : Nat) (ts : List Ty) : Prop :=
  ∃ us, σ.w.ownsRow 0 e c v n us ∧ us.length = ts.length ∧ (∀ (j : Nat) (T : Ty) (u : Value), ts[j]? = some T → us[j]? = some u → T.has σ u) ∧ ∀ g, v.ownBlock = some g → σ.st g = k

theorem ownsRow_same {w w' : World} {base : Nat} {e : TypeId} {c : Nat} {v : Value} {n : Nat} {us : List Value} (h : w.ownsRow base e c v n us) (hb : ∀ g, v.ownBlock = some g → w'.heap[g]? = w.heap[g]?) : w'.ownsRow base e c v n us := by
  refine ⟨h.1, ?_⟩
  rcases h.2 with hn | ⟨g, cap, cur, rfl, hbg, hg, rest⟩
  · exact .inl hn
  · exact .inr ⟨g, cap, cur, rfl, hbg, by rw [hb g rfl]; exact hg, rest⟩

theorem Own.keep {m k : Nat} {σ τ : GW} {e : TypeId} {c : Nat} {v : Value} {n : Nat} {ts : List Ty} (h : Own σ k e c v n ts) (hs : Stp m σ τ) (hm : m ≠ 1) (hk : m = 0 ∨ k ≠ m) : Own τ k e c v n ts := by
  obtain ⟨us, h1, h2, h3, h4⟩ := h
  have hlt : ∀ g, v.ownBlock = some g → g < σ.w.heap.size := fun g hg => (h1.lt g hg).2
  have hq : ∀ g, v.ownBlock = some g → m = 0 ∨ σ.st g ≠ m := fun g hg => by rw [h4 g hg]; omega
  exact ⟨us, ownsRow_same h1 (fun g hg => hs.blk g (hlt g hg) (hq g hg)), h2, fun j T u hj hu => T.up (hs.le hm) (h3 j T u hj hu), fun g hg => (hs.st g (hlt g hg) (hq g hg)).trans (h4 g hg)⟩

def Pr.own (k : Nat) (e : TypeId) (c n : Nat) (ts : List Ty) : Pr := ⟨fun σ v => Own σ k e c v n ts, fun hs h => h.keep hs (by decide) (.inl rfl)⟩

theorem Own.nil (σ : GW) (k : Nat) (e : TypeId) (c : Nat) : Own σ k e c (.slice none 0 0) 0 [] :=
  ⟨[], World.ownsRow_nil _ _ _ _, rfl, fun _ _ _ h => by simp at h, fun g h => by simp [Value.ownBlock] at h⟩

theorem Own.len {σ : GW} {k : Nat} {e : TypeId} {c : Nat} {v : Value} {n : Nat} {ts : List Ty} (h : Own σ k e c v n ts) : ts.length = n * c := by
  obtain ⟨us, h1, h2, _⟩ := h
  rw [← h2]; exact h1.1

def GW.shut (σ : GW) (g : Option Nat) : GW := ⟨σ.w, fun b => if g = some b ∧ σ.st b ≠ 0 then 1 else σ.st b, fun b h => σ.lt b (by
  intro e; simp [e] at h)⟩

theorem Own.seal {σ : GW} {k : Nat} {e : TypeId} {c : Nat} {v : Value} {n : Nat} {ts : List Ty} (h : Own σ k e c v n ts) (hk : 2 ≤ k) : ∃ τ : GW, τ.w = σ.w ∧ Stp k σ τ ∧ (Ty.sl c n ts).has τ v := by
  obtain ⟨us, h1, h2, h3, h4⟩ := h
  have hs : Stp k σ (σ.shut v.ownBlock) := ⟨rfl, rfl, rfl, Nat.le_refl _, Nat.le_refl _, fun _ _ _ => rfl, fun b hb hm => by
    have : σ.st b ≠ k := by omega
    simp only [GW.shut]
    rw [if_neg]
    rintro ⟨hg, _⟩
    exact this (h4 b hg)⟩
  refine ⟨σ.shut v.ownBlock, rfl, hs, ?_⟩
  have hle := hs.le (by omega)
  rcases h1.2 with ⟨rfl, rfl⟩ | ⟨g, cap, cur, rfl, hb, hg, hn, hm, hcs, ht⟩
  · have hus : us = [] := List.eq_nil_of_length_eq_zero (by rw [h1.1]; simp)
    have hts : ts = [] := List.eq_nil_of_length_eq_zero (by rw [← h2, hus]; rfl)
    subst hts
    exact ⟨none, 0, 0, 0, rfl, ⟨Nat.le_refl _, by decide⟩, by simp, .inl rfl, fun j T hj => by simp at hj⟩
  · refine ⟨some ⟨g, 0, none⟩, cap, g, 0, rfl, ⟨hn, hm⟩, by rw [← h2]; exact h1.1, .inr ⟨rfl, ?_⟩, fun j T hj => ?_⟩
    · have := h4 g rfl
      simp only [GW.shut, Value.ownBlock]
      rw [if_pos ⟨trivial, by omega⟩]
    · obtain ⟨u, hu⟩ : ∃ u, us[j]? = some u := ⟨us[j]'(by rw [h2]; exact (List.getElem?_eq_some_iff.1 hj).1), by simp⟩
      refine ⟨u, ?_, T.up hle (h3 j T u hj hu)⟩
      have := h1.cells (g := g) rfl j u hu
      rwa [Addr.add_lit] at this

def One (T : Ty) : Prop := ∀ σ v, T.has σ v → v.oneCell' = true
theorem one_val {v : Value} (h : v.oneCell' = true) : One (.val v) := fun _ u hu => by
  have : u = v := hu
  rw [this]; exact h
theorem one_sl {c n : Nat} {ts : List Ty} : One (.sl c n ts) := fun _ u ⟨_, _, _, _, e, _⟩ => by rw [e]; rfl
theorem one_ref {ts : List Ty} : One (.ref ts) := fun _ u ⟨_, _, e, _⟩ => by rw [e]; rfl
theorem cells_of_one {v : Value} (h : v.oneCell' = true) : v.cells = #[v] := by cases v <;> first | rfl | simp [Value.oneCell'] at h

theorem y_build1o {d : Option Tmp} {ty : TypeId} {pos : String} {af : Array Edge} {g : Option (Nat × Bool)} {a : Act} {σ : GW} {x : Operand} {t e : TypeId} {T : Ty} {z : Value} {b : Nat} (ht : P.underlying t = some (.slice e)) (he : Info P e z 1 b) (hz : z.cells.size = 1) (h1 : One T) (hx : At T σ a x) :
    Yld P ⟨d, .buildSlice t 1 #[(0, x)], ty, pos, af, g⟩ a σ (Ty.sl 1 1 [T]).pr := y_build1 ht he hz hx (cells_of_one (h1 _ _ hx))

def GW.setRow (σ : GW) (g : Nat) (cs : Array Value) : GW := ⟨σ.w.setRow g cs, σ.st, fun b h => by have := σ.lt b h; simpa [World.setRow] using this⟩
theorem Stp.setRow {σ : GW} {g k : Nat} {cs : Array Value} (hg : σ.st g = k) (hk : k ≠ 0) : Stp k σ (σ.setRow g cs) :=
  ⟨rfl, rfl, rfl, Nat.le_refl _, by simp [GW.setRow, World.setRow], fun b _ hm => setRow_other σ.w g b cs (by rintro rfl; omega), fun _ _ _ => rfl⟩
def GW.mk' (σ : GW) (k : Nat) (o : Obj) : GW := ⟨σ.w.alloc o, fun b => if b = σ.w.heap.size then k else σ.st b, fun b hb => by
  by_cases e : b = σ.w.heap.size
  · subst e; simp
  · simp only [e, if_false] at hb
    have := σ.lt b hb
    simp; omega⟩
theorem Stp.mk' (σ : GW) (k : Nat) (o : Obj) : Stp 0 σ (σ.mk' k o) :=
  ⟨rfl, rfl, rfl, Nat.le_refl _, by simp [GW.mk'], fun b hb _ => heap_alloc_old σ.w o hb, fun b hb _ => by simp only [GW.mk']; rw [if_neg (by omega)]⟩

theorem Info.get {e : TypeId} {z : Value} {c by_ : Nat} (he : Info P e z c by_) : ∃ i, P.info? e = some i ∧ i.zero = some z ∧ i.size = c ∧ i.bytes = by_ := by
  unfold Info at he
  cases hi : P.info? e with
  | none => simp [hi] at he
  | some i => rw [hi] at he; simp at he; exact ⟨i, rfl, he⟩

theorem Own.intro {σ : GW} {k : Nat} {e : TypeId} {c n cap g : Nat} {cur : Array Value} {us : List Value} {ts : List Ty} (hg : σ.w.heap[g]? = some (.cells cur e (0, 0))) (hst : σ.st g = k) (hn : n ≤ cap) (hcap : cap ≤ maxLen) (hcur : cur.size = cap * c) (hus : cur.toList.take (n * c) = us)
    (hl : us.length = ts.length) (ht : ∀ (j : Nat) (T : Ty) (u : Value), ts[j]? = some T → us[j]? = some u → T.has σ u) : Own σ k e c (.slice (some ⟨g, 0, none⟩) n cap) n ts :=
  ⟨us, ⟨by rw [← hus, List.length_take, Array.length_toList, hcur]; exact Nat.min_eq_left (Nat.mul_le_mul_right _ hn), .inr ⟨g, cap, cur, rfl, Nat.zero_le _, hg, hn, hcap, hcur, hus⟩⟩, hl, ht, fun b hb => by simp [Value.ownBlock] at hb; subst hb; exact hst⟩

theorem typed_append {σ : GW} {ts us : List Ty} {vs ws : List Value} (hl : vs.length = ts.length) (h1 : ∀ (j : Nat) (T : Ty) (u : Value), ts[j]? = some T → vs[j]? = some u → T.has σ u) (h2 : ∀ (j : Nat) (T : Ty) (u : Value), us[j]? = some T → ws[j]? = some u → T.has σ u) :
    ∀ (j : Nat) (T : Ty) (u : Value), (ts ++ us)[j]? = some T → (vs ++ ws)[j]? = some u → T.has σ u := by
  intro j T u hT hu
  by_cases hj : j < ts.length
  · rw [List.getElem?_append_left hj] at hT
    rw [List.getElem?_append_left (by omega)] at hu
    exact h1 j T u hT hu
  · rw [List.getElem?_append_right (by omega)] at hT
    rw [List.getElem?_append_right (by omega), hl] at hu
    exact h2 _ T u hT hu

theorem sl_news {σ : GW} {us : List Ty} {b o : Nat} (hcl : Cells σ b o us) : ∃ ws : List Value, ws.length = us.length ∧ (∀ (j : Nat) (u : Value), ws[j]? = some u → σ.w.cell? ⟨b, o + j, none⟩ = some u) ∧ ∀ (j : Nat) (T : Ty) (u : Value), us[j]? = some T → ws[j]? = some u → T.has σ u := by
  refine ⟨(List.range us.length).map fun j => (σ.w.cell? ⟨b, o + j, none⟩).getD undef, by simp, fun j u hj => ?_, fun j T u hT hu => ?_⟩
  · rw [List.getElem?_map] at hj
    cases hr : (List.range us.length)[j]? with
    | none => simp [hr] at hj
    | some x =>
      have hlt : j < us.length := by have := (List.getElem?_eq_some_iff.1 hr).1; simpa using this
      have hx : x = j := by
        have := List.getElem?_range hlt
        rw [hr] at this; exact Option.some.inj this
      subst hx
      obtain ⟨v, hv, _⟩ := hcl x us[x] (by simp [hlt])
      rw [hr] at hj; simp [hv] at hj
      rw [hv, hj]
  · have hlt := (List.getElem?_eq_some_iff.1 hT).1
    obtain ⟨v, hv, hTv⟩ := hcl j T hT
    rw [List.getElem?_map, List.getElem?_range hlt] at hu
    simp [hv] at hu
    rw [← hu]; exact hTv

theorem own_append {σ : GW} {k : Nat} {t ty e : TypeId} {z : Value} {c by_ : Nat} {v src : Value} {n m : Nat} {ts us : List Ty} (hk : 2 ≤ k) (ht : P.underlying t = some (.slice e)) (he : Info P e z c by_) (hz : z.cells.size = c) (hc : 0 < c)
    (h : Own σ k e c v n ts) (hx : (Ty.sl c m us).has σ src) (h1 : ∀ U, U ∈ us → One U) (hlen : n + m ≤ 9223372036854775807) (hbytes : (n + m) * by_ ≤ 140737488355328) :
    ∃ v' τ, (Builtin.append_ #[t, t] ty #[v, src]).run P σ.w = .ok v' τ.w ∧ Stp k σ τ ∧ Own τ k e c v' (n + m) (ts ++ us) := by
  have h0 := h
  obtain ⟨vs, r1, r2, r3, r4⟩ := h
  obtain ⟨ad, cap0, b, o, rfl, hcap0, hl, hs, hcl⟩ := hx
  obtain ⟨i, hi, hi1, rfl, rfl⟩ := he.get
  obtain ⟨ws, w1, w2, w3⟩ := sl_news hcl
  have hone : ∀ u ∈ ws, u.oneCell' = true := fun u hu => by
    obtain ⟨j, hj⟩ := List.mem_iff_getElem?.1 hu
    obtain ⟨T, hT⟩ : ∃ T, us[j]? = some T := ⟨us[j]'(by rw [← w1]; exact (List.getElem?_eq_some_iff.1 hj).1), by simp⟩
    exact h1 T (List.mem_of_getElem? hT) σ u (w3 j T u hT hj)
  have hlw : ws.length = m * i.size := by rw [w1]; exact hl
  have hl' : (vs ++ ws).length = (ts ++ us).length := by simp [r2, w1]
  -- a new array
  have new : ∀ (old : Nat) (τw : World), old < n + m → τw = σ.w.drew.alloc (.cells (vs.toArray ++ ws.toArray ++ Builtin.zeroCells z.cells (grownCap σ.w (n + m) old e - (n + m))) e) →
      ∃ τ : GW, τ.w = τw ∧ Stp k σ τ ∧ Own τ k e i.size (.slice (some ⟨σ.w.heap.size, 0, none⟩) (n + m) (grownCap σ.w (n + m) old e)) (n + m) (ts ++ us) := by
    intro old τw _ hτ
    subst hτ
    have hge := grownCap_ge σ.w (n + m) old e
    have hcm : grownCap σ.w (n + m) old e ≤ maxLen := grownCap_le_maxLen σ.w (n + m) old e hlen
    have hstp : Stp 0 σ (σ.drew.mk' k (.cells (vs.toArray ++ ws.toArray ++ Builtin.zeroCells z.cells (grownCap σ.w (n + m) old e - (n + m))) e)) := (Stp.drew σ).trans (Stp.mk' σ.drew k _)
    refine ⟨_, rfl, hstp.of0, Own.intro (us := vs ++ ws) (heap_alloc_new σ.w.drew _) (by show (if _ = _ then k else _) = k; rw [if_pos]; rfl) hge hcm ?_ ?_ hl' ?_⟩
    · simp only [Array.size_append, List.size_toArray, size_zeroCells, hz, r1.1, hlw, ← Nat.add_mul]
      congr 1; omega
    · simp only [Array.toList_append, List.append_assoc]
      rw [← List.append_assoc, show (n + m) * i.size = (vs ++ ws).length by rw [List.length_append, r1.1, hlw, Nat.add_mul]]
      exact List.take_left
    · exact typed_append r2 (fun j T u hT hu => T.up hstp.le0 (r3 j T u hT hu)) (fun j T u hT hu => T.up hstp.le0 (w3 j T u hT hu))
  rcases r1.2 with ⟨rfl, rfl⟩ | ⟨g, cap, cur, rfl, _, hg, hn, hm, hcs, htk⟩
  · have hvs : vs = [] := List.eq_nil_of_length_eq_zero (by rw [r1.1]; simp)
    by_cases hm0 : m = 0
    · subst hm0
      have hus : us = [] := List.eq_nil_of_length_eq_zero (by rw [hl]; simp)
      subst hus
      refine ⟨.slice none 0 0, σ, ?_, Stp.refl _ _, by simpa using h0⟩
      cases ad <;> simp [Builtin.append_, run_underlying ht, sizeOf, typeInfo, hi, Builtin.lenOf, Builtin.firstCells, loadCells, loadCellsFrom]
    · have hus : us ≠ [] := by
        intro e; subst e
        have : 0 < m * i.size := Nat.mul_pos (by omega) hc
        simp only [List.length_nil] at hl
        omega
      obtain ⟨rfl, hst⟩ := hs.resolve_left hus
      have hr := run_append_nil (P := P) σ.w t ty e i z ht hi hi1 ⟨b, o, none⟩ m cap0 ws hlw (fun j u hj => by rw [Addr.add_lit]; exact w2 j u hj) (by omega) (by omega) (by simp only [Nat.zero_add] at hbytes; omega)
      obtain ⟨τ, e1, e2, e3⟩ := new 0 _ (by omega) rfl
      simp only [Nat.zero_add] at e1 e3 ⊢
      exact ⟨_, τ, by rw [hr, e1, hvs]; simp, e2, e3⟩
  · have hlt : g < σ.w.heap.size := (Array.getElem?_eq_some_iff.1 hg).1
    have hgk := r4 g rfl
    by_cases hnone : ad = none
    · subst hnone
      have hus : us = [] := hs.resolve_right (fun h => by cases h.1)
      have hm0 : m = 0 := by
        subst hus
        rcases Nat.eq_zero_or_pos m with h | h
        · exact h
        · have : 0 < m * i.size := Nat.mul_pos h hc
          simp only [List.length_nil] at hl
          omega
      subst hm0; subst hus
      refine ⟨_, σ, ?_, Stp.refl _ _, by simpa using h0⟩
      simp [Builtin.append_, run_underlying ht, sizeOf, typeInfo, hi, Builtin.lenOf, Builtin.firstCells, hn, storeCells, loadCells]
    · obtain ⟨ad', rfl⟩ := Option.ne_none_iff_exists'.1 hnone
      have hnews : ∀ (j : Nat) (u : Value), ws[j]? = some u → σ.w.cell? (ad'.add j) = some u := fun j u hj => by
        rcases hs with rfl | ⟨he', _⟩
        · have : ws = [] := List.eq_nil_of_length_eq_zero w1
          subst this; simp at hj
        · cases he'; rw [Addr.add_lit]; exact w2 j u hj
      by_cases hroom : n + m ≤ cap
      · have hfit : n * i.size + ws.length ≤ cur.size := by rw [hlw, hcs, ← Nat.add_mul]; exact Nat.mul_le_mul_right _ hroom
        have hr := run_append_room (P := P) σ.w t ty e i ht hi g n cap cur hg ad' m cap0 ws hlw hnews hone hroom hfit
        have hstp : Stp k σ (σ.setRow g (cur.toList.take (n * i.size) ++ ws ++ cur.toList.drop (n * i.size + ws.length)).toArray) := Stp.setRow hgk (by omega)
        refine ⟨_, _, hr, hstp, Own.intro (us := vs ++ ws) (setRow_heap σ.w g cur _ e (0, 0) hg) hgk hroom hm ?_ ?_ hl' ?_⟩
        · simp only [List.size_toArray, List.length_append, List.length_take, List.length_drop, Array.length_toList]
          omega
        · rw [htk, show (n + m) * i.size = (vs ++ ws).length by rw [List.length_append, r1.1, hlw, Nat.add_mul]]
          exact List.take_left
        · exact typed_append r2 (fun j T u hT hu => T.up (hstp.le (by omega)) (r3 j T u hT hu)) (fun j T u hT hu => T.up (hstp.le (by omega)) (w3 j T u hT hu))
      · have holds : ∀ (j : Nat) (u : Value), vs[j]? = some u → σ.w.cell? ((⟨g, 0, none⟩ : Addr).add j) = some u := r1.cells (g := g) rfl
        have hr := run_append_grow (P := P) σ.w t ty e i z ht hi hi1 ⟨g, 0, none⟩ n cap vs r1.1 holds ad' m cap0 ws hlw hnews (by omega) (by omega) (growslice_fits (by omega) hbytes)
        obtain ⟨τ, e1, e2, e3⟩ := new cap _ (by omega) rfl
        exact ⟨_, τ, by rw [hr, e1], e2, e3⟩

variable {d : Option Tmp} {ty : TypeId} {pos : String} {af : Array Edge} {g : Option (Nat × Bool)} {a : Act} {σ : GW}

theorem y_build2 {x y : Operand} {t e : TypeId} {T U : Ty} {z : Value} {b : Nat} (ht : P.underlying t = some (.slice e)) (he : Info P e z 1 b) (hz : z.cells.size = 1) (oT : One T) (oU : One U) (hx : At T σ a x) (hy : At U σ a y) :
    Yld P ⟨d, .buildSlice t 2 #[(0, x), (1, y)], ty, pos, af, g⟩ a σ (Ty.sl 1 2 [T, U]).pr := by
  intro K Q hk
  have h1 := cells_of_one (oT _ _ hx)
  have h2 := cells_of_one (oU _ _ hy)
  have hr : (execOp a.eval ⟨d, .buildSlice t 2 #[(0, x), (1, y)], ty, pos, af, g⟩).run P σ.w = .ok (.value (.slice (some ⟨σ.w.heap.size, 0, none⟩) 2 2)) (σ.w.alloc (.cells #[a.eval x, a.eval y] e)) := by
    simp only [execOp, List.map_toArray, List.map_cons, List.map_nil]
    generalize a.eval x = v at h1 ⊢
    generalize a.eval y = v' at h2 ⊢
    have hr : Array.range 2 = #[0, 1] := rfl
    simp [Instr.buildSlice, run_underlying ht, he.size, he.zero, Instr.fill, h1, h2, hz, newRow, newObj, Sem.run, Sem.run_bind, hr]
  unfold Oper.wp
  rw [hr]
  refine hk _ (σ.seal (.cells #[a.eval x, a.eval y] e)) (Stp.seal _ _) ⟨_, 2, σ.w.heap.size, 0, rfl, ⟨Nat.le_refl _, by decide⟩, rfl, .inr ⟨rfl, by simp [GW.seal]⟩, fun j V hj => ?_⟩
  match j, hj with
  | 0, hj =>
    simp at hj; subst hj
    refine ⟨a.eval x, ?_, T.up (Stp.seal _ _).le0 hx⟩
    show World.cell? (σ.w.alloc _) _ = _
    simp only [World.cell?, heap_alloc_new]
    rfl
  | 1, hj =>
    simp at hj; subst hj
    refine ⟨a.eval y, ?_, U.up (Stp.seal _ _).le0 hy⟩
    show World.cell? (σ.w.alloc _) _ = _
    simp only [World.cell?, heap_alloc_new]
    rfl

theorem m_append {k : Nat} {t e : TypeId} {z : Value} {c by_ : Nat} {x y : Operand} {n m : Nat} {ts us : List Ty} (ht : P.underlying t = some (.slice e)) (he : Info P e z c by_) (hk : 2 ≤ k) (hz : z.cells.size = c) (hc : 0 < c)
    (h : Own σ k e c (a.eval x) n ts) (hx : At (.sl c m us) σ a y) (h1 : ∀ U, U ∈ us → One U) (hlen : n + m ≤ 9223372036854775807) (hbytes : (n + m) * by_ ≤ 140737488355328) :
    YldM k P ⟨d, .call ⟨.builtin .append, #[x, y], #[t, t]⟩, ty, pos, af, g⟩ a σ (fun v τ => Own τ k e c v (n + m) (ts ++ us)) := by
  intro K Q hk'
  obtain ⟨v', τ, hr, hs, ho⟩ := own_append (ty := ty) hk ht he hz hc h hx h1 hlen hbytes
  have hr' : (execOp a.eval ⟨d, .call ⟨.builtin .append, #[x, y], #[t, t]⟩, ty, pos, af, g⟩).run P σ.w = .ok (.value v') τ.w := by
    simp only [execOp, resolve, Sem.run_bind, Sem.run_pure, Result.andThen_ok, invoke, List.map_toArray, List.map_cons, List.map_nil, builtin, hr]
  unfold Oper.wp
  rw [hr']
  exact hk' v' τ hs ho

theorem y_make {k : Nat} {t e : TypeId} {z : Value} {by_ : Nat} {x y : Operand} {kx ky : IntKind} {n : Nat} {T : Ty} (ht : P.underlying t = some (.slice e)) (he : Info P e z 1 by_) (hz : z.cells = #[z]) (hT : ∀ σ, T.has σ z)
    (hx : a.eval x = .int kx n) (hy : a.eval y = .int ky n) (hb : by_ * n ≤ 281474976710656) (hn : n ≤ 9223372036854775807) :
    Yld P ⟨d, .makeSlice t x y, ty, pos, af, g⟩ a σ (Pr.own k e 1 n (List.replicate n T)) := by
  obtain ⟨i, hi, hi1, hi2, rfl⟩ := he.get
  have hb' : (i.bytes : Int) * (n : Int) ≤ 281474976710656 := by
    have h3 : ((i.bytes * n : Nat) : Int) ≤ 281474976710656 := by omega
    rw [← Int.natCast_mul]; exact h3
  have hr := run_make (P := P) σ.w t e i z ht hi hi1 kx ky n n (by omega) (Int.le_refl _) hb' (by omega)
  intro K Q hk
  have hr' : (execOp a.eval ⟨d, .makeSlice t x y, ty, pos, af, g⟩).run P σ.w = .ok (.value (.slice (some ⟨σ.w.heap.size, 0, none⟩) n n)) (σ.w.alloc (.cells (madeCells z.cells (n * 1)) e)) := by
    simp only [execOp, hx, hy, Sem.run_bind, hr, Result.andThen_ok, Sem.run_pure, Int.toNat_natCast, hi2]
  unfold Oper.wp
  rw [hr']
  have hl : (madeCells z.cells (n * 1)).toList = List.replicate n z := by rw [hz, Nat.mul_one]; exact toList_madeCells_one z n
  refine hk _ (σ.mk' k (.cells (madeCells z.cells (n * 1)) e)) (Stp.mk' σ k _) ?_
  refine Own.intro (us := List.replicate n z) (heap_alloc_new σ.w _) (by show (if _ = _ then k else _) = k; rw [if_pos rfl]) (Nat.le_refl _) hn ?_ ?_ (by simp) ?_
  · rw [← Array.length_toList, hl]; simp
  · rw [hl]; simp
  · intro j U u hU hu
    simp only [List.getElem?_replicate] at hU hu
    split at hU
    · cases hU; rw [if_pos (by assumption)] at hu; cases hu; exact hT _
    · cases hU

theorem own_len {k : Nat} {x : Operand} {c n : Nat} {ts : List Ty} {t e e' : TypeId} (ht : P.underlying t = some (.slice e)) (h : Own σ k e' c (a.eval x) n ts) :
    Yld P ⟨d, .call ⟨.builtin .len, #[x], #[t]⟩, ty, pos, af, g⟩ a σ (Ty.int n).pr := by
  have : ∃ ad cap, a.eval x = .slice ad n cap := by
    obtain ⟨us, h1, _⟩ := h
    rcases h1.2 with ⟨e1, e2⟩ | ⟨g, cap, cur, e1, _⟩
    · exact ⟨none, 0, by rw [e1, e2]⟩
    · exact ⟨_, cap, e1⟩
  obtain ⟨ad, cap, e1⟩ := this
  exact Yld.of_run (v := .int .i64 n) (run_builtin1 e1 (fun cs => by simp [builtin, Builtin.len_, run_underlying ht, goInt])) rfl

def cellPtr (v : Value) (i : Nat) : Value := match v with
  | .slice (some a) _ _ => .pointer (some ⟨a.block, i, none⟩)
  | _ => undef

theorem Own.at {k : Nat} {e : TypeId} {c n : Nat} {v : Value} {ts : List Ty} (h : Own σ k e c v n ts) (hn : 0 < n) : ∃ g cap, v = .slice (some ⟨g, 0, none⟩) n cap ∧ σ.st g = k ∧ g < σ.w.heap.size := by
  obtain ⟨us, h1, _, _, h4⟩ := h
  rcases h1.2 with ⟨_, e2⟩ | ⟨g, cap, cur, rfl, _, hg, _⟩
  · omega
  · exact ⟨g, cap, rfl, h4 g rfl, (Array.getElem?_eq_some_iff.1 hg).1⟩

theorem own_index {k : Nat} {x y : Operand} {c n : Nat} {ts : List Ty} {t e : TypeId} {z v : Value} {b : Nat} {ki : IntKind} {i : Int} (ht : P.underlying t = some (.slice e)) (he : Info P e z c b)
    (h : Own σ k e c v n ts) (hx : a.eval x = v) (hy : a.eval y = .int ki i) (h0 : 0 ≤ i) (h1 : i < n) :
    Yld P ⟨d, .indexAddr t x y, ty, pos, af, g⟩ a σ (Ty.val (cellPtr v (i.toNat * c))).pr := by
  obtain ⟨g, cap, rfl, _, _⟩ := h.at (by omega)
  refine Yld.of_run (v := .pointer (some ⟨g, i.toNat * c, none⟩)) ?_ rfl
  simp only [execOp, hx, hy]
  simp [Instr.indexAt, asIntOf, run_underlying ht, h0, h1, he.size, Addr.add_lit]

theorem own_load {k : Nat} {x : Operand} {c n i : Nat} {ts : List Ty} {T : Ty} {t e : TypeId} {v : Value} {dd : TypeDesc} (ht : P.underlying t = some dd) (hd : dd.isRow = false) (h : Own σ k e c v n ts) (hx : a.eval x = cellPtr v i) (hT : ts[i]? = some T) :
    Yld P ⟨d, .load t x, ty, pos, af, g⟩ a σ T.pr := by
  have hlt := (List.getElem?_eq_some_iff.1 hT).1
  have hlen := h.len
  have hn : 0 < n := by
    rcases Nat.eq_zero_or_pos n with h | h
    · subst h; omega
    · exact h
  obtain ⟨g, cap, rfl, _, _⟩ := h.at hn
  obtain ⟨us, r1, r2, r3, _⟩ := h
  obtain ⟨u, hu⟩ : ∃ u, us[i]? = some u := ⟨us[i]'(by omega), by simp⟩
  have hc := r1.cellAt i (by omega)
  rw [hu] at hc
  refine Yld.of_run (v := u) ?_ (r3 i T u hT hu)
  have hagg : (isAgg t).run P σ.w = .ok false σ.w := by
    unfold isAgg
    rw [Sem.run_bind, run_underlying ht σ.w]
    cases dd <;> simp_all
  have hx' : a.eval x = .pointer (some ⟨g, i, none⟩) := hx
  simp only [execOp, hx']
  simp [Instr.loadAt, Instr.sureAddr, loadVar, Sem.run_bind, hagg, load, Sem.run, hc]

theorem m_store {k : Nat} {x y : Operand} {c n i : Nat} {ts : List Ty} {T : Ty} {t e : TypeId} {z v : Value} {by_ : Nat} (he : Info P t z 1 by_) (hk : 2 ≤ k) (h : Own σ k e c v n ts) (hx : a.eval x = cellPtr v i) (hi : i < ts.length) (hy : At T σ a y) (h1 : One T) :
    YldM k P ⟨d, .store t x y, ty, pos, af, g⟩ a σ (fun _ τ => Own τ k e c v n (ts.set i T)) := by
  have hlen := h.len
  have hn : 0 < n := by
    rcases Nat.eq_zero_or_pos n with h | h
    · subst h; omega
    · exact h
  obtain ⟨g, cap, rfl, hst, hg⟩ := h.at hn
  obtain ⟨us, r1, r2, r3, r4⟩ := h
  have ho := h1 _ _ hy
  have hc := r1.cellAt i (by omega)
  rw [List.getElem?_eq_getElem (by omega)] at hc
  have hf := r1.frozenAt i
  intro K Q hK
  have hx' : a.eval x = .pointer (some ⟨g, i, none⟩) := hx
  have hr : (execOp a.eval ⟨d, .store t x y, ty, pos, af, ‹_›⟩).run P σ.w = .ok .skip (σ.w.setCell ⟨g, i, none⟩ (a.eval y)) := by
    simp only [execOp, hx']
    have hst : (store ⟨g, i, none⟩ (a.eval y)).run P σ.w = .ok () (σ.w.setCell ⟨g, i, none⟩ (a.eval y)) := by
      rw [run_store P σ.w _ _ _ ho, hc, hf]; rfl
    simp [Instr.storeAt, Instr.sureAddr, storeVar, Sem.run_bind, cells_of_one ho, he.size, storeCells, Addr.add_zero', hst]
  unfold Oper.wp
  rw [hr]
  have hstp : Stp k σ ⟨σ.w.setCell ⟨g, i, none⟩ (a.eval y), σ.st, fun b h => by have := σ.lt b h; simpa using this⟩ :=
    ⟨rfl, rfl, rfl, Nat.le_refl _, by simp, fun b hb hm => Below.heap_setCell σ.w _ _ b (by rintro rfl; simp at hm; omega), fun _ _ _ => rfl⟩
  refine hK undef _ hstp ⟨us.set i (a.eval y), (r1.stored i (a.eval y)).1, by simp [r2], fun j U u hU hu => ?_, r4⟩
  by_cases hji : j = i
  · subst hji
    rw [List.getElem?_set_self (by omega)] at hU hu
    cases hU; cases hu
    exact T.up (hstp.le (by omega)) hy
  · rw [List.getElem?_set_ne (Ne.symm hji)] at hU hu
    exact U.up (hstp.le (by omega)) (r3 j U u hU hu)
theorem cvo {k : Nat} {e : TypeId} {c n n' : Nat} {ts us : List Ty} {σ : GW} {v : Value} (h1 : n = n') (h2 : ts = us) (h : (Pr.own k e c n ts).has σ v) : (Pr.own k e c n' us).has σ v := h1 ▸ h2 ▸ h
theorem kpm {m : Nat} {T : Ty} {σ σ' : GW} {a a' : Act} {x : Operand} (hs : Stp m σ σ') (hm : m ≠ 1) (e : a'.eval x = a.eval x) (h : T.has σ (a.eval x)) : T.has σ' (a'.eval x) := by rw [e]; exact T.up (hs.le hm) h
theorem kpmo {m k : Nat} {e' : TypeId} {c n : Nat} {ts : List Ty} {σ σ' : GW} {a a' : Act} {x : Operand} (hs : Stp m σ σ') (hm : m ≠ 1) (hk : m = 0 ∨ k ≠ m) (e : a'.eval x = a.eval x) (h : Own σ k e' c (a.eval x) n ts) : Own σ' k e' c (a'.eval x) n ts := by rw [e]; exact h.keep hs hm hk
theorem al {R : Pr} {σ : GW} {v w : Value} (e : v = w) (h : R.has σ w) : R.has σ v := e ▸ h

/-! ### A variable of the function's own: a block behind a pointer -/
def OwnP (σ : GW) (k : Nat) (v : Value) (ts : List Ty) : Prop :=
  ∃ g e cur, v = .pointer (some ⟨g, 0, none⟩) ∧ σ.st g = k ∧ σ.w.heap[g]? = some (.cells cur e (0, 0)) ∧ cur.size = ts.length ∧ ∀ (j : Nat) (T : Ty) (u : Value), ts[j]? = some T → cur[j]? = some u → T.has σ u

theorem OwnP.keep {m k : Nat} {σ τ : GW} {v : Value} {ts : List Ty} (h : OwnP σ k v ts) (hs : Stp m σ τ) (hm : m ≠ 1) (hk : m = 0 ∨ k ≠ m) : OwnP τ k v ts := by
  obtain ⟨g, e, cur, h1, h2, h3, h4, h5⟩ := h
  have hlt := (Array.getElem?_eq_some_iff.1 h3).1
  have hq : m = 0 ∨ σ.st g ≠ m := by rw [h2]; omega
  exact ⟨g, e, cur, h1, (hs.st g hlt hq).trans h2, (hs.blk g hlt hq).trans h3, h4, fun j T u hj hu => T.up (hs.le hm) (h5 j T u hj hu)⟩
def Pr.ownp (k : Nat) (ts : List Ty) : Pr := ⟨fun σ v => OwnP σ k v ts, fun hs h => h.keep hs (by decide) (.inl rfl)⟩

theorem OwnP.seal {σ : GW} {k : Nat} {v : Value} {ts : List Ty} (h : OwnP σ k v ts) (hk : 2 ≤ k) : ∃ τ : GW, τ.w = σ.w ∧ Stp k σ τ ∧ (Ty.ref ts).has τ v := by
  obtain ⟨g, e, cur, rfl, h2, h3, h4, h5⟩ := h
  have hs : Stp k σ (σ.shut (some g)) := ⟨rfl, rfl, rfl, Nat.le_refl _, Nat.le_refl _, fun _ _ _ => rfl, fun b hb hm => by
    have : σ.st b ≠ k := by omega
    simp only [GW.shut]
    rw [if_neg]
    rintro ⟨hg, _⟩
    cases hg
    exact this h2⟩
  refine ⟨σ.shut (some g), rfl, hs, g, 0, rfl, ?_, fun j T hj => ?_⟩
  · simp only [GW.shut]; rw [if_pos ⟨trivial, by omega⟩]
  · have hlt : j < cur.size := by rw [h4]; exact (List.getElem?_eq_some_iff.1 hj).1
    refine ⟨cur[j], ?_, T.up (hs.le (by omega)) (h5 j T _ hj (by simp [hlt]))⟩
    have h3' : (σ.shut (some g)).w.heap[g]? = some (.cells cur e (0, 0)) := h3
    simp [World.cell?, h3', hlt]

theorem y_alloc {k : Nat} {e : TypeId} {z : Value} {c b : Nat} {ts : List Ty} (he : Info P e z c b) (hl : ts.length = z.cells.size) (hT : ∀ (j : Nat) (T : Ty) (u : Value), ts[j]? = some T → z.cells[j]? = some u → ∀ σ, T.has σ u) :
    Yld P ⟨d, .alloc e, ty, pos, af, g⟩ a σ (Pr.ownp k ts) := by
  intro K Q hk
  have hr' : (execOp a.eval ⟨d, .alloc e, ty, pos, af, g⟩).run P σ.w = .ok (.value (.pointer (some ⟨σ.w.heap.size, 0, none⟩))) (σ.w.alloc (.cells z.cells e)) := by
    simp only [execOp]
    simp [Instr.alloc, he.zero, newVar, newRow, newObj, Sem.run, Sem.run_bind]
  unfold Oper.wp
  rw [hr']
  exact hk _ (σ.mk' k (.cells z.cells e)) (Stp.mk' σ k _) ⟨σ.w.heap.size, e, z.cells, rfl, by show (if _ = _ then k else _) = k; rw [if_pos rfl], heap_alloc_new σ.w _, hl.symm, fun j T u hj hu => hT j T u hj hu _⟩

def ptrAt (v : Value) (i : Nat) : Value := match v with
  | .pointer (some a) => .pointer (some ⟨a.block, i, none⟩)
  | _ => undef

theorem ownp_load {k : Nat} {x : Operand} {i : Nat} {ts : List Ty} {T : Ty} {t : TypeId} {v : Value} {dd : TypeDesc} (ht : P.underlying t = some dd) (hd : dd.isRow = false) (h : OwnP σ k v ts) (hx : a.eval x = ptrAt v i) (hT : ts[i]? = some T) :
    Yld P ⟨d, .load t x, ty, pos, af, g⟩ a σ T.pr := by
  obtain ⟨gg, e', cur, rfl, h2, h3, h4, h5⟩ := h
  have hlt : i < cur.size := by rw [h4]; exact (List.getElem?_eq_some_iff.1 hT).1
  refine Yld.of_run (v := cur[i]) ?_ (h5 i T _ hT (by simp [hlt]))
  have hagg : (isAgg t).run P σ.w = .ok false σ.w := by
    unfold isAgg
    rw [Sem.run_bind, run_underlying ht σ.w]
    cases dd <;> simp_all
  have hx' : a.eval x = .pointer (some ⟨gg, i, none⟩) := hx
  have hc : σ.w.cell? ⟨gg, i, none⟩ = some cur[i] := by simp [World.cell?, h3, hlt]
  simp only [execOp, hx']
  simp [Instr.loadAt, Instr.sureAddr, loadVar, Sem.run_bind, hagg, load, Sem.run, hc]

theorem m_storep {k : Nat} {x y : Operand} {i : Nat} {ts : List Ty} {T : Ty} {t : TypeId} {z v : Value} {by_ : Nat} (he : Info P t z 1 by_) (hk : 2 ≤ k) (h : OwnP σ k v ts) (hx : a.eval x = ptrAt v i) (hi : i < ts.length) (hy : At T σ a y) (h1 : One T) :
    YldM k P ⟨d, .store t x y, ty, pos, af, g⟩ a σ (fun _ τ => OwnP τ k v (ts.set i T)) := by
  obtain ⟨gg, e', cur, rfl, h2, h3, h4, h5⟩ := h
  have ho := h1 _ _ hy
  have hlt : i < cur.size := by omega
  have hg := (Array.getElem?_eq_some_iff.1 h3).1
  have hc : σ.w.cell? ⟨gg, i, none⟩ = some cur[i] := by simp [World.cell?, h3, hlt]
  have hf : σ.w.frozen? ⟨gg, i, none⟩ = false := by simp [World.frozen?, h3]
  have hx' : a.eval x = .pointer (some ⟨gg, i, none⟩) := hx
  intro K Q hK
  have hr : (execOp a.eval ⟨d, .store t x y, ty, pos, af, g⟩).run P σ.w = .ok .skip (σ.w.setCell ⟨gg, i, none⟩ (a.eval y)) := by
    simp only [execOp, hx']
    have hst : (store ⟨gg, i, none⟩ (a.eval y)).run P σ.w = .ok () (σ.w.setCell ⟨gg, i, none⟩ (a.eval y)) := by
      rw [run_store P σ.w _ _ _ ho, hc, hf]; rfl
    simp [Instr.storeAt, Instr.sureAddr, storeVar, Sem.run_bind, cells_of_one ho, he.size, storeCells, Addr.add_zero', hst]
  unfold Oper.wp
  rw [hr]
  have hstp : Stp k σ ⟨σ.w.setCell ⟨gg, i, none⟩ (a.eval y), σ.st, fun b h => by have := σ.lt b h; simpa using this⟩ :=
    ⟨rfl, rfl, rfl, Nat.le_refl _, by simp, fun b hb hm => Below.heap_setCell σ.w _ _ b (by rintro rfl; simp at hm; omega), fun _ _ _ => rfl⟩
  have hh : (σ.w.setCell ⟨gg, i, none⟩ (a.eval y)).heap[gg]? = some (.cells (cur.setIfInBounds i (a.eval y)) e' (0, 0)) := by
    unfold World.setCell
    rw [Array.getElem?_modify, if_pos rfl, h3]
    rfl
  refine hK undef _ hstp ⟨gg, e', _, rfl, h2, hh, by simp [h4], fun j U u hU hu => ?_⟩
  by_cases hji : j = i
  · subst hji
    rw [List.getElem?_set_self (by omega)] at hU
    rw [Array.getElem?_setIfInBounds_self_of_lt hlt] at hu
    cases hU; cases hu
    exact T.up (hstp.le (by omega)) hy
  · rw [List.getElem?_set_ne (Ne.symm hji)] at hU
    rw [Array.getElem?_setIfInBounds_ne (Ne.symm hji)] at hu
    exact U.up (hstp.le (by omega)) (h5 j U u hU hu)

theorem cells_drop {σ : GW} {b o : Nat} {ts : List Ty} (h : Cells σ b o ts) (l n : Nat) : Cells σ b (o + l) ((ts.drop l).take n) := by
  intro j T hj
  rw [List.getElem?_take] at hj
  split at hj
  · rw [List.getElem?_drop] at hj
    have := h (l + j) T hj
    rwa [← Nat.add_assoc] at this
  · cases hj
theorem sl_cut {σ : GW} {c n l h : Nat} {ts : List Ty} {ad : Option Addr} {cap : Nat} (hv : (Ty.sl c n ts).has σ (.slice ad n cap)) (h1 : l ≤ h) (h2 : h ≤ n) : (Ty.sl c (h - l) ((ts.drop (l * c)).take ((h - l) * c))).has σ (sliced ad l h cap c) := by
  obtain ⟨ad', cap', b, o, e1, ⟨hn, hcap⟩, hl, hs, hc⟩ := hv
  cases e1
  have hlc : (h - l) * c ≤ ts.length - l * c := by rw [hl, ← Nat.sub_mul]; exact Nat.mul_le_mul_right _ (by omega)
  refine ⟨if cap = l then ad else ad.map (·.add (l * c)), cap - l, b, o + l * c, rfl, ⟨by omega, by omega⟩, by rw [List.length_take, List.length_drop]; omega, ?_, cells_drop hc _ _⟩
  by_cases he : (ts.drop (l * c)).take ((h - l) * c) = []
  · exact .inl he
  · have hne : ts ≠ [] := by rintro rfl; simp at he
    obtain ⟨rfl, hst⟩ := hs.resolve_left hne
    refine .inr ⟨?_, hst⟩
    by_cases hcl : cap = l
    · have : h - l = 0 := by omega
      rw [this] at he; simp at he
    · simp [hcl, Addr.add_lit]
theorem elem_of {t e : TypeId} (ht : P.underlying t = some (.slice e)) : P.underlying t = some (.slice (P.elem t)) := by
  rw [ht]; simp [Program.elem, ht]
theorem elem_eq {t e : TypeId} (ht : P.underlying t = some (.slice e)) : P.elem t = e := by
  simp [Program.elem, ht]
theorem y_cut_l {x y : Operand} {c n : Nat} {ts : List Ty} {t e : TypeId} {z : Value} {b : Nat} {k : IntKind} {l : Nat} (ht : P.underlying t = some (.slice e)) (he : Info P e z c b) (hx : At (.sl c n ts) σ a x) (hy : a.eval y = .int k l) (hl : l ≤ n) :
    Yld P ⟨d, .slice t x (some y) none none, ty, pos, af, g⟩ a σ (Ty.sl c (n - l) ((ts.drop (l * c)).take ((n - l) * c))).pr := by
  have hx0 := hx
  obtain ⟨ad, cap, b', o, e1, ⟨hn, hcap⟩, _⟩ := hx
  have hx1 : (Ty.sl c n ts).has σ (.slice ad n cap) := by rw [← e1]; exact hx0
  refine Yld.of_run (v := sliced ad l n cap c) ?_ (sl_cut hx1 hl (Nat.le_refl _))
  have h1 := run_slice_l (P := P) σ.w t ad n cap (elem_of ht) k (l : Int) (by omega) (by omega)
  rw [elem_eq ht, he.size] at h1
  simp only [execOp, e1, hy, Option.map_some, Option.map_none, Sem.run_bind, run_sliceAt_slice σ.w t _ _ _ _ (elem_of ht), h1, Result.andThen_ok, Sem.run_pure, Int.toNat_natCast]
theorem y_cut_h {x y : Operand} {c n : Nat} {ts : List Ty} {t e : TypeId} {z : Value} {b : Nat} {k : IntKind} {h : Nat} (ht : P.underlying t = some (.slice e)) (he : Info P e z c b) (hx : At (.sl c n ts) σ a x) (hy : a.eval y = .int k h) (hl : h ≤ n) :
    Yld P ⟨d, .slice t x none (some y) none, ty, pos, af, g⟩ a σ (Ty.sl c h (ts.take (h * c))).pr := by
  have hx0 := hx
  obtain ⟨ad, cap, b', o, e1, ⟨hn, hcap⟩, _⟩ := hx
  have hx1 : (Ty.sl c n ts).has σ (.slice ad n cap) := by rw [← e1]; exact hx0
  have hv := sl_cut hx1 (Nat.zero_le h) hl
  simp only [Nat.zero_mul, List.drop_zero, Nat.sub_zero] at hv
  refine Yld.of_run (v := sliced ad 0 h cap c) ?_ hv
  have h1 := run_slice_h (P := P) σ.w t ad n cap (elem_of ht) k (h : Int) (by omega) (by omega)
  rw [elem_eq ht, he.size] at h1
  simp only [execOp, e1, hy, Option.map_some, Option.map_none, Sem.run_bind, run_sliceAt_slice σ.w t _ _ _ _ (elem_of ht), h1, Result.andThen_ok, Sem.run_pure, Int.toNat_natCast]
theorem lst_drop {α : Type} {f : α → Ty} {xs : List α} {l : Nat} {σ : GW} {v : Value} (h : (Ty.sl 1 (xs.length - l) (((xs.map f).drop (l * 1)).take ((xs.length - l) * 1))).has σ v) : (Ty.lst f (xs.drop l)).has σ v := by
  rw [Nat.mul_one, Nat.mul_one, ← List.map_drop, ← List.map_take, List.take_of_length_le (by simp)] at h
  simpa [Ty.lst] using h
theorem lst_take {α : Type} {f : α → Ty} {xs : List α} {l : Nat} {σ : GW} {v : Value} (hl : l ≤ xs.length) (h : (Ty.sl 1 l ((xs.map f).take (l * 1))).has σ v) : (Ty.lst f (xs.take l)).has σ v := by
  rw [Nat.mul_one, ← List.map_take] at h
  simpa [Ty.lst, Nat.min_eq_left hl] using h
theorem Yld.mono {o : Oper} {R R' : Pr} (h : Yld P o a σ R) (hr : ∀ τ v, R.has τ v → R'.has τ v) : Yld P o a σ R' := fun K Q hk => h K Q fun v τ hs hv => hk v τ hs (hr τ v hv)
theorem y_drop {α : Type} {f : α → Ty} {xs : List α} {x y : Operand} {t e : TypeId} {z : Value} {b : Nat} {k : IntKind} {l : Nat} (ht : P.underlying t = some (.slice e)) (he : Info P e z 1 b) (hx : At (.lst f xs) σ a x) (hy : a.eval y = .int k l) (hl : l ≤ xs.length) :
    Yld P ⟨d, .slice t x (some y) none none, ty, pos, af, g⟩ a σ (Ty.lst f (xs.drop l)).pr := (y_cut_l ht he hx hy hl).mono fun _ _ h => lst_drop h
theorem y_take {α : Type} {f : α → Ty} {xs : List α} {x y : Operand} {t e : TypeId} {z : Value} {b : Nat} {k : IntKind} {l : Nat} (ht : P.underlying t = some (.slice e)) (he : Info P e z 1 b) (hx : At (.lst f xs) σ a x) (hy : a.eval y = .int k l) (hl : l ≤ xs.length) :
    Yld P ⟨d, .slice t x none (some y) none, ty, pos, af, g⟩ a σ (Ty.lst f (xs.take l)).pr := (y_cut_h ht he hx hy hl).mono fun _ _ h => lst_take hl h
theorem toN {σ : GW} {v : Value} {k : IntKind} {i : Int} {n : Nat} (h : (Ty.val (.int k i)).has σ v) (e : i = n) : v = .int k n := by
  have h' : v = .int k i := h
  rw [h', e]
theorem cvop {k : Nat} {ts us : List Ty} {σ : GW} {v : Value} (h2 : ts = us) (h : OwnP σ k v ts) : OwnP σ k v us := h2 ▸ h
theorem sl_nil {c : Nat} {σ : GW} : (Ty.sl c 0 []).has σ (.slice none 0 0) := ⟨none, 0, 0, 0, rfl, ⟨Nat.le_refl _, by decide⟩, by simp, .inl rfl, fun j T hj => by simp at hj⟩
theorem own_index1 {k : Nat} {x y : Operand} {n : Nat} {ts : List Ty} {t e : TypeId} {z v : Value} {b : Nat} {ki : IntKind} {i : Int} (ht : P.underlying t = some (.slice e)) (he : Info P e z 1 b)
    (h : Own σ k e 1 v n ts) (hx : a.eval x = v) (hy : a.eval y = .int ki i) (h0 : 0 ≤ i) (h1 : i < n) :
    Yld P ⟨d, .indexAddr t x y, ty, pos, af, g⟩ a σ (Ty.val (cellPtr v i.toNat)).pr := by
  have := own_index (d := d) (ty := ty) (pos := pos) (af := af) (g := g) ht he h hx hy h0 h1
  rwa [Nat.mul_one] at this
theorem nil_lst {α : Type} {f : α → Ty} {xs : List α} {σ : GW} {v : Value} (e : xs = []) (h : (Ty.val (.slice none 0 0)).has σ v) : (Ty.lst f xs).has σ v := by
  subst e
  have h' : v = .slice none 0 0 := h
  rw [h']; exact sl_nil
theorem y_lit0 {k : Nat} {t e : TypeId} {z : Value} {b : Nat} (ht : P.underlying t = some (.slice e)) (he : Info P e z 1 b) :
    Yld P ⟨d, .buildSlice t 0 #[], ty, pos, af, g⟩ a σ (Pr.own k e 1 0 []) := by
  intro K Q hk
  have hr : (execOp a.eval ⟨d, .buildSlice t 0 #[], ty, pos, af, g⟩).run P σ.w = .ok (.value (.slice (some ⟨σ.w.heap.size, 0, none⟩) 0 0)) (σ.w.alloc (.cells #[] e)) := by
    simp only [execOp, List.map_toArray, List.map_nil]
    simp [Instr.buildSlice, run_underlying ht, he.size, Instr.fill, newRow, newObj, Sem.run, Sem.run_bind, Array.range_zero']
  unfold Oper.wp
  rw [hr]
  exact hk _ (σ.mk' k (.cells #[] e)) (Stp.mk' σ k _) (Own.intro (us := []) (heap_alloc_new σ.w _) (by show (if _ = _ then k else _) = k; rw [if_pos rfl]) (Nat.le_refl _) (Nat.zero_le _) rfl rfl rfl (fun j T u h => by simp at h))
theorem y_lit1 {k : Nat} {x : Operand} {t e : TypeId} {T : Ty} {z : Value} {b : Nat} (ht : P.underlying t = some (.slice e)) (he : Info P e z 1 b) (hz : z.cells.size = 1) (hone : One T) (hx : At T σ a x) :
    Yld P ⟨d, .buildSlice t 1 #[(0, x)], ty, pos, af, g⟩ a σ (Pr.own k e 1 1 [T]) := by
  have h1 := cells_of_one (hone _ _ hx)
  intro K Q hk
  have hr : (execOp a.eval ⟨d, .buildSlice t 1 #[(0, x)], ty, pos, af, g⟩).run P σ.w = .ok (.value (.slice (some ⟨σ.w.heap.size, 0, none⟩) 1 1)) (σ.w.alloc (.cells #[a.eval x] e)) := by
    simp only [execOp, List.map_toArray, List.map_cons, List.map_nil]
    generalize a.eval x = v at h1 ⊢
    have hr : Array.range 1 = #[0] := rfl
    simp [Instr.buildSlice, run_underlying ht, he.size, he.zero, Instr.fill, h1, hz, newRow, newObj, Sem.run, Sem.run_bind, hr]
  unfold Oper.wp
  rw [hr]
  refine hk _ (σ.mk' k (.cells #[a.eval x] e)) (Stp.mk' σ k _) (Own.intro (us := [a.eval x]) (heap_alloc_new σ.w _) (by show (if _ = _ then k else _) = k; rw [if_pos rfl]) (Nat.le_refl _) (by decide) rfl rfl rfl (fun j U u hU hu => ?_))
  match j, hU, hu with
  | 0, hU, hu => simp at hU hu; subst hU; subst hu; exact T.up (Stp.mk' σ k _).le0 hx
end Go.KL
