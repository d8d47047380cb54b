/- All rows, each once: the way that is looked for; what rows may generate. -/
import Derived.Test.YtbilebfnanlgfaaDoorTopTouchK1
import Derived.Lib.DecodeN
import Derived.Lib.AppendStr
import Derived.Laws.CopyRow
import Derived.Laws.Bits64b
import Derived.Lib.SliceRun
import Derived.Laws.BitsLemmas
import Derived.ProofKit
import Derived.JoinedCond
import Derived.SizedLaws
import Derived.Deep.Slices
import Derived.Deep.CondSized
namespace Go.KL
/-! ### What may generate -/
def gensTo (n : Int) : List (List Int) → Int
  | [] => 0
  | g :: l => if rowMay g ≠ 0 then rowMay g else if ((g.length : Nat) : Int) ≠ n then 1 else gensTo n l
def gensMay (n : Int) (l : List (List Int)) : Int := if n < 1 ∨ 12 < n ∨ 8 < l.length then 1 else gensTo n l
theorem gensTo_ok {n : Int} : ∀ {l : List (List Int)}, gensTo n l = 0 → ∀ g ∈ l, IsRow g ∧ ((g.length : Nat) : Int) = n
  | [], _, g, hg => by cases hg
  | x :: l, h, g, hg => by
    rw [gensTo] at h
    split at h
    · contradiction
    · rename_i h1
      split at h
      · cases h
      · rename_i h2
        rcases List.mem_cons.1 hg with rfl | hg
        · exact ⟨rowMay_ok.1 (Classical.not_not.1 h1), Classical.not_not.1 h2⟩
        · exact gensTo_ok h g hg
theorem gensMay_ok {n : Int} {l : List (List Int)} (h : gensMay n l = 0) : (1 ≤ n ∧ n ≤ 12 ∧ l.length ≤ 8) ∧ ∀ k, k < l.length → IsRow (l.getD k []) ∧ (((l.getD k []).length : Nat) : Int) = n := by
  unfold gensMay at h
  split at h
  · cases h
  · rename_i hc
    refine ⟨by omega, fun k hk => gensTo_ok h _ ?_⟩
    simp [hk]

/-! ### The order of a row, taken again and again -/
/-! ### The way -/
structure Tour (n : Nat) (cs : List (List Int)) (rows : List (List Int)) (path : List Int) (r : List Int) : Prop where
  len : rows.length = path.length + 1
  row : ∀ x ∈ rows, IsRow x ∧ x.length = n
  nd : rows.Nodup
  last : rows.getD (rows.length - 1) [] = r
  csr : ∀ k, k < cs.length → IsRow (cs.getD k []) ∧ (cs.getD k []).length = n
  nn : 1 ≤ n ∧ n ≤ 4
  cl : cs.length ≤ 8
theorem Tour.rr {n : Nat} {cs rows : List (List Int)} {path r : List Int} (h : Tour n cs rows path r) : IsRow r ∧ r.length = n := by
  refine h.row r ?_
  have hl : rows.length - 1 < rows.length := by have := h.len; omega
  rw [← h.last]
  have e : rows.getD (rows.length - 1) [] = rows[rows.length - 1] := by simp [hl]
  rw [e]; exact List.getElem_mem hl
theorem Tour.x {n : Nat} {cs rows : List (List Int)} {path r : List Int} (h : Tour n cs rows path r) {k : Nat} (hk : k < cs.length) : IsRow (byL r (cs.getD k [])) ∧ (byL r (cs.getD k [])).length = n := by
  have h1 := h.rr
  have h2 := h.csr k hk
  exact ⟨byL_row h1.1 h2.1 (by omega), by rw [byL_len]; exact h2.2⟩
theorem rows_le {n : Nat} {rows : List (List Int)} (h : ∀ x ∈ rows, IsRow x ∧ x.length = n) (hn : rows.Nodup) : rows.length ≤ fct n := by
  have := nodup_len (fct n) (rows.map fun x => ((rankL x : Nat) : Int)) (by
    refine List.pairwise_map.2 (hn.imp_of_mem ?_)
    intro a b ha hb hab e
    refine hab (rank_row_inj (h a ha).1 (h b hb).1 (by rw [(h a ha).2, (h b hb).2]) (by omega))) (fun x hx => by
    obtain ⟨y, hy, rfl⟩ := List.mem_map.1 hx
    have := rankL_lt y
    rw [(h y hy).2] at this
    omega)
  simpa using this
theorem Tour.next {n : Nat} {cs rows : List (List Int)} {path r : List Int} (h : Tour n cs rows path r) {k : Nat} (hk : k < cs.length) (hx : byL r (cs.getD k []) ∉ rows) : Tour n cs (rows ++ [byL r (cs.getD k [])]) (path ++ [(k : Int)]) (byL r (cs.getD k [])) := by
  refine ⟨by simp [h.len], fun x hxm => ?_, ?_, by simp, h.csr, h.nn, h.cl⟩
  · rcases List.mem_append.1 hxm with hm | hm
    · exact h.row x hm
    · simp at hm; subst hm; exact h.x hk
  · refine List.nodup_append.2 ⟨h.nd, by simp, fun a ha b hb => ?_⟩
    simp at hb; subst hb
    rintro rfl; exact hx ha
theorem Tour.full {n : Nat} {cs rows : List (List Int)} {path r : List Int} (h : Tour n cs rows path r) {x : List Int} (hx : IsRow x ∧ x.length = n) (hn : x ∉ rows) : path.length + 1 < fct n := by
  have := rows_le (n := n) (rows := rows ++ [x]) (fun y hy => by
    rcases List.mem_append.1 hy with hm | hm
    · exact h.row y hm
    · simp at hm; subst hm; exact hx) (List.nodup_append.2 ⟨h.nd, by simp, fun a ha b hb => by simp at hb; subst hb; rintro rfl; exact hn ha⟩)
  simp at this
  have := h.len
  omega
theorem Tour.lt {n : Nat} {cs rows : List (List Int)} {path r : List Int} (h : Tour n cs rows path r) : path.length < fct n ∧ fct n ≤ 24 := by
  have h1 := rows_le h.row h.nd
  have h2 := h.len
  have h3 : fct n ≤ fct 4 := fct_mono h.nn.2
  have h4 : fct 4 = 24 := by decide
  omega
def SeenT (n : Nat) (rows : List (List Int)) (f : Int → Option Int) : Prop := ∀ x, IsRow x → x.length = n → (f ((rankL x : Nat) : Int)).getD 0 = if x ∈ rows then 1 else 0
theorem SeenT.put {n : Nat} {rows : List (List Int)} {f : Int → Option Int} (h : SeenT n rows f) {x : List Int} (hx : IsRow x ∧ x.length = n) : SeenT n (rows ++ [x]) (fun p => if p = ((rankL x : Nat) : Int) then some 1 else f p) := by
  intro y hy hl
  by_cases e : y = x
  · subst e; simp
  · have hne : rankL y ≠ rankL x := fun hh => e (rank_row_inj hy hx.1 (by omega) hh)
    simp only [Int.natCast_inj, if_neg hne]
    rw [h y hy hl]
    simp [e]
theorem SeenT.drop {n : Nat} {rows : List (List Int)} {f : Int → Option Int} {x : List Int} (h : SeenT n (rows ++ [x]) f) (hx : IsRow x ∧ x.length = n) (hn : x ∉ rows) : SeenT n rows (fun p => if p = ((rankL x : Nat) : Int) then some 0 else f p) := by
  intro y hy hl
  by_cases e : y = x
  · subst e; simp [hn]
  · have hne : rankL y ≠ rankL x := fun hh => e (rank_row_inj hy hx.1 (by omega) hh)
    simp only [Int.natCast_inj, if_neg hne]
    rw [h y hy hl]
    simp [e]
end Go.KL
namespace Go.KL
section
variable {F : List (List Int) → List Int → Option (List Int)} {cs : List (List Int)} {N : Nat} {rows : List (List Int)} {path r : List Int} {k : Nat} (hl : rows.getD (rows.length - 1) [] = r)
include hl
end
theorem Tour.start {n : Int} {cs : List (List Int)} (h : ¬ (n < 1 ∨ 4 < n ∨ 8 < cs.length)) (h2 : ¬ gensMay n cs ≠ 0) : Tour n.toNat cs [roundsL n.toNat] [] (roundsL n.toNat) := by
  have hg := gensMay_ok (Classical.not_not.1 h2)
  refine ⟨rfl, fun x hx => ?_, by simp, rfl, fun k hk => ⟨(hg.2 k hk).1, by have := (hg.2 k hk).2; omega⟩, ⟨by omega, by omega⟩, by omega⟩
  simp at hx; subst hx
  exact ⟨roundsL_row (by omega) (by omega), roundsL_len _⟩
end Go.KL
namespace Go.KL
end Go.KL

/- All rows, each once: what is found rings, and nothing ahead of it does. -/
namespace Go.KL
def belowL : List Int → List Int → Bool
  | [], b => decide (0 < b.length)
  | _ :: _, [] => false
  | x :: a, y :: b => if x = y then belowL a b else decide (x < y)
def SeenB (n : Nat) (vis : List (List Int)) (f : Int → Option Bool) : Prop := ∀ x, IsRow x → x.length = n → (f ((rankL x : Nat) : Int)).getD false = decide (x ∈ vis)
theorem SeenB.put {n : Nat} {vis : List (List Int)} {f : Int → Option Bool} (h : SeenB n vis f) {x : List Int} (hx : IsRow x) (hl : x.length = n) : SeenB n (vis ++ [x]) (fun p => if p = ((rankL x : Nat) : Int) then some true else f p) := by
  intro y hy hly
  by_cases e : y = x
  · subst e; simp
  · have hne : rankL y ≠ rankL x := fun hh => e (rank_row_inj hy hx (by omega) hh)
    simp only [Int.natCast_inj, if_neg hne]
    rw [h y hy hly]
    simp [e]
def leadsOf (raw : List Int) (many calls : Nat) : List Int := (List.range many).map fun i => ((pick (rawAt raw i) calls : Nat) : Int)
theorem leadsOf_len (raw : List Int) (many calls : Nat) : (leadsOf raw many calls).length = many := by simp [leadsOf]
theorem leadsOf_succ (raw : List Int) (k calls : Nat) : leadsOf raw (k + 1) calls = leadsOf raw k calls ++ [((pick (rawAt raw k) calls : Nat) : Int)] := by simp [leadsOf, List.range_succ]
end Go.KL

/- Rows read and written as text; the row at a place; the laws of rows. -/
namespace Go.KL
theorem run1_lo {s : ByteArray} {p : Nat} (hb : (s.get! p).toNat < 128) : run1 s p = (s.get! p).toNat ∧ wid s p = 1 := by
  unfold run1 wid Utf8.decode
  simp only [Nat.add_zero]
  rw [if_pos hb]
  exact ⟨rfl, rfl⟩
theorem bsL_size (l : List UInt8) : (bsL l).size = l.length := by simp [bsL, ByteArray.size]
theorem bsL_get {l : List UInt8} {j : Nat} (h : j < l.length) : (bsL l).get! j = l[j] := by
  rw [get_list (by rw [bsL_size]; exact h)]
  simp [bsL]
end Go.KL
namespace Go.KL
end Go.KL

/- Runes as the document reads them: -1 for a byte that is none. -/
namespace Go.KL
def runM (s : ByteArray) (p : Nat) : Int := if run1 s p = 65533 ∧ wid s p = 1 then -1 else run1 s p
section
variable {s : ByteArray} (h128 : ¬ (s.get! 0).toNat < 128)
include h128 in
end
/-! ### All runes of a text -/
def runsF (s : ByteArray) : Nat → Nat → List Int
  | 0, _ => []
  | f + 1, p => if p < s.size then runM s p :: runsF s f (p + wid s p) else []
def runsL (s : ByteArray) : List Int := runsF s s.size 0
theorem runsF_end {s : ByteArray} {f p : Nat} (h : s.size ≤ p) : runsF s f p = [] := by cases f <;> simp [runsF, show ¬ p < s.size by omega]
theorem runsF_step {s : ByteArray} {f p : Nat} {xs zs : List Int} (h : xs ++ runsF s f p = zs) (hp : p < s.size) (hf : s.size ≤ f + p) : (xs ++ [runM s p]) ++ runsF s (f - 1) (p + wid s p) = zs := by
  obtain ⟨f, rfl⟩ : ∃ g, f = g + 1 := ⟨f - 1, by omega⟩
  rw [runsF, if_pos hp] at h
  rw [← h]; simp
theorem get_ext {s : ByteArray} {p i : Nat} : (s.extract p s.size).get! i = s.get! (p + i) := by
  have hsz : (s.extract p s.size).size = s.size - p := by rw [ByteArray.size_extract]; omega
  by_cases h : i < s.size - p
  · have h1 : i < (s.extract p s.size).size := by omega
    rw [get_list h1, get_list (s := s) (i := p + i) (by omega)]
    simp [ByteArray.data_extract]
  · have a1 : (s.extract p s.size).get! i = default := by
      show (s.extract p s.size).data[i]! = default
      rw [getElem!_neg]
      show ¬ i < (s.extract p s.size).size
      omega
    have a2 : s.get! (p + i) = default := by
      show s.data[p + i]! = default
      rw [getElem!_neg]
      show ¬ p + i < s.size
      omega
    rw [a1, a2]
theorem wid_in {s : ByteArray} {p : Nat} (h : p < s.size) : p + wid s p ≤ s.size := by
  have hw : wid s p ≤ s.size - p := by
    unfold wid
    rw [Lib.decode_at]
    unfold Lib.decodeN
    repeat' split
    all_goals (simp only; omega)
  omega
end Go.KL

/- What the law RowSays wants beside: cycles as the document finds them, text by signs. -/
namespace Go.KL
end Go.KL

/- Patterns of bells: the maths. -/
namespace Go.KL
theorem runsF_len (s : ByteArray) : ∀ (f p : Nat), (runsF s f p).length ≤ s.size - p
  | 0, p => by simp [runsF]
  | f + 1, p => by
    rw [runsF]
    split
    · have := runsF_len s f (p + wid s p)
      have := wid_pos s p
      rw [List.length_cons]; omega
    · simp
theorem runsL_len (s : ByteArray) : (runsL s).length ≤ s.size := runsF_len s s.size 0
theorem runsF_cons {s : ByteArray} {f p : Nat} (hp : p < s.size) (hf : s.size ≤ f + p) : runsF s f p = runM s p :: runsF s (f - 1) (p + wid s p) := by
  obtain ⟨f, rfl⟩ : ∃ g, f = g + 1 := ⟨f - 1, by omega⟩
  rw [runsF, if_pos hp]; rfl
/-! ### Signs -/
/-! ### Ahead of the star and behind it -/
/-! ### What was seen -/
/-! ### Like a pattern -/
/-! ### Steps -/
/-! ### A pattern that may be -/
/-! ### The walks of Like and fits -/
end Go.KL

/- Results of which the first lies in a struct's variable. -/
namespace Go.KL
open Go.RowKit
variable {P : Program} {fn : Func} {σ0 σ : GW} {a : Act} {N d e f : Nat} {L : List Nat} {R : Value → GW → Prop}
end Go.KL

/- How many rows are like patterns. -/
namespace Go.KL
abbrev Ty.str (s : ByteArray) : Ty := Ty.val (.string s)
end Go.KL

/- Rows whose elements are structs of c cells. -/
namespace Go.KL
open Go.RowKit
variable {P : Program} {d : Option Tmp} {ty : TypeId} {pos : String} {af : Array Edge} {g : Option (Nat × Bool)} {a : Act} {σ : GW}
abbrev Ty.lstc {α : Type} (c : Nat) (F : α → List Ty) (xs : List α) : Ty := Ty.sl c xs.length (xs.flatMap F)
theorem flat_get {α : Type} {c : Nat} {F : α → List Ty} (hF : ∀ x, (F x).length = c) (dd : α) : ∀ {xs : List α} {i : Nat}, i < xs.length → ∀ j, j < c → (xs.flatMap F)[i * c + j]? = (F (xs.getD i dd))[j]?
  | [], i, h, _, _ => by simp at h
  | x :: xs, 0, _, j, hj => by
    rw [List.flatMap_cons, Nat.zero_mul, Nat.zero_add, List.getElem?_append_left (by rw [hF]; exact hj)]
    simp
  | x :: xs, i + 1, h, j, hj => by
    rw [List.flatMap_cons, List.getElem?_append_right (by rw [hF, Nat.succ_mul]; omega), hF, show (i + 1) * c + j - c = i * c + j by rw [Nat.succ_mul]; omega, flat_get hF dd (by simpa using h) j hj]
    simp
theorem y_indexc {α : Type} {c : Nat} {F : α → List Ty} {xs : List α} (dd : α) {x y : Operand} {t e : TypeId} {z : Value} {b : Nat} {k : IntKind} {i : Int} (ht : P.underlying t = some (.slice e)) (he : Info P e z c b)
    (hx : At (Ty.lstc c F xs) σ a x) (hy : a.eval y = .int k i) (h0 : 0 ≤ i) (h1 : i.toNat < xs.length) (hc : 0 < c) (hF : ∀ x, (F x).length = c) :
    Yld P ⟨d, .indexAddr t x y, ty, pos, af, g⟩ a σ (Ty.ref (F (xs.getD i.toNat dd))).pr :=
  y_indexAddr ht he hx hy h0 (by omega) hc (fun j hj => flat_get hF dd h1 j hj) (hF _)
theorem fold_set : ∀ (vs : List Value) (o : Nat) (cur : Array Value), o + vs.length ≤ cur.size → ((vs.zipIdx o).foldl (fun (q : Array Value) (p : Value × Nat) => q.setIfInBounds p.2 p.1) cur).size = cur.size ∧
      (∀ j, j < vs.length → ((vs.zipIdx o).foldl (fun (q : Array Value) (p : Value × Nat) => q.setIfInBounds p.2 p.1) cur)[o + j]? = vs[j]?) ∧ ∀ i, i < o → ((vs.zipIdx o).foldl (fun (q : Array Value) (p : Value × Nat) => q.setIfInBounds p.2 p.1) cur)[i]? = cur[i]?
  | [], o, cur, _ => ⟨rfl, fun j hj => by simp at hj, fun i _ => rfl⟩
  | v :: vs, o, cur, h => by
    simp only [List.length_cons] at h
    obtain ⟨k1, k2, k3⟩ := fold_set vs (o + 1) (cur.setIfInBounds o v) (by simp; omega)
    simp only [List.zipIdx_cons, List.foldl_cons]
    refine ⟨by rw [k1]; simp, fun j hj => ?_, fun i hi => ?_⟩
    · cases j with
      | zero =>
        have := k3 o (by omega)
        rw [Array.getElem?_setIfInBounds_self_of_lt (by omega)] at this
        simpa using this
      | succ j =>
        have := k2 j (by simpa using hj)
        rw [show o + (j + 1) = o + 1 + j by omega, this]; simp
    · rw [k3 i (by omega), Array.getElem?_setIfInBounds_ne (by omega)]
theorem fold_whole {cs z : Array Value} (h : z.size = cs.size) : (cs.zipIdx.foldl (fun (q : Array Value) (p : Value × Nat) => q.setIfInBounds p.2 p.1) z) = cs := by
  rw [← Array.foldl_toList, Array.toList_zipIdx]
  obtain ⟨k1, k2, _⟩ := fold_set cs.toList 0 z (by simp [h])
  refine Array.ext (by rw [k1, h]) fun j h1 h2 => ?_
  have := k2 j (by simpa using h2)
  rw [Nat.zero_add] at this
  simp only [Array.getElem?_toList] at this
  rw [Array.getElem?_eq_getElem h1, Array.getElem?_eq_getElem h2] at this
  exact Option.some.inj this
theorem y_build1c {c : Nat} {x : Operand} {t e : TypeId} {ts : List Ty} {z : Value} {b : Nat} (ht : P.underlying t = some (.slice e)) (he : Info P e z c b) (hz : z.cells.size = c) (hc : 0 < c) (hc2 : c ≤ 16777216) (hl : ts.length = c) (hx : At (.agg ts) σ a x) :
    Yld P ⟨d, .buildSlice t 1 #[(0, x)], ty, pos, af, g⟩ a σ (Ty.sl c 1 ts).pr := by
  obtain ⟨cs, e1, hcs, hcl⟩ := hx
  have hsz : cs.size = c := by omega
  intro K Q hk
  have hr : (execOp a.eval ⟨d, .buildSlice t 1 #[(0, x)], ty, pos, af, g⟩).run P σ.w = .ok (.value (.slice (some ⟨σ.w.heap.size, 0, none⟩) 1 1)) (σ.w.alloc (.cells cs e)) := by
    simp only [execOp, List.map_toArray, List.map_cons, List.map_nil, e1]
    have hw : ∀ q : Array Value, q.size = c → cs.zipIdx.foldl (fun (q : Array Value) (p : Value × Nat) => q.setIfInBounds p.2 p.1) q = cs := fun q hq => fold_whole (by omega)
    have h1 : ¬ c > 16777216 := by omega
    have h2 : ¬ c = 0 := by omega
    simp [Instr.buildSlice, run_underlying ht, he.size, he.zero, Instr.fill, Value.cells, hsz, h2, newRow, newObj, Sem.run, Sem.run_bind, show ¬ 16777216 < c by omega]
    generalize hq : Array.map _ (Array.range c) = q
    have hqs : q.size = c := by rw [← hq]; simp
    have h5 := hw q hqs
    simp only [Array.size_zipIdx] at h5
    first | rw [h5] | (rw [hsz] at h5; rw [h5])
  unfold Oper.wp
  rw [hr]
  refine hk _ (σ.seal (.cells cs e)) (Stp.seal _ _) ⟨_, 1, σ.w.heap.size, 0, rfl, ⟨Nat.le_refl _, by decide⟩, by omega, .inr ⟨rfl, by simp [GW.seal]⟩, fun j V hj => ?_⟩
  have hj2 : j < cs.size := by rw [hsz, ← hl]; exact (List.getElem?_eq_some_iff.1 hj).1
  refine ⟨cs[j], ?_, V.up (Stp.seal _ _).le0 (hcl j V _ hj (by simp [hj2]))⟩
  show World.cell? (σ.w.alloc _) _ = _
  simp only [World.cell?, heap_alloc_new]
  simp [hj2]
theorem one_flat {α : Type} {F : α → List Ty} {xs : List α} (h : ∀ x, ∀ U ∈ F x, One U) : ∀ U, U ∈ xs.flatMap F → One U := fun U hU => by
  obtain ⟨x, _, hx⟩ := List.mem_flatMap.1 hU; exact h x U hx
/-! ### Patterns -/
end Go.KL

/- Plain maths: calls and touches. -/
namespace Go.KL
abbrev BCall := Int × List (List Int)
def callC (c : BCall) : List Ty := [Ty.val (.int .i32 c.1), Ty.rows c.2]
theorem callOne : ∀ x, ∀ U ∈ callC x, One U := fun x U hU => by
  simp only [callC, List.mem_cons, List.not_mem_nil, or_false] at hU
  rcases hU with rfl | rfl
  · exact one_val rfl
  · exact one_sl
/-! ### Which calls may be -/
abbrev D0 : BCall := (0, [])
theorem drop_consD {α : Type} (d : α) {l : List α} {k : Nat} (h : k < l.length) : l.drop k = l.getD k d :: l.drop (k + 1) := by
  rw [List.drop_eq_getElem_cons h]; simp [h]
theorem mem_getDD {α : Type} (d : α) {l : List α} {k : Nat} (h : k < l.length) : l.getD k d ∈ l := by
  rw [List.getD_eq_getElem?_getD, List.getElem?_eq_getElem h]; exact List.getElem_mem _
/-! ### The changes of a lead -/
/-! ### The rows of a touch -/
section
variable {nm : ByteArray} {n : Nat} {l : List (List Int)} {cs : List BCall} {leads : List Int}
end
/-! ### Which touches may be -/
end Go.KL

/- Closures over one variable; slices.Grow of nothing; cuts of rows of structs. -/
namespace Go.KL
open Go.RowKit
variable {P : Program} {d : Option Tmp} {ty : TypeId} {pos : String} {af : Array Edge} {g : Option (Nat × Bool)} {a : Act} {σ : GW}
def Ty.clo (f : FuncId) (ts : List Ty) : Ty := ⟨fun σ v => ∃ p, v = .func (.func f) #[] #[p] ∧ (Ty.ref ts).has σ p, fun h ⟨p, e, hp⟩ => ⟨p, e, Ty.up _ h hp⟩⟩
theorem y_clo {f : FuncId} {ts : List Ty} {x : Operand} (hx : At (.ref ts) σ a x) : Yld P ⟨d, .makeFunc (.func f) #[] #[x], ty, pos, af, g⟩ a σ (Ty.clo f ts).pr :=
  Yld.of_run (v := .func (.func f) #[] #[a.eval x]) (by simp [execOp, Instr.makeFunc, Sem.run_bind]) ⟨_, rfl, hx⟩
theorem y_callv {f : FuncId} {fn : Func} {q : Operand} {xs : Array Operand} {tys : Array TypeId} {R : Ty} {ts : List Ty} (args : Value → Array Value) (hq : At (.clo f ts) σ a q) (hf : P.funcs[f]? = some fn) (hn : (fn.name == "runtime.NumGoroutine") = false) (hb : fn.body.isNone = false)
    (hargs : ∀ p, xs.map a.eval ++ #[p] = args p) (hc : ∀ p, (Ty.ref ts).has σ p → FnC P f (args p) σ R) :
    Yld P ⟨d, .call ⟨.value q, xs, tys⟩, ty, pos, af, g⟩ a σ R.pr := by
  intro K Q hk
  obtain ⟨p, e, hp⟩ := hq
  have hr : (execOp a.eval ⟨d, .call ⟨.value q, xs, tys⟩, ty, pos, af, g⟩).run P σ.w = .ok (.enter f (args p)) σ.w := by
    have hn' : ¬ fn.name = "runtime.NumGoroutine" := by simpa using hn
    have hb' : ¬ fn.body = none := by intro e; simp [e] at hb
    rw [← hargs p]
    simp only [execOp, resolve, e]
    simp [Deferred.ofValue, invoke, callFunc, hf, hn', hb', program, Sem.run, Sem.run_bind]
  unfold Oper.wp
  rw [hr]
  refine Calls.mono (hc p hp) ?_
  rintro e w' ⟨v, τ, rfl, hs, rfl, hv⟩
  exact hk v τ hs hv
/-! ### slices.Grow of nothing -/
/-! ### Cuts of rows of structs -/
/-! ### Signs of calls -/
theorem getD_fst (cs : List BCall) (j : Nat) : (cs.map (·.1)).getD j 0 = (cs.getD j D0).1 := by
  rw [List.getD_eq_getElem?_getD, List.getD_eq_getElem?_getD, List.getElem?_map]
  cases cs[j]? <;> rfl
theorem idxC_yes {cs : List BCall} {s : Int} {k : Nat} (hk : k < cs.length) (h : (cs.getD k D0).1 = s) (hno : ∀ j, j < k → (cs.getD j D0).1 ≠ s) : indexL (cs.map (·.1)) s = k :=
  indexL_yes (by rw [List.length_map]; exact hk) (by rw [getD_fst]; exact h.symm) (fun j hj => by rw [getD_fst]; exact hno j hj)
theorem idxC_no {cs : List BCall} {s : Int} (hno : ∀ j, j < cs.length → (cs.getD j D0).1 ≠ s) : indexL (cs.map (·.1)) s = -1 :=
  indexL_no (fun j hj => by rw [getD_fst]; rw [List.length_map] at hj; exact hno j hj)
end Go.KL

/- Plain maths: is a touch true? -/
namespace Go.KL
end Go.KL
namespace Go.KL
theorem getD_takeD {α : Type} (d : α) {l : List α} {m k : Nat} (h : k < m) : (l.take m).getD k d = l.getD k d := by
  rw [List.getD_eq_getElem?_getD, List.getD_eq_getElem?_getD, List.getElem?_take_of_lt h]
end Go.KL

/- Rows that share an array: 'append' leaves alone what is ahead. -/
namespace Go.KL
open Go.RowKit
variable {P : Program}

variable {d : Option Tmp} {ty : TypeId} {pos : String} {af : Array Edge} {g : Option (Nat × Bool)} {a : Act} {σ : GW}

end Go.KL

/- 'append' to a fresh empty row, in any order with what stands beside it. -/
namespace Go.KL
open Go.RowKit
variable {P : Program}

variable {d : Option Tmp} {ty : TypeId} {pos : String} {af : Array Edge} {g : Option (Nat × Bool)} {a : Act} {σ : GW}
end Go.KL

/- Touches that are read. -/
namespace Go.KL
abbrev sgOf (cs : List BCall) : List Int := cs.map (·.1)
structure NumP where
  err : Int
  n : Int
  some : Bool
  rest : List Int
def numR : Int → Bool → List Int → NumP
  | n, b, [] => ⟨0, n, b, []⟩
  | n, b, c :: r => if 48 ≤ c ∧ c ≤ 57 then (if n * 10 + c - 48 = 0 ∨ 99 < n * 10 + c - 48 then ⟨12, 0, true, r⟩ else numR (n * 10 + c - 48) true r) else ⟨0, n, b, c :: r⟩
structure ItP where
  err : Int
  out : List Int
  rest : List Int
def repL (n : Nat) (one : List Int) : List Int := (List.replicate n one).flatten
def rpM (n : Int) (one r : List Int) : ItP := if 400 < n * one.length then ⟨3, [], []⟩ else ⟨0, repL n.toNat one, r⟩
def oneM (sg : List Int) (F : Nat → List Int → List Int → ItP) (deep : Nat) (r : List Int) : ItP :=
  if r.getD 0 0 = 40 then
    (if deep = 6 then ⟨13, [], []⟩ else if (F (deep + 1) [] (r.drop 1)).err ≠ 0 then ⟨(F (deep + 1) [] (r.drop 1)).err, [], []⟩
    else if (F (deep + 1) [] (r.drop 1)).rest = [] then ⟨5, [], []⟩ else if (F (deep + 1) [] (r.drop 1)).out = [] then ⟨4, [], []⟩
    else ⟨0, (F (deep + 1) [] (r.drop 1)).out, (F (deep + 1) [] (r.drop 1)).rest.drop 1⟩)
  else if r.getD 0 0 ∉ sg ∨ r.getD 0 0 < 0 then ⟨4, [], []⟩ else ⟨0, [indexL sg (r.getD 0 0)], r.drop 1⟩
def timesM (x : NumP) : Int := if x.some = true then x.n else 1
def itemM (sg : List Int) (F : Nat → List Int → List Int → ItP) (deep : Nat) (rest : List Int) : ItP :=
  if (numR 0 false rest).err ≠ 0 then ⟨12, [], []⟩ else if (numR 0 false rest).rest = [] then ⟨5, [], []⟩
  else if (oneM sg F deep (numR 0 false rest).rest).err ≠ 0 then ⟨(oneM sg F deep (numR 0 false rest).rest).err, [], []⟩
  else rpM (timesM (numR 0 false rest)) (oneM sg F deep (numR 0 false rest).rest).out (oneM sg F deep (numR 0 false rest).rest).rest
def itemsM (sg : List Int) : Nat → Nat → List Int → List Int → ItP
  | 0, _, out, rest => ⟨0, out, rest⟩
  | f + 1, deep, out, rest =>
    if rest = [] ∨ rest.getD 0 0 = 41 then ⟨0, out, rest⟩
    else if (itemM sg (itemsM sg f) deep rest).err ≠ 0 then ⟨(itemM sg (itemsM sg f) deep rest).err, [], []⟩
    else if 400 < (out ++ (itemM sg (itemsM sg f) deep rest).out).length then ⟨3, [], []⟩
    else itemsM sg f deep (out ++ (itemM sg (itemsM sg f) deep rest).out) (itemM sg (itemsM sg f) deep rest).rest
section
variable {sg : List Int}
/-! What is left is a tail. -/
theorem numR_tail : ∀ (r : List Int) (n : Int) (b : Bool), (numR n b r).err = 0 → ∃ k, k ≤ r.length ∧ (numR n b r).rest = r.drop k
  | [], n, b, _ => ⟨0, Nat.le_refl _, rfl⟩
  | c :: r, n, b, h => by
    rw [numR] at h ⊢
    split
    · split
      · rename_i h1 h2; rw [if_pos h1, if_pos h2] at h; cases h
      · rename_i h1 h2
        rw [if_pos h1, if_neg h2] at h
        obtain ⟨k, h3, h4⟩ := numR_tail r _ _ h
        exact ⟨k + 1, by rw [List.length_cons]; omega, by rw [h4, List.drop_succ_cons]⟩
    · exact ⟨0, Nat.zero_le _, rfl⟩
def Tail (a r : List Int) : Prop := ∃ k, k ≤ r.length ∧ a = r.drop k
theorem Tail.refl (r : List Int) : Tail r r := ⟨0, Nat.zero_le _, rfl⟩
theorem Tail.trans {a b c : List Int} (h : Tail a b) (k : Tail b c) : Tail a c := by
  obtain ⟨i, h1, rfl⟩ := h
  obtain ⟨j, h2, rfl⟩ := k
  rw [List.length_drop] at h1
  exact ⟨j + i, by omega, by rw [List.drop_drop]⟩
theorem Tail.drop1 {a r : List Int} (h : Tail a r) (hne : a ≠ []) : Tail (a.drop 1) r ∧ (a.drop 1).length < r.length := by
  obtain ⟨i, h1, rfl⟩ := h
  have hl : (r.drop i).length ≠ 0 := fun e => hne (List.eq_nil_of_length_eq_zero e)
  rw [List.length_drop] at hl
  rw [List.drop_drop]
  exact ⟨⟨i + 1, by omega, rfl⟩, by rw [List.length_drop]; omega⟩
theorem rpM_rest {n : Int} {one r : List Int} (h : (rpM n one r).err = 0) : (rpM n one r).rest = r ∧ (rpM n one r).out = repL n.toNat one ∧ ¬ 400 < n * one.length := by
  unfold rpM at h ⊢
  split at h
  · cases h
  · rename_i h2; rw [if_neg h2]; exact ⟨rfl, rfl, h2⟩
theorem oneM_tail {F : Nat → List Int → List Int → ItP} (hF : ∀ d o r, (F d o r).err = 0 → Tail (F d o r).rest r) {deep : Nat} {r : List Int} (hne : r ≠ []) (h : (oneM sg F deep r).err = 0) : Tail (oneM sg F deep r).rest r ∧ (oneM sg F deep r).rest.length < r.length := by
  obtain ⟨t1, t2⟩ := Tail.drop1 (Tail.refl r) hne
  unfold oneM at h ⊢
  split at h
  · rename_i h3
    rw [if_pos h3]
    split at h
    · cases h
    rename_i h4
    rw [if_neg h4]
    split at h
    · rename_i h5; exact absurd h h5
    rename_i h5
    rw [if_neg h5]
    have h5 := Classical.not_not.1 h5
    split at h
    · cases h
    rename_i h6
    rw [if_neg h6]
    split at h
    · cases h
    rename_i h7
    rw [if_neg h7]
    obtain ⟨t3, t4⟩ := Tail.drop1 (hF _ _ _ h5) h6
    exact ⟨t3.trans t1, by show ((F (deep + 1) [] (r.drop 1)).rest.drop 1).length < _; omega⟩
  · rename_i h3
    rw [if_neg h3]
    split at h
    · cases h
    rename_i h4
    rw [if_neg h4]
    exact ⟨t1, t2⟩
theorem itemM_tail {F : Nat → List Int → List Int → ItP} (hF : ∀ d o r, (F d o r).err = 0 → Tail (F d o r).rest r) {deep : Nat} {rest : List Int} (h : (itemM sg F deep rest).err = 0) : Tail (itemM sg F deep rest).rest rest ∧ (itemM sg F deep rest).rest.length < rest.length := by
  unfold itemM at h ⊢
  split at h
  · cases h
  rename_i h1
  rw [if_neg h1]
  have h1 := Classical.not_not.1 h1
  have ht : Tail (numR 0 false rest).rest rest := numR_tail rest 0 false h1
  split at h
  · cases h
  rename_i h2
  rw [if_neg h2]
  split at h
  · rename_i h3; exact absurd h h3
  rename_i h3
  rw [if_neg h3]
  have h3 := Classical.not_not.1 h3
  rw [(rpM_rest h).1]
  obtain ⟨t1, t2⟩ := oneM_tail hF h2 h3
  refine ⟨t1.trans ht, ?_⟩
  obtain ⟨k, hk, e⟩ := ht
  rw [e] at t2
  rw [List.length_drop] at t2
  rw [e]; omega
theorem itemsM_tail : ∀ (f deep : Nat) (out rest : List Int), (itemsM sg f deep out rest).err = 0 → Tail (itemsM sg f deep out rest).rest rest
  | 0, _, _, rest, _ => Tail.refl _
  | f + 1, deep, out, rest, h => by
    rw [itemsM] at h ⊢
    split at h
    · rename_i h1; rw [if_pos h1]; exact Tail.refl _
    rename_i h1
    rw [if_neg h1]
    split at h
    · rename_i h2; exact absurd h h2
    rename_i h2
    rw [if_neg h2]
    have h2 := Classical.not_not.1 h2
    split at h
    · cases h
    rename_i h3
    rw [if_neg h3]
    exact (itemsM_tail f deep _ _ h).trans (itemM_tail (fun d o r => itemsM_tail f d o r) h2).1
theorem itemM_tl {f deep : Nat} {rest : List Int} (h : (itemM sg (itemsM sg f) deep rest).err = 0) : Tail (itemM sg (itemsM sg f) deep rest).rest rest ∧ (itemM sg (itemsM sg f) deep rest).rest.length < rest.length := itemM_tail (fun d o r => itemsM_tail f d o r) h
/-! Fuel. -/
theorem oneM_congr {F G : Nat → List Int → List Int → ItP} {deep : Nat} {r : List Int} (h : F (deep + 1) [] (r.drop 1) = G (deep + 1) [] (r.drop 1)) : oneM sg F deep r = oneM sg G deep r := by unfold oneM; rw [h]
theorem itemM_congr {F G : Nat → List Int → List Int → ItP} {deep : Nat} {rest : List Int} (h : ∀ r, r.length < rest.length → F (deep + 1) [] r = G (deep + 1) [] r) : itemM sg F deep rest = itemM sg G deep rest := by
  by_cases h1 : (numR 0 false rest).err = 0
  · by_cases h2 : (numR 0 false rest).rest = []
    · unfold itemM; rw [if_neg (by rw [h1]; simp), if_pos h2, if_neg (by rw [h1]; simp), if_pos h2]
    · have ht : Tail (numR 0 false rest).rest rest := numR_tail rest 0 false h1
      have := (Tail.drop1 ht h2).2
      unfold itemM
      rw [oneM_congr (h _ this)]
  · unfold itemM; rw [if_pos h1, if_pos h1]
theorem itemsM_fuel : ∀ (f g deep : Nat) (out rest : List Int), rest.length < f → rest.length < g → itemsM sg f deep out rest = itemsM sg g deep out rest
  | 0, _, _, _, _, h, _ => absurd h (by omega)
  | _, 0, _, _, _, _, h => absurd h (by omega)
  | f + 1, g + 1, deep, out, rest, h1, h2 => by
    have e : itemM sg (itemsM sg f) deep rest = itemM sg (itemsM sg g) deep rest := itemM_congr fun r hr => itemsM_fuel f g (deep + 1) [] r (by omega) (by omega)
    rw [itemsM, itemsM, e]
    split
    · rfl
    split
    · rfl
    rename_i h3
    split
    · rfl
    have := (itemM_tl (f := g) (Classical.not_not.1 h3)).2
    exact itemsM_fuel f g deep _ _ (by omega) (by omega)
def parM (sg : List Int) (deep : Nat) (out rest : List Int) : ItP := itemsM sg (rest.length + 1) deep out rest
def itM (sg : List Int) (deep : Nat) (rest : List Int) : ItP := itemM sg (parM sg) deep rest
theorem itM_fuel (f deep : Nat) (rest : List Int) (h : rest.length ≤ f) : itemM sg (itemsM sg f) deep rest = itM sg deep rest := itemM_congr fun r hr => itemsM_fuel _ _ _ _ _ (by omega) (by omega)
theorem par_stop {deep : Nat} {out rest : List Int} (h : rest = [] ∨ rest.getD 0 0 = 41) : parM sg deep out rest = ⟨0, out, rest⟩ := by unfold parM; rw [itemsM, if_pos h]
theorem par_err {deep : Nat} {out rest : List Int} (h : ¬ (rest = [] ∨ rest.getD 0 0 = 41)) (h2 : (itM sg deep rest).err ≠ 0) : parM sg deep out rest = ⟨(itM sg deep rest).err, [], []⟩ := by
  unfold parM; rw [itemsM, if_neg h, itM_fuel _ _ _ (Nat.le_refl _), if_pos h2]
theorem par_lim {deep : Nat} {out rest : List Int} (h : ¬ (rest = [] ∨ rest.getD 0 0 = 41)) (h2 : (itM sg deep rest).err = 0) (h3 : 400 < (out ++ (itM sg deep rest).out).length) : parM sg deep out rest = ⟨3, [], []⟩ := by
  unfold parM; rw [itemsM, if_neg h, itM_fuel _ _ _ (Nat.le_refl _), if_neg (by rw [h2]; simp), if_pos h3]
theorem itM_tl {deep : Nat} {rest : List Int} (h : (itM sg deep rest).err = 0) : Tail (itM sg deep rest).rest rest ∧ (itM sg deep rest).rest.length < rest.length := itemM_tail (fun _ _ r h => itemsM_tail _ _ _ r h) h
theorem par_go {deep : Nat} {out rest : List Int} (h : ¬ (rest = [] ∨ rest.getD 0 0 = 41)) (h2 : (itM sg deep rest).err = 0) (h3 : ¬ 400 < (out ++ (itM sg deep rest).out).length) : parM sg deep (out ++ (itM sg deep rest).out) (itM sg deep rest).rest = parM sg deep out rest := by
  have ht := (itM_tl h2).2
  have e : parM sg deep out rest = itemsM sg rest.length deep (out ++ (itM sg deep rest).out) (itM sg deep rest).rest := by
    conv => lhs; unfold parM
    rw [itemsM, if_neg h, itM_fuel _ _ _ (Nat.le_refl _), if_neg (by rw [h2]; simp), if_neg h3]
  rw [e]
  exact itemsM_fuel _ _ _ _ _ (by omega) (by omega)
/-! What is told of errors. -/
theorem itemsM_out : ∀ (f deep : Nat) (out rest : List Int), out.length ≤ 400 → (itemsM sg f deep out rest).out.length ≤ 400 ∧ ((itemsM sg f deep out rest).err ≠ 0 → (itemsM sg f deep out rest).out = [])
  | 0, _, out, _, h => ⟨h, fun e => absurd rfl e⟩
  | f + 1, deep, out, rest, h => by
    rw [itemsM]
    split
    · exact ⟨h, fun e => absurd rfl e⟩
    split
    · exact ⟨Nat.zero_le _, fun _ => rfl⟩
    split
    · exact ⟨Nat.zero_le _, fun _ => rfl⟩
    rename_i h3
    exact itemsM_out f deep _ _ (by omega)
theorem par_out {deep : Nat} {out rest : List Int} (h : out.length ≤ 400) : (parM sg deep out rest).out.length ≤ 400 ∧ ((parM sg deep out rest).err ≠ 0 → (parM sg deep out rest).out = []) := itemsM_out _ _ _ _ h
/-! Step by step. -/
theorem dr_hd {l : List Int} {p : Nat} (h : p < l.length) : (l.drop p).getD 0 0 = l.getD p 0 := by rw [drop_consD 0 h]; rfl
theorem dr_ne {l : List Int} {p : Nat} (h : p < l.length) : l.drop p ≠ [] := by rw [drop_consD 0 h]; simp
theorem dr_nil {l : List Int} {p : Nat} (h : l.length ≤ p) : l.drop p = [] := List.drop_eq_nil_of_le h
theorem num_go {l : List Int} {q : Nat} {v : Int} {b : Bool} {N : NumP} (h : numR v b (l.drop q) = N) (hq : q < l.length) (h1 : 48 ≤ l.getD q 0) (h2 : l.getD q 0 ≤ 57) (h3 : ¬ (v * 10 + l.getD q 0 - 48 = 0 ∨ 99 < v * 10 + l.getD q 0 - 48)) : numR (v * 10 + l.getD q 0 - 48) true (l.drop (q + 1)) = N := by
  rw [drop_consD 0 hq, numR, if_pos ⟨h1, h2⟩, if_neg h3] at h; exact h
theorem num_bad {l : List Int} {q : Nat} {v : Int} {b : Bool} {N : NumP} (h : numR v b (l.drop q) = N) (hq : q < l.length) (h1 : 48 ≤ l.getD q 0) (h2 : l.getD q 0 ≤ 57) (h3 : v * 10 + l.getD q 0 - 48 = 0 ∨ 99 < v * 10 + l.getD q 0 - 48) : N.err ≠ 0 := by
  rw [drop_consD 0 hq, numR, if_pos ⟨h1, h2⟩, if_pos h3] at h; rw [← h]; simp
theorem num_end {l : List Int} {q : Nat} {v : Int} {b : Bool} {N : NumP} (h : numR v b (l.drop q) = N) (hc : l.length ≤ q ∨ ¬ (48 ≤ l.getD q 0 ∧ l.getD q 0 ≤ 57)) : N = ⟨0, v, b, l.drop q⟩ := by
  by_cases hq : q < l.length
  · have hc := hc.resolve_left (by omega)
    rw [drop_consD 0 hq, numR, if_neg hc] at h
    rw [← h, drop_consD 0 hq]
  · rw [dr_nil (by omega)] at h ⊢; rw [← h]; rfl
theorem it_num {deep : Nat} {r : List Int} (h : (numR 0 false r).err ≠ 0) : itM sg deep r = ⟨12, [], []⟩ := by unfold itM itemM; rw [if_pos h]
theorem it_rp {deep : Nat} {r s : List Int} {v : Int} {b : Bool} (h : numR 0 false r = ⟨0, v, b, s⟩) (hs : s ≠ []) (h2 : (oneM sg (parM sg) deep s).err = 0) : itM sg deep r = rpM (if b = true then v else 1) (oneM sg (parM sg) deep s).out (oneM sg (parM sg) deep s).rest := by
  unfold itM itemM; rw [h, if_neg (by simp), if_neg hs, if_neg (by rw [h2]; simp)]; rfl
theorem rp_lim {n : Int} {one r : List Int} (h : 400 < n * one.length) : rpM n one r = ⟨3, [], []⟩ := by unfold rpM; rw [if_pos h]
theorem rp_ok {n : Int} {one r : List Int} (h : ¬ 400 < n * one.length) : rpM n one r = ⟨0, repL n.toNat one, r⟩ := by unfold rpM; rw [if_neg h]
theorem repL_zero (one : List Int) : repL 0 one = [] := rfl
theorem repL_succ (k : Nat) (one : List Int) : repL (k + 1) one = repL k one ++ one := by unfold repL; rw [List.replicate_succ', List.flatten_append]; simp
theorem repL_len (k : Nat) (one : List Int) : (repL k one).length = k * one.length := by
  induction k with
  | zero => simp [repL_zero]
  | succ k ih => rw [repL_succ, List.length_append, ih, Nat.succ_mul]
theorem one_deep {F : Nat → List Int → List Int → ItP} {deep : Nat} {s : List Int} (h : s.getD 0 0 = 40) (h2 : deep = 6) : oneM sg F deep s = ⟨13, [], []⟩ := by unfold oneM; rw [if_pos h, if_pos h2]
theorem one_err {F : Nat → List Int → List Int → ItP} {deep : Nat} {s : List Int} (h : s.getD 0 0 = 40) (h2 : ¬ deep = 6) (h3 : (F (deep + 1) [] (s.drop 1)).err ≠ 0) : oneM sg F deep s = ⟨(F (deep + 1) [] (s.drop 1)).err, [], []⟩ := by
  unfold oneM; rw [if_pos h, if_neg h2, if_pos h3]
theorem one_short {F : Nat → List Int → List Int → ItP} {deep : Nat} {s : List Int} (h : s.getD 0 0 = 40) (h2 : ¬ deep = 6) (h3 : (F (deep + 1) [] (s.drop 1)).err = 0) (h4 : (F (deep + 1) [] (s.drop 1)).rest = []) : oneM sg F deep s = ⟨5, [], []⟩ := by
  unfold oneM; rw [if_pos h, if_neg h2, if_neg (by rw [h3]; simp), if_pos h4]
theorem one_word {F : Nat → List Int → List Int → ItP} {deep : Nat} {s : List Int} (h : s.getD 0 0 = 40) (h2 : ¬ deep = 6) (h3 : (F (deep + 1) [] (s.drop 1)).err = 0) (h4 : (F (deep + 1) [] (s.drop 1)).rest ≠ []) (h5 : (F (deep + 1) [] (s.drop 1)).out = []) : oneM sg F deep s = ⟨4, [], []⟩ := by
  unfold oneM; rw [if_pos h, if_neg h2, if_neg (by rw [h3]; simp), if_neg h4, if_pos h5]
theorem one_in {F : Nat → List Int → List Int → ItP} {deep : Nat} {s : List Int} (h : s.getD 0 0 = 40) (h2 : ¬ deep = 6) (h3 : (F (deep + 1) [] (s.drop 1)).err = 0) (h4 : (F (deep + 1) [] (s.drop 1)).rest ≠ []) (h5 : (F (deep + 1) [] (s.drop 1)).out ≠ []) :
    oneM sg F deep s = ⟨0, (F (deep + 1) [] (s.drop 1)).out, (F (deep + 1) [] (s.drop 1)).rest.drop 1⟩ := by
  unfold oneM; rw [if_pos h, if_neg h2, if_neg (by rw [h3]; simp), if_neg h4, if_neg h5]
theorem one_none {F : Nat → List Int → List Int → ItP} {deep : Nat} {s : List Int} (h : ¬ s.getD 0 0 = 40) (h2 : s.getD 0 0 ∉ sg ∨ s.getD 0 0 < 0) : oneM sg F deep s = ⟨4, [], []⟩ := by unfold oneM; rw [if_neg h, if_pos h2]
theorem one_sign {F : Nat → List Int → List Int → ItP} {deep : Nat} {s : List Int} (h : ¬ s.getD 0 0 = 40) (h2 : ¬ (s.getD 0 0 ∉ sg ∨ s.getD 0 0 < 0)) : oneM sg F deep s = ⟨0, [indexL sg (s.getD 0 0)], s.drop 1⟩ := by unfold oneM; rw [if_neg h, if_neg h2]
theorem sign_at {cs : List BCall} {c : Int} {k : Nat} (hk : k < cs.length) (hno : ∀ j, j < k → (cs.getD j D0).1 ≠ c) (h : (cs.getD k D0).1 = c) : c ∈ cs.map (·.1) ∧ indexL (cs.map (·.1)) c = k := by
  have e := idxC_yes hk h hno
  exact ⟨indexL_iff.1 (by rw [e]; omega), e⟩
theorem x_err {deep : Nat} {out r : List Int} {X : ItP} {e : Int} (hx : parM sg deep out r = X) (hne : ¬ (r = [] ∨ r.getD 0 0 = 41)) (h : itM sg deep r = ⟨e, [], []⟩) (he : e ≠ 0) : X = ⟨e, [], []⟩ := by
  rw [← hx, par_err hne (by rw [h]; exact he), h]
theorem x_lim {deep : Nat} {out r o s : List Int} {X : ItP} (hx : parM sg deep out r = X) (hne : ¬ (r = [] ∨ r.getD 0 0 = 41)) (h : itM sg deep r = ⟨0, o, s⟩) (h2 : 400 < (out ++ o).length) : X = ⟨3, [], []⟩ := by
  rw [← hx, par_lim hne (by rw [h]) (by rw [h]; exact h2)]
theorem x_go {deep : Nat} {out r o s : List Int} {X : ItP} (hx : parM sg deep out r = X) (hne : ¬ (r = [] ∨ r.getD 0 0 = 41)) (h : itM sg deep r = ⟨0, o, s⟩) (h2 : ¬ 400 < (out ++ o).length) : parM sg deep (out ++ o) s = X := by
  have := par_go (sg := sg) (deep := deep) (out := out) hne (by rw [h]) (by rw [h]; exact h2)
  rw [h] at this
  rw [← hx, ← this]
end
/-! Runes of a text, as a loop over it gives them. -/
abbrev Ty.rune (n : Int) : Ty := .val (.int .i32 n)
def bFFFD : ByteArray := ByteArray.mk #[239, 191, 189]
def hasPre (s t : ByteArray) : Bool := decide (t.size ≤ s.size) && decide (s.extract 0 t.size = t)
theorem ext3 {s : ByteArray} (h3 : 3 ≤ s.size) : s.extract 0 3 = bFFFD ↔ s.get! 0 = 239 ∧ s.get! 1 = 191 ∧ s.get! 2 = 189 := by
  rw [get_list (s := s) (i := 0) (by omega), get_list (s := s) (i := 1) (by omega), get_list (s := s) (i := 2) (by omega)]
  have e : s.extract 0 3 = bFFFD ↔ s.data.toList.take 3 = [239, 191, 189] := by
    constructor
    · intro h
      have h2 := congrArg (fun b : ByteArray => b.data.toList) h
      simpa [ByteArray.data_extract, bFFFD] using h2
    · intro h
      apply ByteArray.ext
      apply Array.toList_inj.1
      simpa [ByteArray.data_extract, bFFFD] using h
  rw [e]
  have hl : s.data.toList.length = s.size := by simp
  have main : ∀ (l : List UInt8) (h : 3 ≤ l.length), (l.take 3 = [239, 191, 189] ↔ l[0]'(by omega) = 239 ∧ l[1]'(by omega) = 191 ∧ l[2]'(by omega) = 189) := by
    intro l h
    match l, h with
    | a :: b :: c :: r, _ => simp
  exact main _ (by omega)
set_option maxRecDepth 100000 in
set_option maxHeartbeats 4000000 in
theorem dec_fffd {n b0 b1 b2 b3 : Nat} (h1 : b1 < 256) (h2 : b2 < 256) (h3 : b3 < 256) (h0 : b0 < 256) (h : (Lib.decodeN n b0 b1 b2 b3).1 = 65533) : (Lib.decodeN n b0 b1 b2 b3).2 ≠ 1 ↔ (2 < n ∧ b0 = 239 ∧ b1 = 191 ∧ b2 = 189) := by
  unfold Lib.decodeN at h ⊢
  repeat' split at h
  all_goals simp only at h
  · omega
  · rename_i h4 h5 h6; rw [if_neg h4, if_pos h5, if_pos h6]; simp only; omega
  · rename_i h4 h5 h6; rw [if_neg h4, if_pos h5, if_neg h6]; simp only; omega
  · rename_i h4 h5 h6 h7; rw [if_neg h4, if_neg h5, if_pos h6, if_pos h7]; simp only; omega
  · rename_i h4 h5 h6 h7; rw [if_neg h4, if_neg h5, if_pos h6, if_neg h7]; simp only; omega
  · rename_i h4 h5 h6 h7 h8; rw [if_neg h4, if_neg h5, if_neg h6, if_pos h7, if_pos h8]; simp only; omega
  · rename_i h4 h5 h6 h7 h8; rw [if_neg h4, if_neg h5, if_neg h6, if_pos h7, if_neg h8]; simp only; omega
  · rename_i h4 h5 h6 h7; rw [if_neg h4, if_neg h5, if_neg h6, if_neg h7]; simp only; omega
theorem u8n {a : UInt8} {n : Nat} (hn : n < 256) : a = n.toUInt8 ↔ a.toNat = n := by
  constructor
  · rintro rfl; simp; omega
  · intro h; rw [← h]; simp
theorem pre_fffd {s : ByteArray} {p : Nat} (hp : p < s.size) (h : run1 s p = 65533) : hasPre (s.extract p s.size) bFFFD = decide (wid s p ≠ 1) := by
  unfold run1 at h
  unfold wid
  rw [Lib.decode_at] at h ⊢
  have hz : (s.extract p s.size).size = s.size - p := by rw [ByteArray.size_extract]; omega
  have hb : bFFFD.size = 3 := rfl
  have hD := dec_fffd (UInt8.toNat_lt _) (UInt8.toNat_lt _) (UInt8.toNat_lt _) (UInt8.toNat_lt _) h
  unfold hasPre
  rw [hb, hz, ← Bool.decide_and, decide_eq_decide, hD]
  by_cases h3 : 3 ≤ s.size - p
  · rw [ext3 (by omega), get_ext, get_ext, get_ext, Nat.add_zero, ← u8n (show 239 < 256 by decide), ← u8n (show 191 < 256 by decide), ← u8n (show 189 < 256 by decide)]
    constructor
    · rintro ⟨_, a, b, c⟩; exact ⟨by omega, a, b, c⟩
    · rintro ⟨_, a, b, c⟩; exact ⟨h3, a, b, c⟩
  · constructor
    · rintro ⟨a, _⟩; exact absurd a h3
    · rintro ⟨a, _⟩; omega
theorem runM_yes {s : ByteArray} {p : Nat} (h : run1 s p = 65533) (hw : wid s p = 1) : runM s p = -1 := by unfold runM; rw [if_pos ⟨h, hw⟩]
theorem runM_not {s : ByteArray} {p : Nat} (h : ¬ (run1 s p = 65533 ∧ wid s p = 1)) : runM s p = run1 s p := by unfold runM; rw [if_neg h]
theorem num_badE {l : List Int} {q : Nat} {v : Int} {b : Bool} {N : NumP} (h : numR v b (l.drop q) = N) (hq : q < l.length) (h1 : 48 ≤ l.getD q 0) (h2 : l.getD q 0 ≤ 57) (h3 : v * 10 + l.getD q 0 - 48 = 0 ∨ 99 < v * 10 + l.getD q 0 - 48) : N = ⟨12, 0, true, l.drop (q + 1)⟩ := by
  rw [drop_consD 0 hq, numR, if_pos ⟨h1, h2⟩, if_pos h3] at h; exact h.symm
theorem Tail.len {a r : List Int} (h : Tail a r) : a.length ≤ r.length := by
  obtain ⟨k, h1, rfl⟩ := h; rw [List.length_drop]; omega
theorem num_err {n : Int} {b : Bool} : ∀ {r : List Int}, (numR n b r).err ≠ 0 → (numR n b r).err = 12 := by
  intro r
  induction r generalizing n b with
  | nil => intro h; exact absurd rfl h
  | cons c r ih =>
    intro h
    rw [numR] at h ⊢
    split
    · rename_i h1
      rw [if_pos h1] at h
      split
      · rfl
      · rename_i h2; rw [if_neg h2] at h; exact ih h
    · rename_i h1; rw [if_neg h1] at h; exact absurd rfl h
theorem num_bds {n : Int} {b : Bool} : ∀ {r : List Int}, 0 ≤ n ∧ n ≤ 99 → (b = true → 1 ≤ n) → (numR n b r).err = 0 → 1 ≤ timesM (numR n b r) ∧ timesM (numR n b r) ≤ 99 := by
  intro r
  induction r generalizing n b with
  | nil => intro h1 h2 _; show 1 ≤ (if b = true then n else 1) ∧ (if b = true then n else 1) ≤ 99; split; (rename_i h; have := h2 h; omega); omega
  | cons c r ih =>
    intro h1 h2 h
    rw [numR] at h ⊢
    split
    · rename_i h3
      rw [if_pos h3] at h
      split
      · rename_i h4; rw [if_pos h4] at h; cases h
      · rename_i h4; rw [if_neg h4] at h; exact ih (by omega) (fun _ => by omega) h
    · show 1 ≤ (if b = true then n else 1) ∧ (if b = true then n else 1) ≤ 99; split; (rename_i h; have := h2 h; omega); omega
theorem num_times {l : List Int} (h : (numR 0 false l).err = 0) : ∃ T : Nat, (T : Int) = timesM (numR 0 false l) ∧ 1 ≤ T ∧ T ≤ 99 := by
  have h1 := num_bds (r := l) (n := 0) (b := false) (by omega) (by simp) h
  exact ⟨(timesM (numR 0 false l)).toNat, by omega, by omega, by omega⟩
section
variable {sg : List Int} {deep : Nat} {l s : List Int}
theorem it_shortM (h : (numR 0 false l).err = 0) (hs : (numR 0 false l).rest = []) : itM sg deep l = ⟨5, [], []⟩ := by unfold itM itemM; rw [if_neg (by rw [h]; simp), if_pos hs]
theorem it_oneM {T : Nat} (hT : (T : Int) = timesM (numR 0 false l)) (h : (numR 0 false l).err = 0) (hs : s = (numR 0 false l).rest) (hs0 : s ≠ []) : itM sg deep l = if (oneM sg (parM sg) deep s).err ≠ 0 then ⟨(oneM sg (parM sg) deep s).err, [], []⟩ else rpM T (oneM sg (parM sg) deep s).out (oneM sg (parM sg) deep s).rest := by
  unfold itM itemM; rw [if_neg (by rw [h]; simp), ← hs, if_neg hs0, hT]
end
theorem it_e {I Q X : ItP} {e : Int} (hit : I = if Q.err ≠ 0 then ⟨Q.err, [], []⟩ else X) (hQ : Q = ⟨e, [], []⟩) (he : e ≠ 0) : I = ⟨e, [], []⟩ := by rw [hit, hQ, if_pos he]
theorem it_g {I Q X : ItP} (hit : I = if Q.err ≠ 0 then ⟨Q.err, [], []⟩ else X) (hQ : Q.err = 0) : I = X := by rw [hit, if_neg (by rw [hQ]; simp)]
theorem it_errE {sg : List Int} {deep : Nat} {r : List Int} (h : (itM sg deep r).err ≠ 0) : itM sg deep r = ⟨(itM sg deep r).err, [], []⟩ := by
  unfold itM itemM at h ⊢
  split
  · rfl
  rename_i h1; rw [if_neg h1] at h
  split
  · rfl
  rename_i h2; rw [if_neg h2] at h
  split
  · rfl
  rename_i h3; rw [if_neg h3] at h
  unfold rpM at h ⊢
  split
  · rfl
  · rename_i h4; rw [if_neg h4] at h; exact absurd rfl h
theorem it_out {sg : List Int} {deep : Nat} {r : List Int} : (itM sg deep r).out.length ≤ 400 := by
  unfold itM itemM
  split
  · exact Nat.zero_le _
  split
  · exact Nat.zero_le _
  split
  · exact Nat.zero_le _
  unfold rpM
  split
  · exact Nat.zero_le _
  rename_i h
  rw [repL_len]
  by_cases h0 : 0 ≤ timesM (numR 0 false r)
  · have e : ((timesM (numR 0 false r)).toNat : Int) = timesM (numR 0 false r) := Int.toNat_of_nonneg h0
    rw [← e, ← Int.natCast_mul] at h
    omega
  · rw [show (timesM (numR 0 false r)).toNat = 0 by omega]; omega
def ptM (sg : List Int) (s : ByteArray) : ItP :=
  if 4000 < s.size then ⟨3, [], []⟩ else if (parM sg 0 [] (runsL s)).err ≠ 0 then ⟨(parM sg 0 [] (runsL s)).err, [], []⟩
  else if (parM sg 0 [] (runsL s)).rest ≠ [] then ⟨4, [], []⟩ else if (parM sg 0 [] (runsL s)).out = [] then ⟨5, [], []⟩ else ⟨0, (parM sg 0 [] (runsL s)).out, []⟩
section
variable {sg : List Int} {s : ByteArray} {X : ItP}
theorem pt_lim (h : 4000 < s.size) : ptM sg s = ⟨3, [], []⟩ := by unfold ptM; rw [if_pos h]
theorem pt_err (h : ¬ 4000 < s.size) (hX : X = parM sg 0 [] (runsL s)) (h1 : X.err ≠ 0) : ptM sg s = ⟨X.err, [], []⟩ := by unfold ptM; rw [if_neg h, ← hX, if_pos h1]
theorem pt_word (h : ¬ 4000 < s.size) (hX : X = parM sg 0 [] (runsL s)) (h1 : X.err = 0) (h2 : X.rest ≠ []) : ptM sg s = ⟨4, [], []⟩ := by unfold ptM; rw [if_neg h, ← hX, if_neg (by rw [h1]; simp), if_pos h2]
theorem pt_none (h : ¬ 4000 < s.size) (hX : X = parM sg 0 [] (runsL s)) (h1 : X.err = 0) (h2 : X.rest = []) (h3 : X.out = []) : ptM sg s = ⟨5, [], []⟩ := by unfold ptM; rw [if_neg h, ← hX, if_neg (by rw [h1]; simp), if_neg (by rw [h2]; simp), if_pos h3]
theorem pt_ok (h : ¬ 4000 < s.size) (hX : X = parM sg 0 [] (runsL s)) (h1 : X.err = 0) (h2 : X.rest = []) (h3 : X.out ≠ []) : ptM sg s = ⟨0, X.out, []⟩ := by unfold ptM; rw [if_neg h, ← hX, if_neg (by rw [h1]; simp), if_neg (by rw [h2]; simp), if_neg h3]
end
end Go.KL

/- Arrays as values: built of two parts, and what stands at a place. -/
namespace Go.KL
open Go.RowKit
variable {P : Program} {d : Option Tmp} {ty : TypeId} {pos : String} {af : Array Edge} {g : Option (Nat × Bool)} {a : Act} {σ : GW}
/-! ### Bells that are told -/
end Go.KL

/- How many rows are like a pattern: as many as there are ways to place the other bells. -/
namespace Go.KL
/-! ### A pattern as one list -/
end Go.KL

/- Of all rows so many are like a pattern as there are ways to place the other bells. -/
namespace Go.KL
section
variable {P : Program} {d : Option Tmp} {ty : TypeId} {pos : String} {af : Array Edge} {g : Option (Nat × Bool)} {a : Act} {σ : GW}
end
theorem asc_runs {l : List UInt8} (h : ∀ b ∈ l, b.toNat < 128) : runsL (bsL l) = l.map fun b => ((b.toNat : Nat) : Int) := by
  have key : ∀ (f p : Nat), l.length ≤ f + p → runsF (bsL l) f p = (l.drop p).map fun b => ((b.toNat : Nat) : Int) := by
    intro f
    induction f with
    | zero => intro p hp; rw [List.drop_eq_nil_of_le (by omega)]; rfl
    | succ f ih =>
      intro p hp
      by_cases hpl : p < l.length
      · have hg := bsL_get hpl
        have hb := h l[p] (List.getElem_mem hpl)
        have hr := run1_lo (s := bsL l) (p := p) (by rw [hg]; exact hb)
        have hm : runM (bsL l) p = ((l[p].toNat : Nat) : Int) := by
          unfold runM
          rw [if_neg (by rw [hr.1, hg]; omega), hr.1, hg]
        rw [runsF_cons (by rw [bsL_size]; exact hpl) (by rw [bsL_size]; omega), hm, hr.2, Nat.add_sub_cancel, ih (p + 1) (by omega), List.drop_eq_getElem_cons hpl, List.map_cons]
      · rw [runsF_end (by rw [bsL_size]; omega), List.drop_eq_nil_of_le (by omega)]; rfl
  have := key (bsL l).size 0 (by rw [bsL_size]; omega)
  unfold runsL
  rw [this, List.drop_zero]
section
variable (raw r : List Int) (star : Nat)
end
section
variable {raw r : List Int} {star : Nat}
end
end Go.KL

/- Plain maths: names by their runes. -/
namespace Go.KL
end Go.KL

/- Literals of structs in rows of one's own. -/
namespace Go.KL
open Go.RowKit
variable {P : Program} {d : Option Tmp} {ty : TypeId} {pos : String} {af : Array Edge} {g : Option (Nat × Bool)} {a : Act} {σ : GW}
theorem agg_cell {ts : List Ty} {v : Value} (j : Nat) {T : Ty} (U : Ty) (h : (Ty.agg ts).has σ v) (hj : ts[j]? = some T) (hT : ∀ σ v, T.has σ v → U.has σ v) : (Ty.agg (ts.set j U)).has σ v := by
  obtain ⟨cs, e1, h1, h2⟩ := h
  refine ⟨cs, e1, by simpa using h1, fun i V u hV hu => ?_⟩
  rw [List.getElem?_set] at hV
  by_cases e : j = i
  · subst e
    rw [if_pos rfl] at hV
    split at hV
    · cases hV; exact hT _ _ (h2 j T u hj hu)
    · cases hV
  · rw [if_neg e] at hV
    exact h2 i V u hV hu
theorem nil_sl0 {c : Nat} {σ : GW} {v : Value} (h : (Ty.val (.slice none 0 0)).has σ v) : (Ty.sl c 0 []).has σ v := by
  have e : v = .slice none 0 0 := h
  rw [e]; exact sl_nil
theorem y_lit1c {k c : Nat} {x : Operand} {t e : TypeId} {ts : List Ty} {z : Value} {b : Nat} (ht : P.underlying t = some (.slice e)) (he : Info P e z c b) (hz : z.cells.size = c) (hc : 0 < c) (hc2 : c ≤ 16777216) (hl : ts.length = c) (hx : At (.agg ts) σ a x) :
    Yld P ⟨d, .buildSlice t 1 #[(0, x)], ty, pos, af, g⟩ a σ (Pr.own k e c 1 ts) := by
  obtain ⟨cs, e1, hcs, hcl⟩ := hx
  have hsz : cs.size = c := by omega
  intro K Q hk
  have hr : (execOp a.eval ⟨d, .buildSlice t 1 #[(0, x)], ty, pos, af, g⟩).run P σ.w = .ok (.value (.slice (some ⟨σ.w.heap.size, 0, none⟩) 1 1)) (σ.w.alloc (.cells cs e)) := by
    simp only [execOp, List.map_toArray, List.map_cons, List.map_nil, e1]
    have hw : ∀ q : Array Value, q.size = c → cs.zipIdx.foldl (fun (q : Array Value) (p : Value × Nat) => q.setIfInBounds p.2 p.1) q = cs := fun q hq => fold_whole (by omega)
    have h1 : ¬ c > 16777216 := by omega
    have h2 : ¬ c = 0 := by omega
    simp [Instr.buildSlice, run_underlying ht, he.size, he.zero, Instr.fill, Value.cells, hsz, h2, newRow, newObj, Sem.run, Sem.run_bind, show ¬ 16777216 < c by omega]
    generalize hq : Array.map _ (Array.range c) = q
    have hqs : q.size = c := by rw [← hq]; simp
    have h5 := hw q hqs
    simp only [Array.size_zipIdx] at h5
    first | rw [h5] | (rw [hsz] at h5; rw [h5])
  unfold Oper.wp
  rw [hr]
  refine hk _ (σ.mk' k (.cells cs e)) (Stp.mk' σ k _) (Own.intro (us := cs.toList) (heap_alloc_new σ.w _) (by show (if _ = _ then k else _) = k; rw [if_pos rfl]) (Nat.le_refl _) (by decide) (by omega) ?_ (by simpa using hcs) ?_)
  · rw [List.take_of_length_le (by simp; omega)]
  · intro j U u hU hu
    exact U.up (Stp.mk' σ k _).le0 (hcl j U u hU (by simpa using hu))
theorem wrap_i32 {c : Int} (h0 : -2147483648 ≤ c) (h1 : c < 2147483648) : IntKind.i32.wrap c = c := by
  simp [IntKind.wrap, IntKind.bits, IntKind.signed]; omega
def cOf (raw : List Int) (n m : Nat) : List BCall := (112, []) :: (List.range m).map fun i => (((97 + (i + 1) : Nat) : Int), changesOf raw (11 * (i + 1)) n 1)
theorem cOf_len (raw : List Int) (n m : Nat) : (cOf raw n m).length = m + 1 := by simp [cOf]
theorem cOf_succ (raw : List Int) (n m : Nat) : cOf raw n (m + 1) = cOf raw n m ++ [(((97 + (m + 1) : Nat) : Int), changesOf raw (11 * (m + 1)) n 1)] := by
  unfold cOf; rw [List.range_succ, List.map_append]; rfl
end Go.KL

/- Bytes of a text, appended; touches, printed. -/
namespace Go.KL
open Go.RowKit Go.Lib
variable {P : Program} {d : Option Tmp} {ty : TypeId} {pos : String} {af : Array Edge} {g : Option (Nat × Bool)} {a : Act} {σ : GW}
theorem str_typed {s : ByteArray} {σ : GW} : ∀ (j : Nat) (T : Ty) (u : Value), (s.data.toList.map Ty.byte)[j]? = some T → (strCells s)[j]? = some u → T.has σ u := by
  intro j T u h1 h2
  unfold strCells at h2
  rw [List.getElem?_map] at h1 h2
  cases hq : s.data.toList[j]? with
  | none => rw [hq] at h1; cases h1
  | some b => rw [hq] at h1 h2; cases h1; cases h2; rfl
theorem own_appendS {k : Nat} {t u ty e : TypeId} {v : Value} {n : Nat} {ts : List Ty} {s : ByteArray} (hk : 2 ≤ k) (ht : P.underlying t = some (.slice e)) (hu : P.underlying u = some .string) (he : Info P e (.int .u8 0) 1 1) (h : Own σ k e 1 v n ts)
    (hlen : n + s.size ≤ 140737488355328) :
    ∃ v' τ, (Builtin.append_ #[t, u] ty #[v, .string s]).run P σ.w = .ok v' τ.w ∧ Stp k σ τ ∧ Own τ k e 1 v' (n + s.size) (ts ++ s.data.toList.map Ty.byte) := by
  have h0 := h
  obtain ⟨vs, r1, r2, r3, r4⟩ := h
  obtain ⟨i, hi, hi1, hi2, hi3⟩ := he.get
  have hwl := strCells_length s
  have hxl : vs.length = n := by simpa using r1.1
  have hl' : (vs ++ strCells s).length = (ts ++ s.data.toList.map Ty.byte).length := by simp [r2, hwl]
  have hm9 : n + s.size ≤ maxLen := by unfold maxLen; omega
  have new : ∀ (old : Nat) (τw : World), old < n + s.size → τw = σ.w.drew.alloc (.cells (vs.toArray ++ (strCells s).toArray ++ Builtin.zeroCells (Value.int .u8 0).cells (grownCap σ.w (n + s.size) old e - (n + s.size))) e) →
      ∃ τ : GW, τ.w = τw ∧ Stp k σ τ ∧ Own τ k e 1 (.slice (some ⟨σ.w.heap.size, 0, none⟩) (n + s.size) (grownCap σ.w (n + s.size) old e)) (n + s.size) (ts ++ s.data.toList.map Ty.byte) := by
    intro old τw _ hτ
    subst hτ
    have hge := grownCap_ge σ.w (n + s.size) old e
    have hcm : grownCap σ.w (n + s.size) old e ≤ maxLen := grownCap_le_maxLen σ.w (n + s.size) old e hm9
    have hstp : Stp 0 σ (σ.drew.mk' k (.cells (vs.toArray ++ (strCells s).toArray ++ Builtin.zeroCells (Value.int .u8 0).cells (grownCap σ.w (n + s.size) old e - (n + s.size))) e)) := (Stp.drew σ).trans (Stp.mk' σ.drew k _)
    refine ⟨_, rfl, hstp.of0, Own.intro (us := vs ++ strCells s) (heap_alloc_new σ.w.drew _) (by show (if _ = _ then k else _) = k; rw [if_pos]; rfl) hge hcm ?_ ?_ hl' ?_⟩
    · have hz1 : (Value.int IntKind.u8 0).cells.size = 1 := rfl
      simp only [Array.size_append, List.size_toArray, size_zeroCells, hz1, hxl, hwl]; omega
    · simp only [Array.toList_append, List.append_assoc]
      rw [← List.append_assoc, show (n + s.size) * 1 = (vs ++ strCells s).length by rw [List.length_append, hxl, hwl, Nat.mul_one]]
      exact List.take_left
    · exact typed_append r2 (fun j T u hT hu => T.up hstp.le0 (r3 j T u hT hu)) str_typed
  rcases r1.2 with ⟨rfl, rfl⟩ | ⟨g, cap, cur, rfl, _, hg, hn, hm, hcs, htk⟩
  · have hvs : vs = [] := List.eq_nil_of_length_eq_zero hxl
    by_cases hm0 : s.size = 0
    · have hn : s.data.toList = [] := List.eq_nil_of_length_eq_zero (by simpa using hm0)
      refine ⟨.slice none 0 0, σ, ?_, Stp.refl _ _, by rw [hm0, hn]; simpa using h0⟩
      have hf := run_firstCells_string (P := P) (w := σ.w) 1 s
      have hn2 : strCells s = [] := List.eq_nil_of_length_eq_zero (by rw [hwl]; exact hm0)
      simp [Builtin.append_, run_underlying ht, run_underlying hu, sizeOf, typeInfo, hi, hi2, Builtin.lenOf, hm0, hn2] at hf ⊢
      simp [hf]
    · have hr := run_append_nil_string (P := P) (w := σ.w) t u ty e i (.int .u8 0) ht hu hi hi1 s (by omega) (by omega) (by rw [hi3]; omega)
      obtain ⟨τ, e1, e2, e3⟩ := new 0 _ (by omega) rfl
      have e4 : (s.data.map fun b => Value.int .u8 b.toNat) = (strCells s).toArray := by
        apply Array.ext'
        simp [strCells]
      rw [e4] at hr
      simp only [Nat.zero_add] at e1 e3 ⊢
      exact ⟨_, τ, by rw [hr, e1, hvs]; simp, e2, e3⟩
  · have hgk := r4 g rfl
    have hcs' : cur.size = cap := by simpa using hcs
    by_cases hroom : n + s.size ≤ cap
    · have hr := run_append_room_string (P := P) (w := σ.w) t u ty e i ht hu hi hi2 g n cap cur hg s hroom (by omega)
      have hstp : Stp k σ (σ.setRow g (cur.toList.take n ++ strCells s ++ cur.toList.drop (n + s.size)).toArray) := Stp.setRow hgk (by omega)
      have ht' : cur.toList.take n = vs := by simpa using htk
      refine ⟨_, _, hr, hstp, Own.intro (us := vs ++ strCells s) (setRow_heap σ.w g cur _ e (0, 0) hg) hgk hroom hm ?_ ?_ hl' ?_⟩
      · simp only [List.size_toArray, List.length_append, List.length_take, List.length_drop, Array.length_toList, hwl]
        omega
      · rw [ht', show (n + s.size) * 1 = (vs ++ strCells s).length by rw [List.length_append, hxl, hwl, Nat.mul_one]]
        exact List.take_left
      · exact typed_append r2 (fun j T u hT hu => T.up (hstp.le (by omega)) (r3 j T u hT hu)) str_typed
    · have holds : ∀ (j : Nat) (u : Value), vs[j]? = some u → σ.w.cell? ((⟨g, 0, none⟩ : Addr).add j) = some u := r1.cells (g := g) rfl
      have hr := run_append_grow_string (P := P) (w := σ.w) t u ty e i (.int .u8 0) ht hu hi hi1 ⟨g, 0, none⟩ n cap vs (by rw [hi2]; simpa using hxl) holds s (by omega) (by omega) (by rw [hi3]; exact growslice_fits (by omega) (by omega))
      obtain ⟨τ, e1, e2, e3⟩ := new cap _ (by omega) rfl
      exact ⟨_, τ, by rw [hr, e1], e2, e3⟩
theorem m_appendS {k : Nat} {t u e : TypeId} {x y : Operand} {n : Nat} {ts : List Ty} {s : ByteArray} (ht : P.underlying t = some (.slice e)) (hu : P.underlying u = some .string) (he : Info P e (.int .u8 0) 1 1) (hk : 2 ≤ k) (h : Own σ k e 1 (a.eval x) n ts) (hy : a.eval y = .string s)
    (hlen : n + s.size ≤ 140737488355328) : YldM k P ⟨d, .call ⟨.builtin .append, #[x, y], #[t, u]⟩, ty, pos, af, g⟩ a σ (fun v τ => Own τ k e 1 v (n + s.size) (ts ++ s.data.toList.map Ty.byte)) := by
  intro K Q hk'
  obtain ⟨v', τ, hr, hs, ho⟩ := own_appendS (ty := ty) hk ht hu he h hlen
  have hr' : (execOp a.eval ⟨d, .call ⟨.builtin .append, #[x, y], #[t, u]⟩, ty, pos, af, g⟩).run P σ.w = .ok (.value v') τ.w := by
    simp only [execOp, resolve, Sem.run_bind, Sem.run_pure, Result.andThen_ok, invoke, List.map_toArray, List.map_cons, List.map_nil, builtin, hy, hr]
  unfold Oper.wp
  rw [hr']
  exact hk' v' τ hs ho
/-! Numbers, printed. -/
def digitsB : ByteArray := (ByteArray.mk #[48, 49, 50, 51, 52, 53, 54, 55, 56, 57, 97, 98, 99, 100, 101, 102, 103, 104, 105, 106, 107, 108, 109, 110, 111, 112, 113, 114, 115, 116, 117, 118, 119, 120, 121, 122])
def smallsB : ByteArray := (ByteArray.mk (List.toArray (List.append (List.append [48, 48, 48, 49, 48, 50, 48, 51, 48, 52, 48, 53, 48, 54, 48, 55, 48, 56, 48, 57, 49, 48, 49, 49, 49, 50, 49, 51, 49, 52, 49, 53, 49, 54, 49, 55, 49, 56, 49, 57, 50, 48, 50, 49, 50, 50, 50, 51, 50, 52] [50, 53, 50, 54, 50, 55, 50, 56, 50, 57, 51, 48, 51, 49, 51, 50, 51, 51, 51, 52, 51, 53, 51, 54, 51, 55, 51, 56, 51, 57, 52, 48, 52, 49, 52, 50, 52, 51, 52, 52, 52, 53, 52, 54, 52, 55, 52, 56, 52, 57]) (List.append [53, 48, 53, 49, 53, 50, 53, 51, 53, 52, 53, 53, 53, 54, 53, 55, 53, 56, 53, 57, 54, 48, 54, 49, 54, 50, 54, 51, 54, 52, 54, 53, 54, 54, 54, 55, 54, 56, 54, 57, 55, 48, 55, 49, 55, 50, 55, 51, 55, 52] [55, 53, 55, 54, 55, 55, 55, 56, 55, 57, 56, 48, 56, 49, 56, 50, 56, 51, 56, 52, 56, 53, 56, 54, 56, 55, 56, 56, 56, 57, 57, 48, 57, 49, 57, 50, 57, 51, 57, 52, 57, 53, 57, 54, 57, 55, 57, 56, 57, 57]))))
def decL (n : Nat) : List UInt8 := if n < 10 then [(48 + n).toUInt8] else [(48 + n / 10).toUInt8, (48 + n % 10).toUInt8]
def decB (n : Nat) : ByteArray := bsL (decL n)
theorem cvByte {a : Act} {x : Operand} {e : Int} (h0 : 0 ≤ e) (h1 : e < 256) (h : a.eval x = .int .u8 e) : a.eval x = .int .u8 ((e.toNat.toUInt8.toNat : Nat) : Int) := by
  rw [h]
  have : e.toNat.toUInt8.toNat = e.toNat := by simp; omega
  rw [this, Int.toNat_of_nonneg h0]
theorem digits_size : digitsB.size = 36 := by decide +kernel
theorem smalls_size : smallsB.size = 200 := by decide +kernel
theorem small_lo {n : Nat} (h : n < 10) : digitsB.extract n (n + 1) = decB n :=
  (by decide +kernel : ∀ m : Fin 10, digitsB.extract m.val (m.val + 1) = decB m.val) ⟨n, h⟩
theorem small_hi {n : Nat} (h : n < 100) (h2 : 10 ≤ n) : smallsB.extract (n * 2) (n * 2 + 2) = decB n :=
  ((by decide +kernel : ∀ m : Fin 100, m.val < 10 ∨ smallsB.extract (m.val * 2) (m.val * 2 + 2) = decB m.val) ⟨n, h⟩).resolve_left (by simp only; omega)
theorem y_convBS {x : Operand} {t u e : TypeId} {bs : List UInt8} {n : Nat} (ht : P.underlying t = some (.slice e)) (he : P.underlying e = some (.int .u8)) (hu : P.underlying u = some .string) (hx : At (.sl 1 n (bs.map Ty.byte)) σ a x) :
    Yld P ⟨d, .convert t u x, ty, pos, af, g⟩ a σ (Ty.val (.string (bsL bs))).pr := by
  obtain ⟨ad, cap0, bb, o, e1, hcap0, hul, hs, hcl⟩ := hx
  have hn : n = bs.length := by simpa using hul.symm
  subst hn
  rcases hs with hs | ⟨rfl, _⟩
  · have hb : bs = [] := by simpa using hs
    subst hb
    have hr : (convert t u (.slice ad 0 cap0)).run P σ.w = .ok (.string (bsL [])) σ.w := by
      rw [run_convert_bytes_string σ.w t u e ad 0 cap0 ht he hu]
      cases ad <;> simp [Conv.bytesToString, loadCells, loadCellsFrom, bsL] <;> rfl
    exact Yld.of_run (v := .string (bsL [])) (by simp only [execOp, e1, List.length_nil, Sem.run_bind, hr, Result.andThen_ok, Sem.run_pure]) rfl
  · have hr := run_convert_bytes_back (P := P) σ.w t u e ⟨bb, o, none⟩ cap0 bs ht he hu (fun j hj => by
      obtain ⟨v, hv, hT⟩ := hcl j (Ty.byte bs[j]) (by simp [hj])
      rw [Addr.add_lit, hv, show v = _ from hT])
    exact Yld.of_run (v := .string (bsL bs)) (by simp only [execOp, e1, Sem.run_bind, hr, Result.andThen_ok, Sem.run_pure]; rfl) rfl
theorem dec_lo {n : Nat} (h : n < 10) : bsL [(48 + n).toUInt8] = decB n := by unfold decB decL; rw [if_pos h]
theorem dec_hi {n : Nat} (h : n < 100) (h2 : 10 ≤ n) : decB (n / 10) ++ bsL [(48 + n % 10).toUInt8] = decB n := by
  unfold decB decL
  rw [if_pos (by omega), if_neg (by omega)]
  apply ByteArray.ext
  simp [bsL]
theorem dec_size {n : Nat} : (decB n).size ≤ 2 := by unfold decB decL; rw [bsL_size]; split <;> simp
/-! Touches, printed. -/
def pcB (cs : List BCall) (n : Nat) (x : Int) : ByteArray := (if 1 < n then decB n else ByteArray.empty) ++ Utf8.encode (cs.getD x.toNat D0).1
def prR (cs : List BCall) : Nat → List Int → ByteArray
  | _, [] => ByteArray.empty
  | n, x :: r => if (r ≠ [] ∧ r.getD 0 0 = x) ∧ n + 1 < 99 then prR cs (n + 1) r else pcB cs (n + 1) x ++ prR cs 0 r
theorem ba_assoc (a b c : ByteArray) : a ++ b ++ c = a ++ (b ++ c) := by apply ByteArray.ext; simp
theorem ba_nil (a : ByteArray) : a ++ ByteArray.empty = a := by apply ByteArray.ext; simp
theorem ba_nil' (a : ByteArray) : ByteArray.empty ++ a = a := by apply ByteArray.ext; simp
section
variable {cs : List BCall} {s T : ByteArray} {l : List Int} {i n : Nat}
theorem prt_cont (h : s ++ prR cs n (l.drop i) = T) (hi : i + 1 < l.length) (he : l.getD (i + 1) 0 = l.getD i 0) (hn : n + 1 < 99) : s ++ prR cs (n + 1) (l.drop (i + 1)) = T := by
  rw [drop_consD 0 (show i < l.length by omega), prR, if_pos ⟨⟨dr_ne hi, by rw [dr_hd hi]; exact he⟩, hn⟩] at h
  exact h
theorem prt_put (h : s ++ prR cs n (l.drop i) = T) (hi : i < l.length) (hno : ¬ ((i + 1 < l.length ∧ l.getD (i + 1) 0 = l.getD i 0) ∧ n + 1 < 99)) : (s ++ pcB cs (n + 1) (l.getD i 0)) ++ prR cs 0 (l.drop (i + 1)) = T := by
  rw [drop_consD 0 hi, prR, if_neg] at h
  · rw [ba_assoc]; exact h
  · rintro ⟨⟨h1, h2⟩, h3⟩
    have hi1 : i + 1 < l.length := by
      rcases Nat.lt_or_ge (i + 1) l.length with h4 | h4
      · exact h4
      · exact absurd (dr_nil h4) h1
    exact hno ⟨⟨hi1, by rw [dr_hd hi1] at h2; exact h2⟩, h3⟩
theorem prt_put1 (h : s ++ prR cs n (l.drop i) = T) (hi : i < l.length) (hno : ¬ ((i + 1 < l.length ∧ l.getD (i + 1) 0 = l.getD i 0) ∧ n + 1 < 99)) (hn : 1 < n + 1) : ((s ++ decB (n + 1)) ++ Utf8.encode (cs.getD (l.getD i 0).toNat D0).1) ++ prR cs 0 (l.drop (i + 1)) = T := by
  have := prt_put h hi hno
  unfold pcB at this
  rw [if_pos hn] at this
  rw [ba_assoc s]; exact this
theorem prt_put0 (h : s ++ prR cs n (l.drop i) = T) (hi : i < l.length) (hno : ¬ ((i + 1 < l.length ∧ l.getD (i + 1) 0 = l.getD i 0) ∧ n + 1 < 99)) (hn : ¬ 1 < n + 1) : (s ++ Utf8.encode (cs.getD (l.getD i 0).toNat D0).1) ++ prR cs 0 (l.drop (i + 1)) = T := by
  have := prt_put h hi hno
  unfold pcB at this
  rw [if_neg hn, ba_nil'] at this
  exact this
end
theorem enc_size (c : Int) : 1 ≤ (Utf8.encode c).size ∧ (Utf8.encode c).size ≤ 4 := by
  unfold Utf8.encode
  simp only
  repeat' split
  all_goals exact ⟨by show 1 ≤ Array.size _; simp, by show Array.size _ ≤ 4; simp⟩
theorem pc_size (cs : List BCall) (n : Nat) (x : Int) : (pcB cs n x).size ≤ 6 := by
  unfold pcB
  rw [ByteArray.size_append]
  have h1 := (enc_size (cs.getD x.toNat D0).1).2
  have h2 := dec_size (n := n)
  split
  · omega
  · rw [show ByteArray.empty.size = 0 from rfl]; omega
theorem prt_size (cs : List BCall) : ∀ (n : Nat) (l : List Int), (prR cs n l).size ≤ 6 * l.length
  | _, [] => by rw [prR]; exact Nat.zero_le _
  | n, x :: r => by
    rw [prR]
    have h1 := prt_size cs (n + 1) r
    have h2 := prt_size cs 0 r
    have h3 := pc_size cs (n + 1) x
    rw [List.length_cons]
    split
    · omega
    · rw [ByteArray.size_append]; omega
def ptE (cs : List BCall) (l : List Int) : Int := if l.length < 1 ∨ 400 < l.length then 1 else if ∀ k, k < l.length → 0 ≤ l.getD k 0 ∧ l.getD k 0 < (cs.length : Int) then 0 else 12
def ptT (cs : List BCall) (l : List Int) : ByteArray := if ptE cs l = 0 then prR cs 0 l else ByteArray.empty
theorem pt_cnt {cs : List BCall} {l : List Int} (h : l.length < 1 ∨ 400 < l.length) : ptE cs l = 1 ∧ ptT cs l = ByteArray.empty := by
  have : ptE cs l = 1 := by unfold ptE; rw [if_pos h]
  exact ⟨this, by unfold ptT; rw [if_neg (by rw [this]; decide)]⟩
theorem pt_val {cs : List BCall} {l : List Int} {k : Nat} (h : ¬ (l.length < 1 ∨ 400 < l.length)) (hk : k < l.length) (hv : l.getD k 0 < 0 ∨ (cs.length : Int) ≤ l.getD k 0) : ptE cs l = 12 ∧ ptT cs l = ByteArray.empty := by
  have : ptE cs l = 12 := by unfold ptE; rw [if_neg h, if_neg (fun h2 => by have := h2 k hk; omega)]
  exact ⟨this, by unfold ptT; rw [if_neg (by rw [this]; decide)]⟩
theorem pt_good {cs : List BCall} {l : List Int} (h : ¬ (l.length < 1 ∨ 400 < l.length)) (hv : ∀ k, k < l.length → 0 ≤ l.getD k 0 ∧ l.getD k 0 < (cs.length : Int)) : ptE cs l = 0 ∧ ptT cs l = prR cs 0 l := by
  have : ptE cs l = 0 := by unfold ptE; rw [if_neg h, if_pos hv]
  exact ⟨this, by unfold ptT; rw [if_pos this]⟩
theorem bsL_dat (l : List UInt8) (b : ByteArray) : bsL (l ++ b.data.toList) = bsL l ++ b := by apply ByteArray.ext; simp [bsL]
theorem prt_in {cs : List BCall} {l : List Int} {a : Nat} (h : ∀ k, k < l.length → 0 ≤ l.getD k 0 ∧ l.getD k 0 < (cs.length : Int)) : ∀ k, k < (l.drop a).length → 0 ≤ (l.drop a).getD k 0 ∧ (l.drop a).getD k 0 < (cs.length : Int) := by
  intro k hk
  rw [List.length_drop] at hk
  rw [show (l.drop a).getD k 0 = l.getD (a + k) 0 by simp [List.getD]]
  exact h _ (by omega)
theorem cOf_asc {raw : List Int} {n m : Nat} (h : m ≤ 20) : ∀ c ∈ cOf raw n m, -2147483648 ≤ c.1 ∧ c.1 ≤ 2147483647 := by
  intro c hc
  unfold cOf at hc
  rcases List.mem_cons.1 hc with e | e
  · rw [e]; exact ⟨by decide, by decide⟩
  · obtain ⟨i, hi, rfl⟩ := List.mem_map.1 e
    have := List.mem_range.1 hi
    simp only; omega
end Go.KL

/- 'copy' into a row that is owned; a row told several times. -/
namespace Go.KL
open Go.RowKit
variable {P : Program} {d : Option Tmp} {ty : TypeId} {pos : String} {af : Array Edge} {g : Option (Nat × Bool)} {a : Act} {σ : GW}
theorem own_copy {k : Nat} {t e : TypeId} {z : Value} {by_ : Nat} {v : Value} {n : Nat} {ts us : List Ty} {j sLen sCap : Nat} {ad : Addr} {cs : List Value} (hk : 2 ≤ k) (ht : P.underlying t = some (.slice e)) (he : Info P e z 1 by_) (ho : Own σ k e 1 v n ts) (hj : j < n)
    (hcs : cs.length = Nat.min sLen (n - j)) (hl : cs.length = us.length) (hsrc : ∀ q u, cs[q]? = some u → σ.w.cell? (ad.add q) = some u) (hT : ∀ (q : Nat) (T : Ty) (u : Value), us[q]? = some T → cs[q]? = some u → T.has σ u) (h1 : ∀ u ∈ cs, u.oneCell' = true) :
    ∃ τ : GW, (Builtin.copy_ #[t, t] ty #[sufOf v j, .slice (some ad) sLen sCap]).run P σ.w = .ok (goInt cs.length) τ.w ∧ Stp k σ τ ∧ Own τ k e 1 v n (ts.take j ++ us ++ ts.drop (j + us.length)) := by
  have hlen := ho.len
  obtain ⟨vs, r1, r2, r3, r4⟩ := ho
  rcases r1.2 with ⟨rfl, h0⟩ | ⟨gg, cap, cur, rfl, _, hg, hn, hmm, hcz, htk⟩
  · omega
  have hx : sufOf (.slice (some ⟨gg, 0, none⟩) n cap) j = .slice (some ⟨gg, j, none⟩) (n - j) (cap - j) := by
    show sliced (some ⟨gg, 0, none⟩) j n cap 1 = _
    unfold sliced
    rw [if_neg (by omega)]
    simp [Addr.add_lit]
  have hmin : cs.length ≤ n - j := by rw [hcs]; exact Nat.min_le_right _ _
  have hr := run_copy_row (P := P) σ.w t t ty e gg j (n - j) (cap - j) ad sLen sCap cur e cs ht (by obtain ⟨i, hi, _, hi2, _⟩ := he.get; rw [hi]; simp [hi2]) hg hcs hsrc (by omega) h1
  rw [hx]
  refine ⟨σ.setRow gg (cur.toList.take j ++ cs ++ cur.toList.drop (j + cs.length)).toArray, hr, Stp.setRow (r4 gg rfl) (by omega), ?_⟩
  have hstp : Stp k σ (σ.setRow gg (cur.toList.take j ++ cs ++ cur.toList.drop (j + cs.length)).toArray) := Stp.setRow (r4 gg rfl) (by omega)
  have hle := hstp.le (by omega)
  have hvs : vs = cur.toList.take n := by rw [← htk, Nat.mul_one]
  have hcl : cur.toList.length = cap := by rw [Array.length_toList, hcz, Nat.mul_one]
  refine Own.intro (us := vs.take j ++ cs ++ vs.drop (j + cs.length)) (setRow_heap σ.w gg cur _ e (0, 0) hg) (r4 gg rfl) hn hmm ?_ ?_ ?_ ?_
  · simp only [List.size_toArray, List.length_append, List.length_take, List.length_drop]; omega
  · rw [hvs, Nat.mul_one]
    apply List.ext_getElem?
    intro q
    simp only [List.getElem?_append, List.getElem?_take, List.getElem?_drop, List.length_append, List.length_take, List.length_drop, hcl, Nat.min_eq_left (show j ≤ cap by omega), Nat.min_eq_left (show j ≤ min n cap by omega)]
    repeat' split
    all_goals first | rfl | (exfalso; omega) | (congr 1; omega) | (rw [List.getElem?_eq_none (by simp only [Array.length_toList, hcz]; omega)])
  · simp only [List.length_append, List.length_take, List.length_drop]; omega
  · have hvT : ∀ (q : Nat) (T : Ty) (u : Value), ts[q]? = some T → vs[q]? = some u → T.has (σ.setRow gg (cur.toList.take j ++ cs ++ cur.toList.drop (j + cs.length)).toArray) u := fun q T u h1 h2 => T.up hle (r3 q T u h1 h2)
    refine typed_append (by simp only [List.length_append, List.length_take]; omega) (typed_append (by simp only [List.length_take]; omega) ?_ (fun q T u h1 h2 => T.up hle (hT q T u h1 h2))) ?_
    · intro q T u h1 h2
      rw [List.getElem?_take] at h1 h2
      split at h1
      · rename_i hq; rw [if_pos hq] at h2; exact hvT q T u h1 h2
      · cases h1
    · intro q T u h1 h2
      rw [List.getElem?_drop] at h1 h2
      rw [← hl] at h1
      exact hvT _ T u h1 h2
def Pr.cpd (k : Nat) (e : TypeId) (n : Nat) (w : Value) (m : Nat) (ts : List Ty) : Pr := ⟨fun σ v => v = .int .i64 (m : Int) ∧ Own σ k e 1 w n ts, fun hs h => ⟨h.1, h.2.keep hs (by decide) (.inl rfl)⟩⟩
def SlForm (v : Value) (n : Nat) : Prop := ∃ ad cap, v = .slice ad n cap ∧ n ≤ cap ∧ cap ≤ 9223372036854775807
section
variable {x y : Operand} {n : Nat} {t e' : TypeId} {z v : Value} {b : Nat} {ki : IntKind} (ht : P.underlying t = some (.slice e')) (he : Info P e' z 1 b) (ho : SlForm v n) (hx : a.eval x = v)
include ht he ho hx
theorem y_preF {i : Nat} (hy : a.eval y = .int ki i) (hi : i ≤ n) : Yld P ⟨d, .slice t x none (some y) none, ty, pos, af, g⟩ a σ (Ty.val (preOf v i)).pr := by
  obtain ⟨ad, cap, rfl, hn, hm⟩ := ho
  refine Yld.of_run (v := sliced ad 0 i cap 1) ?_ ?_
  · have h1 := run_slice_h (P := P) σ.w t ad n cap (elem_of ht) ki (i : Int) (by omega) (by omega)
    rw [elem_eq ht, he.size] at h1
    simp only [execOp, hx, hy, Option.map_some, Option.map_none, Sem.run_bind, run_sliceAt_slice σ.w t _ _ _ _ (elem_of ht), h1, Result.andThen_ok, Sem.run_pure, Int.toNat_natCast]
  · show sliced ad 0 i cap 1 = preOf _ i
    unfold sliced preOf
    cases ad <;> simp [Addr.add_zero']
theorem y_sufF {j : Nat} (hy : a.eval y = .int ki j) (hj : j ≤ n) : Yld P ⟨d, .slice t x (some y) none none, ty, pos, af, g⟩ a σ (Ty.val (sufOf v j)).pr := by
  obtain ⟨ad, cap, rfl, hn, hm⟩ := ho
  refine Yld.of_run (v := sliced ad j n cap 1) ?_ rfl
  have h1 := run_slice_l (P := P) σ.w t ad n cap (elem_of ht) ki (j : Int) (by omega) (by omega)
  rw [elem_eq ht, he.size] at h1
  simp only [execOp, hx, hy, Option.map_some, Option.map_none, Sem.run_bind, run_sliceAt_slice σ.w t _ _ _ _ (elem_of ht), h1, Result.andThen_ok, Sem.run_pure, Int.toNat_natCast]
end
theorem Own.suf0 {k : Nat} {e : TypeId} {n : Nat} {v : Value} {ts : List Ty} (h : Own σ k e 1 v n ts) (hn : 0 < n) : sufOf v 0 = v := by
  obtain ⟨g, cap, rfl, _, _⟩ := h.at hn
  have hc : n ≤ cap := h.cap
  show sliced (some ⟨g, 0, none⟩) 0 n cap 1 = _
  unfold sliced
  rw [if_neg (by omega)]
  simp [Addr.add_zero']
theorem m_copyF {k : Nat} {t e : TypeId} {z : Value} {by_ : Nat} {x y : Operand} {w : Value} {n m : Nat} {ts us : List Ty} (ht : P.underlying t = some (.slice e)) (he : Info P e z 1 by_) (hk : 2 ≤ k) (ho : Own σ k e 1 w n ts) (hx : a.eval x = w) (hy : At (.sl 1 m us) σ a y) (h1 : ∀ U, U ∈ us → One U) (hm : 0 < m) (hmn : m ≤ n) :
    YldM k P ⟨d, .call ⟨.builtin .copy, #[x, y], #[t, t]⟩, ty, pos, af, g⟩ a σ (fun v τ => Pr.has (Pr.cpd k e n w m (us ++ ts.drop m)) τ v) := by
  obtain ⟨ad, cap0, bb, o, e1, hcap0, hul, hs, hcl⟩ := hy
  obtain ⟨hs1, hs2⟩ := hs.resolve_left (fun e_ => by subst e_; simp at hul; omega)
  obtain ⟨ws, w1, w2, w3⟩ := sl_news hcl
  have hone : ∀ u ∈ ws, u.oneCell' = true := fun u hu => by
    obtain ⟨j, hj⟩ := List.mem_iff_getElem?.1 hu
    obtain ⟨T, hT⟩ : ∃ T, us[j]? = some T := ⟨us[j]'(by rw [← w1]; exact (List.getElem?_eq_some_iff.1 hj).1), by simp⟩
    exact h1 T (List.mem_of_getElem? hT) _ u (w3 j T u hT hj)
  have hwm : ws.length = m := by omega
  obtain ⟨τ, hr, hst, hown⟩ := own_copy (ty := ty) (j := 0) (sLen := m) (sCap := cap0) (ad := ⟨bb, o, none⟩) (cs := ws) (us := us) hk ht he ho (by omega) (by rw [hwm]; exact (Nat.min_eq_left (by omega)).symm) w1 (fun q u hq => by rw [Addr.add_lit]; exact w2 q u hq) w3 hone
  rw [ho.suf0 (by omega), ← hs1, ← hx, ← e1] at hr
  have hr' : (execOp a.eval ⟨d, .call ⟨.builtin .copy, #[x, y], #[t, t]⟩, ty, pos, af, g⟩).run P σ.w = .ok (.value (goInt ws.length)) τ.w := by
    simp only [execOp, resolve, Sem.run_bind, Sem.run_pure, Result.andThen_ok, invoke, List.map_toArray, List.map_cons, List.map_nil, builtin, hr]
  intro K Q hK
  unfold Oper.wp
  rw [hr']
  refine hK _ τ hst ⟨by rw [hwm]; rfl, ?_⟩
  have e3 : List.take 0 ts ++ us ++ List.drop (0 + us.length) ts = us ++ List.drop m ts := by rw [List.take_zero, List.nil_append, Nat.zero_add, show us.length = m by omega]
  rw [← e3]; exact hown
theorem m_copyS {k : Nat} {t e : TypeId} {z : Value} {by_ : Nat} {x y : Operand} {w : Value} {n j : Nat} {ts : List Ty} (ht : P.underlying t = some (.slice e)) (he : Info P e z 1 by_) (hk : 2 ≤ k) (ho : Own σ k e 1 w n ts) (hx : a.eval x = sufOf w j) (hy : a.eval y = preOf w j) (h1 : ∀ U, U ∈ ts → One U) (hj : 0 < j) (hjn : j < n) :
    YldM k P ⟨d, .call ⟨.builtin .copy, #[x, y], #[t, t]⟩, ty, pos, af, g⟩ a σ (fun v τ => Pr.has (Pr.cpd k e n w (min j (n - j)) (ts.take j ++ ts.take (min j (n - j)) ++ ts.drop (j + min j (n - j)))) τ v) := by
  have hlen := ho.len
  have ho2 := ho
  obtain ⟨vs, r1, r2, r3, r4⟩ := ho2
  obtain ⟨gg, cap, rfl, _, _⟩ := ho.at (by omega)
  have hone : ∀ u ∈ vs.take (min j (n - j)), u.oneCell' = true := fun u hu => by
    obtain ⟨q, hq⟩ := List.mem_iff_getElem?.1 (List.mem_of_mem_take hu)
    obtain ⟨T, hT⟩ : ∃ T, ts[q]? = some T := ⟨ts[q]'(by rw [← r2]; exact (List.getElem?_eq_some_iff.1 hq).1), by simp⟩
    exact h1 T (List.mem_of_getElem? hT) _ u (r3 q T u hT hq)
  have hwm : (vs.take (min j (n - j))).length = min j (n - j) := by rw [List.length_take]; omega
  have hum : (ts.take (min j (n - j))).length = min j (n - j) := by rw [List.length_take]; omega
  obtain ⟨τ, hr, hst, hown⟩ := own_copy (ty := ty) (j := j) (sLen := j) (sCap := cap) (ad := ⟨gg, 0, none⟩) (cs := vs.take (min j (n - j))) (us := ts.take (min j (n - j))) hk ht he ho (by omega) hwm (by rw [hwm, hum]) (fun q u hq => by
      rw [List.getElem?_take] at hq
      split at hq
      · have := r1.cells (g := gg) rfl q u hq
        rwa [Addr.add_lit] at this ⊢
      · cases hq) (fun q T u h2 h3 => by
      rw [List.getElem?_take] at h2 h3
      split at h2
      · rename_i hq; rw [if_pos hq] at h3; exact r3 q T u h2 h3
      · cases h2) hone
  have hp : preOf (.slice (some ⟨gg, 0, none⟩) n cap) j = .slice (some ⟨gg, 0, none⟩) j cap := rfl
  rw [← hp, ← hx, ← hy] at hr
  have hr' : (execOp a.eval ⟨d, .call ⟨.builtin .copy, #[x, y], #[t, t]⟩, ty, pos, af, g⟩).run P σ.w = .ok (.value (goInt (vs.take (min j (n - j))).length)) τ.w := by
    simp only [execOp, resolve, Sem.run_bind, Sem.run_pure, Result.andThen_ok, invoke, List.map_toArray, List.map_cons, List.map_nil, builtin, hr]
  intro K Q hK
  unfold Oper.wp
  rw [hr']
  refine hK _ τ hst ⟨by rw [hwm]; rfl, ?_⟩
  rw [hum] at hown
  exact hown
/-! Some arithmetic of 64 bits without a sign. -/
theorem wrap_u64 {c : Int} (h0 : 0 ≤ c) (h1 : c < 18446744073709551616) : IntKind.u64.wrap c = c := by
  simp [IntKind.wrap, IntKind.bits, IntKind.signed]; omega
theorem y_maskN {x y : Operand} {t u : TypeId} {c : Int} (hx : a.eval x = .int .u64 c) (hy : a.eval y = .int .u64 4294967295) (h0 : 0 ≤ c) (h : c < 4294967296) : Yld P ⟨d, .binOp .and t x y u, ty, pos, af, g⟩ a σ (Ty.val (.int .u64 c)).pr := by
  obtain ⟨n, rfl⟩ : ∃ n : Nat, c = (n : Int) := ⟨c.toNat, by omega⟩
  have e : bits .and .u64 (n : Int) 4294967295 = (n : Int) := by
    have h2 := bits_and_u64_nat n 4294967295 (by omega) (by omega)
    have e : n &&& 4294967295 = n % 4294967296 := Nat.and_two_pow_sub_one_eq_mod n 32
    rw [e, Nat.mod_eq_of_lt (by omega)] at h2
    exact h2
  exact Yld.of_run (v := .int .u64 n) (by simp only [execOp, hx, hy]; simp [go_sem, e]; try rfl) rfl
theorem y_shr32 {x y : Operand} {t u : TypeId} {c : Int} (hx : a.eval x = .int .u64 c) (hy : a.eval y = .int .u64 32) (h0 : 0 ≤ c) (h : c < 4294967296) : Yld P ⟨d, .binOp .shr t x y u, ty, pos, af, g⟩ a σ (Ty.val (.int .u64 0)).pr := by
  have e : c / 4294967296 = 0 := by omega
  exact Yld.of_run (v := .int .u64 0) (by simp only [execOp, hx, hy]; simp [go_sem, e]; try rfl) rfl
/-! A row told several times. -/
def repZ (one : List Int) (c q : Nat) : List Int := repL q one ++ List.replicate ((c - q) * one.length) 0
theorem repZ_one {one : List Int} {c : Nat} (h : 1 ≤ c) : one ++ List.drop one.length (List.replicate (one.length * c) 0) = repZ one c 1 := by
  unfold repZ
  rw [show repL 1 one = one by simp [repL], List.drop_replicate]
  congr 2
  rw [Nat.sub_mul, Nat.one_mul, Nat.mul_comm]
theorem repL_add (one : List Int) (p q : Nat) : repL (p + q) one = repL p one ++ repL q one := by
  unfold repL; rw [← List.replicate_append_replicate, List.flatten_append]
theorem repL_take (one : List Int) {p q : Nat} (h : p ≤ q) : (repL q one).take (p * one.length) = repL p one := by
  obtain ⟨r, rfl⟩ : ∃ r, q = p + r := ⟨q - p, by omega⟩
  rw [repL_add, List.take_append_of_le_length (by rw [repL_len]; exact Nat.le_refl _), List.take_of_length_le (by rw [repL_len]; exact Nat.le_refl _)]
theorem repZ_all (one : List Int) (c : Nat) : repZ one c c = repL c one := by unfold repZ; simp
theorem repZ_step {one : List Int} {c q : Nat} (h : q ≤ c) : (repZ one c q).take (q * one.length) ++ (repZ one c q).take (min (q * one.length) (one.length * c - q * one.length)) ++ (repZ one c q).drop (q * one.length + min (q * one.length) (one.length * c - q * one.length)) = repZ one c (q + min q (c - q)) := by
  have hm : min (q * one.length) (one.length * c - q * one.length) = (min q (c - q)) * one.length := by
    rw [Nat.mul_comm one.length c, ← Nat.sub_mul]
    exact Nat.mul_min_mul_right ..
  have hq : (repL q one).length = q * one.length := repL_len _ _
  rw [hm]
  generalize hr : min q (c - q) = r
  have hrq : r ≤ q := by omega
  have hrm : r * one.length ≤ q * one.length := Nat.mul_le_mul_right _ hrq
  unfold repZ
  rw [List.take_append_of_le_length (by omega), List.take_append_of_le_length (by omega), repL_take one (Nat.le_refl q), repL_take one hrq, ← repL_add, ← hq, List.drop_append, List.drop_replicate]
  rw [List.drop_of_length_le (by omega), List.nil_append, hq]
  congr 2
  rw [Nat.add_sub_cancel_left, ← Nat.sub_mul]
  congr 1; omega
theorem repZ_cnt {one : List Int} {c q : Nat} (h : q ≤ c) : (q + min q (c - q)) * one.length = q * one.length + min (q * one.length) (one.length * c - q * one.length) := by
  rw [Nat.add_mul, ← Nat.mul_min_mul_right, Nat.mul_comm one.length c, ← Nat.sub_mul]
theorem repZ_end {one : List Int} {c q : Nat} (h1 : 1 ≤ one.length) (h : q ≤ c) (h2 : one.length * c ≤ q * one.length) : q = c := by
  rw [Nat.mul_comm q] at h2
  have := Nat.le_of_mul_le_mul_left h2 (by omega)
  omega
end Go.KL

/- Structs that are built of structs; 'append' of what is owned. -/
namespace Go.KL
open Go.RowKit
variable {P : Program}
theorem Own.src {σ : GW} {k : Nat} {e : TypeId} {c : Nat} {v : Value} {n : Nat} {ts : List Ty} (h : Own σ k e c v n ts) : ∃ ad cap b o, v = .slice ad n cap ∧ ts.length = n * c ∧ (ts = [] ∨ ad = some (⟨b, o, none⟩ : Addr)) ∧ Cells σ b o ts := by
  have hl := h.len
  obtain ⟨us, h1, h2, h3, h4⟩ := h
  rcases h1.2 with ⟨rfl, rfl⟩ | ⟨g, cap, cur, rfl, _⟩
  · have : ts = [] := List.eq_nil_of_length_eq_zero (by omega)
    subst this
    exact ⟨none, 0, 0, 0, rfl, by simp, .inl rfl, fun j T hj => by simp at hj⟩
  · refine ⟨_, cap, g, 0, rfl, hl, .inr rfl, fun j T hj => ?_⟩
    have hlt := (List.getElem?_eq_some_iff.1 hj).1
    have hu : us[j]? = some us[j] := by simp [show j < us.length by omega]
    refine ⟨us[j], ?_, h3 j T _ hj hu⟩
    have := h1.cells (g := g) rfl j _ hu
    rwa [Addr.add_lit] at this
variable {d : Option Tmp} {ty : TypeId} {pos : String} {af : Array Edge} {g : Option (Nat × Bool)} {a : Act} {σ : GW}
/-! ### Structs of structs -/
end Go.KL

/- Plain maths: touches that are searched. -/
namespace Go.KL
structure Qst where
  met : Nat
  found : List (List Int)
  full : Bool
section
variable (n : Nat) (l : List (List Int)) (cs : List BCall) (leads many : Nat)
end
section
variable {n : Nat} {l : List (List Int)} {cs : List BCall} {leads many : Nat}
/-! ### One lead more -/
/-! ### What was met -/
variable {nm : ByteArray}
/-! ### What is answered -/
end
end Go.KL
namespace Go.KL
section
variable {n : Nat} {l : List (List Int)} {cs : List BCall} {leads many f k : Nat} {path : List Int} {s0 s : Qst}
end
end Go.KL
namespace Go.KL
section
variable {n : Nat} {l : List (List Int)} {cs : List BCall} {leads many f k : Nat} {path : List Int} {s0 s : Qst} {nm : ByteArray}
end
end Go.KL

/- What a search finds: all, in order. -/
namespace Go.KL
section
variable {nm : ByteArray} {n : Nat} {l : List (List Int)} {cs : List BCall} {leads many : Nat}
end
theorem pair_getD {L : List (List Int)} {R : List Int → List Int → Prop} (h : L.Pairwise R) {i j : Nat} (hij : i < j) (hj : j < L.length) : R (L.getD i []) (L.getD j []) := by
  have := List.pairwise_iff_getElem.1 h i j (by omega) hj hij
  simpa [show i < L.length by omega, hj] using this
theorem behind {L : List (List Int)} (h : L.Pairwise fun a b => belowL a b = true) {m : Nat} (hm : 1 ≤ m) {g : List Int} (hg : g ∈ L) (hn : g ∉ L.take m) : (L.take m).length = m ∧ belowL ((L.take m).getD (m - 1) []) g = true := by
  have hg2 : g ∈ L.drop m := by
    rw [← List.take_append_drop m L, List.mem_append] at hg
    exact hg.resolve_left hn
  obtain ⟨j, hj, rfl⟩ := List.getElem_of_mem hg2
  rw [List.length_drop] at hj
  have hlen : (L.take m).length = m := by rw [List.length_take]; omega
  refine ⟨hlen, ?_⟩
  have := pair_getD h (i := m - 1) (j := m + j) (by omega) (by omega)
  rw [List.getElem_drop]
  rw [getD_takeD [] (by omega)]
  simpa [show m + j < L.length by omega] using this
/-! ### What is made of raw numbers -/
theorem leads_in {raw : List Int} {many calls : Nat} (hc : 0 < calls) : (∀ y ∈ leadsOf raw many calls, 0 ≤ y ∧ y < (calls : Int)) := by
  intro y hy
  obtain ⟨i, _, rfl⟩ := List.mem_map.1 hy
  have := pick_lt (rawAt raw i) hc
  omega
end Go.KL

/- A region in whatever order, one operation of which writes: the others neither read nor write what it writes. -/
namespace Go.KL
open Go.RowKit
variable {P : Program}

theorem half_any3 {m N : Nat} {ops : Array Oper} {Q : Exit → Act → World → Prop} (hF : Form N ops) (hm : m ≤ ops.size) (hB : forcedB m ops.toList = true) (M : (Nat → Bool) → Act → GW → Prop)
    (hstep : ∀ (i : Nat) o (L : Nat → Bool) a σ (K : Act → World → Prop), ops[i]? = some o → i < m → M L a σ → L i = false → (∀ e ∈ o.after, Region.binds .any e = true → L e.on = true) →
      (∀ (j : Nat) oj, ops[j]? = some oj → L j = true → ∀ e ∈ oj.after, Region.binds .any e = true → L e.on = true) → (∀ a' σ', M (fun j => L j || j == i) a' σ' → K a' σ'.w) → wpOp P ops Q i K a σ.w)
    (hQ : ∀ a σ, M (fun j => decide (j < m)) a σ → wpList P ops Q (ops.toList.drop m) a σ.w) : ∀ (f : Nat) (L : Array Bool) (a : Act) (σ : GW), L.size = ops.size → left ops.size L ≤ f → (∀ j, j < ops.size → m ≤ j → L.getD j true = false) →
    (∀ (j : Nat) oj, ops[j]? = some oj → L.getD j true = true → ∀ e ∈ oj.after, Region.binds .any e = true → L.getD e.on true = true) → M (fun j => decide (j < m) && L.getD j true) a σ → wpAny P .any ops Q f L a σ.w := by
  intro f
  induction f with
  | zero =>
    intro L a σ hs hf hLm hcl hmid
    have hnone : ∀ j, j < ops.size → L.getD j true = true := fun j hj => by
      cases h : L.getD j true with
      | true => rfl
      | false => have := left_set hs hj h; omega
    have hmm : m = ops.size := by
      rcases Nat.lt_or_ge m ops.size with h | h
      · have := hnone m h; rw [hLm m h (Nat.le_refl _)] at this; cases this
      · omega
    have e : (fun j => decide (j < m) && L.getD j true) = (fun j => decide (j < m)) := by
      funext j
      by_cases h : j < m
      · rw [hnone j (by omega)]; simp
      · simp [h]
    rw [e] at hmid
    exact tail_any hF hB 0 m 0 L a σ.w (by omega) (Nat.le_refl _) hs (Nat.le_refl _) (fun j hj => by rw [hnone j hj]; simp; omega) (hQ a σ hmid)
  | succ f ih =>
    intro L a σ hs hf hLm hcl hmid
    by_cases hdone : ∀ j, j < m → L.getD j true = true
    · have hL : ∀ j, j < ops.size → L.getD j true = decide (j < m) := fun j hj => by
        by_cases h : j < m
        · rw [hdone j h]; simp [h]
        · rw [hLm j hj (by omega)]; simp [h]
      have e : (fun j => decide (j < m) && L.getD j true) = (fun j => decide (j < m)) := by
        funext j
        by_cases h : j < m
        · rw [hdone j h]; simp
        · simp [h]
      rw [e] at hmid
      refine tail_any hF hB (ops.size - m) m (f + 1) L a σ.w (by omega) (Nat.le_refl _) hs ?_ hL (hQ a σ hmid)
      refine Nat.le_trans ?_ hf
      unfold left
      have : (List.range ops.size).countP (fun i => !L.getD i true) = (List.range ops.size).countP (fun i => decide (m ≤ i)) := List.countP_congr fun i hi => by rw [hL i (List.mem_range.1 hi)]; simp
      rw [this]
      have hcnt : ∀ n, (List.range n).countP (fun i => decide (m ≤ i)) = n - m := fun n => by
        induction n with
        | zero => simp
        | succ n ihn =>
          rw [List.range_succ, List.countP_append, ihn]
          by_cases h : m ≤ n <;> simp [h] <;> omega
      rw [hcnt]
      exact Nat.le_refl _
    · have hsome : ∃ j, j < m ∧ L.getD j true = false := by
        refine Classical.byContradiction fun hn => hdone fun j hj => ?_
        cases h : L.getD j true with
        | true => rfl
        | false => exact absurd ⟨j, hj, h⟩ hn
      have up : ∀ k, L.getD k false = true → L.getD k true = true := fun k h => by
        by_cases hk : k < L.size
        · simp [hk] at h ⊢; exact h
        · simp [hk] at h
      refine ⟨fun hr => ?_, fun i hi => ?_⟩
      · exfalso
        have key : ∀ j, j < m → L.getD j true = true := by
          intro j
          induction j using Nat.strongRecOn with
          | _ j ihj =>
          intro hj
          cases hL : L.getD j true with
          | true => rfl
          | false =>
            exfalso
            obtain ⟨o, ho⟩ : ∃ o, ops[j]? = some o := ⟨ops[j]'(by omega), by simp⟩
            have : j ∈ Region.ready .any ops L := mem_ready.2 ⟨hL, o, ho, fun e he hb => by
              have hlt := hF.back j o ho e he hb
              have := ihj e.on hlt (Nat.lt_trans hlt hj)
              have hsz : e.on < L.size := by rw [hs]; omega
              simp [hsz] at this ⊢; exact this⟩
            rw [hr] at this; cases this
        exact hdone key
      · obtain ⟨h0, o, ho, hall⟩ := mem_ready.1 hi
        have hi' : i < ops.size := (Array.getElem?_eq_some_iff.1 ho).1
        have him : i < m := by
          rcases Nat.lt_or_ge i m with h | h
          · exact h
          · exfalso
            obtain ⟨j, hj, hjL⟩ := hsome
            have := forced_spec (L := fun j => decide (j < ops.size) && L.getD j true) hB (fun j oj hj hLj e he hb => by
              simp only [Bool.and_eq_true, decide_eq_true_eq] at hLj ⊢
              exact ⟨by have := hF.back j oj hj e he hb; omega, hcl j oj hj hLj.2 e he hb⟩) ho h (fun e he hb => by
              simp only [Bool.and_eq_true, decide_eq_true_eq]
              exact ⟨by have := hF.back i o ho e he hb; omega, up _ (hall e he hb)⟩) j (by omega)
            simp only [Bool.and_eq_true] at this
            rw [hjL] at this; cases this.2
        refine hstep i o _ a σ _ ho him hmid (by simp [h0]) (fun e he hb => ?_) (fun j oj hj hLj e he hb => ?_) fun a' σ' hm' => ih _ a' σ' (by simpa using hs) (by have := left_set hs hi' h0; omega) (fun j hj hmj => ?_) ?_ ?_
        · have := hF.back i o ho e he hb
          simp only [up _ (hall e he hb), Bool.and_true, decide_eq_true_eq]; omega
        · simp only [Bool.and_eq_true, decide_eq_true_eq] at hLj ⊢
          exact ⟨by have := hF.back j oj hj e he hb; omega, hcl j oj hj hLj.2 e he hb⟩
        · rw [getD_set_ne true (by omega)]; exact hLm j hj hmj
        · intro j oj hj hLj e he hb
          by_cases hji : j = i
          · subst hji
            rw [ho] at hj; cases hj
            have hne := hF.back j o ho e he hb
            rw [getD_set_ne true (by omega)]
            exact up _ (hall e he hb)
          · rw [getD_set_ne true (Ne.symm hji)] at hLj
            have := hcl j oj hj hLj e he hb
            by_cases hei : e.on = i
            · rw [hei, h0] at this; cases this
            · rw [getD_set_ne true (Ne.symm hei)]; exact this
        · have : (fun j => (decide (j < m) && L.getD j true) || j == i) = (fun j => decide (j < m) && (L.setIfInBounds i true).getD j true) := by
            funext j
            by_cases hji : j = i
            · subst hji; simp [him, hs, hi']
            · rw [getD_set_ne true (Ne.symm hji)]; simp [hji]
          rwa [this] at hm'

theorem half_seq3 {m N : Nat} {ops : Array Oper} {Q : Exit → Act → World → Prop} (hF : Form N ops) (hm : m ≤ ops.size) (M : (Nat → Bool) → Act → GW → Prop)
    (hstep : ∀ (i : Nat) o (L : Nat → Bool) a σ (K : Act → World → Prop), ops[i]? = some o → i < m → M L a σ → L i = false → (∀ e ∈ o.after, Region.binds .any e = true → L e.on = true) →
      (∀ (j : Nat) oj, ops[j]? = some oj → L j = true → ∀ e ∈ oj.after, Region.binds .any e = true → L e.on = true) → (∀ a' σ', M (fun j => L j || j == i) a' σ' → K a' σ'.w) → wpOp P ops Q i K a σ.w)
    (hQ : ∀ a σ, M (fun j => decide (j < m)) a σ → wpOps P ops Q (List.range' m (ops.size - m)) a σ.w) : ∀ (n k : Nat) (a : Act) (σ : GW), k + n = m → M (fun j => decide (j < k)) a σ → wpOps P ops Q (List.range' k (n + (ops.size - m))) a σ.w
  | 0, k, a, σ, hk, hmid => by
    obtain rfl : k = m := by omega
    rw [Nat.zero_add]
    exact hQ a σ hmid
  | n + 1, k, a, σ, hk, hmid => by
    rw [show n + 1 + (ops.size - m) = (n + (ops.size - m)) + 1 by omega, List.range'_succ, wpOps_cons]
    obtain ⟨o, ho⟩ : ∃ o, ops[k]? = some o := ⟨ops[k]'(by omega), by simp⟩
    refine hstep k o _ a σ _ ho (by omega) hmid (by simp) (fun e he hbi => by simpa using hF.back k o ho e he hbi)
      (fun j oj hj hlt e he hbi => by have := hF.back j oj hj e he hbi; simp at hlt ⊢; omega) fun a' σ' hm' => half_seq3 hF hm M hstep hQ n (k + 1) a' σ' (by omega) ?_
    have : (fun j => decide (j < k) || j == k) = (fun j => decide (j < k + 1)) := by
      funext j; rw [Bool.eq_iff_iff]; simp; omega
    rwa [this] at hm'

def Ty.any : Ty := ⟨fun _ _ => True, fun _ h => h⟩

structure Mid3 (p d N : Nat) (W : List Nat) (B : Pr) (ops : Array Oper) (Φ : Nat → Ty) (a0 : Act) (σ0 : GW) (L : Nat → Bool) (a : Act) (σ : GW) : Prop where
  stp : StpL W σ0 σ
  stp0 : L p = false → Stp 0 σ0 σ
  ok : Ok N a
  done : ∀ j, L j = true → j ≠ p → rd ops (fun i => (Φ i).pr) j a σ
  donep : L p = true → B.has σ (a.eval (.tmp d))
  same : ∀ t, (∀ j, dstOf ops j = some t → L j = false) → a.eval (.tmp t) = a0.eval (.tmp t)

def Obl3 (P : Program) (N : Nat) (W : List Nat) (ops : Array Oper) (Φ : Nat → Ty) (a0 : Act) (σ0 : GW) (i : Nat) (o : Oper) : Prop :=
  ∀ a σ, StpL W σ0 σ → Ok N a → (∀ t, free ops i t = true → a.eval (.tmp t) = a0.eval (.tmp t)) → Deps ops (fun i => (Φ i).pr) a σ o.after.toList (Run P ops o a σ (Φ i).pr)
def OblW (P : Program) (N : Nat) (W : List Nat) (B : Pr) (ops : Array Oper) (Φ : Nat → Ty) (a0 : Act) (σ0 : GW) (i : Nat) (o : Oper) : Prop :=
  ∀ a σ, Stp 0 σ0 σ → Ok N a → (∀ t, free ops i t = true → a.eval (.tmp t) = a0.eval (.tmp t)) → Deps ops (fun i => (Φ i).pr) a σ o.after.toList (YldL W P o a σ (fun v τ => B.has τ v))
def Obls3 (P : Program) (p N : Nat) (W : List Nat) (B : Pr) (ops : Array Oper) (Φ : Nat → Ty) (a0 : Act) (σ0 : GW) : Nat → List Oper → Prop
  | _, [] => True
  | i, o :: l => (if i = p then OblW P N W B ops Φ a0 σ0 i o else Obl3 P N W ops Φ a0 σ0 i o) ∧ Obls3 P p N W B ops Φ a0 σ0 (i + 1) l
theorem Obls3.get {p N : Nat} {W : List Nat} {B : Pr} {ops : Array Oper} {Φ : Nat → Ty} {a0 : Act} {σ0 : GW} : ∀ (l : List Oper) (k : Nat), Obls3 P p N W B ops Φ a0 σ0 k l → ∀ j o, l[j]? = some o → (if k + j = p then OblW P N W B ops Φ a0 σ0 (k + j) o else Obl3 P N W ops Φ a0 σ0 (k + j) o)
  | [], _, _, j, o, h => by simp at h
  | x :: l, k, h, 0, o, hj => by simp at hj; subst hj; exact h.1
  | x :: l, k, h, j + 1, o, hj => by
    have := Obls3.get l (k + 1) h.2 j o (by simpa using hj)
    rwa [show k + 1 + j = k + (j + 1) by omega] at this
theorem Obls3.up {p N : Nat} {W : List Nat} {B : Pr} {ops : Array Oper} {Φ : Nat → Ty} {a0 : Act} {σ0 σ1 : GW} (hs : Stp 0 σ0 σ1) : ∀ (l : List Oper) (k : Nat), Obls3 P p N W B ops Φ a0 σ0 k l → Obls3 P p N W B ops Φ a0 σ1 k l
  | [], _, _ => trivial
  | x :: l, k, h => by
    refine ⟨?_, Obls3.up hs l (k + 1) h.2⟩
    have h1 := h.1
    split at h1
    · rename_i e; rw [if_pos e]; exact fun a σ hs' => h1 a σ (hs.trans hs')
    · rename_i e; rw [if_neg e]; exact fun a σ hs' => h1 a σ (hs.toL0.trans hs')

theorem Mid3.op {p d N : Nat} {W : List Nat} {B : Pr} {ops : Array Oper} {Φ : Nat → Ty} {a0 : Act} {σ0 : GW} {L : Nat → Bool} {a : Act} {σ : GW} {i : Nat} {o : Oper} {Q : Exit → Act → World → Prop} {K : Act → World → Prop}
    (hF : Form N ops) (h1 : 1 ∉ W) (hp : dstOf ops p = some d) (hΦ : ∀ e v, (Φ p).has e v) (hpg : ∀ o, ops[p]? = some o → o.guard = none) (hm : Mid3 p d N W B ops Φ a0 σ0 L a σ) (ho : ops[i]? = some o) (hL : L i = false)
    (hob : if i = p then OblW P N W B ops Φ a0 σ0 i o else Obl3 P N W ops Φ a0 σ0 i o)
    (hall : ∀ e ∈ o.after, Region.binds .any e = true → L e.on = true) (hclosed : ∀ (j : Nat) oj, ops[j]? = some oj → L j = true → ∀ e ∈ oj.after, Region.binds .any e = true → L e.on = true)
    (hK : ∀ a' σ', Mid3 p d N W B ops Φ a0 σ0 (fun j => L j || j == i) a' σ' → K a' σ'.w) : wpOp P ops Q i K a σ.w := by
  have hdi : dstOf ops i = o.dst := by simp [dstOf, ho]
  have hsame : ∀ t, free ops i t = true → a.eval (.tmp t) = a0.eval (.tmp t) := by
    intro t ht
    refine hm.same t fun j hj => ?_
    cases hLj : L j with
    | false => rfl
    | true =>
      exfalso
      unfold dstOf at hj
      obtain ⟨oj, hoj, hd⟩ := Option.bind_eq_some_iff.1 hj
      unfold free at ht
      have := (List.all_eq_true.1 ht) oj (List.mem_of_getElem? hoj)
      simp only [hd, bne_self_eq_false, Bool.false_or, List.any_eq_true, Bool.and_eq_true, beq_iff_eq] at this
      obtain ⟨e, he, hb, hon⟩ := this
      have := hclosed j oj (by simpa using hoj) hLj e (by simpa using he) hb
      rw [hon, hL] at this
      cases this
  have hdeps : ∀ e ∈ o.after.toList, Region.binds .any e = true → rd ops (fun i => (Φ i).pr) e.on a σ := fun e he hb => by
    by_cases hep : e.on = p
    · rw [hep]; unfold rd; rw [hp]; exact hΦ _ _
    · exact hm.done e.on (hall e (by simpa using he) hb) hep
  -- whatever step of whichever kind: what holds behind it
  have done' : ∀ v (τ : GW), σ.Le τ → (i ≠ p → (Φ i).has τ v) → ∀ j, (L j || j == i) = true → j ≠ p → rd ops (fun i => (Φ i).pr) j (a.put o.dst v) τ := by
    intro v τ hle hv j hLj hjp
    by_cases hji : j = i
    · subst hji
      unfold rd
      cases hd : dstOf ops j with
      | none => trivial
      | some d =>
        have : o.dst = some d := by rw [← hdi]; exact hd
        simp only [this]
        rw [eval_put_same hm.ok (hF.lt j d hd)]
        exact hv hjp
    · have hLj' : L j = true := by simpa [hji] using hLj
      have h0 := hm.done j hLj' hjp
      unfold rd at h0 ⊢
      cases hd : dstOf ops j with
      | none => trivial
      | some d =>
        rw [hd] at h0
        simp only at h0 ⊢
        rw [eval_put_ne (fun he => hji (hF.uniq j i d hd (by rw [hdi]; exact he)))]
        exact (Φ j).up hle h0
  have same' : ∀ v t, (∀ j, dstOf ops j = some t → (L j || j == i) = false) → (a.put o.dst v).eval (.tmp t) = a0.eval (.tmp t) := by
    intro v t ht
    have h1 : o.dst ≠ some t := fun he => by
      have := ht i (by rw [hdi]; exact he)
      simp at this
    rw [eval_put_ne h1]
    exact hm.same t fun j hj => by
      have := ht j hj
      simp at this
      exact this.1
  by_cases hip : i = p
  · subst hip
    rw [if_pos rfl] at hob
    have hy := Deps.elim o.after.toList hdeps (hob a σ (hm.stp0 hL) hm.ok hsame)
    unfold wpOp
    simp only [ho]
    have hw : Region.wanted o (yielded ops a.tmps) = true := by simp [Region.wanted, hpg o ho]
    rw [if_pos hw]
    refine .inl (hy K Q fun v τ hs hr => hK _ τ ⟨hm.stp.trans hs, fun h => (by simp at h), hm.ok.put _ _, done' v τ (hs.le h1) (fun h => absurd rfl h), fun _ => ?_, same' v⟩)
    have : o.dst = some d := by rw [← hdi]; exact hp
    rw [this, eval_put_same hm.ok (hF.lt i d hp)]
    exact hr
  · rw [if_neg hip] at hob
    have hrun := Deps.elim o.after.toList hdeps (hob a σ hm.stp hm.ok hsame)
    have next : ∀ v τ, Stp 0 σ τ → (Φ i).has τ v → K (a.put o.dst v) τ.w := by
      intro v τ hs hv
      refine hK _ τ ⟨hm.stp.trans hs.toL0, fun h => ?_, hm.ok.put _ _, done' v τ hs.le0 (fun _ => hv), fun h => ?_, same' v⟩
      · simp at h; exact (hm.stp0 h.1).trans hs
      · have hLp : L p = true := by simpa [Ne.symm hip] using h
        rw [eval_put_ne (fun he => hip (hF.uniq i p d (by rw [hdi]; exact he) hp))]
        exact B.up hs (hm.donep hLp)
    unfold wpOp
    simp only [ho]
    by_cases hw : Region.wanted o (yielded ops a.tmps) = true
    · rw [if_pos hw]
      exact .inl (hrun.1 hw K Q next)
    · rw [if_neg hw]
      exact next undef σ (Stp.refl _ _) (hrun.2 (by simpa using hw))

theorem obR3 {i p : Nat} {A B : Prop} (h : i ≠ p) (k : B) : if i = p then A else B := by rw [if_neg h]; exact k
theorem obR3w {i p : Nat} {A B : Prop} (h : i = p) (k : A) : if i = p then A else B := by rw [if_pos h]; exact k

structure Half3 (m d N : Nat) (W : List Nat) (B : Pr) (ops : Array Oper) (Φ : Nat → Ty) (a0 : Act) (σ0 : GW) (a : Act) (σ : GW) : Prop where
  stp : StpL W σ0 σ
  ok : Ok N a
  done : ∀ j, j < m → rd ops (fun i => (Φ i).pr) j a σ
  donep : B.has σ (a.eval (.tmp d))
  same : ∀ t, ((ops.toList.take m).all fun o => o.dst != some t) = true → a.eval (.tmp t) = a0.eval (.tmp t)

theorem Mid3.half {m p d N : Nat} {W : List Nat} {B : Pr} {ops : Array Oper} {Φ : Nat → Ty} {a0 : Act} {σ0 : GW} {a : Act} {σ : GW} (h : Mid3 p d N W B ops Φ a0 σ0 (fun j => decide (j < m)) a σ) (hpm : p < m) (hp : dstOf ops p = some d) (hΦ : ∀ e v, (Φ p).has e v) : Half3 m d N W B ops Φ a0 σ0 a σ := by
  refine ⟨h.stp, h.ok, fun j hj => ?_, h.donep (by simpa using hpm), fun t ht => h.same t fun j hj => ?_⟩
  · by_cases hjp : j = p
    · rw [hjp]; unfold rd; rw [hp]; exact hΦ _ _
    · exact h.done j (by simpa using hj) hjp
  · by_cases hjm : j < m
    · obtain ⟨o, ho, hd⟩ := Option.bind_eq_some_iff.1 hj
      have := (List.all_eq_true.1 ht) o (List.mem_of_getElem? (i := j) (by rw [List.getElem?_take, if_pos hjm]; exact ho))
      simp [hd] at this
    · simpa using hjm

theorem reg3 {N : Nat} {ops : Array Oper} {id : Nat} {draw : Bool} {Q : Exit → Act → World → Prop} {a : Act} {σ : GW} (hP : P.follows .mixedOrders = true) (m p d : Nat) (W : List Nat) (h1 : 1 ∉ W) (B : Pr) (Φ : Nat → Ty) (ok : Ok N a) (hF : formB N ops = true) (hm : m ≤ ops.size) (hB : (!draw || forcedB m ops.toList) = true)
    (hpm : p < m) (hp : dstOf ops p = some d) (hΦ : ∀ e v, (Φ p).has e v) (hpg : (ops.toList[p]?).all (fun o => o.guard.isNone) = true) (hob : Obls3 P p N W B ops Φ a σ 0 (ops.toList.take m))
    (hQ : ∀ a' σ', Half3 m d N W B ops Φ a σ a' σ' → wpList P ops Q (ops.toList.drop m) a' σ'.w) : (Code.region id ops draw).wp P Q a σ.w := by
  have hF' := Form.of_B hF
  have hpg' : ∀ o, ops[p]? = some o → o.guard = none := fun o ho => by
    rw [show ops.toList[p]? = some o by simpa using ho] at hpg
    simpa using hpg
  have step : ∀ σ0, Stp 0 σ σ0 → ∀ (i : Nat) o (L : Nat → Bool) a' σ' (K : Act → World → Prop), ops[i]? = some o → i < m → Mid3 p d N W B ops Φ a σ0 L a' σ' → L i = false → (∀ e ∈ o.after, Region.binds .any e = true → L e.on = true) →
      (∀ (j : Nat) oj, ops[j]? = some oj → L j = true → ∀ e ∈ oj.after, Region.binds .any e = true → L e.on = true) → (∀ a' σ', Mid3 p d N W B ops Φ a σ0 (fun j => L j || j == i) a' σ' → K a' σ'.w) → wpOp P ops Q i K a' σ'.w :=
    fun σ0 hs i o L a' σ' K ho him hmid hL hall hcl hK => Mid3.op hF' h1 hp hΦ hpg' hmid ho hL
      (by simpa using Obls3.get (ops.toList.take m) 0 (Obls3.up hs _ _ hob) i o (by rw [List.getElem?_take, if_pos him]; simpa using ho)) hall hcl hK
  have start : ∀ σ0, Mid3 p d N W B ops Φ a σ0 (fun _ => false) a σ0 := fun σ0 => ⟨StpL.refl _ _, fun _ => Stp.refl _ _, ok, fun _ h => (by cases h), fun h => (by cases h), fun _ _ => rfl⟩
  cases draw with
  | false =>
    refine wp_region ?_
    rw [List.range_eq_range']
    have := half_seq3 (Q := Q) hF' hm (Mid3 p d N W B ops Φ a σ) (step σ (Stp.refl _ _)) (fun a' σ' h => ?_) m 0 a σ (by simp) (by have := start σ; simpa using this)
    · rwa [show m + (ops.size - m) = ops.size by omega] at this
    · have := wpOps_eq_wpList (P := P) (ops := ops) (Q := Q) (ops.toList.drop m) m (fun j => by rw [List.getElem?_drop]; simp)
      rw [show (ops.toList.drop m).length = ops.size - m by simp] at this
      rw [this]
      exact hQ a' σ' (h.half hpm hp hΦ)
  | true =>
    refine wp_region_any hP ?_
    have hd := Stp.drew σ
    refine half_any3 hF' hm (by simpa using hB) (Mid3 p d N W B ops Φ a σ.drew) (step σ.drew hd) (fun a' σ' h => ?_) _ _ a σ.drew (by simp) (Nat.le_trans List.countP_le_length (by simp)) ?_ ?_ ?_
    · have h2 := h.half hpm hp hΦ
      exact hQ a' σ' ⟨hd.toL0.trans h2.stp, h2.ok, h2.done, h2.donep, h2.same⟩
    · intro j hj _; simp [hj]
    · intro j oj hj h
      have : j < ops.size := (Array.getElem?_eq_some_iff.1 hj).1
      simp [this] at h
    · have e : (fun j => decide (j < m) && (Array.replicate ops.size false).getD j true) = fun _ => false := by
        funext j; by_cases hj : j < ops.size
        · simp [hj]
        · simp; omega
      rw [e]; exact start σ.drew
theorem Half3.kt {m d N : Nat} {W : List Nat} {B : Pr} {ops : Array Oper} {Φ : Nat → Ty} {a0 a : Act} {σ0 σ : GW} {T : Ty} {t : Nat} (h : Half3 m d N W B ops Φ a0 σ0 a σ) (h1 : 1 ∉ W) (k : T.has σ0 (a0.eval (.tmp t))) (ht : ((ops.toList.take m).all fun o => o.dst != some t) = true) : T.has σ (a.eval (.tmp t)) := by
  rw [h.same t ht]; exact T.up (h.stp.le h1) k
end Go.KL

/- A region in whatever order, of which one operation stores into what another one has made. -/
namespace Go.KL
open Go.RowKit
variable {P : Program}

/-! ### The operation that writes is a store into what an operation of the region has made -/
structure Mid4 (p q d N : Nat) (W : List Nat) (A B : Pr) (ops : Array Oper) (Φ : Nat → Ty) (a0 : Act) (σ0 : GW) (L : Nat → Bool) (a : Act) (σ : GW) : Prop where
  stp : StpL W σ0 σ
  stp0 : L p = false → Stp 0 σ0 σ
  ok : Ok N a
  done : ∀ j, L j = true → rd ops (fun i => (Φ i).pr) j a σ
  doneq : L q = true → L p = false → A.has σ (a.eval (.tmp d))
  donep : L p = true → B.has σ (a.eval (.tmp d))
  same : ∀ t, (∀ j, dstOf ops j = some t → L j = false) → a.eval (.tmp t) = a0.eval (.tmp t)

def OblQ (P : Program) (N : Nat) (A : Pr) (ops : Array Oper) (Φ : Nat → Ty) (a0 : Act) (σ0 : GW) (i : Nat) (o : Oper) : Prop :=
  ∀ a σ, Stp 0 σ0 σ → Ok N a → (∀ t, free ops i t = true → a.eval (.tmp t) = a0.eval (.tmp t)) → Deps ops (fun i => (Φ i).pr) a σ o.after.toList (Run P ops o a σ A)
def OblS (P : Program) (N d : Nat) (W : List Nat) (A B : Pr) (ops : Array Oper) (Φ : Nat → Ty) (a0 : Act) (σ0 : GW) (i : Nat) (o : Oper) : Prop :=
  ∀ a σ, Stp 0 σ0 σ → Ok N a → (∀ t, free ops i t = true → a.eval (.tmp t) = a0.eval (.tmp t)) → A.has σ (a.eval (.tmp d)) → Deps ops (fun i => (Φ i).pr) a σ o.after.toList (YldL W P o a σ (fun _ τ => B.has τ (a.eval (.tmp d))))
def Obls4 (P : Program) (p q d N : Nat) (W : List Nat) (A B : Pr) (ops : Array Oper) (Φ : Nat → Ty) (a0 : Act) (σ0 : GW) : Nat → List Oper → Prop
  | _, [] => True
  | i, o :: l => (if i = p then OblS P N d W A B ops Φ a0 σ0 i o else if i = q then OblQ P N A ops Φ a0 σ0 i o else Obl3 P N W ops Φ a0 σ0 i o) ∧ Obls4 P p q d N W A B ops Φ a0 σ0 (i + 1) l
theorem Obls4.get {p q d N : Nat} {W : List Nat} {A B : Pr} {ops : Array Oper} {Φ : Nat → Ty} {a0 : Act} {σ0 : GW} : ∀ (l : List Oper) (k : Nat), Obls4 P p q d N W A B ops Φ a0 σ0 k l → ∀ j o, l[j]? = some o →
    (if k + j = p then OblS P N d W A B ops Φ a0 σ0 (k + j) o else if k + j = q then OblQ P N A ops Φ a0 σ0 (k + j) o else Obl3 P N W ops Φ a0 σ0 (k + j) o)
  | [], _, _, j, o, h => by simp at h
  | x :: l, k, h, 0, o, hj => by simp at hj; subst hj; exact h.1
  | x :: l, k, h, j + 1, o, hj => by
    have := Obls4.get l (k + 1) h.2 j o (by simpa using hj)
    rwa [show k + 1 + j = k + (j + 1) by omega] at this
theorem Obls4.up {p q d N : Nat} {W : List Nat} {A B : Pr} {ops : Array Oper} {Φ : Nat → Ty} {a0 : Act} {σ0 σ1 : GW} (hs : Stp 0 σ0 σ1) : ∀ (l : List Oper) (k : Nat), Obls4 P p q d N W A B ops Φ a0 σ0 k l → Obls4 P p q d N W A B ops Φ a0 σ1 k l
  | [], _, _ => trivial
  | x :: l, k, h => by
    refine ⟨?_, Obls4.up hs l (k + 1) h.2⟩
    have h1 := h.1
    split at h1
    · rename_i e; rw [if_pos e]; exact fun a σ hs' => h1 a σ (hs.trans hs')
    · rename_i e
      rw [if_neg e]
      split at h1
      · rename_i e; rw [if_pos e]; exact fun a σ hs' => h1 a σ (hs.trans hs')
      · rename_i e; rw [if_neg e]; exact fun a σ hs' => h1 a σ (hs.toL0.trans hs')

theorem Mid4.op {p q d N : Nat} {W : List Nat} {A B : Pr} {ops : Array Oper} {Φ : Nat → Ty} {a0 : Act} {σ0 : GW} {L : Nat → Bool} {a : Act} {σ : GW} {i : Nat} {o : Oper} {Q : Exit → Act → World → Prop} {K : Act → World → Prop}
    (hF : Form N ops) (h1 : 1 ∉ W) (hp : dstOf ops p = none) (hq : dstOf ops q = some d) (hpq : p ≠ q) (hΦ : ∀ e v, (Φ q).has e v) (hpg : ∀ o, ops[p]? = some o → o.guard = none ∧ ∃ e ∈ o.after, Region.binds .any e = true ∧ e.on = q) (hm : Mid4 p q d N W A B ops Φ a0 σ0 L a σ) (ho : ops[i]? = some o) (hL : L i = false)
    (hpo : ∃ o, ops[p]? = some o)
    (hob : if i = p then OblS P N d W A B ops Φ a0 σ0 i o else if i = q then OblQ P N A ops Φ a0 σ0 i o else Obl3 P N W ops Φ a0 σ0 i o)
    (hall : ∀ e ∈ o.after, Region.binds .any e = true → L e.on = true) (hclosed : ∀ (j : Nat) oj, ops[j]? = some oj → L j = true → ∀ e ∈ oj.after, Region.binds .any e = true → L e.on = true)
    (hK : ∀ a' σ', Mid4 p q d N W A B ops Φ a0 σ0 (fun j => L j || j == i) a' σ' → K a' σ'.w) : wpOp P ops Q i K a σ.w := by
  have hdi : dstOf ops i = o.dst := by simp [dstOf, ho]
  have hsame : ∀ t, free ops i t = true → a.eval (.tmp t) = a0.eval (.tmp t) := by
    intro t ht
    refine hm.same t fun j hj => ?_
    cases hLj : L j with
    | false => rfl
    | true =>
      exfalso
      unfold dstOf at hj
      obtain ⟨oj, hoj, hd⟩ := Option.bind_eq_some_iff.1 hj
      unfold free at ht
      have := (List.all_eq_true.1 ht) oj (List.mem_of_getElem? hoj)
      simp only [hd, bne_self_eq_false, Bool.false_or, List.any_eq_true, Bool.and_eq_true, beq_iff_eq] at this
      obtain ⟨e, he, hb, hon⟩ := this
      have := hclosed j oj (by simpa using hoj) hLj e (by simpa using he) hb
      rw [hon, hL] at this
      cases this
  have hLpq : L p = true → L q = true := fun h => by
    obtain ⟨op, hop⟩ := hpo
    obtain ⟨_, e, he, hb, hon⟩ := hpg op hop
    rw [← hon]; exact hclosed p op hop h e he hb
  have hdeps : ∀ e ∈ o.after.toList, Region.binds .any e = true → rd ops (fun i => (Φ i).pr) e.on a σ := fun e he hb => hm.done e.on (hall e (by simpa using he) hb)
  have done' : ∀ v (τ : GW), σ.Le τ → ((Φ i).has τ v ∨ dstOf ops i = none) → ∀ j, (L j || j == i) = true → rd ops (fun i => (Φ i).pr) j (a.put o.dst v) τ := by
    intro v τ hle hv j hLj
    by_cases hji : j = i
    · subst hji
      unfold rd
      cases hd : dstOf ops j with
      | none => trivial
      | some d =>
        have : o.dst = some d := by rw [← hdi]; exact hd
        simp only [this]
        rw [eval_put_same hm.ok (hF.lt j d hd)]
        exact hv.resolve_right (by rw [hd]; simp)
    · have hLj' : L j = true := by simpa [hji] using hLj
      have h0 := hm.done j hLj'
      unfold rd at h0 ⊢
      cases hd : dstOf ops j with
      | none => trivial
      | some d =>
        rw [hd] at h0
        simp only at h0 ⊢
        rw [eval_put_ne (fun he => hji (hF.uniq j i d hd (by rw [hdi]; exact he)))]
        exact (Φ j).up hle h0
  have same' : ∀ v t, (∀ j, dstOf ops j = some t → (L j || j == i) = false) → (a.put o.dst v).eval (.tmp t) = a0.eval (.tmp t) := by
    intro v t ht
    have h1 : o.dst ≠ some t := fun he => by
      have := ht i (by rw [hdi]; exact he)
      simp at this
    rw [eval_put_ne h1]
    exact hm.same t fun j hj => by
      have := ht j hj
      simp at this
      exact this.1
  by_cases hip : i = p
  · subst hip
    rw [if_pos rfl] at hob
    obtain ⟨hg, e, he, hb, hon⟩ := hpg o ho
    have hLq : L q = true := by rw [← hon]; exact hall e he hb
    have hy := Deps.elim o.after.toList hdeps (hob a σ (hm.stp0 hL) hm.ok hsame (hm.doneq hLq hL))
    have hdn : o.dst = none := by rw [← hdi]; exact hp
    unfold wpOp
    simp only [ho]
    have hw : Region.wanted o (yielded ops a.tmps) = true := by simp [Region.wanted, hg]
    rw [if_pos hw]
    refine .inl (hy K Q fun v τ hs hr => hK _ τ ⟨hm.stp.trans hs, fun h => (by simp at h), hm.ok.put _ _, done' v τ (hs.le h1) (.inr hp), fun _ h => (by simp at h), fun _ => ?_, same' v⟩)
    rw [hdn]
    exact hr
  · rw [if_neg hip] at hob
    by_cases hiq : i = q
    · subst hiq
      rw [if_pos rfl] at hob
      have hLp : L p = false := by
        cases h : L p with
        | false => rfl
        | true => rw [hLpq h] at hL; cases hL
      have hrun := Deps.elim o.after.toList hdeps (hob a σ (hm.stp0 hLp) hm.ok hsame)
      have next : ∀ v τ, Stp 0 σ τ → A.has τ v → K (a.put o.dst v) τ.w := by
        intro v τ hs hv
        refine hK _ τ ⟨hm.stp.trans hs.toL0, fun _ => (hm.stp0 hLp).trans hs, hm.ok.put _ _, done' v τ hs.le0 (.inl (hΦ _ _)), fun _ _ => ?_, fun h => ?_, same' v⟩
        · have : o.dst = some d := by rw [← hdi]; exact hq
          rw [this, eval_put_same hm.ok (hF.lt i d hq)]
          exact hv
        · rw [hLp] at h
          simp at h; exact absurd h hpq
      unfold wpOp
      simp only [ho]
      by_cases hw : Region.wanted o (yielded ops a.tmps) = true
      · rw [if_pos hw]
        exact .inl (hrun.1 hw K Q next)
      · rw [if_neg hw]
        exact next undef σ (Stp.refl _ _) (hrun.2 (by simpa using hw))
    · rw [if_neg hiq] at hob
      have hrun := Deps.elim o.after.toList hdeps (hob a σ hm.stp hm.ok hsame)
      have hne : o.dst ≠ some d := fun he => hiq (hF.uniq i q d (by rw [hdi]; exact he) hq)
      have next : ∀ v τ, Stp 0 σ τ → (Φ i).has τ v → K (a.put o.dst v) τ.w := by
        intro v τ hs hv
        refine hK _ τ ⟨hm.stp.trans hs.toL0, fun h => ?_, hm.ok.put _ _, done' v τ hs.le0 (.inl hv), fun h h2 => ?_, fun h => ?_, same' v⟩
        · simp at h; exact (hm.stp0 h.1).trans hs
        · have hLq : L q = true := by simpa [Ne.symm hiq] using h
          have hLp : L p = false := by simp at h2; exact h2.1
          rw [eval_put_ne hne]
          exact A.up hs (hm.doneq hLq hLp)
        · have hLp : L p = true := by simpa [Ne.symm hip] using h
          rw [eval_put_ne hne]
          exact B.up hs (hm.donep hLp)
      unfold wpOp
      simp only [ho]
      by_cases hw : Region.wanted o (yielded ops a.tmps) = true
      · rw [if_pos hw]
        exact .inl (hrun.1 hw K Q next)
      · rw [if_neg hw]
        exact next undef σ (Stp.refl _ _) (hrun.2 (by simpa using hw))
end Go.KL

/- Plain maths: lists in order, false heads. -/
namespace Go.KL
/-! ### The order of lists -/
/-! ### Lists in order, merged -/
/-! The steps of merging -/
/-! ### Each once -/
/-! ### False heads -/
section
variable {rows : List (List Int)} {m i k : Nat}
end
/-! ### Counted by rank -/
end Go.KL

/- Both proofs agree: a touch is true row by row just when it is by the heads of its leads. -/
namespace Go.KL
/-! ### Rows as a group -/
structure RowN (n : Nat) (r : List Int) : Prop where
  row : IsRow r
  len : r.length = n
theorem RowN.bd {n : Nat} {r : List Int} (h : RowN n r) : In n r := by have := h.row.bds; rwa [h.len] at this
theorem RowN.by {n : Nat} {a b : List Int} (h : RowN n a) (k : RowN n b) : RowN n (byL a b) := ⟨byL_row h.row k.row (by rw [h.len, k.len]), by rw [byL_len, k.len]⟩
/-! ### A lead from its head -/
section
variable {nm : ByteArray} {n : Nat} {l : List (List Int)} {cs : List BCall} {p : List Int}
end
end Go.KL

/- Falseness is closed under what undoes it. -/
namespace Go.KL
/-! ### Falseness is closed under what undoes it -/
end Go.KL

/- What the law of touches that are true wants. -/
namespace Go.KL
end Go.KL

/- A callee that answers with what is new, called with what is owned. -/
namespace Go.KL
open Go.RowKit
variable {P : Program}
variable {d : Option Tmp} {ty : TypeId} {pos : String} {af : Array Edge} {g : Option (Nat × Bool)} {a : Act} {σ : GW}
end Go.KL

/- Runes, written as bytes: bits of bytes, rows of three and four new bytes. -/
namespace Go.KL
open Go.RowKit Go.Lib
section
variable {P : Program} {d : Option Tmp} {ty : TypeId} {pos : String} {af : Array Edge} {g : Option (Nat × Bool)} {a : Act} {σ : GW}
theorem wraps_u8 (n : Int) (h0 : 0 ≤ n) (h1 : n < 2 ^ 8) : IntKind.u8.wrap n = n := wrap_u8 h0 (by omega)
theorem y_or8 {x y : Operand} {t u : TypeId} {c : Int} {i m : Nat} (hx : a.eval x = .int .u8 ((m * 2 ^ i : Nat) : Int)) (hy : a.eval y = .int .u8 c) (h0 : 0 ≤ c) (h : c < 2 ^ i) (hm : m * 2 ^ i < 256) (h8 : c < 256) :
    Yld P ⟨d, .binOp .or t x y u, ty, pos, af, g⟩ a σ (Ty.val (.int .u8 (((m * 2 ^ i : Nat) : Int) + c))).pr := by
  have e : bits .or .u8 ((m * 2 ^ i : Nat) : Int) c = ((m * 2 ^ i : Nat) : Int) + c := by
    obtain ⟨n, rfl⟩ : ∃ n : Nat, c = (n : Int) := ⟨c.toNat, by omega⟩
    have hn : n < 2 ^ i := by exact_mod_cast h
    rw [(bits_nat .u8 8 (by decide) wraps_u8 (m * 2 ^ i) n (by omega) (by omega)).2]
    have := Nat.two_pow_add_eq_or_of_lt (i := i) (b := n) hn m
    rw [Nat.mul_comm m, ← this]
    exact Int.natCast_add _ _
  exact Yld.of_run (v := .int .u8 (((m * 2 ^ i : Nat) : Int) + c)) (by simp only [execOp, hx, hy]; simp only [go_sem, e]; try rfl) rfl
theorem y_and8 {x y : Operand} {t u : TypeId} {c : Int} (hx : a.eval x = .int .u8 c) (hy : a.eval y = .int .u8 63) (h0 : 0 ≤ c) (h : c < 256) :
    Yld P ⟨d, .binOp .and t x y u, ty, pos, af, g⟩ a σ (Ty.val (.int .u8 (c % 64))).pr := by
  have e : bits .and .u8 c 63 = c % 64 := by
    obtain ⟨n, rfl⟩ : ∃ n : Nat, c = (n : Int) := ⟨c.toNat, by omega⟩
    have h1 := (bits_nat .u8 8 (by decide) wraps_u8 n 63 (by omega) (by decide)).1
    have h2 : n &&& 63 = n % 64 := Nat.and_two_pow_sub_one_eq_mod n 6
    rw [h2] at h1
    exact h1
  exact Yld.of_run (v := .int .u8 (c % 64)) (by simp only [execOp, hx, hy]; simp only [go_sem, e]; try rfl) rfl
theorem y_shr6 {x y : Operand} {t u : TypeId} {c : Int} (hx : a.eval x = .int .i32 c) (hy : a.eval y = .int .u64 6) : Yld P ⟨d, .binOp .shr t x y u, ty, pos, af, g⟩ a σ (Ty.val (.int .i32 (c / 64))).pr :=
  Yld.of_run (v := .int .i32 (c / 64)) (by simp only [execOp, hx, hy]; simp [go_sem]; try rfl) rfl
theorem y_shr12 {x y : Operand} {t u : TypeId} {c : Int} (hx : a.eval x = .int .i32 c) (hy : a.eval y = .int .u64 12) : Yld P ⟨d, .binOp .shr t x y u, ty, pos, af, g⟩ a σ (Ty.val (.int .i32 (c / 4096))).pr :=
  Yld.of_run (v := .int .i32 (c / 4096)) (by simp only [execOp, hx, hy]; simp [go_sem]; try rfl) rfl
theorem y_shr18 {x y : Operand} {t u : TypeId} {c : Int} (hx : a.eval x = .int .i32 c) (hy : a.eval y = .int .u64 18) : Yld P ⟨d, .binOp .shr t x y u, ty, pos, af, g⟩ a σ (Ty.val (.int .i32 (c / 262144))).pr :=
  Yld.of_run (v := .int .i32 (c / 262144)) (by simp only [execOp, hx, hy]; simp [go_sem]; try rfl) rfl
theorem y_build3 {x y u : Operand} {t e : TypeId} {T U V : Ty} {z : Value} {b : Nat} (ht : P.underlying t = some (.slice e)) (he : Info P e z 1 b) (hz : z.cells.size = 1) (oT : One T) (oU : One U) (oV : One V) (hx : At T σ a x) (hy : At U σ a y) (hu : At V σ a u) :
    Yld P ⟨d, .buildSlice t 3 #[(0, x), (1, y), (2, u)], ty, pos, af, g⟩ a σ (Ty.sl 1 3 [T, U, V]).pr := by
  intro K Q hk
  have h1 := cells_of_one (oT _ _ hx)
  have h2 := cells_of_one (oU _ _ hy)
  have h3 := cells_of_one (oV _ _ hu)
  have hr : (execOp a.eval ⟨d, .buildSlice t 3 #[(0, x), (1, y), (2, u)], ty, pos, af, g⟩).run P σ.w = .ok (.value (.slice (some ⟨σ.w.heap.size, 0, none⟩) 3 3)) (σ.w.alloc (.cells #[a.eval x, a.eval y, a.eval u] e)) := by
    simp only [execOp, List.map_toArray, List.map_cons, List.map_nil]
    generalize a.eval x = v at h1 ⊢
    generalize a.eval y = v' at h2 ⊢
    generalize a.eval u = v'' at h3 ⊢
    have hr : Array.range 3 = #[0, 1, 2] := rfl
    simp [Instr.buildSlice, run_underlying ht, he.size, he.zero, Instr.fill, h1, h2, h3, hz, newRow, newObj, Sem.run, Sem.run_bind, hr]
  unfold Oper.wp
  rw [hr]
  refine hk _ (σ.seal (.cells #[a.eval x, a.eval y, a.eval u] e)) (Stp.seal _ _) ⟨_, 3, σ.w.heap.size, 0, rfl, ⟨Nat.le_refl _, by decide⟩, rfl, .inr ⟨rfl, by simp [GW.seal]⟩, fun j W hj => ?_⟩
  match j, hj with
  | 0, hj =>
    simp at hj; subst hj
    refine ⟨a.eval x, ?_, T.up (Stp.seal _ _).le0 hx⟩
    show World.cell? (σ.w.alloc _) _ = _
    simp only [World.cell?, heap_alloc_new]
    rfl
  | 1, hj =>
    simp at hj; subst hj
    refine ⟨a.eval y, ?_, U.up (Stp.seal _ _).le0 hy⟩
    show World.cell? (σ.w.alloc _) _ = _
    simp only [World.cell?, heap_alloc_new]
    rfl
  | 2, hj =>
    simp at hj; subst hj
    refine ⟨a.eval u, ?_, V.up (Stp.seal _ _).le0 hu⟩
    show World.cell? (σ.w.alloc _) _ = _
    simp only [World.cell?, heap_alloc_new]
    rfl
theorem y_build4 {x y u w : Operand} {t e : TypeId} {T U V W : Ty} {z : Value} {b : Nat} (ht : P.underlying t = some (.slice e)) (he : Info P e z 1 b) (hz : z.cells.size = 1) (oT : One T) (oU : One U) (oV : One V) (oW : One W) (hx : At T σ a x) (hy : At U σ a y) (hu : At V σ a u) (hw : At W σ a w) :
    Yld P ⟨d, .buildSlice t 4 #[(0, x), (1, y), (2, u), (3, w)], ty, pos, af, g⟩ a σ (Ty.sl 1 4 [T, U, V, W]).pr := by
  intro K Q hk
  have h1 := cells_of_one (oT _ _ hx)
  have h2 := cells_of_one (oU _ _ hy)
  have h3 := cells_of_one (oV _ _ hu)
  have h4 := cells_of_one (oW _ _ hw)
  have hr : (execOp a.eval ⟨d, .buildSlice t 4 #[(0, x), (1, y), (2, u), (3, w)], ty, pos, af, g⟩).run P σ.w = .ok (.value (.slice (some ⟨σ.w.heap.size, 0, none⟩) 4 4)) (σ.w.alloc (.cells #[a.eval x, a.eval y, a.eval u, a.eval w] e)) := by
    simp only [execOp, List.map_toArray, List.map_cons, List.map_nil]
    generalize a.eval x = v at h1 ⊢
    generalize a.eval y = v' at h2 ⊢
    generalize a.eval u = v'' at h3 ⊢
    generalize a.eval w = v3 at h4 ⊢
    have hr : Array.range 4 = #[0, 1, 2, 3] := rfl
    simp [Instr.buildSlice, run_underlying ht, he.size, he.zero, Instr.fill, h1, h2, h3, h4, hz, newRow, newObj, Sem.run, Sem.run_bind, hr]
  unfold Oper.wp
  rw [hr]
  refine hk _ (σ.seal (.cells #[a.eval x, a.eval y, a.eval u, a.eval w] e)) (Stp.seal _ _) ⟨_, 4, σ.w.heap.size, 0, rfl, ⟨Nat.le_refl _, by decide⟩, rfl, .inr ⟨rfl, by simp [GW.seal]⟩, fun j X hj => ?_⟩
  match j, hj with
  | 0, hj =>
    simp at hj; subst hj
    refine ⟨a.eval x, ?_, T.up (Stp.seal _ _).le0 hx⟩
    show World.cell? (σ.w.alloc _) _ = _
    simp only [World.cell?, heap_alloc_new]
    rfl
  | 1, hj =>
    simp at hj; subst hj
    refine ⟨a.eval y, ?_, U.up (Stp.seal _ _).le0 hy⟩
    show World.cell? (σ.w.alloc _) _ = _
    simp only [World.cell?, heap_alloc_new]
    rfl
  | 2, hj =>
    simp at hj; subst hj
    refine ⟨a.eval u, ?_, V.up (Stp.seal _ _).le0 hu⟩
    show World.cell? (σ.w.alloc _) _ = _
    simp only [World.cell?, heap_alloc_new]
    rfl
  | 3, hj =>
    simp at hj; subst hj
    refine ⟨a.eval w, ?_, W.up (Stp.seal _ _).le0 hw⟩
    show World.cell? (σ.w.alloc _) _ = _
    simp only [World.cell?, heap_alloc_new]
    rfl
end
theorem wrap_u32m (c : Int) : IntKind.u32.wrap c = c % 4294967296 := by simp [IntKind.wrap, IntKind.bits, IntKind.signed]
theorem wrap_u8m (c : Int) : IntKind.u8.wrap c = c % 256 := by simp [IntKind.wrap, IntKind.bits, IntKind.signed]
def bt (e : Int) : UInt8 := e.toNat.toUInt8
theorem bt_nat (n : Nat) (m : Int) (h : m.toNat = n) : UInt8.ofNat n = bt m := by subst h; rfl
theorem enc_2 {c : Int} (h : 128 ≤ c) (h2 : c ≤ 2047) : (Utf8.encode c).data.toList = [bt (192 + c / 64), bt (128 + c % 64)] := by
  have hv : Utf8.valid c = true := by simp [Utf8.valid]; omega
  unfold Utf8.encode
  simp only [hv, if_true]
  rw [if_neg (by omega), if_pos (by omega)]
  show [UInt8.ofNat _, UInt8.ofNat _] = _
  rw [bt_nat _ (192 + c / 64) (by omega), bt_nat _ (128 + c % 64) (by omega)]
theorem enc_3 {c : Int} (h : 2048 ≤ c) (h2 : c ≤ 65535) (hs : c < 55296 ∨ 57343 < c) : (Utf8.encode c).data.toList = [bt (224 + c / 4096), bt (128 + c / 64 % 64), bt (128 + c % 64)] := by
  have hv : Utf8.valid c = true := by simp [Utf8.valid]; omega
  unfold Utf8.encode
  simp only [hv, if_true]
  rw [if_neg (by omega), if_neg (by omega), if_pos (by omega)]
  show [UInt8.ofNat _, UInt8.ofNat _, UInt8.ofNat _] = _
  rw [bt_nat _ (224 + c / 4096) (by omega), bt_nat _ (128 + c / 64 % 64) (by omega), bt_nat _ (128 + c % 64) (by omega)]
theorem enc_4 {c : Int} (h : 65535 < c) (h2 : c ≤ 1114111) : (Utf8.encode c).data.toList = [bt (240 + c / 262144), bt (128 + c / 4096 % 64), bt (128 + c / 64 % 64), bt (128 + c % 64)] := by
  have hv : Utf8.valid c = true := by simp [Utf8.valid]; omega
  unfold Utf8.encode
  simp only [hv, if_true]
  rw [if_neg (by omega), if_neg (by omega), if_neg (by omega)]
  show [UInt8.ofNat _, UInt8.ofNat _, UInt8.ofNat _, UInt8.ofNat _] = _
  rw [bt_nat _ (240 + c / 262144) (by omega), bt_nat _ (128 + c / 4096 % 64) (by omega), bt_nat _ (128 + c / 64 % 64) (by omega), bt_nat _ (128 + c % 64) (by omega)]
theorem enc_bad {c : Int} (h : c < 0 ∨ (55296 ≤ c ∧ c ≤ 57343) ∨ 1114111 < c) : (Utf8.encode c).data.toList = [bt 239, bt 191, bt 189] := by
  have hv : Utf8.valid c = false := by simp [Utf8.valid]; omega
  unfold Utf8.encode
  simp only [hv, Bool.false_eq_true, if_false]
  decide
theorem enc_1 {c : Int} (h0 : 0 ≤ c) (h1 : c ≤ 127) : (Utf8.encode c).data.toList = [bt c] := by
  have hv : Utf8.valid c = true := by simp [Utf8.valid]; omega
  unfold Utf8.encode
  simp only [hv, if_true]
  rw [if_pos (by omega)]
  rfl
end Go.KL

/- Touches there and back: what is printed of leads is read as these. -/
namespace Go.KL
open Go.RowKit Go.Lib
structure Sgn (cs : List BCall) : Prop where
  lo : ∀ k, k < cs.length → 58 ≤ (cs.getD k D0).1 ∧ (cs.getD k D0).1 < 128
  un : ∀ j k, j < k → k < cs.length → (cs.getD j D0).1 ≠ (cs.getD k D0).1
def sgn (cs : List BCall) (x : Int) : Int := (cs.getD x.toNat D0).1
def pcL (cs : List BCall) (n : Nat) (x : Int) : List UInt8 := (if 1 < n then decL n else []) ++ [bt (sgn cs x)]
def prL (cs : List BCall) : Nat → List Int → List UInt8
  | _, [] => []
  | n, x :: r => if (r ≠ [] ∧ r.getD 0 0 = x) ∧ n + 1 < 99 then prL cs (n + 1) r else pcL cs (n + 1) x ++ prL cs 0 r
def rn (l : List UInt8) : List Int := l.map fun b => ((b.toNat : Nat) : Int)
theorem rn_app (a b : List UInt8) : rn (a ++ b) = rn a ++ rn b := List.map_append
theorem bsL_app (a b : List UInt8) : bsL (a ++ b) = bsL a ++ bsL b := by apply ByteArray.ext; simp [bsL]
theorem bt_toNat {c : Int} (h0 : 0 ≤ c) (h : c < 256) : (((bt c).toNat : Nat) : Int) = c := by
  unfold bt
  have : c.toNat.toUInt8.toNat = c.toNat := by simp; omega
  rw [this, Int.toNat_of_nonneg h0]
section
variable {cs : List BCall}
theorem prR_L (hs : Sgn cs) : ∀ (n : Nat) (l : List Int), (∀ k, k < l.length → 0 ≤ l.getD k 0 ∧ l.getD k 0 < (cs.length : Int)) → prR cs n l = bsL (prL cs n l)
  | _, [], _ => rfl
  | n, x :: r, h => by
    have hr : ∀ k, k < r.length → 0 ≤ r.getD k 0 ∧ r.getD k 0 < (cs.length : Int) := fun k hk => by
      have := h (k + 1) (by simp; omega)
      simpa using this
    have hx := h 0 (by simp)
    simp only [List.getD_cons_zero] at hx
    rw [prR, prL]
    split
    · exact prR_L hs (n + 1) r hr
    · have hl := hs.lo x.toNat (by omega)
      have e : Utf8.encode (cs.getD x.toNat D0).1 = bsL [bt (sgn cs x)] := by
        apply ByteArray.ext
        apply Array.ext'
        rw [enc_1 (by omega) (by omega)]
        rfl
      rw [prR_L hs 0 r hr, bsL_app]
      congr 1
      unfold pcB pcL
      rw [bsL_app, e]
      congr 1
      split
      · rfl
      · rfl
theorem decL_lo (n : Nat) (h : n < 100) : ∀ b ∈ decL n, b.toNat < 128 := by
  have : ∀ m : Fin 100, ∀ b ∈ decL m.val, b.toNat < 128 := by decide +kernel
  exact this ⟨n, h⟩
theorem pcL_lo (hs : Sgn cs) {n : Nat} {x : Int} (hn : n < 100) (hx : 0 ≤ x ∧ x < (cs.length : Int)) : ∀ b ∈ pcL cs n x, b.toNat < 128 := by
  intro b hb
  have hl := hs.lo x.toNat (by omega)
  unfold pcL at hb
  rcases List.mem_append.1 hb with h | h
  · split at h
    · exact decL_lo n hn b h
    · cases h
  · rw [List.mem_singleton.1 h]
    have := bt_toNat (c := sgn cs x) (by unfold sgn; omega) (by unfold sgn; omega)
    have h2 : sgn cs x < 128 := hl.2
    omega
theorem prL_lo (hs : Sgn cs) : ∀ (n : Nat) (l : List Int), n ≤ 98 → (∀ k, k < l.length → 0 ≤ l.getD k 0 ∧ l.getD k 0 < (cs.length : Int)) → ∀ b ∈ prL cs n l, b.toNat < 128
  | _, [], _, _ => fun b hb => by cases hb
  | n, x :: r, hn, h => by
    have hr : ∀ k, k < r.length → 0 ≤ r.getD k 0 ∧ r.getD k 0 < (cs.length : Int) := fun k hk => by
      have := h (k + 1) (by simp; omega)
      simpa using this
    have hx := h 0 (by simp)
    simp only [List.getD_cons_zero] at hx
    intro b hb
    rw [prL] at hb
    split at hb
    · exact prL_lo hs (n + 1) r (by omega) hr b hb
    · rcases List.mem_append.1 hb with h1 | h1
      · exact pcL_lo hs (by omega) hx b h1
      · exact prL_lo hs 0 r (by omega) hr b h1
theorem num_none {c : Int} {r : List Int} (h : ¬ (48 ≤ c ∧ c ≤ 57)) (n : Int) (b : Bool) : numR n b (c :: r) = ⟨0, n, b, c :: r⟩ := by rw [numR, if_neg h]
theorem num_dec {n : Nat} {c : Int} {r : List Int} (h1 : 1 ≤ n) (h : n < 100) (hc : ¬ (48 ≤ c ∧ c ≤ 57)) : numR 0 false (rn (decL n) ++ c :: r) = ⟨0, (n : Int), true, c :: r⟩ := by
  by_cases hn : n < 10
  · have e : rn (decL n) = [48 + (n : Int)] := by
      have : ∀ m : Fin 10, rn (decL m.val) = [48 + (m.val : Int)] := by decide +kernel
      exact this ⟨n, hn⟩
    rw [e, List.singleton_append, numR, if_pos (by omega), if_neg (by omega), num_none hc]
    congr 1; omega
  · have e : rn (decL n) = [48 + ((n / 10 : Nat) : Int), 48 + ((n % 10 : Nat) : Int)] := by
      have : ∀ m : Fin 100, ¬ m.val < 10 → rn (decL m.val) = [48 + ((m.val / 10 : Nat) : Int), 48 + ((m.val % 10 : Nat) : Int)] := by decide +kernel
      exact this ⟨n, h⟩ hn
    rw [e, List.cons_append, numR, if_pos (by omega), if_neg (by omega), List.singleton_append, numR, if_pos (by omega), if_neg (by omega), num_none hc]
    congr 1; omega
theorem sgn_at (hs : Sgn cs) {x : Int} (hx : 0 ≤ x ∧ x < (cs.length : Int)) : sgn cs x ∈ sgOf cs ∧ indexL (sgOf cs) (sgn cs x) = x := by
  have := sign_at (cs := cs) (c := sgn cs x) (k := x.toNat) (by omega) (fun j hj => hs.un j x.toNat hj (by omega)) rfl
  exact ⟨this.1, by rw [this.2]; omega⟩
theorem repL_single (n : Nat) (x : Int) : repL n [x] = List.replicate n x := by
  induction n with
  | zero => rfl
  | succ n ih => rw [repL_succ, ih, List.replicate_succ']
theorem it_piece (hs : Sgn cs) {deep n : Nat} {x : Int} {tl : List Int} (h1 : 1 ≤ n) (h : n < 100) (hx : 0 ≤ x ∧ x < (cs.length : Int)) :
    itM (sgOf cs) deep (rn (pcL cs n x) ++ tl) = ⟨0, List.replicate n x, tl⟩ := by
  have hl := hs.lo x.toNat (by omega)
  have hsg : 58 ≤ sgn cs x ∧ sgn cs x < 128 := hl
  have e : rn (pcL cs n x) ++ tl = rn (if 1 < n then decL n else []) ++ sgn cs x :: tl := by
    unfold pcL
    rw [rn_app, List.append_assoc]
    congr 1
    show (((bt (sgn cs x)).toNat : Nat) : Int) :: tl = _
    rw [bt_toNat (by omega) (by omega)]
  have hs1 := sgn_at hs hx
  have one : oneM (sgOf cs) (parM (sgOf cs)) deep (sgn cs x :: tl) = ⟨0, [x], tl⟩ := by
    have h40 : ¬ (sgn cs x :: tl).getD 0 0 = 40 := by show ¬ sgn cs x = 40; omega
    rw [one_sign h40 (by
      show ¬ (sgn cs x ∉ sgOf cs ∨ sgn cs x < 0)
      rintro (h_ | h_)
      · exact h_ hs1.1
      · omega)]
    show (⟨0, [indexL (sgOf cs) (sgn cs x)], tl⟩ : ItP) = _
    rw [hs1.2]
  rw [e]
  by_cases hn : 1 < n
  · rw [if_pos hn]
    have hnum := num_dec (n := n) (c := sgn cs x) (r := tl) h1 h (by omega)
    rw [it_rp hnum (by simp) (by rw [one]), one, if_pos rfl, rp_ok (by simp; omega), Int.toNat_natCast, repL_single]
  · rw [if_neg hn]
    have hn1 : n = 1 := by omega
    have hnum : numR 0 false (rn [] ++ sgn cs x :: tl) = ⟨0, 0, false, sgn cs x :: tl⟩ := num_none (by omega) 0 false
    rw [it_rp hnum (by simp) (by rw [one]), one, if_neg (by simp), rp_ok (by simp), hn1]
    rfl
theorem rn_piece_ne (hs : Sgn cs) {n : Nat} {x : Int} {tl : List Int} (h : n < 100) (hx : 0 ≤ x ∧ x < (cs.length : Int)) : ¬ (rn (pcL cs n x) ++ tl = [] ∨ (rn (pcL cs n x) ++ tl).getD 0 0 = 41) := by
  have hl := hs.lo x.toNat (by omega)
  have hsg : 58 ≤ sgn cs x ∧ sgn cs x < 128 := hl
  unfold pcL
  split
  · rename_i hn
    have hd : ∀ m : Fin 100, 1 < m.val → rn (decL m.val) ≠ [] ∧ (rn (decL m.val)).getD 0 0 ≠ 41 := by decide +kernel
    have h2 := hd ⟨n, h⟩ hn
    simp only at h2
    obtain ⟨c, r, e⟩ := List.exists_cons_of_ne_nil h2.1
    have h3 := h2.2
    rw [e] at h3
    rw [rn_app, e]
    rintro (h_ | h_)
    · simp at h_
    · exact h3 h_
  · rintro (h_ | h_)
    · simp [rn] at h_
    · have : (((bt (sgn cs x)).toNat : Nat) : Int) = 41 := h_
      rw [bt_toNat (by omega) (by omega)] at this
      omega
theorem par_print (hs : Sgn cs) {deep : Nat} {tl : List Int} : ∀ (l : List Int) (n : Nat) (out : List Int), n ≤ 98 → (0 < n → l ≠ []) → (∀ k, k < l.length → 0 ≤ l.getD k 0 ∧ l.getD k 0 < (cs.length : Int)) → out.length + n + l.length ≤ 400 →
    parM (sgOf cs) deep out (rn (prL cs n l) ++ tl) = parM (sgOf cs) deep (out ++ List.replicate n (l.getD 0 0) ++ l) tl
  | [], n, out, _, hn, _, _ => by
    have : n = 0 := by
      rcases Nat.eq_zero_or_pos n with h | h
      · exact h
      · exact absurd rfl (hn h)
    subst this
    simp [prL, rn]
  | x :: r, n, out, hn, _, h, hlen => by
    have hr : ∀ k, k < r.length → 0 ≤ r.getD k 0 ∧ r.getD k 0 < (cs.length : Int) := fun k hk => by
      have := h (k + 1) (by simp; omega)
      simpa using this
    have hx := h 0 (by simp)
    simp only [List.getD_cons_zero] at hx ⊢
    simp only [List.length_cons] at hlen
    rw [prL]
    split
    · rename_i hc
      rw [par_print hs r (n + 1) out (by omega) (fun _ => hc.1.1) hr (by omega), hc.1.2]
      congr 1
      rw [List.replicate_succ']
      simp
    · have hp := it_piece hs (deep := deep) (n := n + 1) (x := x) (tl := rn (prL cs 0 r) ++ tl) (by omega) (by omega) hx
      have hne := rn_piece_ne hs (n := n + 1) (x := x) (tl := rn (prL cs 0 r) ++ tl) (by omega) hx
      rw [rn_app, List.append_assoc]
      have hg := x_go (deep := deep) (out := out) rfl hne hp (by simp; omega)
      rw [← hg, par_print hs r 0 (out ++ List.replicate (n + 1) x) (by omega) (fun h => absurd h (by omega)) hr (by simp; omega)]
      congr 1
      rw [List.replicate_succ']
      simp
theorem prL_len (n : Nat) (l : List Int) : (prL cs n l).length ≤ 3 * l.length := by
  induction l generalizing n with
  | nil => simp [prL]
  | cons x r ih =>
    rw [prL]
    split
    · have := ih (n + 1); simp; omega
    · have h1 := ih 0
      have h2 : (pcL cs (n + 1) x).length ≤ 3 := by
        unfold pcL
        split
        · have : (decL (n + 1)).length ≤ 2 := by unfold decL; split <;> simp
          simp; omega
        · simp
      simp only [List.length_append, List.length_cons]; omega
theorem there {l : List Int} (hs : Sgn cs) (h1 : 1 ≤ l.length) (h2 : l.length ≤ 60) (hv : ∀ k, k < l.length → 0 ≤ l.getD k 0 ∧ l.getD k 0 < (cs.length : Int)) :
    (ptM (sgOf cs) (ptT cs l)).err = 0 ∧ (ptM (sgOf cs) (ptT cs l)).out = l := by
  have hg := pt_good (cs := cs) (l := l) (by omega) hv
  rw [hg.2, prR_L hs 0 l hv]
  have hL := asc_runs (prL_lo hs 0 l (by omega) hv)
  have hsz : ¬ 4000 < (bsL (prL cs 0 l)).size := by rw [bsL_size]; have := prL_len (cs := cs) 0 l; omega
  have hp : parM (sgOf cs) 0 [] (runsL (bsL (prL cs 0 l))) = ⟨0, l, []⟩ := by
    rw [hL]
    have := par_print hs (deep := 0) (tl := []) l 0 [] (by omega) (fun h => absurd h (by omega)) hv (by simp; omega)
    rw [List.append_nil] at this
    show parM _ _ _ (rn _) = _
    rw [this, par_stop (.inl rfl)]
    simp
  rw [pt_ok hsz hp.symm rfl rfl (by intro e; simp only at e; rw [e] at h1; simp at h1)]
  exact ⟨rfl, rfl⟩
theorem there_times {l : List Int} {n : Nat} (hs : Sgn cs) (h1 : 1 ≤ l.length) (h2 : l.length ≤ 60) (hv : ∀ k, k < l.length → 0 ≤ l.getD k 0 ∧ l.getD k 0 < (cs.length : Int)) (hn : 1 ≤ n) (hn6 : n ≤ 6) :
    (ptM (sgOf cs) (decB n ++ ByteArray.mk #[40] ++ ptT cs l ++ ByteArray.mk #[41])).err = 0 ∧ (ptM (sgOf cs) (decB n ++ ByteArray.mk #[40] ++ ptT cs l ++ ByteArray.mk #[41])).out = repL n l := by
  have hg := pt_good (cs := cs) (l := l) (by omega) hv
  rw [hg.2, prR_L hs 0 l hv]
  have hlo := prL_lo hs 0 l (by omega) hv
  have e : decB n ++ ByteArray.mk #[40] ++ bsL (prL cs 0 l) ++ ByteArray.mk #[41] = bsL (decL n ++ ([40] ++ (prL cs 0 l ++ [41]))) := by
    rw [bsL_app, bsL_app, bsL_app, ba_assoc, ba_assoc]; rfl
  rw [e]
  have hall : ∀ b ∈ decL n ++ ([40] ++ (prL cs 0 l ++ [41])), b.toNat < 128 := by
    intro b hb
    rcases List.mem_append.1 hb with h | h
    · exact decL_lo n (by omega) b h
    · rcases List.mem_append.1 h with h | h
      · rw [List.mem_singleton.1 h]; decide
      · rcases List.mem_append.1 h with h | h
        · exact hlo b h
        · rw [List.mem_singleton.1 h]; decide
  have hL := asc_runs hall
  have hdl : (decL n).length ≤ 2 := by unfold decL; split <;> simp
  have hsz : ¬ 4000 < (bsL (decL n ++ ([40] ++ (prL cs 0 l ++ [41])))).size := by
    rw [bsL_size]; have := prL_len (cs := cs) 0 l; simp; omega
  have hin : parM (sgOf cs) 1 [] (rn (prL cs 0 l) ++ [41]) = ⟨0, l, [41]⟩ := by
    rw [par_print hs (deep := 1) (tl := [41]) l 0 [] (by omega) (fun h => absurd h (by omega)) hv (by simp; omega), par_stop (.inr rfl)]
    simp
  have hit : itM (sgOf cs) 0 (rn (decL n) ++ 40 :: (rn (prL cs 0 l) ++ [41])) = ⟨0, repL n l, []⟩ := by
    have hnum := num_dec (n := n) (c := 40) (r := rn (prL cs 0 l) ++ [41]) hn (by omega) (by omega)
    have hd1 : List.drop 1 ((40 : Int) :: (rn (prL cs 0 l) ++ [41])) = rn (prL cs 0 l) ++ [41] := rfl
    have one : oneM (sgOf cs) (parM (sgOf cs)) 0 (40 :: (rn (prL cs 0 l) ++ [41])) = ⟨0, l, []⟩ := by
      rw [one_in rfl (by decide) (by rw [hd1, hin]) (by rw [hd1, hin]; simp) (by rw [hd1, hin]; intro e; simp only at e; rw [e] at h1; simp at h1), hd1, hin]
      rfl
    rw [it_rp hnum (by simp) (by rw [one]), one, if_pos rfl, rp_ok (by
      show ¬ (400 : Int) < (n : Int) * (l.length : Int)
      have : n * l.length ≤ 6 * 60 := Nat.mul_le_mul hn6 h2
      have h3 : ((n * l.length : Nat) : Int) = (n : Int) * (l.length : Int) := Int.natCast_mul _ _
      omega), Int.toNat_natCast]
  have hne : ¬ (rn (decL n) ++ 40 :: (rn (prL cs 0 l) ++ [41]) = [] ∨ (rn (decL n) ++ 40 :: (rn (prL cs 0 l) ++ [41])).getD 0 0 = 41) := by
    have hd : ∀ m : Fin 7, 1 ≤ m.val → rn (decL m.val) = [48 + (m.val : Int)] := by decide +kernel
    rw [show rn (decL n) = [48 + (n : Int)] from hd ⟨n, by omega⟩ hn]
    rintro (h_ | h_)
    · simp at h_
    · have : 48 + (n : Int) = 41 := h_
      omega
  have hlen : (repL n l).length ≤ 400 := by
    rw [repL_len]
    have : n * l.length ≤ 6 * 60 := Nat.mul_le_mul hn6 h2
    omega
  have hp : parM (sgOf cs) 0 [] (runsL (bsL (decL n ++ ([40] ++ (prL cs 0 l ++ [41]))))) = ⟨0, repL n l, []⟩ := by
    rw [hL]
    show parM _ _ _ (rn (decL n ++ ([40] ++ (prL cs 0 l ++ [41])))) = _
    rw [rn_app, rn_app, rn_app]
    have hgo := x_go (deep := 0) (out := []) rfl hne hit (by simp; omega)
    rw [show rn (decL n) ++ (rn [40] ++ (rn (prL cs 0 l) ++ rn [41])) = rn (decL n) ++ 40 :: (rn (prL cs 0 l) ++ [41]) from rfl, ← hgo, par_stop (.inl rfl)]
    simp
  have hne2 : repL n l ≠ [] := by
    intro e
    have : (repL n l).length = 0 := by rw [e]; rfl
    rw [repL_len] at this
    have h3 : 1 * 1 ≤ n * l.length := Nat.mul_le_mul hn h1
    omega
  rw [pt_ok hsz hp.symm rfl rfl hne2]
  exact ⟨rfl, rfl⟩
end
end Go.KL
namespace Go.KL
theorem cOf_get0 (raw : List Int) (n m : Nat) : ((cOf raw n m).getD 0 D0).1 = 112 := rfl
theorem cOf_getS {raw : List Int} {n m i : Nat} (h : i < m) : ((cOf raw n m).getD (i + 1) D0).1 = ((97 + (i + 1) : Nat) : Int) := by
  unfold cOf
  rw [List.getD_cons_succ]
  simp [List.getD, h]
theorem cOf_sgn {raw : List Int} {n m : Nat} (h : m ≤ 10) : Sgn (cOf raw n m) := by
  constructor
  · intro k hk
    rw [cOf_len] at hk
    cases k with
    | zero => rw [cOf_get0]; omega
    | succ i => rw [cOf_getS (by omega)]; omega
  · intro j k hjk hk
    rw [cOf_len] at hk
    cases k with
    | zero => omega
    | succ i =>
      rw [cOf_getS (by omega)]
      cases j with
      | zero => rw [cOf_get0]; omega
      | succ j => rw [cOf_getS (by omega)]; omega
end Go.KL

/- From a row's reading of its arguments to semantic types, and from a law's contract back to the row. -/
namespace Go.KL
open Go.ChangeShapes Go.WideShapes Go.ChangeAt Go.RowKit Go.Deep
variable {P : Program}

def GW.all (W : World) : GW := ⟨W, fun b => if b < W.heap.size then 1 else 0, fun b h => by
  by_cases hb : b < W.heap.size
  · exact hb
  · simp [hb] at h⟩

structure Bulk {H : Type} (B : DataW H → Nat) (BA : List (DataW H) → Nat) : Prop where
  one : ∀ d, 1 ≤ B d
  str : ∀ l, B (.lit (.string l)) = l.length + 1
  slice : ∀ es sp, B (.slice es sp) = BA es + BA sp + 1
  agg : ∀ ps, B (.agg ps) = BA ps + 1
  nil : BA [] = 0
  cons : ∀ d r, BA (d :: r) = B d + BA r

def Rd (P : Program) (t : TypeId) {α : Type} (cells : α → List Ty) (wf : α → Prop) (sz : α → Nat) (rc : α → Prop) : Prop :=
  ∀ (H : Type) (enc : TypeId × Value → H) (B : DataW H → Nat) (BA : List (DataW H) → Nat), Bulk B BA → ∀ (W : World) (fuel : Nat) (cs : List Value) (d : DataW H) (ps : List MemPlace),
    DataW.trod enc P W 0 (fun _ => true) true fuel t cs = some (d, ps) → ∃ x : α, wf x ∧ sz x ≤ B d ∧ ((d.weights P t).all (· ≤ reachBytes) = true → rc x) ∧ cs.length = (cells x).length ∧
      ∀ (j : Nat) (T : Ty) (u : Value), (cells x)[j]? = some T → cs[j]? = some u → T.has (GW.all W) u

theorem one_cell {T : Ty} {v : Value} {σ : GW} (h : T.has σ v) : ∀ (j : Nat) (U : Ty) (u : Value), [T][j]? = some U → [v][j]? = some u → U.has σ u := by
  intro j U u h1 h2
  match j with
  | 0 => simp at h1 h2; subst h1; subst h2; exact h
  | j + 1 => simp at h1

theorem rd_int {t : TypeId} {k : IntKind} (ht : P.underlying t = some (.int k)) : Rd P t (fun n : Int => [Ty.val (.int k n)]) (fun n => (Lit.int k n).wf = true) (fun _ => 1) (fun _ => True) := by
  intro H enc B BA hB W fuel cs d ps h
  obtain ⟨n, rfl, e, hw⟩ := DataW.trod_int ht h
  obtain ⟨rfl, rfl⟩ := Prod.mk.inj e
  exact ⟨n, hw, hB.one _, fun _ => trivial, rfl, one_cell rfl⟩
theorem BA_map {H : Type} {B : DataW H → Nat} {BA : List (DataW H) → Nat} (hB : Bulk B BA) {α : Type} (sz : α → Nat) : ∀ (xs : List α) (D : List (DataW H)), xs.length = D.length → (∀ (i : Nat) x d, xs[i]? = some x → D[i]? = some d → sz x ≤ B d) → (xs.map sz).sum ≤ BA D
  | [], [], _, _ => by simp
  | x :: xs, d :: D, hl, h => by
    rw [hB.cons, List.map_cons, List.sum_cons]
    have h0 := h 0 x d rfl rfl
    have := BA_map hB sz xs D (by simpa using hl) (fun i y e hy he => h (i + 1) y e (by simpa using hy) (by simpa using he))
    omega

theorem weightsAll_mem {H : Type} {e : TypeId} : ∀ {D : List (DataW H)} {d : DataW H}, d ∈ D → ∀ n, n ∈ d.weights P e → n ∈ DataW.weightsAll P e D
  | x :: D, d, h, n, hn => by
    simp only [DataW.weightsAll, List.mem_append]
    rcases List.mem_cons.1 h with rfl | h
    · exact .inl hn
    · exact .inr (weightsAll_mem h n hn)

theorem spot_none {w : World} {a : Addr} {v : Value} (h : w.cell? a = some v) : a.spot = none := by
  unfold World.cell? at h
  split at h
  · split at h
    · cases h
    · rename_i hs; simpa using hs
  · cases h

theorem rd_slice {t e c : TypeId} {α : Type} {cells : α → List Ty} {wf : α → Prop} {sz : α → Nat} {rc : α → Prop} (ht : P.underlying t = some (.slice e)) (hc : P.cellsOf e = c) (hc0 : 0 < c) (he : Rd P e cells wf sz rc) (hcl : ∀ x, wf x → (cells x).length = c) :
    Rd P t (fun xs : List α => [Ty.sl c xs.length (xs.flatMap cells)]) (fun xs => xs.length ≤ maxLen ∧ ∀ x ∈ xs, wf x) (fun xs => (xs.map sz).sum + 1) (fun xs => xs.length * P.bytesOf e ≤ reachBytes ∧ ∀ x ∈ xs, rc x) := by
  intro H enc B BA hB W fuel cs d ps h
  rcases open_slice ht h with ⟨rfl, e1⟩ | ⟨a, len, cap, m, n, D, Pl, rfl, _, hlen, hcap, hm, e1, hel⟩
  · obtain ⟨rfl, rfl⟩ := Prod.mk.inj e1
    exact ⟨[], ⟨Nat.zero_le _, fun x h => by cases h⟩, by simpa using hB.one _, fun _ => ⟨by simp, fun x h => by cases h⟩, rfl, one_cell ⟨none, 0, 0, 0, rfl, ⟨Nat.le_refl _, by decide⟩, by simp, .inl rfl, fun j T hj => by simp at hj⟩⟩
  · obtain ⟨rfl, rfl⟩ := Prod.mk.inj e1
    subst hc
    simp only [if_true] at hm
    subst hm
    have hx : ∀ i : Fin len, ∃ x : α, ∃ cs' : List Value, W.cells? 0 (a.add (i * P.cellsOf e)) (P.cellsOf e) = some cs' ∧ wf x ∧ sz x ≤ B (D i) ∧ (((D i).weights P e).all (· ≤ reachBytes) = true → rc x) ∧ cs'.length = (cells x).length ∧
        ∀ (j : Nat) (T : Ty) (u : Value), (cells x)[j]? = some T → cs'[j]? = some u → T.has (GW.all W) u := by
      intro i
      obtain ⟨cs', h1, h2⟩ := hel i (by omega)
      obtain ⟨x, hx⟩ := he H enc B BA hB W n cs' _ _ h2
      exact ⟨x, cs', h1, hx⟩
    let f : Fin len → α := fun i => Classical.choose (hx i)
    have hf : ∀ i : Fin len, ∃ cs' : List Value, W.cells? 0 (a.add (i * P.cellsOf e)) (P.cellsOf e) = some cs' ∧ wf (f i) ∧ sz (f i) ≤ B (D i) ∧ (((D i).weights P e).all (· ≤ reachBytes) = true → rc (f i)) ∧ cs'.length = (cells (f i)).length ∧
        ∀ (j : Nat) (T : Ty) (u : Value), (cells (f i))[j]? = some T → cs'[j]? = some u → T.has (GW.all W) u := fun i => Classical.choose_spec (hx i)
    have hlf : (List.ofFn f).length = len := by simp
    have hget : ∀ (i : Nat) (x : α), (List.ofFn f)[i]? = some x → ∃ hi : i < len, x = f ⟨i, hi⟩ := fun i x h => by
      have hi : i < len := by have := (List.getElem?_eq_some_iff.1 h).1; simpa using this
      refine ⟨hi, ?_⟩
      rw [List.getElem?_ofFn] at h
      simp [hi] at h
      exact h.symm
    have hmem : ∀ x ∈ List.ofFn f, ∃ i : Fin len, x = f i := fun x h => by
      obtain ⟨i, hi⟩ := List.mem_iff_getElem?.1 h
      obtain ⟨hi', rfl⟩ := hget i x hi
      exact ⟨⟨i, hi'⟩, rfl⟩
    have hwf : ∀ x ∈ List.ofFn f, wf x := fun x h => by
      obtain ⟨i, rfl⟩ := hmem x h
      obtain ⟨_, _, h1, _⟩ := hf i
      exact h1
    have hflat : ∀ (xs : List α), (∀ x ∈ xs, wf x) → (xs.flatMap cells).length = xs.length * P.cellsOf e := fun xs h => by
      induction xs with
      | nil => simp
      | cons x xs ih =>
        rw [List.flatMap_cons, List.length_append, hcl x (h x (by simp)), ih (fun y hy => h y (by simp [hy])), List.length_cons, Nat.succ_mul]; omega
    refine ⟨List.ofFn f, ⟨by rw [hlf]; omega, hwf⟩, ?_, fun hr => ⟨?_, fun x h => ?_⟩, rfl, one_cell ?_⟩
    · rw [hB.slice]
      have := BA_map hB sz (List.ofFn f) ((List.range len).map D) (by simp) (fun i x d hx hd => by
        obtain ⟨hi, rfl⟩ := hget i x hx
        obtain ⟨_, _, _, h2, _⟩ := hf ⟨i, hi⟩
        rw [List.getElem?_map, List.getElem?_range hi] at hd
        simp at hd; subst hd; exact h2)
      show (List.map sz (List.ofFn f)).sum + 1 ≤ _
      omega
    · rw [hlf]
      have : (((List.range len).map D).length + ((List.range (m - len)).map fun j => D (len + j)).length) * P.bytesOf e ≤ reachBytes := by
        have := List.all_eq_true.1 hr _ (by simp only [DataW.weights, ht]; exact List.mem_cons_self)
        simpa using this
      refine Nat.le_trans (Nat.mul_le_mul_right _ ?_) this
      simp
    · obtain ⟨i, rfl⟩ := hmem x h
      obtain ⟨_, _, _, _, h3, _⟩ := hf i
      refine h3 (List.all_eq_true.2 fun k hk => ?_)
      refine List.all_eq_true.1 hr k ?_
      simp only [DataW.weights, ht]
      refine List.mem_cons_of_mem _ (List.mem_append.2 (.inl (weightsAll_mem (D := List.map D (List.range len)) (d := D i.val) (List.mem_map.2 ⟨i.val, List.mem_range.2 i.2, rfl⟩) k hk)))
    · -- the cells
      by_cases h0 : len = 0
      · have e0 : List.ofFn f = [] := List.eq_nil_of_length_eq_zero (by rw [hlf, h0])
        rw [e0, h0]
        exact ⟨some a, m, 0, 0, rfl, ⟨Nat.zero_le _, hcap⟩, by simp, .inl rfl, fun j T hj => by simp at hj⟩
      · have hcell : ∀ (i : Fin len) (k : Nat) (T : Ty), (cells (f i))[k]? = some T → ∃ u, W.cell? ((a.add (i * P.cellsOf e)).add k) = some u ∧ T.has (GW.all W) u := fun i k T hT => by
          obtain ⟨cs', h1, h2, _, _, h5, h6⟩ := hf i
          have hk : k < cs'.length := by rw [h5]; exact (List.getElem?_eq_some_iff.1 hT).1
          refine ⟨cs'[k], ?_, h6 k T _ hT (by simp [hk])⟩
          have hkc : k < P.cellsOf e := by rw [← hcl _ h2, ← h5]; exact hk
          unfold World.cells? at h1
          rw [if_pos (Nat.zero_le _)] at h1
          have := mapM_some_get h1 k k (by rw [List.getElem?_range hkc])
          rw [this]; simp [hk]
        have hspot : a.spot = none := by
          obtain ⟨cs', h1, h2, _, _, h5, h6⟩ := hf ⟨0, by omega⟩
          have h7 : 0 < (cells (f ⟨0, by omega⟩)).length := by rw [hcl _ h2]; exact hc0
          obtain ⟨u, hu, _⟩ := hcell ⟨0, by omega⟩ 0 _ (List.getElem?_eq_getElem h7)
          simp [Addr.add] at hu
          exact spot_none hu
        obtain ⟨ab, ao, asp⟩ := a
        simp only at hspot
        subst hspot
        have hlt : ab < W.heap.size := by
          obtain ⟨cs', h1, h2, _, _, h5, h6⟩ := hf ⟨0, by omega⟩
          have h7 : 0 < (cells (f ⟨0, by omega⟩)).length := by rw [hcl _ h2]; exact hc0
          obtain ⟨u, hu, _⟩ := hcell ⟨0, by omega⟩ 0 _ (List.getElem?_eq_getElem h7)
          simp [Addr.add] at hu
          exact World.block_lt_of_cell? _ _ hu
        refine ⟨some ⟨ab, ao, none⟩, m, ab, ao, by rw [hlf], ⟨by omega, hcap⟩, hflat _ hwf, .inr ⟨rfl, by simp [GW.all, hlt]⟩, fun j T hj => ?_⟩
        -- cell j is cell j % c of element j / c
        have key : ∀ (xs : List α) (o : Nat), (∀ x ∈ xs, wf x) → (∀ (i : Nat) x, xs[i]? = some x → ∀ (k : Nat) (T : Ty), (cells x)[k]? = some T → ∃ u, W.cell? ⟨ab, o + i * P.cellsOf e + k, none⟩ = some u ∧ T.has (GW.all W) u) →
            ∀ (j : Nat) (T : Ty), (xs.flatMap cells)[j]? = some T → ∃ u, W.cell? ⟨ab, o + j, none⟩ = some u ∧ T.has (GW.all W) u := by
          intro xs
          induction xs with
          | nil => intro o _ _ j T hj; simp at hj
          | cons x xs ih =>
            intro o hw hc j T hj
            rw [List.flatMap_cons] at hj
            have hlx := hcl x (hw x (by simp))
            by_cases hjl : j < (cells x).length
            · rw [List.getElem?_append_left hjl] at hj
              have := hc 0 x rfl j T hj
              simpa using this
            · rw [List.getElem?_append_right (by omega)] at hj
              have := ih (o + P.cellsOf e) (fun y hy => hw y (by simp [hy])) (fun i y hy k T hT => by
                have := hc (i + 1) y (by simpa using hy) k T hT
                rw [Nat.succ_mul] at this
                rw [show o + P.cellsOf e + i * P.cellsOf e + k = o + (i * P.cellsOf e + P.cellsOf e) + k by omega]
                exact this) _ T hj
              rw [hlx] at this hjl
              rwa [show o + P.cellsOf e + (j - P.cellsOf e) = o + j by omega] at this
        refine key (List.ofFn f) ao hwf (fun i x hx k T hT => ?_) j T hj
        obtain ⟨hi, rfl⟩ := hget i x hx
        have := hcell ⟨i, hi⟩ k T hT
        simp only [Addr.add_lit] at this
        exact this

theorem Rd.conv {t : TypeId} {α β : Type} {cells : α → List Ty} {wf : α → Prop} {sz : α → Nat} {rc : α → Prop} {cells' : β → List Ty} {wf' : β → Prop} {sz' : β → Nat} {rc' : β → Prop} (h : Rd P t cells wf sz rc) (g : α → β)
    (hg : ∀ x, wf x → wf' (g x) ∧ sz' (g x) ≤ sz x ∧ (rc x → rc' (g x)) ∧ cells' (g x) = cells x) : Rd P t cells' wf' sz' rc' := by
  intro H enc B BA hB W fuel cs d ps ht
  obtain ⟨x, h1, h2, h3, h4, h5⟩ := h H enc B BA hB W fuel cs d ps ht
  obtain ⟨g1, g2, g3, g4⟩ := hg x h1
  exact ⟨g x, g1, Nat.le_trans g2 h2, fun h => g3 (h3 h), by rw [g4]; exact h4, by rw [g4]; exact h5⟩

theorem flatMap_one {α : Type} (f : α → Ty) (xs : List α) : xs.flatMap (fun x => [f x]) = xs.map f := by
  induction xs with
  | nil => rfl
  | cons x xs ih => simp [ih]

theorem rd_lst {t e : TypeId} {α : Type} {f : α → Ty} {wf : α → Prop} {sz : α → Nat} {rc : α → Prop} (ht : P.underlying t = some (.slice e)) (hc : P.cellsOf e = 1) (he : Rd P e (fun x => [f x]) wf sz rc) :
    Rd P t (fun xs : List α => [Ty.lst f xs]) (fun xs => xs.length ≤ maxLen ∧ ∀ x ∈ xs, wf x) (fun xs => (xs.map sz).sum + 1) (fun xs => xs.length * P.bytesOf e ≤ reachBytes ∧ ∀ x ∈ xs, rc x) :=
  (rd_slice ht hc (by decide) he (fun _ _ => rfl)).conv id fun x h => ⟨h, Nat.le_refl _, id, by simp [flatMap_one, Ty.lst]⟩

/-! ### Back to the row -/
theorem trodAll_stays {H : Type} {enc : TypeId × Value → H} (hl : laidOutB P = true) {W W' : World} (hb : Below W.heap.size W W') : ∀ {ts : List TypeId} {vs : List Value} {ds : List (DataW H)} {ps : List MemPlace},
    DataW.TrodAll enc P W 0 (fun _ => true) true ts vs ds ps → (ts.all fun t => P.readableRec t && decide (t < P.types.size)) = true → (∀ x ∈ ps, x.block < W.heap.size) → DataW.TrodAll enc P W' 0 (fun b => decide (b < W.heap.size)) true ts vs ds ps
  | [], [], [], ps, h, _, _ => h
  | t :: ts, v :: vs, d :: ds, ps, h, ha, hp => by
    obtain ⟨p, q, h1, h2, rfl⟩ := h
    simp only [List.all_cons, Bool.and_eq_true, decide_eq_true_eq] at ha
    exact ⟨p, q, Below.trod hl ha.1.1 ha.1.2 h1 hb (fun x hx => hp x (List.mem_append.2 (.inl hx))), trodAll_stays hl hb h2 ha.2 (fun x hx => hp x (List.mem_append.2 (.inr hx))), rfl⟩
  | [], [], _ :: _, _, h, _, _ => h.elim
  | [], _ :: _, _, _, h, _, _ => h.elim
  | _ :: _, [], _, _, h, _, _ => h.elim
  | _ :: _, _ :: _, [], _, h, _, _ => h.elim

theorem law_post {H : Type} {enc : TypeId × Value → H} {fn : Func} {f : FuncId} {s : ChangeSpec} {W : World} {args : Array Value} {ds gs : List (DataW H)} {before : List MemPlace} {tb : TypeId}
    (hres : fn.resultTypes = #[tb]) (hb : P.underlying tb = some .bool) (hl : laidOutB P = true) (hr : (fn.params.toList.all fun t => P.readableRec t && decide (t < P.types.size)) = true)
    (hW : DataW.Whole enc P fn.params.toList s.vars false W args.toList ds gs before) (hv : s.vars = []) (hs : s.fn H (ds ++ gs) = { results := [.lit (.bool true)], args := ds })
    (hc : FnC P f args (GW.all W) (Ty.bool true)) : Calls P f args W fun e W' => ∃ v, e = .returned v ∧ s.post enc P fn false true false false W args v W' := by
  refine Calls.mono hc ?_
  rintro e W' ⟨v, τ, rfl, hstp, rfl, hvv⟩
  have hbel : Below W.heap.size W τ.w := ⟨hstp.os, hstp.tape, hstp.output, hstp.size, fun k hk => hstp.blk k hk (.inl rfl)⟩
  have hW' := hW
  obtain ⟨p, q, hA, hV, rfl, _, _⟩ := hW
  have hq : q = [] := by
    rw [hv] at hV
    cases gs with
    | nil => exact hV
    | cons _ _ => exact hV.elim
  subst hq
  have hgs : gs = [] := by
    rw [hv] at hV
    cases gs with
    | nil => rfl
    | cons _ _ => exact hV.elim
  subst hgs
  have hvv' : v = .bool true := hvv
  subst hvv'
  refine ⟨_, rfl, ds, [], _, [], p, [], hW', ?_, ?_, ?_, hbel.frame _, fun h => by cases h⟩
  · rw [hs, hres]
    exact trodAll_mk1 (shut_bool hb true)
  · rw [hs]
    exact trodAll_stays hl hbel hA hr (fun x hx => hW'.lt x (List.mem_append.2 (.inl hx)))
  · rw [hs, hv]; rfl

theorem arg_one {H : Type} {enc : TypeId × Value → H} {B : DataW H → Nat} {BA : List (DataW H) → Nat} (hB : Bulk B BA) {W : World} {t : TypeId} {v : Value} {d : DataW H} {ps : List MemPlace} {α : Type} {T : α → Ty} {wf : α → Prop} {sz : α → Nat} {rc : α → Prop}
    (h : Rd P t (fun x => [T x]) wf sz rc) (hone : v.cells = #[v]) (ht : DataW.Trod enc P W 0 (fun _ => true) true t v d ps) : ∃ x : α, wf x ∧ sz x ≤ B d ∧ ((d.weights P t).all (· ≤ reachBytes) = true → rc x) ∧ (T x).has (GW.all W) v := by
  obtain ⟨fuel, hf⟩ := ht
  rw [hone] at hf
  obtain ⟨x, h1, h2, h3, _, h5⟩ := h H enc B BA hB W fuel _ d ps hf
  exact ⟨x, h1, h2, h3, h5 0 _ _ rfl rfl⟩
theorem one_slice {e : TypeId} {w : World} {r : Reach} {base : Nat} {t : TypeId} {v : Value} (ht : P.underlying t = some (.slice e)) (h : Value.okWide P w r base t v) : v.cells = #[v] := by
  obtain ⟨a, l, c, rfl⟩ := okWide_slice ht h; rfl
theorem one_int {k : IntKind} {w : World} {r : Reach} {base : Nat} {t : TypeId} {v : Value} (ht : P.underlying t = some (.int k)) (h : Value.okWide P w r base t v) : v.cells = #[v] := by
  obtain ⟨s, rfl⟩ := okWide_int ht h; rfl
theorem weightsEach_cons {H : Type} {t : TypeId} {ts : List TypeId} {d : DataW H} {ds : List (DataW H)} (h : (DataW.weightsEach P (t :: ts) (d :: ds)).all (· ≤ reachBytes) = true) : (d.weights P t).all (· ≤ reachBytes) = true ∧ (DataW.weightsEach P ts ds).all (· ≤ reachBytes) = true := by
  simpa [DataW.weightsEach, List.all_append] using h
theorem i64_bd {n : Int} (h : (Lit.int .i64 n).wf = true) : -9223372036854775808 ≤ n ∧ n ≤ 9223372036854775807 := by
  simp [Lit.wf, IntKind.min, IntKind.max, IntKind.signed, IntKind.bits] at h
  omega
end Go.KL

