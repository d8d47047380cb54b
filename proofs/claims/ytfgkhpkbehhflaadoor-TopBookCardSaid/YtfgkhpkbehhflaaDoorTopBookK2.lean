/- The place of a row among all of its bells, counted in two ways; the row at a place. -/
import Derived.Test.YtfgkhpkbehhflaaDoorTopBookK1
import Derived.Lib.Bytealg
import Derived.Scope
import Derived.Lib.Builder
import Derived.Lib.UnsafeStr
import Derived.Lib.SliceRun
import Derived.Lib.DecodeN
import Derived.Laws.CopyRow
import Derived.Laws.Bits64b
import Derived.Lib.AppendStr
import Derived.Laws.BitsLemmas
import Derived.Lib.IndexLaws
import Derived.Lib.SlTrimSet
import Derived.Lib.AtoiAll
import Derived.Lib.Join
import Derived.Lib.ItoaNum
import Derived.Laws.BitsAllLaws
import Derived.Below
import Derived.WideLaws
import Derived.Lib.AtoiErrMem
import Derived.Lib.LaidTab
import Derived.Lib.AppendIntMem
import Derived.Lib.AtoiAllCases
import Derived.Lib.ItoaLen
import Derived.Lib.ConvBytes
namespace Go.KL
def fct : Nat → Nat
  | 0 => 1
  | n + 1 => (n + 1) * fct n
theorem fct_pos : ∀ n, 1 ≤ fct n
  | 0 => by decide
  | n + 1 => Nat.mul_pos (by omega) (fct_pos n)
theorem fct_le_succ (n : Nat) : fct n ≤ fct (n + 1) := by
  have := fct_pos n
  rw [fct, Nat.succ_mul]; omega
theorem fct_mono {m n : Nat} (h : m ≤ n) : fct m ≤ fct n := by
  induction h with
  | refl => exact Nat.le_refl _
  | step _ ih => exact Nat.le_trans ih (fct_le_succ _)
def lessN (b : Int) (r : List Int) : Nat := r.countP fun c => decide (c < b)
theorem lessN_le (b : Int) (r : List Int) : lessN b r ≤ r.length := List.countP_le_length
def rankL : List Int → Nat
  | [] => 0
  | b :: r => lessN b r * fct r.length + rankL r
theorem rankL_lt : ∀ r : List Int, rankL r < fct r.length
  | [] => by decide
  | b :: r => by
    have h1 := rankL_lt r
    have h2 : lessN b r * fct r.length ≤ r.length * fct r.length := Nat.mul_le_mul_right _ (lessN_le b r)
    rw [rankL, List.length_cons, fct, Nat.succ_mul]; omega
theorem lessN_perm {b : Int} {r s : List Int} (h : r.Perm s) : lessN b r = lessN b s := h.countP_eq _
theorem rankL_inj : ∀ (r s : List Int), r.Perm s → rankL r = rankL s → r = s
  | [], s, h, _ => by
    have := h.length_eq
    exact (List.eq_nil_of_length_eq_zero (by simpa using this.symm)).symm
  | b :: r, [], h, _ => by have := h.length_eq; simp at this
  | b :: r, c :: s, h, e => by
    have hl : r.length = s.length := by have := h.length_eq; simpa using this
    rw [rankL, rankL, hl] at e
    have h1 := rankL_lt r
    have h2 := rankL_lt s
    rw [hl] at h1
    have hp := fct_pos s.length
    have e1 : lessN b r = lessN c s := by
      have ha : (lessN b r * fct s.length + rankL r) / fct s.length = lessN b r := by rw [Nat.add_comm, Nat.add_mul_div_right _ _ hp, Nat.div_eq_of_lt h1, Nat.zero_add]
      have hb : (lessN c s * fct s.length + rankL s) / fct s.length = lessN c s := by rw [Nat.add_comm, Nat.add_mul_div_right _ _ hp, Nat.div_eq_of_lt h2, Nat.zero_add]
      rw [← ha, e, hb]
    have e2 : rankL r = rankL s := by rw [e1] at e; omega
    have hb : lessN b r = lessN b (b :: r) := by simp [lessN]
    have hc : lessN c s = lessN c (c :: s) := by simp [lessN]
    have e3 : lessN b (b :: r) = lessN c (b :: r) := by rw [← hb, e1, hc]; exact (lessN_perm h).symm
    have lt : ∀ (x y : Int) (l : List Int), x ∈ l → x < y → lessN x l < lessN y l := by
      intro x y l hx hxy
      unfold lessN
      induction l with
      | nil => cases hx
      | cons z l ih =>
        have mono : l.countP (fun c => decide (c < x)) ≤ l.countP (fun c => decide (c < y)) := List.countP_mono_left fun w _ hw => by simp at hw ⊢; omega
        rw [List.countP_cons, List.countP_cons]
        by_cases hz : z = x
        · subst hz
          simp [hxy]; omega
        · have := ih (by simpa [Ne.symm hz] using hx)
          by_cases h1 : z < x
          · have h2 : z < y := by omega
            simp [h1, h2]; omega
          · simp [h1]; split <;> omega
    have hbc : b = c := by
      rcases Int.lt_trichotomy b c with h3 | h3 | h3
      · have := lt b c (b :: r) (by simp) h3; omega
      · exact h3
      · have := lt c b (b :: r) (h.mem_iff.2 (by simp)) h3; omega
    subst hbc
    rw [rankL_inj r s (List.perm_cons b |>.1 h) e2]
theorem rank_row_inj {r s : List Int} (hr : IsRow r) (hs : IsRow s) (hl : r.length = s.length) (e : rankL r = rankL s) : r = s :=
  rankL_inj r s ((row_perm hr).trans (by rw [hl]; exact (row_perm hs).symm)) e
/-! ### The row at a place -/
end Go.KL

/- All rows, each once: the way that is looked for; what rows may generate. -/
namespace Go.KL
/-! ### What may generate -/
def gensTo (n : Int) : List (List Int) → Int
  | [] => 0
  | g :: l => if rowMay g ≠ 0 then rowMay g else if ((g.length : Nat) : Int) ≠ n then 1 else gensTo n l
def gensMay (n : Int) (l : List (List Int)) : Int := if n < 1 ∨ 12 < n ∨ 8 < l.length then 1 else gensTo n l
theorem gensTo_ok {n : Int} : ∀ {l : List (List Int)}, gensTo n l = 0 → ∀ g ∈ l, IsRow g ∧ ((g.length : Nat) : Int) = n
  | [], _, g, hg => by cases hg
  | x :: l, h, g, hg => by
    rw [gensTo] at h
    split at h
    · contradiction
    · rename_i h1
      split at h
      · cases h
      · rename_i h2
        rcases List.mem_cons.1 hg with rfl | hg
        · exact ⟨rowMay_ok.1 (Classical.not_not.1 h1), Classical.not_not.1 h2⟩
        · exact gensTo_ok h g hg
theorem gensMay_ok {n : Int} {l : List (List Int)} (h : gensMay n l = 0) : (1 ≤ n ∧ n ≤ 12 ∧ l.length ≤ 8) ∧ ∀ k, k < l.length → IsRow (l.getD k []) ∧ (((l.getD k []).length : Nat) : Int) = n := by
  unfold gensMay at h
  split at h
  · cases h
  · rename_i hc
    refine ⟨by omega, fun k hk => gensTo_ok h _ ?_⟩
    simp [hk]

/-! ### The order of a row, taken again and again -/
/-! ### The way -/
structure Tour (n : Nat) (cs : List (List Int)) (rows : List (List Int)) (path : List Int) (r : List Int) : Prop where
  len : rows.length = path.length + 1
  row : ∀ x ∈ rows, IsRow x ∧ x.length = n
  nd : rows.Nodup
  last : rows.getD (rows.length - 1) [] = r
  csr : ∀ k, k < cs.length → IsRow (cs.getD k []) ∧ (cs.getD k []).length = n
  nn : 1 ≤ n ∧ n ≤ 4
  cl : cs.length ≤ 8
theorem Tour.rr {n : Nat} {cs rows : List (List Int)} {path r : List Int} (h : Tour n cs rows path r) : IsRow r ∧ r.length = n := by
  refine h.row r ?_
  have hl : rows.length - 1 < rows.length := by have := h.len; omega
  rw [← h.last]
  have e : rows.getD (rows.length - 1) [] = rows[rows.length - 1] := by simp [hl]
  rw [e]; exact List.getElem_mem hl
theorem Tour.x {n : Nat} {cs rows : List (List Int)} {path r : List Int} (h : Tour n cs rows path r) {k : Nat} (hk : k < cs.length) : IsRow (byL r (cs.getD k [])) ∧ (byL r (cs.getD k [])).length = n := by
  have h1 := h.rr
  have h2 := h.csr k hk
  exact ⟨byL_row h1.1 h2.1 (by omega), by rw [byL_len]; exact h2.2⟩
theorem rows_le {n : Nat} {rows : List (List Int)} (h : ∀ x ∈ rows, IsRow x ∧ x.length = n) (hn : rows.Nodup) : rows.length ≤ fct n := by
  have := nodup_len (fct n) (rows.map fun x => ((rankL x : Nat) : Int)) (by
    refine List.pairwise_map.2 (hn.imp_of_mem ?_)
    intro a b ha hb hab e
    refine hab (rank_row_inj (h a ha).1 (h b hb).1 (by rw [(h a ha).2, (h b hb).2]) (by omega))) (fun x hx => by
    obtain ⟨y, hy, rfl⟩ := List.mem_map.1 hx
    have := rankL_lt y
    rw [(h y hy).2] at this
    omega)
  simpa using this
theorem Tour.next {n : Nat} {cs rows : List (List Int)} {path r : List Int} (h : Tour n cs rows path r) {k : Nat} (hk : k < cs.length) (hx : byL r (cs.getD k []) ∉ rows) : Tour n cs (rows ++ [byL r (cs.getD k [])]) (path ++ [(k : Int)]) (byL r (cs.getD k [])) := by
  refine ⟨by simp [h.len], fun x hxm => ?_, ?_, by simp, h.csr, h.nn, h.cl⟩
  · rcases List.mem_append.1 hxm with hm | hm
    · exact h.row x hm
    · simp at hm; subst hm; exact h.x hk
  · refine List.nodup_append.2 ⟨h.nd, by simp, fun a ha b hb => ?_⟩
    simp at hb; subst hb
    rintro rfl; exact hx ha
theorem Tour.full {n : Nat} {cs rows : List (List Int)} {path r : List Int} (h : Tour n cs rows path r) {x : List Int} (hx : IsRow x ∧ x.length = n) (hn : x ∉ rows) : path.length + 1 < fct n := by
  have := rows_le (n := n) (rows := rows ++ [x]) (fun y hy => by
    rcases List.mem_append.1 hy with hm | hm
    · exact h.row y hm
    · simp at hm; subst hm; exact hx) (List.nodup_append.2 ⟨h.nd, by simp, fun a ha b hb => by simp at hb; subst hb; rintro rfl; exact hn ha⟩)
  simp at this
  have := h.len
  omega
theorem Tour.lt {n : Nat} {cs rows : List (List Int)} {path r : List Int} (h : Tour n cs rows path r) : path.length < fct n ∧ fct n ≤ 24 := by
  have h1 := rows_le h.row h.nd
  have h2 := h.len
  have h3 : fct n ≤ fct 4 := fct_mono h.nn.2
  have h4 : fct 4 = 24 := by decide
  omega
def SeenT (n : Nat) (rows : List (List Int)) (f : Int → Option Int) : Prop := ∀ x, IsRow x → x.length = n → (f ((rankL x : Nat) : Int)).getD 0 = if x ∈ rows then 1 else 0
theorem SeenT.put {n : Nat} {rows : List (List Int)} {f : Int → Option Int} (h : SeenT n rows f) {x : List Int} (hx : IsRow x ∧ x.length = n) : SeenT n (rows ++ [x]) (fun p => if p = ((rankL x : Nat) : Int) then some 1 else f p) := by
  intro y hy hl
  by_cases e : y = x
  · subst e; simp
  · have hne : rankL y ≠ rankL x := fun hh => e (rank_row_inj hy hx.1 (by omega) hh)
    simp only [Int.natCast_inj, if_neg hne]
    rw [h y hy hl]
    simp [e]
theorem SeenT.drop {n : Nat} {rows : List (List Int)} {f : Int → Option Int} {x : List Int} (h : SeenT n (rows ++ [x]) f) (hx : IsRow x ∧ x.length = n) (hn : x ∉ rows) : SeenT n rows (fun p => if p = ((rankL x : Nat) : Int) then some 0 else f p) := by
  intro y hy hl
  by_cases e : y = x
  · subst e; simp [hn]
  · have hne : rankL y ≠ rankL x := fun hh => e (rank_row_inj hy hx.1 (by omega) hh)
    simp only [Int.natCast_inj, if_neg hne]
    rw [h y hy hl]
    simp [e]
end Go.KL
namespace Go.KL
section
variable {F : List (List Int) → List Int → Option (List Int)} {cs : List (List Int)} {N : Nat} {rows : List (List Int)} {path r : List Int} {k : Nat} (hl : rows.getD (rows.length - 1) [] = r)
include hl
end
theorem Tour.start {n : Int} {cs : List (List Int)} (h : ¬ (n < 1 ∨ 4 < n ∨ 8 < cs.length)) (h2 : ¬ gensMay n cs ≠ 0) : Tour n.toNat cs [roundsL n.toNat] [] (roundsL n.toNat) := by
  have hg := gensMay_ok (Classical.not_not.1 h2)
  refine ⟨rfl, fun x hx => ?_, by simp, rfl, fun k hk => ⟨(hg.2 k hk).1, by have := (hg.2 k hk).2; omega⟩, ⟨by omega, by omega⟩, by omega⟩
  simp at hx; subst hx
  exact ⟨roundsL_row (by omega) (by omega), roundsL_len _⟩
end Go.KL
namespace Go.KL
end Go.KL

/- All rows, each once: what is found rings, and nothing ahead of it does. -/
namespace Go.KL
def belowL : List Int → List Int → Bool
  | [], b => decide (0 < b.length)
  | _ :: _, [] => false
  | x :: a, y :: b => if x = y then belowL a b else decide (x < y)
def SeenB (n : Nat) (vis : List (List Int)) (f : Int → Option Bool) : Prop := ∀ x, IsRow x → x.length = n → (f ((rankL x : Nat) : Int)).getD false = decide (x ∈ vis)
theorem SeenB.put {n : Nat} {vis : List (List Int)} {f : Int → Option Bool} (h : SeenB n vis f) {x : List Int} (hx : IsRow x) (hl : x.length = n) : SeenB n (vis ++ [x]) (fun p => if p = ((rankL x : Nat) : Int) then some true else f p) := by
  intro y hy hly
  by_cases e : y = x
  · subst e; simp
  · have hne : rankL y ≠ rankL x := fun hh => e (rank_row_inj hy hx (by omega) hh)
    simp only [Int.natCast_inj, if_neg hne]
    rw [h y hy hly]
    simp [e]
end Go.KL

/- Strings: cut, joined, compared, made of runes; numbers converted; joins of branches; scopes; functions without a body. -/
namespace Go.KL
open Go.RowKit
variable {P : Program} {d : Option Tmp} {ty : TypeId} {pos : String} {af : Array Edge} {g : Option (Nat × Bool)} {a : Act} {σ : GW}

/-! ### Ways on -/
section
variable {Q : Exit → Act → World → Prop} {w : World}
end

/-! ### Numbers -/
theorem y_conv {x : Operand} {t u : TypeId} {k j : IntKind} {n m : Int} (hu : P.underlying u = some (.int j)) (hx : a.eval x = .int k n) (hm : j.wrap n = m) (ht : (P.underlying t).isSome = true) :
    Yld P ⟨d, .convert t u x, ty, pos, af, g⟩ a σ (Ty.val (.int j m)).pr := by
  obtain ⟨td, htd⟩ := Option.isSome_iff_exists.1 ht
  refine Yld.of_run (v := .int j m) ?_ rfl
  simp only [execOp, hx]
  subst hm
  simp [convert, Sem.run_bind, run_underlying hu, run_underlying htd, Conv.intToInt]
/-! ### Strings -/
theorem str_eq_iff (s t : ByteArray) : (s.toList == t.toList) = decide (s = t) := by
  rw [Bool.eq_iff_iff]
  simp only [beq_iff_eq, decide_eq_true_eq, ByteArray.toList_eq]
  constructor
  · intro h
    cases s with | mk s => cases t with | mk t =>
    simp only at h
    congr 1
    exact Array.toList_inj.1 h
  · rintro rfl; rfl
theorem y_seql {x y : Operand} {t u : TypeId} {r s : ByteArray} (ht : P.underlying t = some .string) (hx : a.eval x = .string r) (hy : a.eval y = .string s) : Yld P ⟨d, .binOp .eql t x y u, ty, pos, af, g⟩ a σ (Ty.bool (decide (r = s))).pr :=
  Yld.of_run (v := .bool (r.toList == s.toList)) (by simp only [execOp, hx, hy]; simp [binOp_string_eql, eqGuard, run_underlying ht]) (by show Value.bool _ = _; rw [str_eq_iff])
theorem y_sneq {x y : Operand} {t u : TypeId} {r s : ByteArray} (ht : P.underlying t = some .string) (hx : a.eval x = .string r) (hy : a.eval y = .string s) : Yld P ⟨d, .binOp .neq t x y u, ty, pos, af, g⟩ a σ (Ty.bool (!decide (r = s))).pr :=
  Yld.of_run (v := .bool (!(r.toList == s.toList))) (by simp only [execOp, hx, hy]; simp [binOp_string_neq, eqGuard, run_underlying ht]) (by show Value.bool _ = _; rw [str_eq_iff])
theorem y_scat {x y : Operand} {t u : TypeId} {r s : ByteArray} (hx : a.eval x = .string r) (hy : a.eval y = .string s) (hl : r.size + s.size ≤ 9223372036854775807) : Yld P ⟨d, .binOp .add t x y u, ty, pos, af, g⟩ a σ (Ty.val (.string (r ++ s))).pr := by
  refine Yld.of_run (v := .string (r ++ s)) ?_ rfl
  simp only [execOp, hx, hy]
  have h2 : ¬ (((r.size + s.size : Nat) : Int) > IntKind.i64.max) := by
    have : IntKind.i64.max = 9223372036854775807 := by decide
    rw [this]; omega
  simp only [binOp_string_add, Op.stringOp, if_neg h2]
  simp [eqGuard]
theorem y_sfrom {x y : Operand} {t : TypeId} {s : ByteArray} {k : IntKind} {l : Nat} (ht : P.underlying t = some .string) (hx : a.eval x = .string s) (hy : a.eval y = .int k l) (hl : l ≤ s.size) :
    Yld P ⟨d, .slice t x (some y) none none, ty, pos, af, g⟩ a σ (Ty.val (.string (s.extract l s.size))).pr := by
  refine Yld.of_run (v := .string (s.extract l s.size)) ?_ rfl
  simp only [execOp, hx, hy, Option.map_some, Option.map_none]
  have hl' : (0 : Int) ≤ (l : Int) ∧ (l : Int) ≤ ((s.size : Nat) : Int) := by omega
  simp [Instr.sliceAt, Instr.slice, Sem.run_bind, run_underlying ht, Instr.sliceBounds, Instr.sliceBound, asIntOf, hl]
theorem y_sto {x y : Operand} {t : TypeId} {s : ByteArray} {k : IntKind} {h : Nat} (ht : P.underlying t = some .string) (hx : a.eval x = .string s) (hy : a.eval y = .int k h) (hl : h ≤ s.size) :
    Yld P ⟨d, .slice t x none (some y) none, ty, pos, af, g⟩ a σ (Ty.val (.string (s.extract 0 h))).pr := by
  refine Yld.of_run (v := .string (s.extract 0 h)) ?_ rfl
  simp only [execOp, hx, hy, Option.map_some, Option.map_none]
  simp [Instr.sliceAt, Instr.slice, Sem.run_bind, run_underlying ht, Instr.sliceBounds, Instr.sliceBound, asIntOf, hl]
/-! ### A function without a body -/
theorem y_extern {f : FuncId} {xs : Array Operand} {tys : Array TypeId} {R : Ty} {v : Value} (args : Array Value) (hargs : xs.map a.eval = args) (hr : (callFunc f args).run P σ.w = .ok (.value v) σ.w) (h : R.has σ v) :
    Yld P ⟨d, .call ⟨.value (.func f), xs, tys⟩, ty, pos, af, g⟩ a σ R.pr := by
  refine Yld.of_run (v := v) ?_ h
  simp only [execOp, resolve, hargs]
  simp only [Act.eval, Deferred.ofValue, Sem.run_bind, Sem.run_pure, Result.andThen_ok]
  simpa [invoke] using hr
end Go.KL

/- The signs of bells: where a rune stands among them. -/
namespace Go.KL
theorem get_list {s : ByteArray} {i : Nat} (h : i < s.size) : s.get! i = s.data.toList[i]'(by simpa using h) := by
  have h' : i < s.data.size := h
  simp only [ByteArray.get!]
  rw [getElem!_pos s.data i h']
  simp
theorem wrap_u8 {c : Int} (h0 : 0 ≤ c) (h1 : c < 256) : IntKind.u8.wrap c = c := by
  simp [IntKind.wrap, IntKind.bits, IntKind.signed]; omega
end Go.KL

/- What package strings' Builder meets: pointers held against each other, a row of bytes that becomes a string. -/
namespace Go.KL
open Go.RowKit
variable {P : Program} {d : Option Tmp} {ty : TypeId} {pos : String} {af : Array Edge} {g : Option (Nat × Bool)} {a : Act} {σ : GW}

abbrev Ty.byte (b : UInt8) : Ty := .val (.int .u8 ((b.toNat : Nat) : Int))
def bsL (l : List UInt8) : ByteArray := ⟨l.toArray⟩
def OwnPT (E : TypeId) (σ : GW) (k : Nat) (v : Value) (ts : List Ty) : Prop :=
  ∃ g cur, v = .pointer (some ⟨g, 0, none⟩) ∧ σ.st g = k ∧ σ.w.heap[g]? = some (.cells cur E (0, 0)) ∧ cur.size = ts.length ∧ ∀ (j : Nat) (T : Ty) (u : Value), ts[j]? = some T → cur[j]? = some u → T.has σ u
theorem OwnPT.toP {E : TypeId} {k : Nat} {v : Value} {ts : List Ty} (h : OwnPT E σ k v ts) : OwnP σ k v ts := by
  obtain ⟨g, cur, h1, h2, h3, h4, h5⟩ := h; exact ⟨g, E, cur, h1, h2, h3, h4, h5⟩
theorem OwnPT.keepL {E : TypeId} {L : List Nat} {k : Nat} {σ τ : GW} {v : Value} {ts : List Ty} (h : OwnPT E σ k v ts) (hs : StpL L σ τ) (h1 : 1 ∉ L) (hk : k ∉ L) : OwnPT E τ k v ts := by
  obtain ⟨g, cur, rfl, r2, r3, r4, r5⟩ := h
  have hg := (Array.getElem?_eq_some_iff.1 r3).1
  have hq : σ.st g ∉ L := by rw [r2]; exact hk
  exact ⟨g, cur, rfl, (hs.st g hg hq).trans r2, (hs.blk g hg hq).trans r3, r4, fun j T u hj hu => T.up (hs.le h1) (r5 j T u hj hu)⟩
theorem OwnPT.k0 {E : TypeId} {k : Nat} {σ τ : GW} {v : Value} {ts : List Ty} (h : OwnPT E σ k v ts) (hs : Stp 0 σ τ) : OwnPT E τ k v ts := h.keepL (L := []) hs.toL0 (by simp) (by simp)
theorem OwnPT.ren {E : TypeId} {k k' : Nat} {σ τ : GW} {v : Value} {ts : List Ty} (h : OwnPT E σ k v ts) (r : Ren k k' σ τ) : OwnPT E τ k' v ts := by
  obtain ⟨g, cur, rfl, r2, r3, r4, r5⟩ := h
  exact ⟨g, cur, rfl, r.st g r2, by rw [r.w]; exact r3, r4, fun j T u hj hu => T.up r.le (r5 j T u hj hu)⟩
theorem OwnPT.one {E : TypeId} {k : Nat} {v : Value} {ts : List Ty} (h : OwnPT E σ k v ts) : v.oneCell' = true := h.toP.one
def Pr.ownpt (E : TypeId) (k : Nat) (ts : List Ty) : Pr := ⟨fun σ v => OwnPT E σ k v ts, fun hs h => h.k0 hs⟩
theorem ownpt_cell {E : TypeId} {k : Nat} {v : Value} {ts : List Ty} {T : Ty} (j : Nat) (U : Ty) (h : OwnPT E σ k v ts) (e : ts[j]? = some T) (hTU : ∀ σ u, T.has σ u → U.has σ u) : OwnPT E σ k v (ts.set j U) := by
  obtain ⟨gg, cur, rfl, h2, h3, h4, h5⟩ := h
  refine ⟨gg, cur, rfl, h2, h3, by simpa using h4, fun i V u hV hu => ?_⟩
  by_cases hij : i = j
  · subst hij
    rw [List.getElem?_set_self (by exact (List.getElem?_eq_some_iff.1 e).1)] at hV
    cases hV
    exact hTU _ _ (h5 i T u e hu)
  · rw [List.getElem?_set_ne (Ne.symm hij)] at hV
    exact h5 i V u hV hu
theorem y_alloct {k : Nat} {e : TypeId} {z : Value} {c b : Nat} {ts : List Ty} (he : Info P e z c b) (hl : ts.length = z.cells.size) (hT : ∀ (j : Nat) (T : Ty) (u : Value), ts[j]? = some T → z.cells[j]? = some u → ∀ σ, T.has σ u) :
    Yld P ⟨d, .alloc e, ty, pos, af, g⟩ a σ (Pr.ownpt e k ts) := by
  intro K Q hk
  have hr' : (execOp a.eval ⟨d, .alloc e, ty, pos, af, g⟩).run P σ.w = .ok (.value (.pointer (some ⟨σ.w.heap.size, 0, none⟩))) (σ.w.alloc (.cells z.cells e)) := by
    simp only [execOp]
    simp [Instr.alloc, he.zero, newVar, newRow, newObj, Sem.run, Sem.run_bind]
  unfold Oper.wp
  rw [hr']
  exact hk _ (σ.mk' k (.cells z.cells e)) (Stp.mk' σ k _) ⟨σ.w.heap.size, z.cells, rfl, by show (if _ = _ then k else _) = k; rw [if_pos rfl], heap_alloc_new σ.w _, hl.symm, fun j T u hj hu => hT j T u hj hu _⟩
theorem m_storept {E : TypeId} {k : Nat} {x y : Operand} {i : Nat} {ts : List Ty} {T : Ty} {t : TypeId} {z v : Value} {by_ : Nat} (he : Info P t z 1 by_) (hk : 2 ≤ k) (h : OwnPT E σ k v ts) (hx : a.eval x = ptrAt v i) (hi : i < ts.length) (hy : At T σ a y) (h1 : One T) :
    YldM k P ⟨d, .store t x y, ty, pos, af, g⟩ a σ (fun _ τ => OwnPT E τ k v (ts.set i T)) := by
  obtain ⟨gg, cur, rfl, h2, h3, h4, h5⟩ := h
  have ho := h1 _ _ hy
  have hlt : i < cur.size := by omega
  have hc : σ.w.cell? ⟨gg, i, none⟩ = some cur[i] := by simp [World.cell?, h3, hlt]
  have hf : σ.w.frozen? ⟨gg, i, none⟩ = false := by simp [World.frozen?, h3]
  have hx' : a.eval x = .pointer (some ⟨gg, i, none⟩) := hx
  intro K Q hK
  have hr : (execOp a.eval ⟨d, .store t x y, ty, pos, af, g⟩).run P σ.w = .ok .skip (σ.w.setCell ⟨gg, i, none⟩ (a.eval y)) := by
    simp only [execOp, hx']
    have hst : (store ⟨gg, i, none⟩ (a.eval y)).run P σ.w = .ok () (σ.w.setCell ⟨gg, i, none⟩ (a.eval y)) := by
      rw [run_store P σ.w _ _ _ ho, hc, hf]; rfl
    simp [Instr.storeAt, Instr.sureAddr, storeVar, Sem.run_bind, cells_of_one ho, he.size, storeCells, Addr.add_zero', hst]
  unfold Oper.wp
  rw [hr]
  have hstp : Stp k σ ⟨σ.w.setCell ⟨gg, i, none⟩ (a.eval y), σ.st, fun b h => by have := σ.lt b h; simpa using this⟩ :=
    ⟨rfl, rfl, rfl, Dr.refl _, by simp, fun b hb hm => Below.heap_setCell σ.w _ _ b (by rintro rfl; simp at hm; omega), fun _ _ _ => rfl⟩
  have hh : (σ.w.setCell ⟨gg, i, none⟩ (a.eval y)).heap[gg]? = some (.cells (cur.setIfInBounds i (a.eval y)) E (0, 0)) := by
    unfold World.setCell
    rw [Array.getElem?_modify, if_pos rfl, h3]
    rfl
  refine hK undef _ hstp ⟨gg, _, rfl, h2, hh, by simp [h4], fun j U u hU hu => ?_⟩
  by_cases hji : j = i
  · subst hji
    rw [List.getElem?_set_self (by omega)] at hU
    rw [Array.getElem?_setIfInBounds_self_of_lt hlt] at hu
    cases hU; cases hu
    exact T.up (hstp.le (by omega)) hy
  · rw [List.getElem?_set_ne (Ne.symm hji)] at hU
    rw [Array.getElem?_setIfInBounds_ne (Ne.symm hji)] at hu
    exact U.up (hstp.le (by omega)) (h5 j U u hU hu)

def bAddr (nb : Bool) (b : Value) : Value := if nb then .pointer none else b
theorem y_bnil {E tp te u : TypeId} {x y : Operand} {k : Nat} {nb : Bool} {b : Value} {ts : List Ty} {z : Value} {c by_ : Nat} (hp : P.underlying tp = some (.pointer te)) (he : Info P te z c by_) (h : OwnPT E σ k b ts) (hx : a.eval x = bAddr nb b) (hy : a.eval y = .pointer none) :
    Yld P ⟨d, .binOp .eql tp x y u, ty, pos, af, g⟩ a σ (Ty.bool nb).pr := by
  obtain ⟨gg, cur, rfl, _⟩ := h
  obtain ⟨i, hi, _⟩ := he.get
  have hr : ∀ q : Option Addr, (binOp .eql tp (.pointer q) (.pointer none)).run P σ.w = .ok (.bool q.isNone) σ.w := fun q => run_eql_pointer_nil σ.w tp q (by rw [hp]; simp [Program.pointee, hp])
  cases nb with
  | true =>
    refine Yld.of_run (v := .bool true) ?_ rfl
    have hx' : a.eval x = .pointer none := hx
    simp only [execOp, hx', hy]
    simp [eqGuard, hr]
  | false =>
    refine Yld.of_run (v := .bool false) ?_ rfl
    have hx' : a.eval x = .pointer (some ⟨gg, 0, none⟩) := hx
    simp only [execOp, hx', hy]
    simp [eqGuard, hr]
theorem y_bself {E tp te u : TypeId} {x y : Operand} {k : Nat} {b : Value} {ts : List Ty} {z : Value} {c by_ : Nat} (hp : P.underlying tp = some (.pointer te)) (he : Info P te z c by_) (h : OwnPT E σ k b ts) (hx : a.eval x = bAddr false b) (hy : a.eval y = b) :
    Yld P ⟨d, .binOp .neq tp x y u, ty, pos, af, g⟩ a σ (Ty.bool false).pr := by
  obtain ⟨gg, cur, rfl, _⟩ := h
  obtain ⟨i, hi, _⟩ := he.get
  refine Yld.of_run (v := .bool false) ?_ rfl
  have hx' : a.eval x = .pointer (some ⟨gg, 0, none⟩) := hx
  simp only [execOp, hx', hy]
  have := Lib.run_neq_ptr_same (P := P) σ.w ⟨gg, 0, none⟩ hp hi
  simp [eqGuard, this]
theorem y_tounsafe {E src dst te : TypeId} {x : Operand} {k : Nat} {b : Value} {ts : List Ty} {z : Value} {c by_ : Nat} (hs : P.underlying src = some (.pointer te)) (hd : P.underlying dst = some .unsafePointer) (he : Info P te z c by_) (hc : c ≠ 0) (h : OwnPT E σ k b ts) (hl : 0 < ts.length) (hx : a.eval x = b) :
    Yld P ⟨d, .convert src dst x, ty, pos, af, g⟩ a σ (Ty.val b).pr := by
  obtain ⟨gg, cur, rfl, h2, h3, h4, h5⟩ := h
  obtain ⟨i, hi, _, hsz, _⟩ := he.get
  refine Yld.of_run (v := .pointer (some ⟨gg, 0, none⟩)) ?_ rfl
  simp only [execOp, hx]
  have := Lib.run_to_unsafe (P := P) σ.w ⟨gg, 0, none⟩ hs hd hi (by rw [hsz]; exact hc) (e := E) (cells := cur.size) (by simp [World.shape?, h3]) (by show 0 < cur.size; omega)
  simp [this]
theorem y_fromunsafe {E src dst te : TypeId} {x : Operand} {k : Nat} {b : Value} {ts : List Ty} {z : Value} {c by_ : Nat} (hs : P.underlying src = some .unsafePointer) (hd : P.underlying dst = some (.pointer te)) (he : Info P te z c by_) (h : OwnPT E σ k b ts) (hx : a.eval x = b)
    (hlies : liesAt P P.depth E (ts.length / P.cellsOf E) 0 te 1 = true) : Yld P ⟨d, .convert src dst x, ty, pos, af, g⟩ a σ (Ty.val b).pr := by
  obtain ⟨gg, cur, rfl, h2, h3, h4, h5⟩ := h
  obtain ⟨i, hi, _⟩ := he.get
  refine Yld.of_run (v := .pointer (some ⟨gg, 0, none⟩)) ?_ rfl
  simp only [execOp, hx]
  have := Lib.run_from_unsafe (P := P) σ.w ⟨gg, 0, none⟩ hs hd hi (e := E) (cells := cur.size) (by simp [World.shape?, h3]) (by rw [h4]; exact hlies)
  simp [this]

def Ty.dptr (buf : Value) (n : Nat) : Ty := ⟨fun _ v => ∃ p, v = .pointer p ∧ (0 < n → ∃ gg m c, buf = .slice (some ⟨gg, 0, none⟩) m c ∧ p = some ⟨gg, 0, none⟩), fun _ h => h⟩
theorem y_sdata {k : Nat} {x : Operand} {e te t : TypeId} {n : Nat} {buf : Value} {ts : List Ty} (hp : P.underlying ty = some (.pointer te)) (h : Own σ k e 1 buf n ts) (hx : a.eval x = buf) :
    Yld P ⟨d, .call ⟨.builtin .unsafeSliceData, #[x], #[t]⟩, ty, pos, af, g⟩ a σ (Ty.dptr buf n).pr := by
  obtain ⟨us, r1, r2, r3, r4⟩ := h
  rcases r1.2 with ⟨rfl, hn0⟩ | ⟨gg, cap, cur, rfl, hb, hg, hn, hm, hcs, htk⟩
  · refine Yld.of_run (v := .pointer none) (run_builtin1 hx (fun cs => ?_)) ⟨none, rfl, fun h0 => by omega⟩
    show (do pure (.value (← Builtin.unsafeSliceData_ #[t] ty #[.slice none 0 0])) : Sem Next).run P σ.w = _
    rw [Sem.run_bind, Lib.run_unsafeSliceData_nil]; rfl
  · by_cases hc : cap = 0
    · subst hc
      have hn0 : n = 0 := by omega
      subst hn0
      intro K Q hk
      have hr : (execOp a.eval ⟨d, .call ⟨.builtin .unsafeSliceData, #[x], #[t]⟩, ty, pos, af, g⟩).run P σ.w = .ok (.value (.pointer (some ⟨σ.w.heap.size, 0, none⟩))) (σ.w.alloc (.view ⟨gg, 0, none⟩ te)) := by
        refine run_builtin1 hx (fun cs => ?_)
        show (do pure (.value (← Builtin.unsafeSliceData_ #[t] ty #[.slice (some ⟨gg, 0, none⟩) 0 0])) : Sem Next).run P σ.w = _
        rw [Sem.run_bind, Lib.run_unsafeSliceData_zero σ.w #[t] ty te hp ⟨gg, 0, none⟩ 0 (e, cur.size) (by simp [World.shape?, hg])]; rfl
      unfold Oper.wp
      rw [hr]
      exact hk _ (σ.mk' 0 (.view ⟨gg, 0, none⟩ te)) (Stp.mk' σ 0 _) ⟨_, rfl, fun h0 => by omega⟩
    · refine Yld.of_run (v := .pointer (some ⟨gg, 0, none⟩)) (run_builtin1 hx (fun cs => ?_)) ⟨_, rfl, fun _ => ⟨gg, n, cap, rfl, rfl⟩⟩
      show (do pure (.value (← Builtin.unsafeSliceData_ #[t] ty #[.slice (some ⟨gg, 0, none⟩) n cap])) : Sem Next).run P σ.w = _
      rw [Sem.run_bind, Lib.run_unsafeSliceData_row _ _ _ _ _ _ hc]; rfl
theorem m_sstr {k : Nat} {x y : Operand} {e t t2 : TypeId} {buf : Value} {l : List UInt8} (hk : 2 ≤ k) (hp : P.underlying t = some (.pointer e)) (hc : P.cellsOf e = 1) (h : Own σ k e 1 buf l.length (l.map Ty.byte)) (hx : At (Ty.dptr buf l.length) σ a x) (hy : a.eval y = .int .i64 ((l.length : Nat) : Int)) :
    YldM k P ⟨d, .call ⟨.builtin .unsafeString, #[x, y], #[t, t2]⟩, ty, pos, af, g⟩ a σ (fun v τ => (Ty.val (.string (bsL l))).has τ v) := by
  obtain ⟨us, r1, r2, r3, r4⟩ := h
  obtain ⟨p, hp', hpp⟩ := hx
  have step : ∀ (u : Value) (w' : World), (Builtin.unsafeString_ #[t, t2] ty #[.pointer p, .int .i64 ((l.length : Nat) : Int)]).run P σ.w = .ok u w' → (execOp a.eval ⟨d, .call ⟨.builtin .unsafeString, #[x, y], #[t, t2]⟩, ty, pos, af, g⟩).run P σ.w = .ok (.value u) w' := by
    intro u w' hb
    simp only [execOp, resolve, Sem.run_bind, Sem.run_pure, Result.andThen_ok, invoke, List.map_toArray, List.map_cons, List.map_nil, hp', hy]
    simp [builtin, Sem.run_bind, hb]
  intro K Q hK
  by_cases h0 : l = []
  · subst h0
    have hr := step _ _ (Lib.run_unsafeString_none (P := P) σ.w t t2 ty p)
    unfold Oper.wp
    rw [hr]
    exact hK _ σ ⟨rfl, rfl, rfl, Dr.refl _, Nat.le_refl _, fun _ _ _ => rfl, fun _ _ _ => rfl⟩ rfl
  · have hpos : 0 < l.length := List.length_pos_iff.2 h0
    obtain ⟨gg, m, c, rfl, rfl⟩ := hpp hpos
    rcases r1.2 with ⟨e1, _⟩ | ⟨g2, cap, cur, e1, hb, hg, hn, hm, hcs, htk⟩
    · cases e1
    · cases e1
      have hcell : ∀ j x, l[j]? = some x → σ.w.cell? ((⟨gg, 0, none⟩ : Addr).add j) = some (.int .u8 ((x.toNat : Nat) : Int)) := by
        intro j x hj
        obtain ⟨u, hu⟩ : ∃ u, us[j]? = some u := ⟨us[j]'(by rw [r2]; have := (List.getElem?_eq_some_iff.1 hj).1; simpa using this), by simp⟩
        have hT := r3 j (Ty.byte x) u (by simp [hj]) hu
        have hT' : u = .int .u8 ((x.toNat : Nat) : Int) := hT
        rw [r1.cells (g := gg) rfl j u hu, hT']
      have hr := step _ _ (Lib.run_unsafeString_row (P := P) σ.w t t2 ty e hp hc gg cur.size (by simp [World.shape?, hg]) l h0 (by omega) (by have : maxLen = 9223372036854775807 := rfl; omega) hcell)
      unfold Oper.wp
      rw [hr]
      have hgk := r4 gg rfl
      refine hK _ ⟨σ.w.freeze ⟨gg, 0, none⟩ l.length, σ.st, fun b hb' => ?_⟩ ⟨?_, ?_, ?_, ?_, ?_, fun b hb' hmm => ?_, fun _ _ _ => rfl⟩ rfl
      · have := σ.lt b hb'
        unfold World.freeze; split <;> simp <;> omega
      · show (World.freeze _ _ _).os = _; unfold World.freeze; split <;> rfl
      · show (World.freeze _ _ _).tape = _; unfold World.freeze; split <;> rfl
      · show (World.freeze _ _ _).output = _; unfold World.freeze; split <;> rfl
      · refine .inl ?_; show _ ≤ (World.freeze _ _ _).drawn; unfold World.freeze; split <;> exact Nat.le_refl _
      · show _ ≤ (World.freeze _ _ _).heap.size; unfold World.freeze; split <;> simp
      · show (World.freeze _ _ _).heap[b]? = _
        unfold World.freeze
        split
        · rfl
        · rw [Array.getElem?_modify, if_neg (by rintro rfl; simp at hmm; omega)]
end Go.KL
namespace Go.KL
theorem bAddr_f {nb : Bool} {b x : Value} (h : nb = false) (e : x = bAddr nb b) : x = bAddr false b := by rw [e, h]
end Go.KL

/- Cutting one out of a row that is owned: its two ends, joined in place, and the rest made zero. -/
namespace Go.KL
open Go.RowKit
variable {P : Program} {d : Option Tmp} {ty : TypeId} {pos : String} {af : Array Edge} {g : Option (Nat × Bool)} {a : Act} {σ : GW}
def capGe (v : Value) (n : Nat) : Prop := match v with | .slice _ _ cap => n ≤ cap | _ => False

theorem Own.form {k : Nat} {e : TypeId} {n : Nat} {v : Value} {ts : List Ty} (h : Own σ k e 1 v n ts) : ∃ ad cap, v = .slice ad n cap ∧ n ≤ cap ∧ cap ≤ 9223372036854775807 := by
  obtain ⟨us, r1, _⟩ := h
  rcases r1.2 with ⟨rfl, rfl⟩ | ⟨gg, cap, cur, rfl, _, _, hn, hm, _⟩
  · exact ⟨none, 0, rfl, Nat.le_refl _, by decide⟩
  · exact ⟨_, cap, rfl, hn, hm⟩
theorem Own.cap {k : Nat} {e : TypeId} {n : Nat} {v : Value} {ts : List Ty} (h : Own σ k e 1 v n ts) : capGe v n := by
  obtain ⟨ad, cap, rfl, hn, _⟩ := h.form; exact hn
section
variable {k : Nat} {x y y' y'' : Operand} {n : Nat} {ts : List Ty} {t e e' : TypeId} {z v : Value} {b : Nat} {ki kj kk : IntKind} (ht : P.underlying t = some (.slice e')) (he : Info P e' z 1 b) (ho : Own σ k e 1 v n ts) (hx : a.eval x = v)
include ht he ho hx
end
theorem one_map {α : Type} {f : α → Ty} {xs : List α} (h : ∀ x, One (f x)) : ∀ U, U ∈ xs.map f → One U := fun U hU => by
  obtain ⟨x, _, rfl⟩ := List.mem_map.1 hU; exact h x
end Go.KL

/- Rows read and written as text; the row at a place; the laws of rows. -/
namespace Go.KL
theorem run1_lo {s : ByteArray} {p : Nat} (hb : (s.get! p).toNat < 128) : run1 s p = (s.get! p).toNat ∧ wid s p = 1 := by
  unfold run1 wid Utf8.decode
  simp only [Nat.add_zero]
  rw [if_pos hb]
  exact ⟨rfl, rfl⟩
theorem bsL_size (l : List UInt8) : (bsL l).size = l.length := by simp [bsL, ByteArray.size]
theorem bsL_get {l : List UInt8} {j : Nat} (h : j < l.length) : (bsL l).get! j = l[j] := by
  rw [get_list (by rw [bsL_size]; exact h)]
  simp [bsL]
end Go.KL
namespace Go.KL
end Go.KL

/- A region in whatever order, one operation of which writes: the others neither read nor write what it writes. -/
namespace Go.KL
open Go.RowKit
variable {P : Program}

theorem half_any3 {m N : Nat} {ops : Array Oper} {Q : Exit → Act → World → Prop} (hF : Form N ops) (hm : m ≤ ops.size) (hB : forcedB m ops.toList = true) (M : (Nat → Bool) → Act → GW → Prop)
    (hstep : ∀ (i : Nat) o (L : Nat → Bool) a σ (K : Act → World → Prop), ops[i]? = some o → i < m → M L a σ → L i = false → (∀ e ∈ o.after, Region.binds .any e = true → L e.on = true) →
      (∀ (j : Nat) oj, ops[j]? = some oj → L j = true → ∀ e ∈ oj.after, Region.binds .any e = true → L e.on = true) → (∀ a' σ', M (fun j => L j || j == i) a' σ' → K a' σ'.w) → wpOp P ops Q i K a σ.w)
    (hQ : ∀ a σ, M (fun j => decide (j < m)) a σ → wpList P ops Q (ops.toList.drop m) a σ.w) : ∀ (f : Nat) (L : Array Bool) (a : Act) (σ : GW), L.size = ops.size → left ops.size L ≤ f → (∀ j, j < ops.size → m ≤ j → L.getD j true = false) →
    (∀ (j : Nat) oj, ops[j]? = some oj → L.getD j true = true → ∀ e ∈ oj.after, Region.binds .any e = true → L.getD e.on true = true) → M (fun j => decide (j < m) && L.getD j true) a σ → wpAny P .any ops Q f L a σ.w := by
  intro f
  induction f with
  | zero =>
    intro L a σ hs hf hLm hcl hmid
    have hnone : ∀ j, j < ops.size → L.getD j true = true := fun j hj => by
      cases h : L.getD j true with
      | true => rfl
      | false => have := left_set hs hj h; omega
    have hmm : m = ops.size := by
      rcases Nat.lt_or_ge m ops.size with h | h
      · have := hnone m h; rw [hLm m h (Nat.le_refl _)] at this; cases this
      · omega
    have e : (fun j => decide (j < m) && L.getD j true) = (fun j => decide (j < m)) := by
      funext j
      by_cases h : j < m
      · rw [hnone j (by omega)]; simp
      · simp [h]
    rw [e] at hmid
    exact tail_any hF hB 0 m 0 L a σ.w (by omega) (Nat.le_refl _) hs (Nat.le_refl _) (fun j hj => by rw [hnone j hj]; simp; omega) (hQ a σ hmid)
  | succ f ih =>
    intro L a σ hs hf hLm hcl hmid
    by_cases hdone : ∀ j, j < m → L.getD j true = true
    · have hL : ∀ j, j < ops.size → L.getD j true = decide (j < m) := fun j hj => by
        by_cases h : j < m
        · rw [hdone j h]; simp [h]
        · rw [hLm j hj (by omega)]; simp [h]
      have e : (fun j => decide (j < m) && L.getD j true) = (fun j => decide (j < m)) := by
        funext j
        by_cases h : j < m
        · rw [hdone j h]; simp
        · simp [h]
      rw [e] at hmid
      refine tail_any hF hB (ops.size - m) m (f + 1) L a σ.w (by omega) (Nat.le_refl _) hs ?_ hL (hQ a σ hmid)
      refine Nat.le_trans ?_ hf
      unfold left
      have : (List.range ops.size).countP (fun i => !L.getD i true) = (List.range ops.size).countP (fun i => decide (m ≤ i)) := List.countP_congr fun i hi => by rw [hL i (List.mem_range.1 hi)]; simp
      rw [this]
      have hcnt : ∀ n, (List.range n).countP (fun i => decide (m ≤ i)) = n - m := fun n => by
        induction n with
        | zero => simp
        | succ n ihn =>
          rw [List.range_succ, List.countP_append, ihn]
          by_cases h : m ≤ n <;> simp [h] <;> omega
      rw [hcnt]
      exact Nat.le_refl _
    · have hsome : ∃ j, j < m ∧ L.getD j true = false := by
        refine Classical.byContradiction fun hn => hdone fun j hj => ?_
        cases h : L.getD j true with
        | true => rfl
        | false => exact absurd ⟨j, hj, h⟩ hn
      have up : ∀ k, L.getD k false = true → L.getD k true = true := fun k h => by
        by_cases hk : k < L.size
        · simp [hk] at h ⊢; exact h
        · simp [hk] at h
      refine ⟨fun hr => ?_, fun i hi => ?_⟩
      · exfalso
        have key : ∀ j, j < m → L.getD j true = true := by
          intro j
          induction j using Nat.strongRecOn with
          | _ j ihj =>
          intro hj
          cases hL : L.getD j true with
          | true => rfl
          | false =>
            exfalso
            obtain ⟨o, ho⟩ : ∃ o, ops[j]? = some o := ⟨ops[j]'(by omega), by simp⟩
            have : j ∈ Region.ready .any ops L := mem_ready.2 ⟨hL, o, ho, fun e he hb => by
              have hlt := hF.back j o ho e he hb
              have := ihj e.on hlt (Nat.lt_trans hlt hj)
              have hsz : e.on < L.size := by rw [hs]; omega
              simp [hsz] at this ⊢; exact this⟩
            rw [hr] at this; cases this
        exact hdone key
      · obtain ⟨h0, o, ho, hall⟩ := mem_ready.1 hi
        have hi' : i < ops.size := (Array.getElem?_eq_some_iff.1 ho).1
        have him : i < m := by
          rcases Nat.lt_or_ge i m with h | h
          · exact h
          · exfalso
            obtain ⟨j, hj, hjL⟩ := hsome
            have := forced_spec (L := fun j => decide (j < ops.size) && L.getD j true) hB (fun j oj hj hLj e he hb => by
              simp only [Bool.and_eq_true, decide_eq_true_eq] at hLj ⊢
              exact ⟨by have := hF.back j oj hj e he hb; omega, hcl j oj hj hLj.2 e he hb⟩) ho h (fun e he hb => by
              simp only [Bool.and_eq_true, decide_eq_true_eq]
              exact ⟨by have := hF.back i o ho e he hb; omega, up _ (hall e he hb)⟩) j (by omega)
            simp only [Bool.and_eq_true] at this
            rw [hjL] at this; cases this.2
        refine hstep i o _ a σ _ ho him hmid (by simp [h0]) (fun e he hb => ?_) (fun j oj hj hLj e he hb => ?_) fun a' σ' hm' => ih _ a' σ' (by simpa using hs) (by have := left_set hs hi' h0; omega) (fun j hj hmj => ?_) ?_ ?_
        · have := hF.back i o ho e he hb
          simp only [up _ (hall e he hb), Bool.and_true, decide_eq_true_eq]; omega
        · simp only [Bool.and_eq_true, decide_eq_true_eq] at hLj ⊢
          exact ⟨by have := hF.back j oj hj e he hb; omega, hcl j oj hj hLj.2 e he hb⟩
        · rw [getD_set_ne true (by omega)]; exact hLm j hj hmj
        · intro j oj hj hLj e he hb
          by_cases hji : j = i
          · subst hji
            rw [ho] at hj; cases hj
            have hne := hF.back j o ho e he hb
            rw [getD_set_ne true (by omega)]
            exact up _ (hall e he hb)
          · rw [getD_set_ne true (Ne.symm hji)] at hLj
            have := hcl j oj hj hLj e he hb
            by_cases hei : e.on = i
            · rw [hei, h0] at this; cases this
            · rw [getD_set_ne true (Ne.symm hei)]; exact this
        · have : (fun j => (decide (j < m) && L.getD j true) || j == i) = (fun j => decide (j < m) && (L.setIfInBounds i true).getD j true) := by
            funext j
            by_cases hji : j = i
            · subst hji; simp [him, hs, hi']
            · rw [getD_set_ne true (Ne.symm hji)]; simp [hji]
          rwa [this] at hm'

theorem half_seq3 {m N : Nat} {ops : Array Oper} {Q : Exit → Act → World → Prop} (hF : Form N ops) (hm : m ≤ ops.size) (M : (Nat → Bool) → Act → GW → Prop)
    (hstep : ∀ (i : Nat) o (L : Nat → Bool) a σ (K : Act → World → Prop), ops[i]? = some o → i < m → M L a σ → L i = false → (∀ e ∈ o.after, Region.binds .any e = true → L e.on = true) →
      (∀ (j : Nat) oj, ops[j]? = some oj → L j = true → ∀ e ∈ oj.after, Region.binds .any e = true → L e.on = true) → (∀ a' σ', M (fun j => L j || j == i) a' σ' → K a' σ'.w) → wpOp P ops Q i K a σ.w)
    (hQ : ∀ a σ, M (fun j => decide (j < m)) a σ → wpOps P ops Q (List.range' m (ops.size - m)) a σ.w) : ∀ (n k : Nat) (a : Act) (σ : GW), k + n = m → M (fun j => decide (j < k)) a σ → wpOps P ops Q (List.range' k (n + (ops.size - m))) a σ.w
  | 0, k, a, σ, hk, hmid => by
    obtain rfl : k = m := by omega
    rw [Nat.zero_add]
    exact hQ a σ hmid
  | n + 1, k, a, σ, hk, hmid => by
    rw [show n + 1 + (ops.size - m) = (n + (ops.size - m)) + 1 by omega, List.range'_succ, wpOps_cons]
    obtain ⟨o, ho⟩ : ∃ o, ops[k]? = some o := ⟨ops[k]'(by omega), by simp⟩
    refine hstep k o _ a σ _ ho (by omega) hmid (by simp) (fun e he hbi => by simpa using hF.back k o ho e he hbi)
      (fun j oj hj hlt e he hbi => by have := hF.back j oj hj e he hbi; simp at hlt ⊢; omega) fun a' σ' hm' => half_seq3 hF hm M hstep hQ n (k + 1) a' σ' (by omega) ?_
    have : (fun j => decide (j < k) || j == k) = (fun j => decide (j < k + 1)) := by
      funext j; rw [Bool.eq_iff_iff]; simp; omega
    rwa [this] at hm'

def Ty.any : Ty := ⟨fun _ _ => True, fun _ h => h⟩

structure Mid3 (p d N : Nat) (D : List Deferred) (W : List Nat) (B : Pr) (ops : Array Oper) (Φ : Nat → Ty) (a0 : Act) (σ0 : GW) (L : Nat → Bool) (a : Act) (σ : GW) : Prop where
  stp : StpL W σ0 σ
  stp0 : L p = false → Stp 0 σ0 σ
  ok : Ok N D a
  done : ∀ j, L j = true → j ≠ p → rd ops (fun i => (Φ i).pr) j a σ
  donep : L p = true → B.has σ (a.eval (.tmp d))
  same : ∀ t, (∀ j, dstOf ops j = some t → L j = false) → a.eval (.tmp t) = a0.eval (.tmp t)

def Obl3 (P : Program) (N : Nat) (D : List Deferred) (W : List Nat) (ops : Array Oper) (Φ : Nat → Ty) (a0 : Act) (σ0 : GW) (i : Nat) (o : Oper) : Prop :=
  ∀ a σ, StpL W σ0 σ → Ok N D a → (∀ t, free ops i t = true → a.eval (.tmp t) = a0.eval (.tmp t)) → Deps ops (fun i => (Φ i).pr) a σ o.after.toList (Run P ops o a σ (Φ i).pr)
def OblW (P : Program) (N : Nat) (D : List Deferred) (W : List Nat) (B : Pr) (ops : Array Oper) (Φ : Nat → Ty) (a0 : Act) (σ0 : GW) (i : Nat) (o : Oper) : Prop :=
  ∀ a σ, Stp 0 σ0 σ → Ok N D a → (∀ t, free ops i t = true → a.eval (.tmp t) = a0.eval (.tmp t)) → Deps ops (fun i => (Φ i).pr) a σ o.after.toList (YldL W P o a σ (fun v τ => B.has τ v))
def Obls3 (P : Program) (p N : Nat) (D : List Deferred) (W : List Nat) (B : Pr) (ops : Array Oper) (Φ : Nat → Ty) (a0 : Act) (σ0 : GW) : Nat → List Oper → Prop
  | _, [] => True
  | i, o :: l => (if i = p then OblW P N D W B ops Φ a0 σ0 i o else Obl3 P N D W ops Φ a0 σ0 i o) ∧ Obls3 P p N D W B ops Φ a0 σ0 (i + 1) l
theorem Obls3.get {p N : Nat} {D : List Deferred} {W : List Nat} {B : Pr} {ops : Array Oper} {Φ : Nat → Ty} {a0 : Act} {σ0 : GW} : ∀ (l : List Oper) (k : Nat), Obls3 P p N D W B ops Φ a0 σ0 k l → ∀ j o, l[j]? = some o → (if k + j = p then OblW P N D W B ops Φ a0 σ0 (k + j) o else Obl3 P N D W ops Φ a0 σ0 (k + j) o)
  | [], _, _, j, o, h => by simp at h
  | x :: l, k, h, 0, o, hj => by simp at hj; subst hj; exact h.1
  | x :: l, k, h, j + 1, o, hj => by
    have := Obls3.get l (k + 1) h.2 j o (by simpa using hj)
    rwa [show k + 1 + j = k + (j + 1) by omega] at this
theorem Obls3.up {p N : Nat} {D : List Deferred} {W : List Nat} {B : Pr} {ops : Array Oper} {Φ : Nat → Ty} {a0 : Act} {σ0 σ1 : GW} (hs : Stp 0 σ0 σ1) : ∀ (l : List Oper) (k : Nat), Obls3 P p N D W B ops Φ a0 σ0 k l → Obls3 P p N D W B ops Φ a0 σ1 k l
  | [], _, _ => trivial
  | x :: l, k, h => by
    refine ⟨?_, Obls3.up hs l (k + 1) h.2⟩
    have h1 := h.1
    split at h1
    · rename_i e; rw [if_pos e]; exact fun a σ hs' => h1 a σ (hs.trans hs')
    · rename_i e; rw [if_neg e]; exact fun a σ hs' => h1 a σ (hs.toL0.trans hs')

theorem Mid3.op {p d N : Nat} {D : List Deferred} {W : List Nat} {B : Pr} {ops : Array Oper} {Φ : Nat → Ty} {a0 : Act} {σ0 : GW} {L : Nat → Bool} {a : Act} {σ : GW} {i : Nat} {o : Oper} {Q : Exit → Act → World → Prop} {K : Act → World → Prop}
    (hF : Form N ops) (h1 : 1 ∉ W) (hp : dstOf ops p = some d) (hΦ : ∀ e v, (Φ p).has e v) (hpg : ∀ o, ops[p]? = some o → o.guard = none) (hm : Mid3 p d N D W B ops Φ a0 σ0 L a σ) (ho : ops[i]? = some o) (hL : L i = false)
    (hob : if i = p then OblW P N D W B ops Φ a0 σ0 i o else Obl3 P N D W ops Φ a0 σ0 i o)
    (hall : ∀ e ∈ o.after, Region.binds .any e = true → L e.on = true) (hclosed : ∀ (j : Nat) oj, ops[j]? = some oj → L j = true → ∀ e ∈ oj.after, Region.binds .any e = true → L e.on = true)
    (hK : ∀ a' σ', Mid3 p d N D W B ops Φ a0 σ0 (fun j => L j || j == i) a' σ' → K a' σ'.w) : wpOp P ops Q i K a σ.w := by
  have hdi : dstOf ops i = o.dst := by simp [dstOf, ho]
  have hsame : ∀ t, free ops i t = true → a.eval (.tmp t) = a0.eval (.tmp t) := by
    intro t ht
    refine hm.same t fun j hj => ?_
    cases hLj : L j with
    | false => rfl
    | true =>
      exfalso
      unfold dstOf at hj
      obtain ⟨oj, hoj, hd⟩ := Option.bind_eq_some_iff.1 hj
      unfold free at ht
      have := (List.all_eq_true.1 ht) oj (List.mem_of_getElem? hoj)
      simp only [hd, bne_self_eq_false, Bool.false_or, List.any_eq_true, Bool.and_eq_true, beq_iff_eq] at this
      obtain ⟨e, he, hb, hon⟩ := this
      have := hclosed j oj (by simpa using hoj) hLj e (by simpa using he) hb
      rw [hon, hL] at this
      cases this
  have hdeps : ∀ e ∈ o.after.toList, Region.binds .any e = true → rd ops (fun i => (Φ i).pr) e.on a σ := fun e he hb => by
    by_cases hep : e.on = p
    · rw [hep]; unfold rd; rw [hp]; exact hΦ _ _
    · exact hm.done e.on (hall e (by simpa using he) hb) hep
  -- whatever step of whichever kind: what holds behind it
  have done' : ∀ v (τ : GW), σ.Le τ → (i ≠ p → (Φ i).has τ v) → ∀ j, (L j || j == i) = true → j ≠ p → rd ops (fun i => (Φ i).pr) j (a.put o.dst v) τ := by
    intro v τ hle hv j hLj hjp
    by_cases hji : j = i
    · subst hji
      unfold rd
      cases hd : dstOf ops j with
      | none => trivial
      | some d =>
        have : o.dst = some d := by rw [← hdi]; exact hd
        simp only [this]
        rw [eval_put_same hm.ok (hF.lt j d hd)]
        exact hv hjp
    · have hLj' : L j = true := by simpa [hji] using hLj
      have h0 := hm.done j hLj' hjp
      unfold rd at h0 ⊢
      cases hd : dstOf ops j with
      | none => trivial
      | some d =>
        rw [hd] at h0
        simp only at h0 ⊢
        rw [eval_put_ne (fun he => hji (hF.uniq j i d hd (by rw [hdi]; exact he)))]
        exact (Φ j).up hle h0
  have same' : ∀ v t, (∀ j, dstOf ops j = some t → (L j || j == i) = false) → (a.put o.dst v).eval (.tmp t) = a0.eval (.tmp t) := by
    intro v t ht
    have h1 : o.dst ≠ some t := fun he => by
      have := ht i (by rw [hdi]; exact he)
      simp at this
    rw [eval_put_ne h1]
    exact hm.same t fun j hj => by
      have := ht j hj
      simp at this
      exact this.1
  by_cases hip : i = p
  · subst hip
    rw [if_pos rfl] at hob
    have hy := Deps.elim o.after.toList hdeps (hob a σ (hm.stp0 hL) hm.ok hsame)
    unfold wpOp
    simp only [ho]
    have hw : Region.wanted o (yielded ops a.tmps) = true := by simp [Region.wanted, hpg o ho]
    rw [if_pos hw]
    refine .inl (hy K Q fun v τ hs hr => hK _ τ ⟨hm.stp.trans hs, fun h => (by simp at h), hm.ok.put _ _, done' v τ (hs.le h1) (fun h => absurd rfl h), fun _ => ?_, same' v⟩)
    have : o.dst = some d := by rw [← hdi]; exact hp
    rw [this, eval_put_same hm.ok (hF.lt i d hp)]
    exact hr
  · rw [if_neg hip] at hob
    have hrun := Deps.elim o.after.toList hdeps (hob a σ hm.stp hm.ok hsame)
    have next : ∀ v τ, Stp 0 σ τ → (Φ i).has τ v → K (a.put o.dst v) τ.w := by
      intro v τ hs hv
      refine hK _ τ ⟨hm.stp.trans hs.toL0, fun h => ?_, hm.ok.put _ _, done' v τ hs.le0 (fun _ => hv), fun h => ?_, same' v⟩
      · simp at h; exact (hm.stp0 h.1).trans hs
      · have hLp : L p = true := by simpa [Ne.symm hip] using h
        rw [eval_put_ne (fun he => hip (hF.uniq i p d (by rw [hdi]; exact he) hp))]
        exact B.up hs (hm.donep hLp)
    unfold wpOp
    simp only [ho]
    by_cases hw : Region.wanted o (yielded ops a.tmps) = true
    · rw [if_pos hw]
      exact .inl (hrun.1 hw K Q next)
    · rw [if_neg hw]
      exact next undef σ (Stp.refl _ _) (hrun.2 (by simpa using hw))

theorem obR3 {i p : Nat} {A B : Prop} (h : i ≠ p) (k : B) : if i = p then A else B := by rw [if_neg h]; exact k
theorem obR3w {i p : Nat} {A B : Prop} (h : i = p) (k : A) : if i = p then A else B := by rw [if_pos h]; exact k

structure Half3 (m d N : Nat) (D : List Deferred) (W : List Nat) (B : Pr) (ops : Array Oper) (Φ : Nat → Ty) (a0 : Act) (σ0 : GW) (a : Act) (σ : GW) : Prop where
  stp : StpL W σ0 σ
  ok : Ok N D a
  done : ∀ j, j < m → rd ops (fun i => (Φ i).pr) j a σ
  donep : B.has σ (a.eval (.tmp d))
  same : ∀ t, ((ops.toList.take m).all fun o => o.dst != some t) = true → a.eval (.tmp t) = a0.eval (.tmp t)

theorem Mid3.half {m p d N : Nat} {D : List Deferred} {W : List Nat} {B : Pr} {ops : Array Oper} {Φ : Nat → Ty} {a0 : Act} {σ0 : GW} {a : Act} {σ : GW} (h : Mid3 p d N D W B ops Φ a0 σ0 (fun j => decide (j < m)) a σ) (hpm : p < m) (hp : dstOf ops p = some d) (hΦ : ∀ e v, (Φ p).has e v) : Half3 m d N D W B ops Φ a0 σ0 a σ := by
  refine ⟨h.stp, h.ok, fun j hj => ?_, h.donep (by simpa using hpm), fun t ht => h.same t fun j hj => ?_⟩
  · by_cases hjp : j = p
    · rw [hjp]; unfold rd; rw [hp]; exact hΦ _ _
    · exact h.done j (by simpa using hj) hjp
  · by_cases hjm : j < m
    · obtain ⟨o, ho, hd⟩ := Option.bind_eq_some_iff.1 hj
      have := (List.all_eq_true.1 ht) o (List.mem_of_getElem? (i := j) (by rw [List.getElem?_take, if_pos hjm]; exact ho))
      simp [hd] at this
    · simpa using hjm

theorem reg3 {N : Nat} {D : List Deferred} {ops : Array Oper} {id : Nat} {draw : Bool} {Q : Exit → Act → World → Prop} {a : Act} {σ : GW} (hP : P.follows .mixedOrders = true) (m p d : Nat) (W : List Nat) (h1 : 1 ∉ W) (B : Pr) (Φ : Nat → Ty) (ok : Ok N D a) (hF : formB N ops = true) (hm : m ≤ ops.size) (hB : (!draw || forcedB m ops.toList) = true)
    (hpm : p < m) (hp : dstOf ops p = some d) (hΦ : ∀ e v, (Φ p).has e v) (hpg : (ops.toList[p]?).all (fun o => o.guard.isNone) = true) (hob : Obls3 P p N D W B ops Φ a σ 0 (ops.toList.take m))
    (hQ : ∀ a' σ', Half3 m d N D W B ops Φ a σ a' σ' → wpList P ops Q (ops.toList.drop m) a' σ'.w) : (Code.region id ops draw).wp P Q a σ.w := by
  have hF' := Form.of_B hF
  have hpg' : ∀ o, ops[p]? = some o → o.guard = none := fun o ho => by
    rw [show ops.toList[p]? = some o by simpa using ho] at hpg
    simpa using hpg
  have step : ∀ σ0, Stp 0 σ σ0 → ∀ (i : Nat) o (L : Nat → Bool) a' σ' (K : Act → World → Prop), ops[i]? = some o → i < m → Mid3 p d N D W B ops Φ a σ0 L a' σ' → L i = false → (∀ e ∈ o.after, Region.binds .any e = true → L e.on = true) →
      (∀ (j : Nat) oj, ops[j]? = some oj → L j = true → ∀ e ∈ oj.after, Region.binds .any e = true → L e.on = true) → (∀ a' σ', Mid3 p d N D W B ops Φ a σ0 (fun j => L j || j == i) a' σ' → K a' σ'.w) → wpOp P ops Q i K a' σ'.w :=
    fun σ0 hs i o L a' σ' K ho him hmid hL hall hcl hK => Mid3.op hF' h1 hp hΦ hpg' hmid ho hL
      (by simpa using Obls3.get (ops.toList.take m) 0 (Obls3.up hs _ _ hob) i o (by rw [List.getElem?_take, if_pos him]; simpa using ho)) hall hcl hK
  have start : ∀ σ0, Mid3 p d N D W B ops Φ a σ0 (fun _ => false) a σ0 := fun σ0 => ⟨StpL.refl _ _, fun _ => Stp.refl _ _, ok, fun _ h => (by cases h), fun h => (by cases h), fun _ _ => rfl⟩
  cases draw with
  | false =>
    refine wp_region ?_
    rw [List.range_eq_range']
    have := half_seq3 (Q := Q) hF' hm (Mid3 p d N D W B ops Φ a σ) (step σ (Stp.refl _ _)) (fun a' σ' h => ?_) m 0 a σ (by simp) (by have := start σ; simpa using this)
    · rwa [show m + (ops.size - m) = ops.size by omega] at this
    · have := wpOps_eq_wpList (P := P) (ops := ops) (Q := Q) (ops.toList.drop m) m (fun j => by rw [List.getElem?_drop]; simp)
      rw [show (ops.toList.drop m).length = ops.size - m by simp] at this
      rw [this]
      exact hQ a' σ' (h.half hpm hp hΦ)
  | true =>
    refine wp_region_any hP ?_
    have hd := Stp.drew σ
    refine half_any3 hF' hm (by simpa using hB) (Mid3 p d N D W B ops Φ a σ.drew) (step σ.drew hd) (fun a' σ' h => ?_) _ _ a σ.drew (by simp) (Nat.le_trans List.countP_le_length (by simp)) ?_ ?_ ?_
    · have h2 := h.half hpm hp hΦ
      exact hQ a' σ' ⟨hd.toL0.trans h2.stp, h2.ok, h2.done, h2.donep, h2.same⟩
    · intro j hj _; simp [hj]
    · intro j oj hj h
      have : j < ops.size := (Array.getElem?_eq_some_iff.1 hj).1
      simp [this] at h
    · have e : (fun j => decide (j < m) && (Array.replicate ops.size false).getD j true) = fun _ => false := by
        funext j; by_cases hj : j < ops.size
        · simp [hj]
        · simp; omega
      rw [e]; exact start σ.drew
theorem Half3.kt {m d N : Nat} {D : List Deferred} {W : List Nat} {B : Pr} {ops : Array Oper} {Φ : Nat → Ty} {a0 a : Act} {σ0 σ : GW} {T : Ty} {t : Nat} (h : Half3 m d N D W B ops Φ a0 σ0 a σ) (h1 : 1 ∉ W) (k : T.has σ0 (a0.eval (.tmp t))) (ht : ((ops.toList.take m).all fun o => o.dst != some t) = true) : T.has σ (a.eval (.tmp t)) := by
  rw [h.same t ht]; exact T.up (h.stp.le h1) k
end Go.KL

/- A region in whatever order, of which one operation stores into what another one has made. -/
namespace Go.KL
open Go.RowKit
variable {P : Program}

/-! ### The operation that writes is a store into what an operation of the region has made -/
structure Mid4 (p q d N : Nat) (D : List Deferred) (W : List Nat) (A B : Pr) (ops : Array Oper) (Φ : Nat → Ty) (a0 : Act) (σ0 : GW) (L : Nat → Bool) (a : Act) (σ : GW) : Prop where
  stp : StpL W σ0 σ
  stp0 : L p = false → Stp 0 σ0 σ
  ok : Ok N D a
  done : ∀ j, L j = true → rd ops (fun i => (Φ i).pr) j a σ
  doneq : L q = true → L p = false → A.has σ (a.eval (.tmp d))
  donep : L p = true → B.has σ (a.eval (.tmp d))
  same : ∀ t, (∀ j, dstOf ops j = some t → L j = false) → a.eval (.tmp t) = a0.eval (.tmp t)

def OblQ (P : Program) (N : Nat) (D : List Deferred) (A : Pr) (ops : Array Oper) (Φ : Nat → Ty) (a0 : Act) (σ0 : GW) (i : Nat) (o : Oper) : Prop :=
  ∀ a σ, Stp 0 σ0 σ → Ok N D a → (∀ t, free ops i t = true → a.eval (.tmp t) = a0.eval (.tmp t)) → Deps ops (fun i => (Φ i).pr) a σ o.after.toList (Run P ops o a σ A)
def OblS (P : Program) (N d : Nat) (D : List Deferred) (W : List Nat) (A B : Pr) (ops : Array Oper) (Φ : Nat → Ty) (a0 : Act) (σ0 : GW) (i : Nat) (o : Oper) : Prop :=
  ∀ a σ, Stp 0 σ0 σ → Ok N D a → (∀ t, free ops i t = true → a.eval (.tmp t) = a0.eval (.tmp t)) → A.has σ (a.eval (.tmp d)) → Deps ops (fun i => (Φ i).pr) a σ o.after.toList (YldL W P o a σ (fun _ τ => B.has τ (a.eval (.tmp d))))
def Obls4 (P : Program) (p q d N : Nat) (D : List Deferred) (W : List Nat) (A B : Pr) (ops : Array Oper) (Φ : Nat → Ty) (a0 : Act) (σ0 : GW) : Nat → List Oper → Prop
  | _, [] => True
  | i, o :: l => (if i = p then OblS P N d D W A B ops Φ a0 σ0 i o else if i = q then OblQ P N D A ops Φ a0 σ0 i o else Obl3 P N D W ops Φ a0 σ0 i o) ∧ Obls4 P p q d N D W A B ops Φ a0 σ0 (i + 1) l
theorem Obls4.get {p q d N : Nat} {D : List Deferred} {W : List Nat} {A B : Pr} {ops : Array Oper} {Φ : Nat → Ty} {a0 : Act} {σ0 : GW} : ∀ (l : List Oper) (k : Nat), Obls4 P p q d N D W A B ops Φ a0 σ0 k l → ∀ j o, l[j]? = some o →
    (if k + j = p then OblS P N d D W A B ops Φ a0 σ0 (k + j) o else if k + j = q then OblQ P N D A ops Φ a0 σ0 (k + j) o else Obl3 P N D W ops Φ a0 σ0 (k + j) o)
  | [], _, _, j, o, h => by simp at h
  | x :: l, k, h, 0, o, hj => by simp at hj; subst hj; exact h.1
  | x :: l, k, h, j + 1, o, hj => by
    have := Obls4.get l (k + 1) h.2 j o (by simpa using hj)
    rwa [show k + 1 + j = k + (j + 1) by omega] at this
theorem Obls4.up {p q d N : Nat} {D : List Deferred} {W : List Nat} {A B : Pr} {ops : Array Oper} {Φ : Nat → Ty} {a0 : Act} {σ0 σ1 : GW} (hs : Stp 0 σ0 σ1) : ∀ (l : List Oper) (k : Nat), Obls4 P p q d N D W A B ops Φ a0 σ0 k l → Obls4 P p q d N D W A B ops Φ a0 σ1 k l
  | [], _, _ => trivial
  | x :: l, k, h => by
    refine ⟨?_, Obls4.up hs l (k + 1) h.2⟩
    have h1 := h.1
    split at h1
    · rename_i e; rw [if_pos e]; exact fun a σ hs' => h1 a σ (hs.trans hs')
    · rename_i e
      rw [if_neg e]
      split at h1
      · rename_i e; rw [if_pos e]; exact fun a σ hs' => h1 a σ (hs.trans hs')
      · rename_i e; rw [if_neg e]; exact fun a σ hs' => h1 a σ (hs.toL0.trans hs')

theorem Mid4.op {p q d N : Nat} {D : List Deferred} {W : List Nat} {A B : Pr} {ops : Array Oper} {Φ : Nat → Ty} {a0 : Act} {σ0 : GW} {L : Nat → Bool} {a : Act} {σ : GW} {i : Nat} {o : Oper} {Q : Exit → Act → World → Prop} {K : Act → World → Prop}
    (hF : Form N ops) (h1 : 1 ∉ W) (hp : dstOf ops p = none) (hq : dstOf ops q = some d) (hpq : p ≠ q) (hΦ : ∀ e v, (Φ q).has e v) (hpg : ∀ o, ops[p]? = some o → o.guard = none ∧ ∃ e ∈ o.after, Region.binds .any e = true ∧ e.on = q) (hm : Mid4 p q d N D W A B ops Φ a0 σ0 L a σ) (ho : ops[i]? = some o) (hL : L i = false)
    (hpo : ∃ o, ops[p]? = some o)
    (hob : if i = p then OblS P N d D W A B ops Φ a0 σ0 i o else if i = q then OblQ P N D A ops Φ a0 σ0 i o else Obl3 P N D W ops Φ a0 σ0 i o)
    (hall : ∀ e ∈ o.after, Region.binds .any e = true → L e.on = true) (hclosed : ∀ (j : Nat) oj, ops[j]? = some oj → L j = true → ∀ e ∈ oj.after, Region.binds .any e = true → L e.on = true)
    (hK : ∀ a' σ', Mid4 p q d N D W A B ops Φ a0 σ0 (fun j => L j || j == i) a' σ' → K a' σ'.w) : wpOp P ops Q i K a σ.w := by
  have hdi : dstOf ops i = o.dst := by simp [dstOf, ho]
  have hsame : ∀ t, free ops i t = true → a.eval (.tmp t) = a0.eval (.tmp t) := by
    intro t ht
    refine hm.same t fun j hj => ?_
    cases hLj : L j with
    | false => rfl
    | true =>
      exfalso
      unfold dstOf at hj
      obtain ⟨oj, hoj, hd⟩ := Option.bind_eq_some_iff.1 hj
      unfold free at ht
      have := (List.all_eq_true.1 ht) oj (List.mem_of_getElem? hoj)
      simp only [hd, bne_self_eq_false, Bool.false_or, List.any_eq_true, Bool.and_eq_true, beq_iff_eq] at this
      obtain ⟨e, he, hb, hon⟩ := this
      have := hclosed j oj (by simpa using hoj) hLj e (by simpa using he) hb
      rw [hon, hL] at this
      cases this
  have hLpq : L p = true → L q = true := fun h => by
    obtain ⟨op, hop⟩ := hpo
    obtain ⟨_, e, he, hb, hon⟩ := hpg op hop
    rw [← hon]; exact hclosed p op hop h e he hb
  have hdeps : ∀ e ∈ o.after.toList, Region.binds .any e = true → rd ops (fun i => (Φ i).pr) e.on a σ := fun e he hb => hm.done e.on (hall e (by simpa using he) hb)
  have done' : ∀ v (τ : GW), σ.Le τ → ((Φ i).has τ v ∨ dstOf ops i = none) → ∀ j, (L j || j == i) = true → rd ops (fun i => (Φ i).pr) j (a.put o.dst v) τ := by
    intro v τ hle hv j hLj
    by_cases hji : j = i
    · subst hji
      unfold rd
      cases hd : dstOf ops j with
      | none => trivial
      | some d =>
        have : o.dst = some d := by rw [← hdi]; exact hd
        simp only [this]
        rw [eval_put_same hm.ok (hF.lt j d hd)]
        exact hv.resolve_right (by rw [hd]; simp)
    · have hLj' : L j = true := by simpa [hji] using hLj
      have h0 := hm.done j hLj'
      unfold rd at h0 ⊢
      cases hd : dstOf ops j with
      | none => trivial
      | some d =>
        rw [hd] at h0
        simp only at h0 ⊢
        rw [eval_put_ne (fun he => hji (hF.uniq j i d hd (by rw [hdi]; exact he)))]
        exact (Φ j).up hle h0
  have same' : ∀ v t, (∀ j, dstOf ops j = some t → (L j || j == i) = false) → (a.put o.dst v).eval (.tmp t) = a0.eval (.tmp t) := by
    intro v t ht
    have h1 : o.dst ≠ some t := fun he => by
      have := ht i (by rw [hdi]; exact he)
      simp at this
    rw [eval_put_ne h1]
    exact hm.same t fun j hj => by
      have := ht j hj
      simp at this
      exact this.1
  by_cases hip : i = p
  · subst hip
    rw [if_pos rfl] at hob
    obtain ⟨hg, e, he, hb, hon⟩ := hpg o ho
    have hLq : L q = true := by rw [← hon]; exact hall e he hb
    have hy := Deps.elim o.after.toList hdeps (hob a σ (hm.stp0 hL) hm.ok hsame (hm.doneq hLq hL))
    have hdn : o.dst = none := by rw [← hdi]; exact hp
    unfold wpOp
    simp only [ho]
    have hw : Region.wanted o (yielded ops a.tmps) = true := by simp [Region.wanted, hg]
    rw [if_pos hw]
    refine .inl (hy K Q fun v τ hs hr => hK _ τ ⟨hm.stp.trans hs, fun h => (by simp at h), hm.ok.put _ _, done' v τ (hs.le h1) (.inr hp), fun _ h => (by simp at h), fun _ => ?_, same' v⟩)
    rw [hdn]
    exact hr
  · rw [if_neg hip] at hob
    by_cases hiq : i = q
    · subst hiq
      rw [if_pos rfl] at hob
      have hLp : L p = false := by
        cases h : L p with
        | false => rfl
        | true => rw [hLpq h] at hL; cases hL
      have hrun := Deps.elim o.after.toList hdeps (hob a σ (hm.stp0 hLp) hm.ok hsame)
      have next : ∀ v τ, Stp 0 σ τ → A.has τ v → K (a.put o.dst v) τ.w := by
        intro v τ hs hv
        refine hK _ τ ⟨hm.stp.trans hs.toL0, fun _ => (hm.stp0 hLp).trans hs, hm.ok.put _ _, done' v τ hs.le0 (.inl (hΦ _ _)), fun _ _ => ?_, fun h => ?_, same' v⟩
        · have : o.dst = some d := by rw [← hdi]; exact hq
          rw [this, eval_put_same hm.ok (hF.lt i d hq)]
          exact hv
        · rw [hLp] at h
          simp at h; exact absurd h hpq
      unfold wpOp
      simp only [ho]
      by_cases hw : Region.wanted o (yielded ops a.tmps) = true
      · rw [if_pos hw]
        exact .inl (hrun.1 hw K Q next)
      · rw [if_neg hw]
        exact next undef σ (Stp.refl _ _) (hrun.2 (by simpa using hw))
    · rw [if_neg hiq] at hob
      have hrun := Deps.elim o.after.toList hdeps (hob a σ hm.stp hm.ok hsame)
      have hne : o.dst ≠ some d := fun he => hiq (hF.uniq i q d (by rw [hdi]; exact he) hq)
      have next : ∀ v τ, Stp 0 σ τ → (Φ i).has τ v → K (a.put o.dst v) τ.w := by
        intro v τ hs hv
        refine hK _ τ ⟨hm.stp.trans hs.toL0, fun h => ?_, hm.ok.put _ _, done' v τ hs.le0 (.inl hv), fun h h2 => ?_, fun h => ?_, same' v⟩
        · simp at h; exact (hm.stp0 h.1).trans hs
        · have hLq : L q = true := by simpa [Ne.symm hiq] using h
          have hLp : L p = false := by simp at h2; exact h2.1
          rw [eval_put_ne hne]
          exact A.up hs (hm.doneq hLq hLp)
        · have hLp : L p = true := by simpa [Ne.symm hip] using h
          rw [eval_put_ne hne]
          exact B.up hs (hm.donep hLp)
      unfold wpOp
      simp only [ho]
      by_cases hw : Region.wanted o (yielded ops a.tmps) = true
      · rw [if_pos hw]
        exact .inl (hrun.1 hw K Q next)
      · rw [if_neg hw]
        exact next undef σ (Stp.refl _ _) (hrun.2 (by simpa using hw))
end Go.KL

/- Runes as the document reads them: -1 for a byte that is none. -/
namespace Go.KL
def runM (s : ByteArray) (p : Nat) : Int := if run1 s p = 65533 ∧ wid s p = 1 then -1 else run1 s p
section
variable {s : ByteArray} (h128 : ¬ (s.get! 0).toNat < 128)
include h128 in
end
/-! ### All runes of a text -/
def runsF (s : ByteArray) : Nat → Nat → List Int
  | 0, _ => []
  | f + 1, p => if p < s.size then runM s p :: runsF s f (p + wid s p) else []
def runsL (s : ByteArray) : List Int := runsF s s.size 0
theorem runsF_end {s : ByteArray} {f p : Nat} (h : s.size ≤ p) : runsF s f p = [] := by cases f <;> simp [runsF, show ¬ p < s.size by omega]
end Go.KL

/- What the law RowSays wants beside: cycles as the document finds them, text by signs. -/
namespace Go.KL
end Go.KL

/- Patterns of bells: the maths. -/
namespace Go.KL
theorem runsF_cons {s : ByteArray} {f p : Nat} (hp : p < s.size) (hf : s.size ≤ f + p) : runsF s f p = runM s p :: runsF s (f - 1) (p + wid s p) := by
  obtain ⟨f, rfl⟩ : ∃ g, f = g + 1 := ⟨f - 1, by omega⟩
  rw [runsF, if_pos hp]; rfl
/-! ### Signs -/
/-! ### Ahead of the star and behind it -/
/-! ### What was seen -/
/-! ### Like a pattern -/
/-! ### Steps -/
/-! ### A pattern that may be -/
/-! ### The walks of Like and fits -/
end Go.KL

/- Results of which the first lies in a struct's variable. -/
namespace Go.KL
open Go.RowKit
variable {P : Program} {fn : Func} {σ0 σ : GW} {a : Act} {N d e f : Nat} {D : List Deferred} {L : List Nat} {R : Value → GW → Prop}
theorem run_cell {t k : Nat} {T : TypeId} {fs : Array Field} {z : Value} {by_ : Nat} {ts : List Ty} (hT : P.underlying T = some (.struct fs)) (he : Info P T z ts.length by_) (h : OwnP σ k (a.eval (.tmp t)) ts) :
    ∃ ad cur, a.tmps.getD t undef = .pointer (some ad) ∧ (loadVar T ad).run P σ.w = .ok (.agg cur) σ.w ∧ (Ty.agg ts).has σ (.agg cur) := by
  obtain ⟨gg, e', cur, e1, h2, h3, h4, h5⟩ := h
  have hl := run_loadVar (P := P) hT he (w := σ.w) (ad := ⟨gg, 0, none⟩) (us := cur.toList) (by simp [h4]) (fun j u hj => by
    rw [Addr.add_lit, Nat.zero_add]
    simp at hj
    simp [World.cell?, h3, hj])
  exact ⟨_, cur, e1, by simpa using hl, cur, rfl, h4, h5⟩
theorem retL1c {t k : Nat} {T : TypeId} {fs : Array Field} {z : Value} {by_ : Nat} {ts : List Ty} (hr : fn.results = #[.cell t T]) (ok : Ok N [] a) (hF : FromL L σ0 σ) (hT : P.underlying T = some (.struct fs)) (he : Info P T z ts.length by_) (h : OwnP σ k (a.eval (.tmp t)) ts)
    (hR : ∀ v, (Ty.agg ts).has σ v → R v σ) : bodyPost P fn (RetL σ0 L R) .ret a σ.w := by
  obtain ⟨ad, cur, e2, hl, hv⟩ := run_cell hT he h
  refine bodyPost_ret (v := .agg cur) ?_ ok.defers ⟨_, σ, rfl, hF, rfl, hR _ hv⟩
  have e3 : a.tmps[t]?.getD undef = .pointer (some ad) := by rw [← e2, Array.getD_eq_getD_getElem?]
  simp [results, hr, e3, asAddr, hl]
end Go.KL

/- How many rows are like patterns. -/
namespace Go.KL
abbrev Ty.str (s : ByteArray) : Ty := Ty.val (.string s)
end Go.KL

/- Rows whose elements are structs of c cells. -/
namespace Go.KL
open Go.RowKit
variable {P : Program} {d : Option Tmp} {ty : TypeId} {pos : String} {af : Array Edge} {g : Option (Nat × Bool)} {a : Act} {σ : GW}
/-! ### Patterns -/
end Go.KL

/- Plain maths: calls and touches. -/
namespace Go.KL
abbrev BCall := Int × List (List Int)
/-! ### Which calls may be -/
abbrev D0 : BCall := (0, [])
/-! ### The changes of a lead -/
/-! ### The rows of a touch -/
section
variable {nm : ByteArray} {n : Nat} {l : List (List Int)} {cs : List BCall} {leads : List Int}
end
/-! ### Which touches may be -/
end Go.KL

/- Closures over one variable; slices.Grow of nothing; cuts of rows of structs. -/
namespace Go.KL
open Go.RowKit
variable {P : Program} {d : Option Tmp} {ty : TypeId} {pos : String} {af : Array Edge} {g : Option (Nat × Bool)} {a : Act} {σ : GW}
/-! ### slices.Grow of nothing -/
/-! ### Cuts of rows of structs -/
/-! ### Signs of calls -/
theorem getD_fst (cs : List BCall) (j : Nat) : (cs.map (·.1)).getD j 0 = (cs.getD j D0).1 := by
  rw [List.getD_eq_getElem?_getD, List.getD_eq_getElem?_getD, List.getElem?_map]
  cases cs[j]? <;> rfl
theorem idxC_yes {cs : List BCall} {s : Int} {k : Nat} (hk : k < cs.length) (h : (cs.getD k D0).1 = s) (hno : ∀ j, j < k → (cs.getD j D0).1 ≠ s) : indexL (cs.map (·.1)) s = k :=
  indexL_yes (by rw [List.length_map]; exact hk) (by rw [getD_fst]; exact h.symm) (fun j hj => by rw [getD_fst]; exact hno j hj)
end Go.KL

/- Plain maths: is a touch true? -/
namespace Go.KL
end Go.KL
namespace Go.KL
theorem getD_takeD {α : Type} (d : α) {l : List α} {m k : Nat} (h : k < m) : (l.take m).getD k d = l.getD k d := by
  rw [List.getD_eq_getElem?_getD, List.getD_eq_getElem?_getD, List.getElem?_take_of_lt h]
end Go.KL

/- Plain maths: names by their runes. -/
namespace Go.KL
end Go.KL

/- Literals of structs in rows of one's own. -/
namespace Go.KL
open Go.RowKit
variable {P : Program} {d : Option Tmp} {ty : TypeId} {pos : String} {af : Array Edge} {g : Option (Nat × Bool)} {a : Act} {σ : GW}
end Go.KL

/- Structs that are built of structs; 'append' of what is owned. -/
namespace Go.KL
open Go.RowKit
variable {P : Program}
theorem Own.src {σ : GW} {k : Nat} {e : TypeId} {c : Nat} {v : Value} {n : Nat} {ts : List Ty} (h : Own σ k e c v n ts) : ∃ ad cap b o, v = .slice ad n cap ∧ ts.length = n * c ∧ (ts = [] ∨ ad = some (⟨b, o, none⟩ : Addr)) ∧ Cells σ b o ts := by
  have hl := h.len
  obtain ⟨us, h1, h2, h3, h4⟩ := h
  rcases h1.2 with ⟨rfl, rfl⟩ | ⟨g, cap, cur, rfl, _⟩
  · have : ts = [] := List.eq_nil_of_length_eq_zero (by omega)
    subst this
    exact ⟨none, 0, 0, 0, rfl, by simp, .inl rfl, fun j T hj => by simp at hj⟩
  · refine ⟨_, cap, g, 0, rfl, hl, .inr rfl, fun j T hj => ?_⟩
    have hlt := (List.getElem?_eq_some_iff.1 hj).1
    have hu : us[j]? = some us[j] := by simp [show j < us.length by omega]
    refine ⟨us[j], ?_, h3 j T _ hj hu⟩
    have := h1.cells (g := g) rfl j _ hu
    rwa [Addr.add_lit] at this
variable {d : Option Tmp} {ty : TypeId} {pos : String} {af : Array Edge} {g : Option (Nat × Bool)} {a : Act} {σ : GW}
/-! ### Structs of structs -/
def Fits (σ : GW) (v : Value) (us : List Ty) : Prop := v.cells.size = us.length ∧ ∀ (j : Nat) (T : Ty) (u : Value), us[j]? = some T → v.cells[j]? = some u → T.has σ u
theorem fits_agg {ts : List Ty} {v : Value} (h : (Ty.agg ts).has σ v) : Fits σ v ts := by
  obtain ⟨cs, rfl, h1, h2⟩ := h
  exact ⟨h1, h2⟩
def splice (ts : List Ty) (o : Nat) (us : List Ty) : List Ty := ts.take o ++ us ++ ts.drop (o + us.length)
theorem splice_len {ts us : List Ty} {o : Nat} (h : o + us.length ≤ ts.length) : (splice ts o us).length = ts.length := by
  unfold splice; simp only [List.length_append, List.length_take, List.length_drop]; omega
theorem splice_in {ts us : List Ty} {o j : Nat} (h : o + us.length ≤ ts.length) (hj : j < us.length) : (splice ts o us)[o + j]? = us[j]? := by
  unfold splice
  rw [List.append_assoc, List.getElem?_append_right (by rw [List.length_take]; omega), List.length_take, show o + j - min o ts.length = j by omega, List.getElem?_append_left hj]
theorem splice_out {ts us : List Ty} {o i : Nat} (h : o + us.length ≤ ts.length) (hi : i < o ∨ o + us.length ≤ i) : (splice ts o us)[i]? = ts[i]? := by
  unfold splice
  rcases hi with hi | hi
  · rw [List.append_assoc, List.getElem?_append_left (by rw [List.length_take]; omega), List.getElem?_take_of_lt hi]
  · rw [List.getElem?_append_right (by rw [List.length_append, List.length_take]; omega), List.length_append, List.length_take, List.getElem?_drop]
    congr 1; omega
theorem fold_at : ∀ (vs : List Value) (o j0 : Nat) (cur : Array Value), o + j0 + vs.length ≤ cur.size → ((vs.zipIdx j0).foldl (fun (q : Array Value) (p : Value × Nat) => q.setIfInBounds (o + p.2) p.1) cur).size = cur.size ∧
      (∀ j, j < vs.length → ((vs.zipIdx j0).foldl (fun (q : Array Value) (p : Value × Nat) => q.setIfInBounds (o + p.2) p.1) cur)[o + j0 + j]? = vs[j]?) ∧
      ∀ i, (i < o + j0 ∨ o + j0 + vs.length ≤ i) → ((vs.zipIdx j0).foldl (fun (q : Array Value) (p : Value × Nat) => q.setIfInBounds (o + p.2) p.1) cur)[i]? = cur[i]?
  | [], o, j0, cur, _ => ⟨rfl, fun j hj => by simp at hj, fun i _ => rfl⟩
  | v :: vs, o, j0, cur, h => by
    simp only [List.length_cons] at h
    obtain ⟨k1, k2, k3⟩ := fold_at vs o (j0 + 1) (cur.setIfInBounds (o + j0) v) (by simp; omega)
    simp only [List.zipIdx_cons, List.foldl_cons]
    refine ⟨by rw [k1]; simp, fun j hj => ?_, fun i hi => ?_⟩
    · cases j with
      | zero =>
        have := k3 (o + j0) (.inl (by omega))
        rw [Array.getElem?_setIfInBounds_self_of_lt (by omega)] at this
        simpa using this
      | succ j =>
        have := k2 j (by simpa using hj)
        rw [show o + j0 + (j + 1) = o + (j0 + 1) + j by omega, this]; simp
    · simp only [List.length_cons] at hi
      rw [k3 i (by omega), Array.getElem?_setIfInBounds_ne (by omega)]
def bldT2 (l : List (Nat × Nat)) : List (Nat × Operand × List Ty) → List Ty → List Ty
  | [], ts => ts
  | p :: ps, ts => bldT2 l ps (match l[p.1]? with | some (off, _) => splice ts off p.2.2 | none => ts)
def bldOk2 (l : List (Nat × Nat)) (n : Nat) (is : List (Nat × Nat)) : Bool := is.all fun i => match l[i.1]? with | some (off, sz) => decide (sz = i.2 ∧ off + i.2 ≤ n) | _ => false
theorem Typed.splice {σ : GW} {cs : Array Value} {ts us : List Ty} (h : Typed σ cs ts) {off : Nat} {v : Value} (hv : Fits σ v us) (ho : off + us.length ≤ ts.length) :
    Typed σ (v.cells.zipIdx.foldl (fun (q : Array Value) (p : Value × Nat) => q.setIfInBounds (off + p.2) p.1) cs) (splice ts off us) := by
  obtain ⟨k1, k2, k3⟩ := fold_at v.cells.toList off 0 cs (by rw [Array.length_toList, hv.1, h.1]; omega)
  rw [← Array.foldl_toList, Array.toList_zipIdx]
  refine ⟨by rw [k1, splice_len ho, h.1], fun j T u hj hu => ?_⟩
  by_cases hin : off ≤ j ∧ j < off + us.length
  · obtain ⟨i, rfl⟩ : ∃ i, j = off + i := ⟨j - off, by omega⟩
    have h2 := k2 i (by rw [Array.length_toList, hv.1]; omega)
    rw [Nat.add_zero] at h2
    rw [h2] at hu
    rw [splice_in ho (by omega)] at hj
    exact hv.2 i T u hj (by simpa using hu)
  · have h3 := k3 j (by rw [Array.length_toList, hv.1]; omega)
    rw [h3] at hu
    rw [splice_out ho (by omega)] at hj
    exact h.2 j T u hj hu
theorem fill_typed2 {σ : GW} {a : Act} {l : List (Nat × Nat)} {n : Nat} : ∀ (ps : List (Nat × Operand × List Ty)) (cur : Array Value) (ts : List Ty), cur.size = n → ts.length = n → Typed σ cur ts → (∀ p ∈ ps, Fits σ (a.eval p.2.1) p.2.2) → bldOk2 l n (ps.map fun p => (p.1, p.2.2.length)) = true →
    ∃ cells, Instr.fill (fun i => l[i]?) cur (ps.map fun p => (p.1, a.eval p.2.1)) = some cells ∧ Typed σ cells (bldT2 l ps ts)
  | [], cur, ts, _, _, h, _, _ => ⟨cur, rfl, h⟩
  | p :: ps, cur, ts, hn, hn2, h, hp, hb => by
    have h1 := hp p (by simp)
    rw [bldOk2, List.map_cons, List.all_cons, Bool.and_eq_true] at hb
    obtain ⟨hb1, hb2⟩ := hb
    cases hl : l[p.1]? with
    | none => simp only [hl] at hb1; cases hb1
    | some q =>
      obtain ⟨off, sz⟩ := q
      simp only [hl, decide_eq_true_eq] at hb1
      obtain ⟨hsz, hoff⟩ := hb1
      have ht := h.splice h1 (off := off) (by omega)
      have hcur := ht.1
      rw [splice_len (by omega)] at hcur
      obtain ⟨cells, e1, e2⟩ := fill_typed2 ps _ _ (hcur.trans hn2) ((splice_len (by omega)).trans hn2) ht (fun q hq => hp q (by simp [hq])) hb2
      refine ⟨cells, ?_, ?_⟩
      · rw [List.map_cons, Instr.fill]
        have hz : (a.eval p.2.1).cells.size = sz := by rw [h1.1, hsz]
        simp only [hl]
        rw [if_neg (by simp [hz]; omega)]
        exact e1
      · rw [bldT2, hl]; exact e2
theorem y_bld2 {t : TypeId} {l : List (Nat × Nat)} {z : Value} {c by_ : Nat} (ps : List (Nat × Operand × List Ty)) (ts : List Ty) (hp : placesOk P t l = true) (he : Info P t z c by_) (hz : z.cells.size = ts.length) (hT : ∀ (j : Nat) (T : Ty) (u : Value), ts[j]? = some T → z.cells[j]? = some u → ∀ σ, T.has σ u)
    (hok : bldOk2 l z.cells.size (ps.map fun p => (p.1, p.2.2.length)) = true) (hps : ∀ p ∈ ps, Fits σ (a.eval p.2.1) p.2.2) :
    Yld P ⟨d, .build t (ps.map fun p => (p.1, p.2.1)).toArray, ty, pos, af, g⟩ a σ (Ty.agg (bldT2 l ps ts)).pr := by
  obtain ⟨cells, e1, e2⟩ := fill_typed2 (σ := σ) ps z.cells ts rfl hz.symm ⟨hz, fun j T u h1 h2 => hT j T u h1 h2 σ⟩ hps hok
  refine Yld.of_run (v := .agg cells) ?_ ⟨cells, rfl, e2.1, e2.2⟩
  simp only [execOp]
  have := run_build (P := P) (parts := (ps.map fun p => (p.1, a.eval p.2.1)).toArray) (cells := cells) hp he (by simpa using e1) σ.w
  simp only [List.map_toArray, List.map_map]
  have e : (fun (p : Nat × Operand) => (p.1, a.eval p.2)) ∘ (fun (p : Nat × Operand × List Ty) => (p.1, p.2.1)) = fun p => (p.1, a.eval p.2.1) := rfl
  rw [e]
  simp [this]
end Go.KL

/- Plain maths: touches that are searched. -/
namespace Go.KL
structure Qst where
  met : Nat
  found : List (List Int)
  full : Bool
section
variable (n : Nat) (l : List (List Int)) (cs : List BCall) (leads many : Nat)
end
section
variable {n : Nat} {l : List (List Int)} {cs : List BCall} {leads many : Nat}
/-! ### One lead more -/
/-! ### What was met -/
variable {nm : ByteArray}
/-! ### What is answered -/
end
end Go.KL
namespace Go.KL
section
variable {n : Nat} {l : List (List Int)} {cs : List BCall} {leads many f k : Nat} {path : List Int} {s0 s : Qst}
end
end Go.KL
namespace Go.KL
section
variable {n : Nat} {l : List (List Int)} {cs : List BCall} {leads many f k : Nat} {path : List Int} {s0 s : Qst} {nm : ByteArray}
end
end Go.KL

/- A callee that answers with what is new, called with what is owned. -/
namespace Go.KL
open Go.RowKit
variable {P : Program}
variable {d : Option Tmp} {ty : TypeId} {pos : String} {af : Array Edge} {g : Option (Nat × Bool)} {a : Act} {σ : GW}
theorem y_slnil {x y : Operand} {t u : TypeId} {e' : TypeId} {c n : Nat} {ts : List Ty} (ht : P.underlying t = some (.slice e')) (h : At (.sl c n ts) σ a x) (hn : ts ≠ []) (hy : a.eval y = .slice none 0 0) :
    Yld P ⟨d, .binOp .eql t x y u, ty, pos, af, g⟩ a σ (Ty.bool false).pr := by
  obtain ⟨ad, cap, b, o, e1, _, _, hs, _⟩ := h
  obtain ⟨rfl, _⟩ := hs.resolve_left hn
  refine Yld.of_run (v := .bool false) ?_ rfl
  simp only [execOp, e1, hy]
  have h1 := Go.Lib.run_eql_slice_nil (P := P) σ.w t e' (some ⟨b, o, none⟩) n cap 0 0 ht
  simp [eqGuard, run_underlying ht, h1]
end Go.KL

/- Touches that are read. -/
namespace Go.KL
abbrev sgOf (cs : List BCall) : List Int := cs.map (·.1)
structure NumP where
  err : Int
  n : Int
  some : Bool
  rest : List Int
def numR : Int → Bool → List Int → NumP
  | n, b, [] => ⟨0, n, b, []⟩
  | n, b, c :: r => if 48 ≤ c ∧ c ≤ 57 then (if n * 10 + c - 48 = 0 ∨ 99 < n * 10 + c - 48 then ⟨12, 0, true, r⟩ else numR (n * 10 + c - 48) true r) else ⟨0, n, b, c :: r⟩
structure ItP where
  err : Int
  out : List Int
  rest : List Int
def repL (n : Nat) (one : List Int) : List Int := (List.replicate n one).flatten
def rpM (n : Int) (one r : List Int) : ItP := if 400 < n * one.length then ⟨3, [], []⟩ else ⟨0, repL n.toNat one, r⟩
def oneM (sg : List Int) (F : Nat → List Int → List Int → ItP) (deep : Nat) (r : List Int) : ItP :=
  if r.getD 0 0 = 40 then
    (if deep = 6 then ⟨13, [], []⟩ else if (F (deep + 1) [] (r.drop 1)).err ≠ 0 then ⟨(F (deep + 1) [] (r.drop 1)).err, [], []⟩
    else if (F (deep + 1) [] (r.drop 1)).rest = [] then ⟨5, [], []⟩ else if (F (deep + 1) [] (r.drop 1)).out = [] then ⟨4, [], []⟩
    else ⟨0, (F (deep + 1) [] (r.drop 1)).out, (F (deep + 1) [] (r.drop 1)).rest.drop 1⟩)
  else if r.getD 0 0 ∉ sg ∨ r.getD 0 0 < 0 then ⟨4, [], []⟩ else ⟨0, [indexL sg (r.getD 0 0)], r.drop 1⟩
def timesM (x : NumP) : Int := if x.some = true then x.n else 1
def itemM (sg : List Int) (F : Nat → List Int → List Int → ItP) (deep : Nat) (rest : List Int) : ItP :=
  if (numR 0 false rest).err ≠ 0 then ⟨12, [], []⟩ else if (numR 0 false rest).rest = [] then ⟨5, [], []⟩
  else if (oneM sg F deep (numR 0 false rest).rest).err ≠ 0 then ⟨(oneM sg F deep (numR 0 false rest).rest).err, [], []⟩
  else rpM (timesM (numR 0 false rest)) (oneM sg F deep (numR 0 false rest).rest).out (oneM sg F deep (numR 0 false rest).rest).rest
def itemsM (sg : List Int) : Nat → Nat → List Int → List Int → ItP
  | 0, _, out, rest => ⟨0, out, rest⟩
  | f + 1, deep, out, rest =>
    if rest = [] ∨ rest.getD 0 0 = 41 then ⟨0, out, rest⟩
    else if (itemM sg (itemsM sg f) deep rest).err ≠ 0 then ⟨(itemM sg (itemsM sg f) deep rest).err, [], []⟩
    else if 400 < (out ++ (itemM sg (itemsM sg f) deep rest).out).length then ⟨3, [], []⟩
    else itemsM sg f deep (out ++ (itemM sg (itemsM sg f) deep rest).out) (itemM sg (itemsM sg f) deep rest).rest
section
variable {sg : List Int}
/-! What is left is a tail. -/
theorem numR_tail : ∀ (r : List Int) (n : Int) (b : Bool), (numR n b r).err = 0 → ∃ k, k ≤ r.length ∧ (numR n b r).rest = r.drop k
  | [], n, b, _ => ⟨0, Nat.le_refl _, rfl⟩
  | c :: r, n, b, h => by
    rw [numR] at h ⊢
    split
    · split
      · rename_i h1 h2; rw [if_pos h1, if_pos h2] at h; cases h
      · rename_i h1 h2
        rw [if_pos h1, if_neg h2] at h
        obtain ⟨k, h3, h4⟩ := numR_tail r _ _ h
        exact ⟨k + 1, by rw [List.length_cons]; omega, by rw [h4, List.drop_succ_cons]⟩
    · exact ⟨0, Nat.zero_le _, rfl⟩
def Tail (a r : List Int) : Prop := ∃ k, k ≤ r.length ∧ a = r.drop k
theorem Tail.refl (r : List Int) : Tail r r := ⟨0, Nat.zero_le _, rfl⟩
theorem Tail.trans {a b c : List Int} (h : Tail a b) (k : Tail b c) : Tail a c := by
  obtain ⟨i, h1, rfl⟩ := h
  obtain ⟨j, h2, rfl⟩ := k
  rw [List.length_drop] at h1
  exact ⟨j + i, by omega, by rw [List.drop_drop]⟩
theorem Tail.drop1 {a r : List Int} (h : Tail a r) (hne : a ≠ []) : Tail (a.drop 1) r ∧ (a.drop 1).length < r.length := by
  obtain ⟨i, h1, rfl⟩ := h
  have hl : (r.drop i).length ≠ 0 := fun e => hne (List.eq_nil_of_length_eq_zero e)
  rw [List.length_drop] at hl
  rw [List.drop_drop]
  exact ⟨⟨i + 1, by omega, rfl⟩, by rw [List.length_drop]; omega⟩
theorem rpM_rest {n : Int} {one r : List Int} (h : (rpM n one r).err = 0) : (rpM n one r).rest = r ∧ (rpM n one r).out = repL n.toNat one ∧ ¬ 400 < n * one.length := by
  unfold rpM at h ⊢
  split at h
  · cases h
  · rename_i h2; rw [if_neg h2]; exact ⟨rfl, rfl, h2⟩
theorem oneM_tail {F : Nat → List Int → List Int → ItP} (hF : ∀ d o r, (F d o r).err = 0 → Tail (F d o r).rest r) {deep : Nat} {r : List Int} (hne : r ≠ []) (h : (oneM sg F deep r).err = 0) : Tail (oneM sg F deep r).rest r ∧ (oneM sg F deep r).rest.length < r.length := by
  obtain ⟨t1, t2⟩ := Tail.drop1 (Tail.refl r) hne
  unfold oneM at h ⊢
  split at h
  · rename_i h3
    rw [if_pos h3]
    split at h
    · cases h
    rename_i h4
    rw [if_neg h4]
    split at h
    · rename_i h5; exact absurd h h5
    rename_i h5
    rw [if_neg h5]
    have h5 := Classical.not_not.1 h5
    split at h
    · cases h
    rename_i h6
    rw [if_neg h6]
    split at h
    · cases h
    rename_i h7
    rw [if_neg h7]
    obtain ⟨t3, t4⟩ := Tail.drop1 (hF _ _ _ h5) h6
    exact ⟨t3.trans t1, by show ((F (deep + 1) [] (r.drop 1)).rest.drop 1).length < _; omega⟩
  · rename_i h3
    rw [if_neg h3]
    split at h
    · cases h
    rename_i h4
    rw [if_neg h4]
    exact ⟨t1, t2⟩
theorem itemM_tail {F : Nat → List Int → List Int → ItP} (hF : ∀ d o r, (F d o r).err = 0 → Tail (F d o r).rest r) {deep : Nat} {rest : List Int} (h : (itemM sg F deep rest).err = 0) : Tail (itemM sg F deep rest).rest rest ∧ (itemM sg F deep rest).rest.length < rest.length := by
  unfold itemM at h ⊢
  split at h
  · cases h
  rename_i h1
  rw [if_neg h1]
  have h1 := Classical.not_not.1 h1
  have ht : Tail (numR 0 false rest).rest rest := numR_tail rest 0 false h1
  split at h
  · cases h
  rename_i h2
  rw [if_neg h2]
  split at h
  · rename_i h3; exact absurd h h3
  rename_i h3
  rw [if_neg h3]
  have h3 := Classical.not_not.1 h3
  rw [(rpM_rest h).1]
  obtain ⟨t1, t2⟩ := oneM_tail hF h2 h3
  refine ⟨t1.trans ht, ?_⟩
  obtain ⟨k, hk, e⟩ := ht
  rw [e] at t2
  rw [List.length_drop] at t2
  rw [e]; omega
theorem itemsM_tail : ∀ (f deep : Nat) (out rest : List Int), (itemsM sg f deep out rest).err = 0 → Tail (itemsM sg f deep out rest).rest rest
  | 0, _, _, rest, _ => Tail.refl _
  | f + 1, deep, out, rest, h => by
    rw [itemsM] at h ⊢
    split at h
    · rename_i h1; rw [if_pos h1]; exact Tail.refl _
    rename_i h1
    rw [if_neg h1]
    split at h
    · rename_i h2; exact absurd h h2
    rename_i h2
    rw [if_neg h2]
    have h2 := Classical.not_not.1 h2
    split at h
    · cases h
    rename_i h3
    rw [if_neg h3]
    exact (itemsM_tail f deep _ _ h).trans (itemM_tail (fun d o r => itemsM_tail f d o r) h2).1
theorem itemM_tl {f deep : Nat} {rest : List Int} (h : (itemM sg (itemsM sg f) deep rest).err = 0) : Tail (itemM sg (itemsM sg f) deep rest).rest rest ∧ (itemM sg (itemsM sg f) deep rest).rest.length < rest.length := itemM_tail (fun d o r => itemsM_tail f d o r) h
/-! Fuel. -/
theorem oneM_congr {F G : Nat → List Int → List Int → ItP} {deep : Nat} {r : List Int} (h : F (deep + 1) [] (r.drop 1) = G (deep + 1) [] (r.drop 1)) : oneM sg F deep r = oneM sg G deep r := by unfold oneM; rw [h]
theorem itemM_congr {F G : Nat → List Int → List Int → ItP} {deep : Nat} {rest : List Int} (h : ∀ r, r.length < rest.length → F (deep + 1) [] r = G (deep + 1) [] r) : itemM sg F deep rest = itemM sg G deep rest := by
  by_cases h1 : (numR 0 false rest).err = 0
  · by_cases h2 : (numR 0 false rest).rest = []
    · unfold itemM; rw [if_neg (by rw [h1]; simp), if_pos h2, if_neg (by rw [h1]; simp), if_pos h2]
    · have ht : Tail (numR 0 false rest).rest rest := numR_tail rest 0 false h1
      have := (Tail.drop1 ht h2).2
      unfold itemM
      rw [oneM_congr (h _ this)]
  · unfold itemM; rw [if_pos h1, if_pos h1]
theorem itemsM_fuel : ∀ (f g deep : Nat) (out rest : List Int), rest.length < f → rest.length < g → itemsM sg f deep out rest = itemsM sg g deep out rest
  | 0, _, _, _, _, h, _ => absurd h (by omega)
  | _, 0, _, _, _, _, h => absurd h (by omega)
  | f + 1, g + 1, deep, out, rest, h1, h2 => by
    have e : itemM sg (itemsM sg f) deep rest = itemM sg (itemsM sg g) deep rest := itemM_congr fun r hr => itemsM_fuel f g (deep + 1) [] r (by omega) (by omega)
    rw [itemsM, itemsM, e]
    split
    · rfl
    split
    · rfl
    rename_i h3
    split
    · rfl
    have := (itemM_tl (f := g) (Classical.not_not.1 h3)).2
    exact itemsM_fuel f g deep _ _ (by omega) (by omega)
def parM (sg : List Int) (deep : Nat) (out rest : List Int) : ItP := itemsM sg (rest.length + 1) deep out rest
def itM (sg : List Int) (deep : Nat) (rest : List Int) : ItP := itemM sg (parM sg) deep rest
theorem itM_fuel (f deep : Nat) (rest : List Int) (h : rest.length ≤ f) : itemM sg (itemsM sg f) deep rest = itM sg deep rest := itemM_congr fun r hr => itemsM_fuel _ _ _ _ _ (by omega) (by omega)
theorem par_stop {deep : Nat} {out rest : List Int} (h : rest = [] ∨ rest.getD 0 0 = 41) : parM sg deep out rest = ⟨0, out, rest⟩ := by unfold parM; rw [itemsM, if_pos h]
theorem itM_tl {deep : Nat} {rest : List Int} (h : (itM sg deep rest).err = 0) : Tail (itM sg deep rest).rest rest ∧ (itM sg deep rest).rest.length < rest.length := itemM_tail (fun _ _ r h => itemsM_tail _ _ _ r h) h
theorem par_go {deep : Nat} {out rest : List Int} (h : ¬ (rest = [] ∨ rest.getD 0 0 = 41)) (h2 : (itM sg deep rest).err = 0) (h3 : ¬ 400 < (out ++ (itM sg deep rest).out).length) : parM sg deep (out ++ (itM sg deep rest).out) (itM sg deep rest).rest = parM sg deep out rest := by
  have ht := (itM_tl h2).2
  have e : parM sg deep out rest = itemsM sg rest.length deep (out ++ (itM sg deep rest).out) (itM sg deep rest).rest := by
    conv => lhs; unfold parM
    rw [itemsM, if_neg h, itM_fuel _ _ _ (Nat.le_refl _), if_neg (by rw [h2]; simp), if_neg h3]
  rw [e]
  exact itemsM_fuel _ _ _ _ _ (by omega) (by omega)
/-! What is told of errors. -/
/-! Step by step. -/
theorem it_rp {deep : Nat} {r s : List Int} {v : Int} {b : Bool} (h : numR 0 false r = ⟨0, v, b, s⟩) (hs : s ≠ []) (h2 : (oneM sg (parM sg) deep s).err = 0) : itM sg deep r = rpM (if b = true then v else 1) (oneM sg (parM sg) deep s).out (oneM sg (parM sg) deep s).rest := by
  unfold itM itemM; rw [h, if_neg (by simp), if_neg hs, if_neg (by rw [h2]; simp)]; rfl
theorem rp_ok {n : Int} {one r : List Int} (h : ¬ 400 < n * one.length) : rpM n one r = ⟨0, repL n.toNat one, r⟩ := by unfold rpM; rw [if_neg h]
theorem repL_succ (k : Nat) (one : List Int) : repL (k + 1) one = repL k one ++ one := by unfold repL; rw [List.replicate_succ', List.flatten_append]; simp
theorem one_sign {F : Nat → List Int → List Int → ItP} {deep : Nat} {s : List Int} (h : ¬ s.getD 0 0 = 40) (h2 : ¬ (s.getD 0 0 ∉ sg ∨ s.getD 0 0 < 0)) : oneM sg F deep s = ⟨0, [indexL sg (s.getD 0 0)], s.drop 1⟩ := by unfold oneM; rw [if_neg h, if_neg h2]
theorem sign_at {cs : List BCall} {c : Int} {k : Nat} (hk : k < cs.length) (hno : ∀ j, j < k → (cs.getD j D0).1 ≠ c) (h : (cs.getD k D0).1 = c) : c ∈ cs.map (·.1) ∧ indexL (cs.map (·.1)) c = k := by
  have e := idxC_yes hk h hno
  exact ⟨indexL_iff.1 (by rw [e]; omega), e⟩
theorem x_go {deep : Nat} {out r o s : List Int} {X : ItP} (hx : parM sg deep out r = X) (hne : ¬ (r = [] ∨ r.getD 0 0 = 41)) (h : itM sg deep r = ⟨0, o, s⟩) (h2 : ¬ 400 < (out ++ o).length) : parM sg deep (out ++ o) s = X := by
  have := par_go (sg := sg) (deep := deep) (out := out) hne (by rw [h]) (by rw [h]; exact h2)
  rw [h] at this
  rw [← hx, ← this]
end
/-! Runes of a text, as a loop over it gives them. -/
abbrev Ty.rune (n : Int) : Ty := .val (.int .i32 n)
theorem Tail.len {a r : List Int} (h : Tail a r) : a.length ≤ r.length := by
  obtain ⟨k, h1, rfl⟩ := h; rw [List.length_drop]; omega
section
variable {sg : List Int} {deep : Nat} {l s : List Int}
end
def ptM (sg : List Int) (s : ByteArray) : ItP :=
  if 4000 < s.size then ⟨3, [], []⟩ else if (parM sg 0 [] (runsL s)).err ≠ 0 then ⟨(parM sg 0 [] (runsL s)).err, [], []⟩
  else if (parM sg 0 [] (runsL s)).rest ≠ [] then ⟨4, [], []⟩ else if (parM sg 0 [] (runsL s)).out = [] then ⟨5, [], []⟩ else ⟨0, (parM sg 0 [] (runsL s)).out, []⟩
section
variable {sg : List Int} {s : ByteArray} {X : ItP}
theorem pt_ok (h : ¬ 4000 < s.size) (hX : X = parM sg 0 [] (runsL s)) (h1 : X.err = 0) (h2 : X.rest = []) (h3 : X.out ≠ []) : ptM sg s = ⟨0, X.out, []⟩ := by unfold ptM; rw [if_neg h, ← hX, if_neg (by rw [h1]; simp), if_neg (by rw [h2]; simp), if_neg h3]
end
end Go.KL

/- 'copy' into a row that is owned; a row told several times. -/
namespace Go.KL
open Go.RowKit
variable {P : Program} {d : Option Tmp} {ty : TypeId} {pos : String} {af : Array Edge} {g : Option (Nat × Bool)} {a : Act} {σ : GW}
def SlForm (v : Value) (n : Nat) : Prop := ∃ ad cap, v = .slice ad n cap ∧ n ≤ cap ∧ cap ≤ 9223372036854775807
section
variable {x y : Operand} {n : Nat} {t e' : TypeId} {z v : Value} {b : Nat} {ki : IntKind} (ht : P.underlying t = some (.slice e')) (he : Info P e' z 1 b) (ho : SlForm v n) (hx : a.eval x = v)
include ht he ho hx
end
/-! Some arithmetic of 64 bits without a sign. -/
theorem wrap_u64 {c : Int} (h0 : 0 ≤ c) (h1 : c < 18446744073709551616) : IntKind.u64.wrap c = c := by
  simp [IntKind.wrap, IntKind.bits, IntKind.signed]; omega
theorem wrap_u32 {c : Int} (h0 : 0 ≤ c) (h1 : c < 4294967296) : IntKind.u32.wrap c = c := by
  simp [IntKind.wrap, IntKind.bits, IntKind.signed]; omega
/-! A row told several times. -/
end Go.KL

/- Arrays as values: built of two parts, and what stands at a place. -/
namespace Go.KL
open Go.RowKit
variable {P : Program} {d : Option Tmp} {ty : TypeId} {pos : String} {af : Array Edge} {g : Option (Nat × Bool)} {a : Act} {σ : GW}
/-! ### Bells that are told -/
end Go.KL

/- How many rows are like a pattern: as many as there are ways to place the other bells. -/
namespace Go.KL
/-! ### A pattern as one list -/
end Go.KL

/- Of all rows so many are like a pattern as there are ways to place the other bells. -/
namespace Go.KL
section
variable {P : Program} {d : Option Tmp} {ty : TypeId} {pos : String} {af : Array Edge} {g : Option (Nat × Bool)} {a : Act} {σ : GW}
end
theorem asc_runs {l : List UInt8} (h : ∀ b ∈ l, b.toNat < 128) : runsL (bsL l) = l.map fun b => ((b.toNat : Nat) : Int) := by
  have key : ∀ (f p : Nat), l.length ≤ f + p → runsF (bsL l) f p = (l.drop p).map fun b => ((b.toNat : Nat) : Int) := by
    intro f
    induction f with
    | zero => intro p hp; rw [List.drop_eq_nil_of_le (by omega)]; rfl
    | succ f ih =>
      intro p hp
      by_cases hpl : p < l.length
      · have hg := bsL_get hpl
        have hb := h l[p] (List.getElem_mem hpl)
        have hr := run1_lo (s := bsL l) (p := p) (by rw [hg]; exact hb)
        have hm : runM (bsL l) p = ((l[p].toNat : Nat) : Int) := by
          unfold runM
          rw [if_neg (by rw [hr.1, hg]; omega), hr.1, hg]
        rw [runsF_cons (by rw [bsL_size]; exact hpl) (by rw [bsL_size]; omega), hm, hr.2, Nat.add_sub_cancel, ih (p + 1) (by omega), List.drop_eq_getElem_cons hpl, List.map_cons]
      · rw [runsF_end (by rw [bsL_size]; omega), List.drop_eq_nil_of_le (by omega)]; rfl
  have := key (bsL l).size 0 (by rw [bsL_size]; omega)
  unfold runsL
  rw [this, List.drop_zero]
section
variable (raw r : List Int) (star : Nat)
end
section
variable {raw r : List Int} {star : Nat}
end
end Go.KL

/- Bytes of a text, appended; touches, printed. -/
namespace Go.KL
open Go.RowKit Go.Lib
variable {P : Program} {d : Option Tmp} {ty : TypeId} {pos : String} {af : Array Edge} {g : Option (Nat × Bool)} {a : Act} {σ : GW}
theorem str_typed {s : ByteArray} {σ : GW} : ∀ (j : Nat) (T : Ty) (u : Value), (s.data.toList.map Ty.byte)[j]? = some T → (strCells s)[j]? = some u → T.has σ u := by
  intro j T u h1 h2
  unfold strCells at h2
  rw [List.getElem?_map] at h1 h2
  cases hq : s.data.toList[j]? with
  | none => rw [hq] at h1; cases h1
  | some b => rw [hq] at h1 h2; cases h1; cases h2; rfl
theorem own_appendS {k : Nat} {t u ty e : TypeId} {v : Value} {n : Nat} {ts : List Ty} {s : ByteArray} (hk : 2 ≤ k) (ht : P.underlying t = some (.slice e)) (hu : P.underlying u = some .string) (he : Info P e (.int .u8 0) 1 1) (h : Own σ k e 1 v n ts)
    (hlen : n + s.size ≤ 140737488355328) :
    ∃ v' τ, (Builtin.append_ #[t, u] ty #[v, .string s]).run P σ.w = .ok v' τ.w ∧ Stp k σ τ ∧ Own τ k e 1 v' (n + s.size) (ts ++ s.data.toList.map Ty.byte) := by
  have h0 := h
  obtain ⟨vs, r1, r2, r3, r4⟩ := h
  obtain ⟨i, hi, hi1, hi2, hi3⟩ := he.get
  have hwl := strCells_length s
  have hxl : vs.length = n := by simpa using r1.1
  have hl' : (vs ++ strCells s).length = (ts ++ s.data.toList.map Ty.byte).length := by simp [r2, hwl]
  have hm9 : n + s.size ≤ maxLen := by unfold maxLen; omega
  have new : ∀ (old : Nat) (τw : World), old < n + s.size → τw = σ.w.drew.alloc (.cells (vs.toArray ++ (strCells s).toArray ++ Builtin.zeroCells (Value.int .u8 0).cells (grownCap σ.w (n + s.size) old e - (n + s.size))) e) →
      ∃ τ : GW, τ.w = τw ∧ Stp k σ τ ∧ Own τ k e 1 (.slice (some ⟨σ.w.heap.size, 0, none⟩) (n + s.size) (grownCap σ.w (n + s.size) old e)) (n + s.size) (ts ++ s.data.toList.map Ty.byte) := by
    intro old τw _ hτ
    subst hτ
    have hge := grownCap_ge σ.w (n + s.size) old e
    have hcm : grownCap σ.w (n + s.size) old e ≤ maxLen := grownCap_le_maxLen σ.w (n + s.size) old e hm9
    have hstp : Stp 0 σ (σ.drew.mk' k (.cells (vs.toArray ++ (strCells s).toArray ++ Builtin.zeroCells (Value.int .u8 0).cells (grownCap σ.w (n + s.size) old e - (n + s.size))) e)) := (Stp.drew σ).trans (Stp.mk' σ.drew k _)
    refine ⟨_, rfl, hstp.of0, Own.intro (us := vs ++ strCells s) (heap_alloc_new σ.w.drew _) (by show (if _ = _ then k else _) = k; rw [if_pos]; rfl) hge hcm ?_ ?_ hl' ?_⟩
    · have hz1 : (Value.int IntKind.u8 0).cells.size = 1 := rfl
      simp only [Array.size_append, List.size_toArray, size_zeroCells, hz1, hxl, hwl]; omega
    · simp only [Array.toList_append, List.append_assoc]
      rw [← List.append_assoc, show (n + s.size) * 1 = (vs ++ strCells s).length by rw [List.length_append, hxl, hwl, Nat.mul_one]]
      exact List.take_left
    · exact typed_append r2 (fun j T u hT hu => T.up hstp.le0 (r3 j T u hT hu)) str_typed
  rcases r1.2 with ⟨rfl, rfl⟩ | ⟨g, cap, cur, rfl, _, hg, hn, hm, hcs, htk⟩
  · have hvs : vs = [] := List.eq_nil_of_length_eq_zero hxl
    by_cases hm0 : s.size = 0
    · have hn : s.data.toList = [] := List.eq_nil_of_length_eq_zero (by simpa using hm0)
      refine ⟨.slice none 0 0, σ, ?_, Stp.refl _ _, by rw [hm0, hn]; simpa using h0⟩
      have hf := run_firstCells_string (P := P) (w := σ.w) 1 s
      have hn2 : strCells s = [] := List.eq_nil_of_length_eq_zero (by rw [hwl]; exact hm0)
      simp [Builtin.append_, run_underlying ht, run_underlying hu, sizeOf, typeInfo, hi, hi2, Builtin.lenOf, hm0, hn2] at hf ⊢
      simp [hf]
    · have hr := run_append_nil_string (P := P) (w := σ.w) t u ty e i (.int .u8 0) ht hu hi hi1 s (by omega) (by omega) (by rw [hi3]; omega)
      obtain ⟨τ, e1, e2, e3⟩ := new 0 _ (by omega) rfl
      have e4 : (s.data.map fun b => Value.int .u8 b.toNat) = (strCells s).toArray := by
        apply Array.ext'
        simp [strCells]
      rw [e4] at hr
      simp only [Nat.zero_add] at e1 e3 ⊢
      exact ⟨_, τ, by rw [hr, e1, hvs]; simp, e2, e3⟩
  · have hgk := r4 g rfl
    have hcs' : cur.size = cap := by simpa using hcs
    by_cases hroom : n + s.size ≤ cap
    · have hr := run_append_room_string (P := P) (w := σ.w) t u ty e i ht hu hi hi2 g n cap cur hg s hroom (by omega)
      have hstp : Stp k σ (σ.setRow g (cur.toList.take n ++ strCells s ++ cur.toList.drop (n + s.size)).toArray) := Stp.setRow hgk (by omega)
      have ht' : cur.toList.take n = vs := by simpa using htk
      refine ⟨_, _, hr, hstp, Own.intro (us := vs ++ strCells s) (setRow_heap σ.w g cur _ e (0, 0) hg) hgk hroom hm ?_ ?_ hl' ?_⟩
      · simp only [List.size_toArray, List.length_append, List.length_take, List.length_drop, Array.length_toList, hwl]
        omega
      · rw [ht', show (n + s.size) * 1 = (vs ++ strCells s).length by rw [List.length_append, hxl, hwl, Nat.mul_one]]
        exact List.take_left
      · exact typed_append r2 (fun j T u hT hu => T.up (hstp.le (by omega)) (r3 j T u hT hu)) str_typed
    · have holds : ∀ (j : Nat) (u : Value), vs[j]? = some u → σ.w.cell? ((⟨g, 0, none⟩ : Addr).add j) = some u := r1.cells (g := g) rfl
      have hr := run_append_grow_string (P := P) (w := σ.w) t u ty e i (.int .u8 0) ht hu hi hi1 ⟨g, 0, none⟩ n cap vs (by rw [hi2]; simpa using hxl) holds s (by omega) (by omega) (by rw [hi3]; exact growslice_fits (by omega) (by omega))
      obtain ⟨τ, e1, e2, e3⟩ := new cap _ (by omega) rfl
      exact ⟨_, τ, by rw [hr, e1], e2, e3⟩
theorem m_appendS {k : Nat} {t u e : TypeId} {x y : Operand} {n : Nat} {ts : List Ty} {s : ByteArray} (ht : P.underlying t = some (.slice e)) (hu : P.underlying u = some .string) (he : Info P e (.int .u8 0) 1 1) (hk : 2 ≤ k) (h : Own σ k e 1 (a.eval x) n ts) (hy : a.eval y = .string s)
    (hlen : n + s.size ≤ 140737488355328) : YldM k P ⟨d, .call ⟨.builtin .append, #[x, y], #[t, u]⟩, ty, pos, af, g⟩ a σ (fun v τ => Own τ k e 1 v (n + s.size) (ts ++ s.data.toList.map Ty.byte)) := by
  intro K Q hk'
  obtain ⟨v', τ, hr, hs, ho⟩ := own_appendS (ty := ty) hk ht hu he h hlen
  have hr' : (execOp a.eval ⟨d, .call ⟨.builtin .append, #[x, y], #[t, u]⟩, ty, pos, af, g⟩).run P σ.w = .ok (.value v') τ.w := by
    simp only [execOp, resolve, Sem.run_bind, Sem.run_pure, Result.andThen_ok, invoke, List.map_toArray, List.map_cons, List.map_nil, builtin, hy, hr]
  unfold Oper.wp
  rw [hr']
  exact hk' v' τ hs ho
/-! Numbers, printed. -/
def decL (n : Nat) : List UInt8 := if n < 10 then [(48 + n).toUInt8] else [(48 + n / 10).toUInt8, (48 + n % 10).toUInt8]
def decB (n : Nat) : ByteArray := bsL (decL n)
theorem y_convBS {x : Operand} {t u e : TypeId} {bs : List UInt8} {n : Nat} (ht : P.underlying t = some (.slice e)) (he : P.underlying e = some (.int .u8)) (hu : P.underlying u = some .string) (hx : At (.sl 1 n (bs.map Ty.byte)) σ a x) :
    Yld P ⟨d, .convert t u x, ty, pos, af, g⟩ a σ (Ty.val (.string (bsL bs))).pr := by
  obtain ⟨ad, cap0, bb, o, e1, hcap0, hul, hs, hcl⟩ := hx
  have hn : n = bs.length := by simpa using hul.symm
  subst hn
  rcases hs with hs | ⟨rfl, _⟩
  · have hb : bs = [] := by simpa using hs
    subst hb
    have hr : (convert t u (.slice ad 0 cap0)).run P σ.w = .ok (.string (bsL [])) σ.w := by
      rw [run_convert_bytes_string σ.w t u e ad 0 cap0 ht he hu]
      cases ad <;> simp [Conv.bytesToString, loadCells, loadCellsFrom, bsL] <;> rfl
    exact Yld.of_run (v := .string (bsL [])) (by simp only [execOp, e1, List.length_nil, Sem.run_bind, hr, Result.andThen_ok, Sem.run_pure]) rfl
  · have hr := run_convert_bytes_back (P := P) σ.w t u e ⟨bb, o, none⟩ cap0 bs ht he hu (fun j hj => by
      obtain ⟨v, hv, hT⟩ := hcl j (Ty.byte bs[j]) (by simp [hj])
      rw [Addr.add_lit, hv, show v = _ from hT])
    exact Yld.of_run (v := .string (bsL bs)) (by simp only [execOp, e1, Sem.run_bind, hr, Result.andThen_ok, Sem.run_pure]; rfl) rfl
/-! Touches, printed. -/
def pcB (cs : List BCall) (n : Nat) (x : Int) : ByteArray := (if 1 < n then decB n else ByteArray.empty) ++ Utf8.encode (cs.getD x.toNat D0).1
def prR (cs : List BCall) : Nat → List Int → ByteArray
  | _, [] => ByteArray.empty
  | n, x :: r => if (r ≠ [] ∧ r.getD 0 0 = x) ∧ n + 1 < 99 then prR cs (n + 1) r else pcB cs (n + 1) x ++ prR cs 0 r
section
variable {cs : List BCall} {s T : ByteArray} {l : List Int} {i n : Nat}
end
def ptE (cs : List BCall) (l : List Int) : Int := if l.length < 1 ∨ 400 < l.length then 1 else if ∀ k, k < l.length → 0 ≤ l.getD k 0 ∧ l.getD k 0 < (cs.length : Int) then 0 else 12
def ptT (cs : List BCall) (l : List Int) : ByteArray := if ptE cs l = 0 then prR cs 0 l else ByteArray.empty
theorem pt_good {cs : List BCall} {l : List Int} (h : ¬ (l.length < 1 ∨ 400 < l.length)) (hv : ∀ k, k < l.length → 0 ≤ l.getD k 0 ∧ l.getD k 0 < (cs.length : Int)) : ptE cs l = 0 ∧ ptT cs l = prR cs 0 l := by
  have : ptE cs l = 0 := by unfold ptE; rw [if_neg h, if_pos hv]
  exact ⟨this, by unfold ptT; rw [if_pos this]⟩
end Go.KL

/- Runes, written as bytes: bits of bytes, rows of three and four new bytes. -/
namespace Go.KL
open Go.RowKit Go.Lib
section
variable {P : Program} {d : Option Tmp} {ty : TypeId} {pos : String} {af : Array Edge} {g : Option (Nat × Bool)} {a : Act} {σ : GW}
end
def bt (e : Int) : UInt8 := e.toNat.toUInt8
theorem enc_1 {c : Int} (h0 : 0 ≤ c) (h1 : c ≤ 127) : (Utf8.encode c).data.toList = [bt c] := by
  have hv : Utf8.valid c = true := by simp [Utf8.valid]; omega
  unfold Utf8.encode
  simp only [hv, if_true]
  rw [if_pos (by omega)]
  rfl
end Go.KL

/- What a search finds: all, in order. -/
namespace Go.KL
section
variable {nm : ByteArray} {n : Nat} {l : List (List Int)} {cs : List BCall} {leads many : Nat}
end
theorem pair_getD {L : List (List Int)} {R : List Int → List Int → Prop} (h : L.Pairwise R) {i j : Nat} (hij : i < j) (hj : j < L.length) : R (L.getD i []) (L.getD j []) := by
  have := List.pairwise_iff_getElem.1 h i j (by omega) hj hij
  simpa [show i < L.length by omega, hj] using this
theorem behind {L : List (List Int)} (h : L.Pairwise fun a b => belowL a b = true) {m : Nat} (hm : 1 ≤ m) {g : List Int} (hg : g ∈ L) (hn : g ∉ L.take m) : (L.take m).length = m ∧ belowL ((L.take m).getD (m - 1) []) g = true := by
  have hg2 : g ∈ L.drop m := by
    rw [← List.take_append_drop m L, List.mem_append] at hg
    exact hg.resolve_left hn
  obtain ⟨j, hj, rfl⟩ := List.getElem_of_mem hg2
  rw [List.length_drop] at hj
  have hlen : (L.take m).length = m := by rw [List.length_take]; omega
  refine ⟨hlen, ?_⟩
  have := pair_getD h (i := m - 1) (j := m + j) (by omega) (by omega)
  rw [List.getElem_drop]
  rw [getD_takeD [] (by omega)]
  simpa [show m + j < L.length by omega] using this
/-! ### What is made of raw numbers -/
end Go.KL

/- Touches there and back: what is printed of leads is read as these. -/
namespace Go.KL
open Go.RowKit Go.Lib
structure Sgn (cs : List BCall) : Prop where
  lo : ∀ k, k < cs.length → 58 ≤ (cs.getD k D0).1 ∧ (cs.getD k D0).1 < 128
  un : ∀ j k, j < k → k < cs.length → (cs.getD j D0).1 ≠ (cs.getD k D0).1
def sgn (cs : List BCall) (x : Int) : Int := (cs.getD x.toNat D0).1
def pcL (cs : List BCall) (n : Nat) (x : Int) : List UInt8 := (if 1 < n then decL n else []) ++ [bt (sgn cs x)]
def prL (cs : List BCall) : Nat → List Int → List UInt8
  | _, [] => []
  | n, x :: r => if (r ≠ [] ∧ r.getD 0 0 = x) ∧ n + 1 < 99 then prL cs (n + 1) r else pcL cs (n + 1) x ++ prL cs 0 r
def rn (l : List UInt8) : List Int := l.map fun b => ((b.toNat : Nat) : Int)
theorem rn_app (a b : List UInt8) : rn (a ++ b) = rn a ++ rn b := List.map_append
theorem bsL_app (a b : List UInt8) : bsL (a ++ b) = bsL a ++ bsL b := by apply ByteArray.ext; simp [bsL]
theorem bt_toNat {c : Int} (h0 : 0 ≤ c) (h : c < 256) : (((bt c).toNat : Nat) : Int) = c := by
  unfold bt
  have : c.toNat.toUInt8.toNat = c.toNat := by simp; omega
  rw [this, Int.toNat_of_nonneg h0]
section
variable {cs : List BCall}
theorem prR_L (hs : Sgn cs) : ∀ (n : Nat) (l : List Int), (∀ k, k < l.length → 0 ≤ l.getD k 0 ∧ l.getD k 0 < (cs.length : Int)) → prR cs n l = bsL (prL cs n l)
  | _, [], _ => rfl
  | n, x :: r, h => by
    have hr : ∀ k, k < r.length → 0 ≤ r.getD k 0 ∧ r.getD k 0 < (cs.length : Int) := fun k hk => by
      have := h (k + 1) (by simp; omega)
      simpa using this
    have hx := h 0 (by simp)
    simp only [List.getD_cons_zero] at hx
    rw [prR, prL]
    split
    · exact prR_L hs (n + 1) r hr
    · have hl := hs.lo x.toNat (by omega)
      have e : Utf8.encode (cs.getD x.toNat D0).1 = bsL [bt (sgn cs x)] := by
        apply ByteArray.ext
        apply Array.ext'
        rw [enc_1 (by omega) (by omega)]
        rfl
      rw [prR_L hs 0 r hr, bsL_app]
      congr 1
      unfold pcB pcL
      rw [bsL_app, e]
      congr 1
      split
      · rfl
      · rfl
theorem decL_lo (n : Nat) (h : n < 100) : ∀ b ∈ decL n, b.toNat < 128 := by
  have : ∀ m : Fin 100, ∀ b ∈ decL m.val, b.toNat < 128 := by decide +kernel
  exact this ⟨n, h⟩
theorem pcL_lo (hs : Sgn cs) {n : Nat} {x : Int} (hn : n < 100) (hx : 0 ≤ x ∧ x < (cs.length : Int)) : ∀ b ∈ pcL cs n x, b.toNat < 128 := by
  intro b hb
  have hl := hs.lo x.toNat (by omega)
  unfold pcL at hb
  rcases List.mem_append.1 hb with h | h
  · split at h
    · exact decL_lo n hn b h
    · cases h
  · rw [List.mem_singleton.1 h]
    have := bt_toNat (c := sgn cs x) (by unfold sgn; omega) (by unfold sgn; omega)
    have h2 : sgn cs x < 128 := hl.2
    omega
theorem prL_lo (hs : Sgn cs) : ∀ (n : Nat) (l : List Int), n ≤ 98 → (∀ k, k < l.length → 0 ≤ l.getD k 0 ∧ l.getD k 0 < (cs.length : Int)) → ∀ b ∈ prL cs n l, b.toNat < 128
  | _, [], _, _ => fun b hb => by cases hb
  | n, x :: r, hn, h => by
    have hr : ∀ k, k < r.length → 0 ≤ r.getD k 0 ∧ r.getD k 0 < (cs.length : Int) := fun k hk => by
      have := h (k + 1) (by simp; omega)
      simpa using this
    have hx := h 0 (by simp)
    simp only [List.getD_cons_zero] at hx
    intro b hb
    rw [prL] at hb
    split at hb
    · exact prL_lo hs (n + 1) r (by omega) hr b hb
    · rcases List.mem_append.1 hb with h1 | h1
      · exact pcL_lo hs (by omega) hx b h1
      · exact prL_lo hs 0 r (by omega) hr b h1
theorem num_none {c : Int} {r : List Int} (h : ¬ (48 ≤ c ∧ c ≤ 57)) (n : Int) (b : Bool) : numR n b (c :: r) = ⟨0, n, b, c :: r⟩ := by rw [numR, if_neg h]
theorem num_dec {n : Nat} {c : Int} {r : List Int} (h1 : 1 ≤ n) (h : n < 100) (hc : ¬ (48 ≤ c ∧ c ≤ 57)) : numR 0 false (rn (decL n) ++ c :: r) = ⟨0, (n : Int), true, c :: r⟩ := by
  by_cases hn : n < 10
  · have e : rn (decL n) = [48 + (n : Int)] := by
      have : ∀ m : Fin 10, rn (decL m.val) = [48 + (m.val : Int)] := by decide +kernel
      exact this ⟨n, hn⟩
    rw [e, List.singleton_append, numR, if_pos (by omega), if_neg (by omega), num_none hc]
    congr 1; omega
  · have e : rn (decL n) = [48 + ((n / 10 : Nat) : Int), 48 + ((n % 10 : Nat) : Int)] := by
      have : ∀ m : Fin 100, ¬ m.val < 10 → rn (decL m.val) = [48 + ((m.val / 10 : Nat) : Int), 48 + ((m.val % 10 : Nat) : Int)] := by decide +kernel
      exact this ⟨n, h⟩ hn
    rw [e, List.cons_append, numR, if_pos (by omega), if_neg (by omega), List.singleton_append, numR, if_pos (by omega), if_neg (by omega), num_none hc]
    congr 1; omega
theorem sgn_at (hs : Sgn cs) {x : Int} (hx : 0 ≤ x ∧ x < (cs.length : Int)) : sgn cs x ∈ sgOf cs ∧ indexL (sgOf cs) (sgn cs x) = x := by
  have := sign_at (cs := cs) (c := sgn cs x) (k := x.toNat) (by omega) (fun j hj => hs.un j x.toNat hj (by omega)) rfl
  exact ⟨this.1, by rw [this.2]; omega⟩
theorem repL_single (n : Nat) (x : Int) : repL n [x] = List.replicate n x := by
  induction n with
  | zero => rfl
  | succ n ih => rw [repL_succ, ih, List.replicate_succ']
theorem it_piece (hs : Sgn cs) {deep n : Nat} {x : Int} {tl : List Int} (h1 : 1 ≤ n) (h : n < 100) (hx : 0 ≤ x ∧ x < (cs.length : Int)) :
    itM (sgOf cs) deep (rn (pcL cs n x) ++ tl) = ⟨0, List.replicate n x, tl⟩ := by
  have hl := hs.lo x.toNat (by omega)
  have hsg : 58 ≤ sgn cs x ∧ sgn cs x < 128 := hl
  have e : rn (pcL cs n x) ++ tl = rn (if 1 < n then decL n else []) ++ sgn cs x :: tl := by
    unfold pcL
    rw [rn_app, List.append_assoc]
    congr 1
    show (((bt (sgn cs x)).toNat : Nat) : Int) :: tl = _
    rw [bt_toNat (by omega) (by omega)]
  have hs1 := sgn_at hs hx
  have one : oneM (sgOf cs) (parM (sgOf cs)) deep (sgn cs x :: tl) = ⟨0, [x], tl⟩ := by
    have h40 : ¬ (sgn cs x :: tl).getD 0 0 = 40 := by show ¬ sgn cs x = 40; omega
    rw [one_sign h40 (by
      show ¬ (sgn cs x ∉ sgOf cs ∨ sgn cs x < 0)
      rintro (h_ | h_)
      · exact h_ hs1.1
      · omega)]
    show (⟨0, [indexL (sgOf cs) (sgn cs x)], tl⟩ : ItP) = _
    rw [hs1.2]
  rw [e]
  by_cases hn : 1 < n
  · rw [if_pos hn]
    have hnum := num_dec (n := n) (c := sgn cs x) (r := tl) h1 h (by omega)
    rw [it_rp hnum (by simp) (by rw [one]), one, if_pos rfl, rp_ok (by simp; omega), Int.toNat_natCast, repL_single]
  · rw [if_neg hn]
    have hn1 : n = 1 := by omega
    have hnum : numR 0 false (rn [] ++ sgn cs x :: tl) = ⟨0, 0, false, sgn cs x :: tl⟩ := num_none (by omega) 0 false
    rw [it_rp hnum (by simp) (by rw [one]), one, if_neg (by simp), rp_ok (by simp), hn1]
    rfl
theorem rn_piece_ne (hs : Sgn cs) {n : Nat} {x : Int} {tl : List Int} (h : n < 100) (hx : 0 ≤ x ∧ x < (cs.length : Int)) : ¬ (rn (pcL cs n x) ++ tl = [] ∨ (rn (pcL cs n x) ++ tl).getD 0 0 = 41) := by
  have hl := hs.lo x.toNat (by omega)
  have hsg : 58 ≤ sgn cs x ∧ sgn cs x < 128 := hl
  unfold pcL
  split
  · rename_i hn
    have hd : ∀ m : Fin 100, 1 < m.val → rn (decL m.val) ≠ [] ∧ (rn (decL m.val)).getD 0 0 ≠ 41 := by decide +kernel
    have h2 := hd ⟨n, h⟩ hn
    simp only at h2
    obtain ⟨c, r, e⟩ := List.exists_cons_of_ne_nil h2.1
    have h3 := h2.2
    rw [e] at h3
    rw [rn_app, e]
    rintro (h_ | h_)
    · simp at h_
    · exact h3 h_
  · rintro (h_ | h_)
    · simp [rn] at h_
    · have : (((bt (sgn cs x)).toNat : Nat) : Int) = 41 := h_
      rw [bt_toNat (by omega) (by omega)] at this
      omega
theorem par_print (hs : Sgn cs) {deep : Nat} {tl : List Int} : ∀ (l : List Int) (n : Nat) (out : List Int), n ≤ 98 → (0 < n → l ≠ []) → (∀ k, k < l.length → 0 ≤ l.getD k 0 ∧ l.getD k 0 < (cs.length : Int)) → out.length + n + l.length ≤ 400 →
    parM (sgOf cs) deep out (rn (prL cs n l) ++ tl) = parM (sgOf cs) deep (out ++ List.replicate n (l.getD 0 0) ++ l) tl
  | [], n, out, _, hn, _, _ => by
    have : n = 0 := by
      rcases Nat.eq_zero_or_pos n with h | h
      · exact h
      · exact absurd rfl (hn h)
    subst this
    simp [prL, rn]
  | x :: r, n, out, hn, _, h, hlen => by
    have hr : ∀ k, k < r.length → 0 ≤ r.getD k 0 ∧ r.getD k 0 < (cs.length : Int) := fun k hk => by
      have := h (k + 1) (by simp; omega)
      simpa using this
    have hx := h 0 (by simp)
    simp only [List.getD_cons_zero] at hx ⊢
    simp only [List.length_cons] at hlen
    rw [prL]
    split
    · rename_i hc
      rw [par_print hs r (n + 1) out (by omega) (fun _ => hc.1.1) hr (by omega), hc.1.2]
      congr 1
      rw [List.replicate_succ']
      simp
    · have hp := it_piece hs (deep := deep) (n := n + 1) (x := x) (tl := rn (prL cs 0 r) ++ tl) (by omega) (by omega) hx
      have hne := rn_piece_ne hs (n := n + 1) (x := x) (tl := rn (prL cs 0 r) ++ tl) (by omega) hx
      rw [rn_app, List.append_assoc]
      have hg := x_go (deep := deep) (out := out) rfl hne hp (by simp; omega)
      rw [← hg, par_print hs r 0 (out ++ List.replicate (n + 1) x) (by omega) (fun h => absurd h (by omega)) hr (by simp; omega)]
      congr 1
      rw [List.replicate_succ']
      simp
theorem prL_len (n : Nat) (l : List Int) : (prL cs n l).length ≤ 3 * l.length := by
  induction l generalizing n with
  | nil => simp [prL]
  | cons x r ih =>
    rw [prL]
    split
    · have := ih (n + 1); simp; omega
    · have h1 := ih 0
      have h2 : (pcL cs (n + 1) x).length ≤ 3 := by
        unfold pcL
        split
        · have : (decL (n + 1)).length ≤ 2 := by unfold decL; split <;> simp
          simp; omega
        · simp
      simp only [List.length_append, List.length_cons]; omega
theorem there {l : List Int} (hs : Sgn cs) (h1 : 1 ≤ l.length) (h2 : l.length ≤ 60) (hv : ∀ k, k < l.length → 0 ≤ l.getD k 0 ∧ l.getD k 0 < (cs.length : Int)) :
    (ptM (sgOf cs) (ptT cs l)).err = 0 ∧ (ptM (sgOf cs) (ptT cs l)).out = l := by
  have hg := pt_good (cs := cs) (l := l) (by omega) hv
  rw [hg.2, prR_L hs 0 l hv]
  have hL := asc_runs (prL_lo hs 0 l (by omega) hv)
  have hsz : ¬ 4000 < (bsL (prL cs 0 l)).size := by rw [bsL_size]; have := prL_len (cs := cs) 0 l; omega
  have hp : parM (sgOf cs) 0 [] (runsL (bsL (prL cs 0 l))) = ⟨0, l, []⟩ := by
    rw [hL]
    have := par_print hs (deep := 0) (tl := []) l 0 [] (by omega) (fun h => absurd h (by omega)) hv (by simp; omega)
    rw [List.append_nil] at this
    show parM _ _ _ (rn _) = _
    rw [this, par_stop (.inl rfl)]
    simp
  rw [pt_ok hsz hp.symm rfl rfl (by intro e; simp only at e; rw [e] at h1; simp at h1)]
  exact ⟨rfl, rfl⟩
end
end Go.KL

/- A text cut at each byte of a kind. -/
namespace Go.KL
open Go.Lib
def cutL (c : UInt8) : List UInt8 → List (List UInt8)
  | [] => [[]]
  | b :: r => if b = c then [] :: cutL c r else match cutL c r with | [] => [[b]] | p :: ps => (b :: p) :: ps
theorem cutL_ne {c : UInt8} : ∀ {l : List UInt8}, cutL c l ≠ []
  | [] => by simp [cutL]
  | b :: r => by
    unfold cutL
    split
    · simp
    · split <;> simp
theorem cut_none {c : UInt8} : ∀ {l : List UInt8}, indexByte l c = -1 → cutL c l = [l]
  | [], _ => rfl
  | b :: r, h => by
    unfold indexByte at h
    split at h
    · cases h
    · rename_i hb
      have hbc : b ≠ c := by simpa using hb
      split at h
      · rename_i h1
        have h1' : indexByte r c = -1 := by simpa using h1
        rw [cutL, if_neg hbc, cut_none h1']
      · have := indexByte_ge r c
        rename_i h1
        have h1' : ¬ indexByte r c = -1 := by simpa using h1
        omega
theorem cut_at {c : UInt8} : ∀ {l : List UInt8} {o : Nat}, indexByte l c = o → cutL c l = l.take o :: cutL c (l.drop (o + 1))
  | [], o, h => by simp [indexByte] at h
  | b :: r, o, h => by
    unfold indexByte at h
    split at h
    · rename_i hb
      have hbc : b = c := by simpa using hb
      have : o = 0 := by omega
      subst this
      rw [cutL, if_pos hbc]; rfl
    · rename_i hb
      have hbc : b ≠ c := by simpa using hb
      split at h
      · omega
      · have h2 := indexByte_ge r c
        rename_i h1
        have h1' : ¬ indexByte r c = -1 := by simpa using h1
        obtain ⟨k, rfl⟩ : ∃ k, o = k + 1 := ⟨o - 1, by omega⟩
        have h3 : indexByte r c = k := by omega
        rw [cutL, if_neg hbc, cut_at h3]
        simp
theorem ix_count {c : UInt8} : ∀ {l : List UInt8}, indexByte l c = -1 ↔ l.count c = 0
  | [] => by simp [indexByte]
  | b :: r => by
    have ih := ix_count (c := c) (l := r)
    have hg := indexByte_ge r c
    unfold indexByte
    rw [List.count_cons]
    by_cases hb : (b == c) = true
    · simp [hb]
    · simp only [hb]
      by_cases h1 : indexByte r c = -1
      · simp [h1, ih.1 h1]
      · have : ¬ r.count c = 0 := fun e => h1 (ih.2 e)
        simp [h1]
        omega
theorem count_at {c : UInt8} : ∀ {l : List UInt8} {o : Nat}, indexByte l c = o → l.count c = (l.drop (o + 1)).count c + 1 ∧ o < l.length
  | [], o, h => by simp [indexByte] at h
  | b :: r, o, h => by
    unfold indexByte at h
    split at h
    · rename_i hb
      have hbc : b = c := by simpa using hb
      have : o = 0 := by omega
      subst this
      subst hbc
      simp
    · rename_i hb
      have hbc : b ≠ c := by simpa using hb
      split at h
      · omega
      · have h2 := indexByte_ge r c
        rename_i h1
        have h1' : ¬ indexByte r c = -1 := by simpa using h1
        obtain ⟨k, rfl⟩ : ∃ k, o = k + 1 := ⟨o - 1, by omega⟩
        obtain ⟨h4, h5⟩ := count_at (l := r) (c := c) (o := k) (by omega)
        rw [List.count_cons_of_ne hbc]
        simp only [List.drop_succ_cons, List.length_cons]
        exact ⟨h4, by omega⟩
def cutT (c : UInt8) (s : ByteArray) : List ByteArray := (cutL c s.data.toList).map bsL
theorem bsL_data (s : ByteArray) : bsL s.data.toList = s := by apply ByteArray.ext; simp [bsL]
theorem data_bsL (l : List UInt8) : (bsL l).data.toList = l := by simp [bsL]
theorem ext_bsL (s : ByteArray) (i j : Nat) : s.extract i j = bsL ((s.data.toList.take j).drop i) := by
  apply ByteArray.ext
  apply Array.ext'
  simp [bsL, ByteArray.data_extract, List.extract_eq_take_drop, List.drop_take]
end Go.KL
namespace Go.KL
section
variable {P : Program} {d : Option Tmp} {ty : TypeId} {pos : String} {af : Array Edge} {g : Option (Nat × Bool)} {a : Act} {σ : GW}
theorem y_min {x y : Operand} {t : Array TypeId} {m n : Int} (hx : a.eval x = .int .i64 m) (hy : a.eval y = .int .i64 n) : Yld P ⟨d, .call ⟨.builtin .min, #[x, y], t⟩, ty, pos, af, g⟩ a σ (Ty.int (min m n)).pr := by
  refine Yld.of_run (v := .int .i64 (min m n)) ?_ rfl
  have hx' := hx
  have hy' := hy
  have hb : ∀ cs, (builtin .min t ty cs #[.int .i64 m, .int .i64 n]).run P σ.w = .ok (.value (.int .i64 (min m n))) σ.w := by
    intro cs
    simp only [builtin, Builtin.min_, List.foldlM, Builtin.min2]
    simp [go_sem]
    omega
  simp only [execOp, resolve, Sem.run_bind, Sem.run_pure, Result.andThen_ok, invoke, List.map_toArray, List.map_cons, List.map_nil, hx, hy]
  exact hb _
end
end Go.KL
namespace Go.KL
open Go.Lib
theorem ext_head {l : List UInt8} {m k : Nat} (h : k = m) : (bsL l).extract 0 k = bsL (l.take m) := by
  rw [h, ext_bsL, data_bsL, List.drop_zero]
theorem ext_tail {l : List UInt8} {m k : Nat} (h : k = m) : (bsL l).extract k (bsL l).size = bsL (l.drop m) := by
  rw [h, ext_bsL, data_bsL, bsL_size, List.take_length]
variable {ys T : List ByteArray} {l : List UInt8} {i m : Nat} {c : UInt8} {v : ByteArray}
theorem set_take (hi : i < ys.length) : (ys.set i v).take (i + 1) = ys.take i ++ [v] := by
  rw [List.take_add_one, List.getElem?_set_self hi]
  rw [List.take_set_of_le (Nat.le_refl i)]
  rfl
theorem sp_go (hq : ys.take i ++ (cutL c l).map bsL = T) (hm : indexByte l c = m) (hi : i < ys.length) (hv : v = bsL (l.take m)) : (ys.set i v).take (i + 1) ++ (cutL c (l.drop (m + 1))).map bsL = T := by
  rw [set_take hi, hv, ← hq, cut_at hm]
  simp
theorem sp_end (hq : ys.take i ++ (cutL c l).map bsL = T) (hc : l.count c = 0) (hi : i < ys.length) : (ys.set i (bsL l)).take (i + 1) = T := by
  rw [set_take hi, ← hq, cut_none (ix_count.2 hc)]
  rfl
end Go.KL
namespace Go.KL
variable {ys T : List ByteArray} {L : List UInt8} {i j : Nat} {s : ByteArray}
end Go.KL
namespace Go.KL
variable {ys T : List ByteArray} {L : List UInt8} {i j : Nat} {s : ByteArray}
end Go.KL

/- Numbers of digits. -/
namespace Go.KL
def noNum (s : ByteArray) : Prop := s.size = 0 ∨ (1 < s.size ∧ (s.get! 0).toNat = 48)
instance (s : ByteArray) : Decidable (noNum s) := by unfold noNum; infer_instance
variable {s : ByteArray} {i : Nat} {v T : Int} {L : List UInt8}
end Go.KL
namespace Go.KL
variable {s : ByteArray}
end Go.KL

/- Digits trimmed off; numbers read by the library and by the document. -/
namespace Go.KL
open Go.Lib
def isDig (b : UInt8) : Prop := 48 ≤ b.toNat ∧ b.toNat ≤ 57
/-! ### The number itself -/
def stN (a : Nat) (b : UInt8) : Nat := a * 10 + (b.toNat - 48)
def exN (a : Nat) (l : List UInt8) : Nat := l.foldl stN a
theorem exN_nil (a : Nat) : exN a [] = a := List.foldl_nil ..
theorem exN_cons (a : Nat) (b : UInt8) (r : List UInt8) : exN a (b :: r) = exN (stN a b) r := List.foldl_cons ..
theorem stN_eq (a : Nat) (b : UInt8) : stN a b = a * 10 + (b.toNat - 48) := rfl
theorem stN_le (a : Nat) (b : UInt8) : a ≤ stN a b := by unfold stN; omega
attribute [irreducible] exN stN
theorem exN_le (l : List UInt8) : ∀ a : Nat, a ≤ exN a l := by
  induction l with
  | nil => intro a; rw [exN_nil]; exact Nat.le_refl _
  | cons b r ih =>
    intro a
    rw [exN_cons]
    exact Nat.le_trans (stN_le a b) (ih (stN a b))
theorem parse_dig : ∀ (l : List UInt8) (a : Nat), (∀ b ∈ l, isDig b) → (parseUint10 a l = .ok (exN a l)) ∨ (parseUint10 a l = .range ∧ 18446744073709551616 ≤ exN a l)
  | [], a, _ => .inl (by rw [parseUint10, exN_nil])
  | b :: r, a, h => by
    have hb : 48 ≤ b.toNat ∧ b.toNat ≤ 57 := h b (by simp)
    have ih := parse_dig r (stN a b) (fun x hx => h x (by simp [hx]))
    have hle := exN_le r (stN a b)
    have hst := stN_eq a b
    rw [parseUint10, exN_cons, if_pos hb, ← hst]
    by_cases h1 : 1844674407370955162 ≤ a
    · rw [if_pos h1]
      exact .inr ⟨rfl, by omega⟩
    · rw [if_neg h1]
      by_cases h2 : 18446744073709551616 ≤ stN a b
      · rw [if_pos h2]
        exact .inr ⟨rfl, by omega⟩
      · rw [if_neg h2]
        exact ih
end Go.KL

/- A book of peals: records, their lines, what is read of a text. -/
namespace Go.KL
open Go.Lib
theorem b_inner {s : ByteArray} {p j : Nat} (h1 : p < j) (h2 : j < p + wid s p) : 128 ≤ (s.get! j).toNat := by
  unfold wid at h2
  rw [Lib.decode_at] at h2
  have e1 : j = p + 1 ∨ j = p + 2 ∨ j = p + 3 ∨ p + 4 ≤ j := by omega
  revert h2
  unfold Lib.decodeN
  repeat' split
  all_goals (intro h2; simp only at h2; rcases e1 with rfl | rfl | rfl | e1 <;> omega)
theorem b_rune {s : ByteArray} {j : Nat} (hj : j < s.size) (hb : (s.get! j).toNat < 128) : ∀ (f p : Nat), s.size ≤ f + p → p ≤ j → (s.get! j).toNat ∈ runesF s f p
  | 0, p, h1, h2 => by omega
  | f + 1, p, h1, h2 => by
    rw [runesF, if_pos (by omega)]
    by_cases e : j = p
    · subst e
      rw [(run1_lo hb).1]; exact List.mem_cons_self ..
    · by_cases e2 : j < p + wid s p
      · have := b_inner (by omega) e2
        omega
      · have hw := wid_pos s p
        exact List.mem_cons_of_mem _ (b_rune hj hb f (p + wid s p) (by omega) (by omega))
theorem b_cut {c : UInt8} {r : List UInt8} : ∀ {a : List UInt8}, (∀ b ∈ a, b ≠ c) → cutL c (a ++ c :: r) = a :: cutL c r
  | [], _ => by rw [List.nil_append, cutL, if_pos rfl]
  | b :: a, h => by
    rw [List.cons_append, cutL, if_neg (h b (by simp)), b_cut (a := a) (fun x hx => h x (by simp [hx]))]
theorem b_cutno {c : UInt8} : ∀ {a : List UInt8}, (∀ b ∈ a, b ≠ c) → cutL c a = [a]
  | [], _ => rfl
  | b :: a, h => by
    rw [cutL, if_neg (h b (by simp)), b_cutno (a := a) (fun x hx => h x (by simp [hx]))]
abbrev Rec := Int × Int × ByteArray × List ByteArray
abbrev Rec0 : Rec := (0, 0, ByteArray.empty, [])
def hasSt (l : List ByteArray) (s : ByteArray) : Bool := l.any fun x => decide (x = s)
theorem hasSt_iff {l : List ByteArray} {s : ByteArray} : hasSt l s = true ↔ s ∈ l := by
  unfold hasSt
  rw [List.any_eq_true]
  constructor
  · rintro ⟨x, hx, h⟩
    rw [← of_decide_eq_true h]; exact hx
  · intro h; exact ⟨s, h, decide_eq_true rfl⟩
def rgM (seen : List ByteArray) : List ByteArray → Int
  | [] => 0
  | r :: l => if nameL r = false then 7 else if hasSt seen r = true then 8 else rgM (seen ++ [r]) l
def mayR (r : Rec) : Int :=
  if r.1 < 0 ∨ 1000000 < r.1 ∨ r.2.1 < 1 ∨ 1000000 < r.2.1 then 12
  else if nameL r.2.2.1 = false then 7
  else if r.2.2.2.length < 1 ∨ 12 < r.2.2.2.length then 1
  else rgM [] r.2.2.2
theorem rgM_cons {seen : List ByteArray} {r : ByteArray} {l : List ByteArray} : rgM seen (r :: l) = if nameL r = false then 7 else if hasSt seen r = true then 8 else rgM (seen ++ [r]) l := rfl
theorem rgM_zero : ∀ {l seen : List ByteArray}, rgM seen l = 0 → (∀ r ∈ l, nameL r = true) ∧ l.Nodup ∧ ∀ r ∈ l, r ∉ seen
  | [], _, _ => by simp
  | r :: l, seen, h => by
    rw [rgM_cons] at h
    split at h
    · cases h
    · rename_i h1
      split at h
      · cases h
      · rename_i h2
        obtain ⟨h3, h4, h5⟩ := rgM_zero h
        refine ⟨?_, ?_, ?_⟩
        · intro x hx
          rcases List.mem_cons.1 hx with rfl | hx
          · simpa using h1
          · exact h3 x hx
        · refine List.nodup_cons.2 ⟨fun hr => ?_, h4⟩
          have := h5 r hr
          simp at this
        · intro x hx
          rcases List.mem_cons.1 hx with rfl | hx
          · exact fun hm => h2 (hasSt_iff.2 hm)
          · have := h5 x hx
            simp only [List.mem_append, not_or] at this
            exact this.1
structure RecOk (r : Rec) : Prop where
  d0 : 0 ≤ r.1
  d1 : r.1 ≤ 1000000
  c0 : 1 ≤ r.2.1
  c1 : r.2.1 ≤ 1000000
  name : nameL r.2.2.1 = true
  n1 : 1 ≤ r.2.2.2.length
  n2 : r.2.2.2.length ≤ 12
  all : ∀ s ∈ r.2.2.2, nameL s = true
  nd : r.2.2.2.Nodup
theorem mayR_ok {r : Rec} (h : mayR r = 0) : RecOk r := by
  unfold mayR at h
  split at h
  · cases h
  · split at h
    · cases h
    · split at h
      · cases h
      · rename_i h1 h2 h3
        obtain ⟨h4, h5, _⟩ := rgM_zero h
        exact ⟨by omega, by omega, by omega, by omega, by simpa using h2, by omega, by omega, h4, h5⟩
/-! ### A line -/
def joinR (l : List ByteArray) : List UInt8 := join (l.map fun s => s.data.toList) [44]
def bodyR (r : Rec) : List UInt8 := decDigits r.1.toNat ++ 124 :: (decDigits r.2.1.toNat ++ 124 :: (r.2.2.1.data.toList ++ 124 :: joinR r.2.2.2))
def ckS (h : Nat) (b : UInt8) : Nat := (h * 33 % 4294967296) ^^^ b.toNat
def chk (l : List UInt8) : Nat := l.foldl ckS 5381
def stamp (l : List UInt8) : List UInt8 := l ++ 35 :: decDigits (chk l)
def lineR (r : Rec) : List UInt8 := stamp (bodyR r) ++ [10]
theorem ckS_lt {h : Nat} {b : UInt8} : ckS h b < 4294967296 := by
  unfold ckS
  have h1 : h * 33 % 4294967296 < 2 ^ 32 := Nat.mod_lt _ (by decide)
  have h2 : b.toNat < 2 ^ 32 := Nat.lt_trans (UInt8.toNat_lt b) (by decide)
  exact Nat.xor_lt_two_pow h1 h2
theorem foldck_lt : ∀ {l : List UInt8} {h : Nat}, h < 4294967296 → l.foldl ckS h < 4294967296
  | [], _, h => h
  | _ :: l, _, _ => foldck_lt (l := l) ckS_lt
theorem chk_lt {l : List UInt8} : chk l < 4294967296 := foldck_lt (by decide)
/-! ### Digits -/
theorem decDigits_dig : ∀ (n : Nat), ∀ b ∈ decDigits n, 48 ≤ b.toNat ∧ b.toNat ≤ 57 := by
  intro n
  induction n using Nat.strongRecOn with
  | _ n ih =>
    intro x hb
    rw [decDigits] at hb
    have key : ∀ k : Fin 10, 48 ≤ (UInt8.ofNat (48 + k.val)).toNat ∧ (UInt8.ofNat (48 + k.val)).toNat ≤ 57 := by decide +kernel
    split at hb
    · rename_i h
      rw [List.mem_singleton.1 hb]
      exact key ⟨n, h⟩
    · rcases List.mem_append.1 hb with hb | hb
      · exact ih (n / 10) (by omega) x hb
      · rw [List.mem_singleton.1 hb]
        exact key ⟨n % 10, by omega⟩
theorem decDigits_no {c : UInt8} (hc : c.toNat < 48 ∨ 57 < c.toNat) (n : Nat) : ∀ b ∈ decDigits n, b ≠ c := by
  intro b hb e
  subst e
  have := decDigits_dig n b hb
  omega
theorem decDigits_ne (n : Nat) : decDigits n ≠ [] := by
  rw [decDigits]; split <;> simp
theorem exN_dec : ∀ (n : Nat), exN 0 (decDigits n) = n := by
  intro n
  induction n using Nat.strongRecOn with
  | _ n ih =>
    have key : ∀ k : Fin 10, (UInt8.ofNat (48 + k.val)).toNat - 48 = k.val := by decide +kernel
    rw [decDigits]
    split
    · rename_i h
      rw [exN_cons, exN_nil, stN_eq, key ⟨n, h⟩]; simp
    · rename_i h
      have app : ∀ (l : List UInt8) (b : UInt8) (a : Nat), exN a (l ++ [b]) = stN (exN a l) b := by
        intro l
        induction l with
        | nil => intro b a; rw [List.nil_append, exN_cons, exN_nil, exN_nil]
        | cons c l ihl => intro b a; rw [List.cons_append, exN_cons, exN_cons, ihl]
      rw [app, ih (n / 10) (by omega), stN_eq, key ⟨n % 10, by omega⟩]
      simp only
      omega
theorem decDigits_inj {m n : Nat} (h : decDigits m = decDigits n) : m = n := by rw [← exN_dec m, h, exN_dec]
/-! ### A line is read -/
def partsR (body : List UInt8) : Option Rec :=
  match cutL 124 body with
  | [a, b, m, l] => if decDigits (exN 0 a) = a ∧ exN 0 a < 9223372036854775808 ∧ decDigits (exN 0 b) = b ∧ exN 0 b < 9223372036854775808 then some (((exN 0 a : Nat) : Int), ((exN 0 b : Nat) : Int), bsL m, (cutL 44 l).map bsL) else none
  | _ => none
def readR (s : List UInt8) : Option Rec :=
  if indexByte s 35 = -1 then none
  else if decDigits (chk (s.take (indexByte s 35).toNat)) ≠ s.drop ((indexByte s 35).toNat + 1) then none
  else match partsR (s.take (indexByte s 35).toNat) with
    | some r => if mayR r = 0 then some r else none
    | none => none
/-! pieces joined again -/
theorem cut_join {c : UInt8} : ∀ (l : List UInt8), join (cutL c l) [c] = l
  | [] => by rw [cutL]; rfl
  | b :: r => by
    have ih := cut_join (c := c) r
    rw [cutL]
    by_cases h : b = c
    · rw [if_pos h]
      cases e : cutL c r with
      | nil => exact absurd e cutL_ne
      | cons p ps =>
        rw [e] at ih
        rw [join_cons, joinTail, List.map_cons, List.flatten_cons, List.nil_append]
        rw [join_cons, joinTail] at ih
        rw [List.append_assoc, ih, h]; rfl
    · rw [if_neg h]
      cases e : cutL c r with
      | nil => exact absurd e cutL_ne
      | cons p ps =>
        rw [e] at ih
        simp only
        rw [join_cons] at ih ⊢
        rw [List.cons_append, ih]
theorem join4 (a b m l : List UInt8) (c : UInt8) : join [a, b, m, l] [c] = a ++ c :: (b ++ c :: (m ++ c :: l)) := by
  rw [join_cons, joinTail]; simp
theorem map_bsL_data (l : List (List UInt8)) : (l.map bsL).map (fun s => s.data.toList) = l := by
  rw [List.map_map]
  conv => rhs; rw [← List.map_id l]
  exact List.map_congr_left fun x _ => data_bsL x
theorem joinR_cut (l : List UInt8) : joinR ((cutL 44 l).map bsL) = l := by
  unfold joinR; rw [map_bsL_data, cut_join]
theorem ix_none {c : UInt8} {l : List UInt8} : indexByte l c = -1 ↔ ∀ b ∈ l, b ≠ c := by
  rw [ix_count, List.count_eq_zero]
  constructor
  · intro h b hb e; exact h (e ▸ hb)
  · intro h hc; exact h c hc rfl
theorem ix_app {c : UInt8} {r : List UInt8} : ∀ {a : List UInt8}, (∀ b ∈ a, b ≠ c) → indexByte (a ++ c :: r) c = (a.length : Int)
  | [], _ => by simp [indexByte]
  | b :: a, h => by
    have ih := ix_app (r := r) (a := a) (fun x hx => h x (by simp [hx]))
    have hb : ¬ ((b == c) = true) := by simpa using h b (by simp)
    rw [List.cons_append, indexByte, if_neg hb, ih]
    rw [if_neg (by simp)]
    simp
theorem ix_split {c : UInt8} {l : List UInt8} (h : indexByte l c ≠ -1) : l = l.take (indexByte l c).toNat ++ c :: l.drop ((indexByte l c).toNat + 1) ∧ (∀ b ∈ l.take (indexByte l c).toNat, b ≠ c) := by
  induction l with
  | nil => exact absurd rfl h
  | cons b r ih =>
    rw [indexByte] at h ⊢
    by_cases hb : (b == c) = true
    · rw [if_pos hb]
      have : b = c := by simpa using hb
      subst this
      simp
    · rw [if_neg hb] at h ⊢
      by_cases h1 : (indexByte r c == -1) = true
      · rw [if_pos h1] at h; exact absurd rfl h
      · rw [if_neg h1] at h ⊢
        have h2 : indexByte r c ≠ -1 := by simpa using h1
        have hg := indexByte_ge r c
        obtain ⟨e1, e2⟩ := ih h2
        rw [show (indexByte r c + 1).toNat = (indexByte r c).toNat + 1 by omega]
        refine ⟨?_, ?_⟩
        · rw [List.take_succ_cons, List.cons_append, List.drop_succ_cons]
          exact congrArg _ e1
        · intro x hx
          rw [List.take_succ_cons] at hx
          rcases List.mem_cons.1 hx with rfl | hx
          · simpa using hb
          · exact e2 x hx
/-! ### What is read is printed so -/
theorem partsR_body {body : List UInt8} {r : Rec} (h : partsR body = some r) : bodyR r = body ∧ ∃ a b m l, cutL 124 body = [a, b, m, l] ∧ r = (((exN 0 a : Nat) : Int), ((exN 0 b : Nat) : Int), bsL m, (cutL 44 l).map bsL) ∧ decDigits (exN 0 a) = a ∧ decDigits (exN 0 b) = b := by
  unfold partsR at h
  split at h
  · rename_i a b m l e
    split at h
    · rename_i h2
      cases h
      refine ⟨?_, a, b, m, l, e, rfl, h2.1, h2.2.2.1⟩
      unfold bodyR
      simp only [Int.toNat_natCast, joinR_cut, data_bsL]
      rw [h2.1, h2.2.2.1, ← join4, ← e, cut_join]
    · cases h
  · cases h
theorem readR_some {s : List UInt8} {r : Rec} (h : readR s = some r) : indexByte s 35 ≠ -1 ∧ decDigits (chk (s.take (indexByte s 35).toNat)) = s.drop ((indexByte s 35).toNat + 1) ∧ partsR (s.take (indexByte s 35).toNat) = some r ∧ mayR r = 0 := by
  unfold readR at h
  split at h
  · cases h
  · rename_i h1
    split at h
    · cases h
    · rename_i h2
      have h2' := Classical.not_not.1 h2
      split at h
      · rename_i q hq
        split at h
        · rename_i h3
          cases h
          exact ⟨h1, h2', hq, h3⟩
        · cases h
      · cases h
theorem readR_line {s : List UInt8} {r : Rec} (h : readR s = some r) : lineR r = s ++ [10] := by
  obtain ⟨h1, h2, h3, h4⟩ := readR_some h
  obtain ⟨hb, _⟩ := partsR_body h3
  unfold lineR stamp
  rw [hb, h2]
  exact congrArg (· ++ [10]) (ix_split h1).1.symm
theorem name_no {s : ByteArray} {c : UInt8} (hc : c.toNat < 128) (hl : letterB ((c.toNat : Nat) : Int) = false) (h : nameL s = true) : ∀ b ∈ s.data.toList, b ≠ c := by
  intro b hb e
  subst e
  obtain ⟨j, hj, e⟩ := List.getElem_of_mem hb
  have hj2 : j < s.size := by simpa using hj
  have hg : s.get! j = b := by rw [get_list hj2]; exact e
  have hr := b_rune hj2 (by rw [hg]; exact hc) s.size 0 (by omega) (by omega)
  rw [hg] at hr
  unfold nameL at h
  rw [Bool.and_eq_true] at h
  have h2 := List.all_eq_true.1 h.1 _ hr
  rw [hl] at h2; cases h2
theorem mem_joinTail {c : UInt8} {l : List (List UInt8)} {b : UInt8} (h : b ∈ joinTail [c] l) : b = c ∨ ∃ p ∈ l, b ∈ p := by
  unfold joinTail at h
  obtain ⟨q, hq, hb⟩ := List.mem_flatten.1 h
  obtain ⟨p, hp, rfl⟩ := List.mem_map.1 hq
  rcases List.mem_append.1 hb with hb | hb
  · exact .inl (List.mem_singleton.1 hb)
  · exact .inr ⟨p, hp, hb⟩
theorem mem_join {c : UInt8} {l : List (List UInt8)} {b : UInt8} (h : b ∈ join l [c]) : b = c ∨ ∃ p ∈ l, b ∈ p := by
  cases l with
  | nil => cases h
  | cons p r =>
    rw [join_cons] at h
    rcases List.mem_append.1 h with hb | hb
    · exact .inr ⟨p, by simp, hb⟩
    · rcases mem_joinTail hb with hb | ⟨q, hq, hb⟩
      · exact .inl hb
      · exact .inr ⟨q, by simp [hq], hb⟩
theorem body_no {r : Rec} (h : RecOk r) {c : UInt8} (hc : c = 35 ∨ c = 10) : ∀ b ∈ bodyR r, b ≠ c := by
  intro b hb e
  subst e
  have hx : b.toNat < 48 ∨ 57 < b.toNat := by rcases hc with rfl | rfl <;> decide
  have h128 : b.toNat < 128 := by rcases hc with rfl | rfl <;> decide
  have hl : letterB ((b.toNat : Nat) : Int) = false := by rcases hc with rfl | rfl <;> decide
  have h124 : b ≠ 124 := by rcases hc with rfl | rfl <;> decide
  have h44 : b ≠ 44 := by rcases hc with rfl | rfl <;> decide
  unfold bodyR at hb
  simp only [List.mem_append, List.mem_cons] at hb
  rcases hb with hb | hb | hb | hb | hb | hb | hb
  · exact decDigits_no hx _ b hb rfl
  · exact h124 hb
  · exact decDigits_no hx _ b hb rfl
  · exact h124 hb
  · exact name_no h128 hl h.name b hb rfl
  · exact h124 hb
  · unfold joinR at hb
    rcases mem_join hb with hb | ⟨p, hp, hb⟩
    · exact h44 hb
    · obtain ⟨s, hs, rfl⟩ := List.mem_map.1 hp
      exact name_no h128 hl (h.all s hs) b hb rfl
theorem body_bar {r : Rec} (h : RecOk r) : cutL 124 (bodyR r) = [decDigits r.1.toNat, decDigits r.2.1.toNat, r.2.2.1.data.toList, joinR r.2.2.2] := by
  unfold bodyR
  rw [b_cut (decDigits_no (by decide) _), b_cut (decDigits_no (by decide) _), b_cut (name_no (by decide) (by decide) h.name), b_cutno]
  intro b hb e
  subst e
  unfold joinR at hb
  rcases mem_join hb with hb | ⟨p, hp, hb⟩
  · exact absurd hb (by decide)
  · obtain ⟨s, hs, rfl⟩ := List.mem_map.1 hp
    exact name_no (by decide) (by decide) (h.all s hs) _ hb rfl
theorem join_cut {c : UInt8} : ∀ {l : List (List UInt8)}, l ≠ [] → (∀ p ∈ l, ∀ b ∈ p, b ≠ c) → cutL c (join l [c]) = l
  | [p], _, h => by rw [join_one]; exact b_cutno (h p (by simp))
  | p :: q :: r, _, h => by
    have ih := join_cut (l := q :: r) (by simp) (fun x hx => h x (by simp [hx]))
    have e : join (p :: q :: r) [c] = p ++ c :: join (q :: r) [c] := by
      rw [join_cons, join_cons]; simp [joinTail]
    rw [e, b_cut (h p (by simp)), ih]
theorem parts_own {r : Rec} (h : RecOk r) : partsR (bodyR r) = some r := by
  have h1 := exN_dec r.1.toNat
  have h2 := exN_dec r.2.1.toNat
  have := h.d1; have := h.d0; have := h.c0; have := h.c1
  have hj : cutL 44 (joinR r.2.2.2) = r.2.2.2.map fun s => s.data.toList := by
    unfold joinR
    refine join_cut ?_ ?_
    · intro e
      have := h.n1
      have e2 : (r.2.2.2.map fun s => s.data.toList).length = 0 := by rw [e]; rfl
      rw [List.length_map] at e2
      omega
    · intro p hp b hb
      obtain ⟨s, hs, rfl⟩ := List.mem_map.1 hp
      exact name_no (by decide) (by decide) (h.all s hs) b hb
  have hm : (r.2.2.2.map fun s => s.data.toList).map bsL = r.2.2.2 := by
    rw [List.map_map]
    conv => rhs; rw [← List.map_id r.2.2.2]
    exact List.map_congr_left fun x _ => bsL_data x
  unfold partsR
  rw [body_bar h]
  simp only
  rw [if_pos (by rw [h1, h2]; exact ⟨rfl, by omega, rfl, by omega⟩), h1, h2, hj, hm, bsL_data]
  rw [show ((r.1.toNat : Nat) : Int) = r.1 by omega, show ((r.2.1.toNat : Nat) : Int) = r.2.1 by omega]
theorem read_own {r : Rec} (h : mayR r = 0) : readR (stamp (bodyR r)) = some r := by
  have ho := mayR_ok h
  have hi : indexByte (stamp (bodyR r)) 35 = ((bodyR r).length : Int) := ix_app (body_no ho (.inl rfl))
  unfold readR
  rw [hi]
  simp only [Int.toNat_natCast]
  have e1 : (stamp (bodyR r)).take (bodyR r).length = bodyR r := List.take_left
  have e2 : (stamp (bodyR r)).drop ((bodyR r).length + 1) = decDigits (chk (bodyR r)) := by
    unfold stamp
    rw [← List.drop_drop, List.drop_left]; rfl
  rw [if_neg (by omega), e1, e2, if_neg (by simp), parts_own ho]
  simp only
  rw [if_pos h]
/-! ### A book is opened -/
def opn : Nat → List UInt8 → List Rec × Nat
  | 0, _ => ([], 0)
  | k + 1, l => if indexByte l 10 = -1 then ([], 0) else match readR (l.take (indexByte l 10).toNat) with
    | none => ([], 0)
    | some r => (r :: (opn k (l.drop ((indexByte l 10).toNat + 1))).1, (indexByte l 10).toNat + 1 + (opn k (l.drop ((indexByte l 10).toNat + 1))).2)
def linesR (l : List Rec) : List UInt8 := l.flatMap lineR
theorem opn_end {k : Nat} {l : List UInt8} (h : indexByte l 10 = -1) : opn k l = ([], 0) := by
  cases k with
  | zero => rfl
  | succ k => rw [opn, if_pos h]
theorem opn_bad {k : Nat} {l : List UInt8} (h : indexByte l 10 ≠ -1) (h2 : readR (l.take (indexByte l 10).toNat) = none) : opn k l = ([], 0) := by
  cases k with
  | zero => rfl
  | succ k => rw [opn, if_neg h, h2]
theorem opn_good {k : Nat} {l : List UInt8} {r : Rec} (h : indexByte l 10 ≠ -1) (h2 : readR (l.take (indexByte l 10).toNat) = some r) : opn (k + 1) l = (r :: (opn k (l.drop ((indexByte l 10).toNat + 1))).1, (indexByte l 10).toNat + 1 + (opn k (l.drop ((indexByte l 10).toNat + 1))).2) := by
  rw [opn, if_neg h, h2]
theorem opn_lines : ∀ (k : Nat) (l : List UInt8), linesR (opn k l).1 = l.take (opn k l).2 ∧ (opn k l).2 ≤ l.length ∧ (∀ r ∈ (opn k l).1, mayR r = 0) ∧ (opn k l).1.length ≤ k
  | 0, l => by simp [opn, linesR]
  | k + 1, l => by
    by_cases h : indexByte l 10 = -1
    · rw [opn_end h]; simp [linesR]
    · cases h2 : readR (l.take (indexByte l 10).toNat) with
      | none => rw [opn_bad h h2]; simp [linesR]
      | some r =>
        rw [opn_good h h2]
        obtain ⟨i1, i2, i3, i4⟩ := opn_lines k (l.drop ((indexByte l 10).toNat + 1))
        have hs := ix_split h
        have hl := readR_line h2
        have hlen : (indexByte l 10).toNat + 1 ≤ l.length := by
          have := congrArg List.length hs.1
          rw [List.length_append, List.length_cons, List.length_take, List.length_drop] at this
          omega
        rw [List.length_drop] at i2
        refine ⟨?_, by simp only; omega, ?_, by simp only [List.length_cons]; omega⟩
        · simp only [linesR, List.flatMap_cons] at i1 ⊢
          rw [i1, hl, List.take_add]
          congr 1
          have e2 : List.take ((indexByte l 10).toNat + 1) l = List.take (indexByte l 10).toNat l ++ [10] := by
            rw [List.take_add]
            congr 1
            have e3 : List.drop (indexByte l 10).toNat (List.take (indexByte l 10).toNat l ++ 10 :: List.drop ((indexByte l 10).toNat + 1) l) = 10 :: List.drop ((indexByte l 10).toNat + 1) l := by
              rw [List.drop_append, List.drop_of_length_le (by rw [List.length_take]; omega), List.length_take, Nat.min_eq_left (by omega), Nat.sub_self]; rfl
            rw [← hs.1] at e3
            rw [e3]; rfl
          exact e2.symm
        · intro q hq
          rcases List.mem_cons.1 hq with rfl | hq
          · exact (readR_some h2).2.2.2
          · exact i3 q hq
end Go.KL

/- Records by day: what a stable sort makes is one list alone. -/
namespace Go.KL
open Go.Lib
abbrev rD (D : List Rec) (i : Nat) : Rec := D.getD i Rec0
def dayIs (d : Int) (r : Rec) : Bool := decide (r.1 = d)
def StEq (l m : List Rec) : Prop := ∀ d : Int, l.filter (dayIs d) = m.filter (dayIs d)
theorem StEq.refl (l : List Rec) : StEq l l := fun _ => rfl
theorem StEq.symm {l m : List Rec} (h : StEq l m) : StEq m l := fun d => (h d).symm
theorem StEq.trans {l m k : List Rec} (h : StEq l m) (g : StEq m k) : StEq l k := fun d => (h d).trans (g d)
theorem StEq.app {a b x y : List Rec} (h : StEq a b) (g : StEq x y) : StEq (a ++ x) (b ++ y) := fun d => by rw [List.filter_append, List.filter_append, h d, g d]
/-! ### Parts of a row -/
def Srt (D : List Rec) (a b : Nat) : Prop := ∀ i j, a ≤ i → i < j → j < b → (rD D i).1 ≤ (rD D j).1
structure Sg (a b : Nat) (D E : List Rec) : Prop where
  len : E.length = D.length
  fr : ∀ i, i < a ∨ b ≤ i → rD E i = rD D i
  mem : ∀ i, a ≤ i → i < b → ∃ k, a ≤ k ∧ k < b ∧ rD E i = rD D k
  st : StEq D E
theorem Sg.refl (a b : Nat) (D : List Rec) : Sg a b D D := ⟨rfl, fun _ _ => rfl, fun i h1 h2 => ⟨i, h1, h2, rfl⟩, StEq.refl D⟩
theorem Sg.trans {a b : Nat} {D E F : List Rec} (h : Sg a b D E) (g : Sg a b E F) : Sg a b D F :=
  ⟨g.len.trans h.len, fun i hi => (g.fr i hi).trans (h.fr i hi), fun i h1 h2 => by
    obtain ⟨k, k1, k2, e⟩ := g.mem i h1 h2
    obtain ⟨q, q1, q2, e2⟩ := h.mem k k1 k2
    exact ⟨q, q1, q2, e.trans e2⟩, h.st.trans g.st⟩
theorem Sg.mono {a b x y : Nat} {D E : List Rec} (h : Sg x y D E) (h1 : a ≤ x) (h2 : y ≤ b) : Sg a b D E :=
  ⟨h.len, fun i hi => h.fr i (by omega), fun i i1 i2 => by
    by_cases e : x ≤ i ∧ i < y
    · obtain ⟨k, k1, k2, e⟩ := h.mem i e.1 e.2
      exact ⟨k, by omega, by omega, e⟩
    · exact ⟨i, i1, i2, h.fr i (by omega)⟩, h.st⟩
def DayOk (D : List Rec) : Prop := ∀ i, 0 ≤ (rD D i).1 ∧ (rD D i).1 ≤ 1000000
theorem Sg.day {a b : Nat} {D E : List Rec} (h : Sg a b D E) (hd : DayOk D) : DayOk E := fun i => by
  by_cases e : a ≤ i ∧ i < b
  · obtain ⟨k, _, _, e⟩ := h.mem i e.1 e.2
    rw [e]; exact hd k
  · rw [h.fr i (by omega)]; exact hd i
/-! ### Ranges change; a row is turned -/
end Go.KL

/- Merging in place, block by block; a record put among records of its day. -/
namespace Go.KL
open Go.Lib
/-! ### Two sorted parts are merged -/
theorem Srt.sub {D : List Rec} {a b x y : Nat} (h : Srt D a b) (h1 : a ≤ x) (h2 : y ≤ b) : Srt D x y := fun i j i1 i2 i3 => h i j (by omega) i2 (by omega)
/-! one against many -/
/-! ### Insertion -/
/-! ### Blocks -/
/-! ### One record put among the others -/
end Go.KL

/- Rows of structs that are owned: an element's address, its fields, the whole of it (never beside KlRow3c). -/
namespace Go.KL
open Go.RowKit
section
variable {P : Program} {d : Option Tmp} {ty : TypeId} {pos : String} {af : Array Edge} {g : Option (Nat × Bool)} {a : Act} {σ : GW}
end
end Go.KL

/- Rows of records that are owned and written; interface values that hold a struct; calls of their methods. -/
namespace Go.KL
open Go.RowKit
def recC (p : Rec) : List Ty := [Ty.int p.1, Ty.int p.2.1, Ty.str p.2.2.1, Ty.lst Ty.str p.2.2.2]
/-! ### A struct stored into a row -/
section
variable {P : Program} {d : Option Tmp} {ty : TypeId} {pos : String} {af : Array Edge} {g : Option (Nat × Bool)} {a : Act} {σ : GW}
/-! ### Interface values -/
def Ty.ent (t : TypeId) (r : Rec) : Ty := ⟨fun σ v => ∃ u, v = .iface t u ∧ (Ty.agg (recC r)).has σ u, fun h ⟨u, e, k⟩ => ⟨u, e, Ty.up _ h k⟩⟩
theorem one_ent {t : TypeId} {r : Rec} : One (Ty.ent t r) := fun _ v ⟨u, e, _⟩ => by rw [e]; rfl
theorem y_mkent {x : Operand} {t : TypeId} {fs : Array Field} {r : Rec} (ht : P.underlying t = some (.struct fs)) (hx : At (Ty.agg (recC r)) σ a x) : Yld P ⟨d, .makeInterface t x, ty, pos, af, g⟩ a σ (Ty.ent t r).pr := by
  refine Yld.of_run (v := .iface t (a.eval x)) ?_ ⟨_, rfl, hx⟩
  simp only [execOp]
  simp [Instr.makeInterface, Sem.run_bind, run_underlying ht]
def invOf (P : Program) (t : TypeId) (name : String) : Option FuncId :=
  match P.info? t with
  | some ti => match ti.methods.find? (·.name == name) with
    | some m => match m.path.toList, m.func with
      | [], some (f, false) => some f
      | _, _ => none
    | none => none
  | none => none
theorem y_invoke {q : Operand} {name : String} {tys : Array TypeId} {f : FuncId} {fn : Func} {t : TypeId} {fs : Array Field} {r : Rec} {R : Ty} (hq : At (Ty.ent t r) σ a q) (hi : invOf P t name = some f) (ht : P.underlying t = some (.struct fs)) (hf : P.funcs[f]? = some fn) (hn : (fn.name == "runtime.NumGoroutine") = false) (hb : fn.body.isNone = false)
    (hc : ∀ u, (Ty.agg (recC r)).has σ u → FnC P f #[u] σ R) : Yld P ⟨d, .call ⟨.invoke q name, #[], tys⟩, ty, pos, af, g⟩ a σ R.pr := by
  intro K Q hk
  obtain ⟨u, e, h⟩ := hq
  have hm : ∀ n, (method (n + 1) t u name).run P σ.w = .ok (f, u) σ.w := by
    intro n
    unfold invOf at hi
    split at hi
    · rename_i ti hti
      split at hi
      · rename_i m hmf
        split at hi
        · rename_i hp hfn
          cases hi
          unfold method
          simp [Sem.run_bind, typeInfo, program, Sem.run, hti, hmf, hp, hfn, follow, receiverAt, run_underlying ht, Place.get]
        · cases hi
      · cases hi
    · cases hi
  have hr : (execOp a.eval ⟨d, .call ⟨.invoke q name, #[], tys⟩, ty, pos, af, g⟩).run P σ.w = .ok (.enter f #[u]) σ.w := by
    have hn' : ¬ fn.name = "runtime.NumGoroutine" := by simpa using hn
    have hb' : ¬ fn.body = none := by intro e; simp [e] at hb
    simp only [execOp, resolve, e]
    have hm2 := hm (P.types.size + 99)
    simp only [invoke, Sem.run_bind, Sem.run_pure, Result.andThen_ok]
    have hm3 : (method (P.types.size + Made.depth) t u name).run P σ.w = .ok (f, u) σ.w := hm2
    have he : (#[Value.iface t u] ++ Array.map a.eval #[])[0]? = some (Value.iface t u) := by simp
    have he2 : (#[Value.iface t u] ++ Array.map a.eval #[]).extract 1 = #[] := by simp
    rw [he, he2]
    have hp : (program).run P σ.w = .ok P σ.w := rfl
    unfold callMethod
    simp only [Sem.run_bind, hp, Result.andThen_ok, hm3]
    simp [callFunc, hf, hn', hb', program, Sem.run, Sem.run_bind]
  unfold Oper.wp
  rw [hr]
  refine Calls.mono (hc u h) ?_
  rintro e w' ⟨v, τ, rfl, hs, rfl, hv⟩
  exact hk v τ hs hv
end
end Go.KL

/- Bits of numbers of 32 and of 8 bits; a text's check. -/
namespace Go.KL
open Go.RowKit
section
variable {P : Program} {d : Option Tmp} {ty : TypeId} {pos : String} {af : Array Edge} {g : Option (Nat × Bool)} {a : Act} {σ : GW}
theorem y_mul33 {x y : Operand} {t u : TypeId} {h : Nat} (hx : a.eval x = .int .u32 ((h : Nat) : Int)) (hy : a.eval y = .int .u32 33) : Yld P ⟨d, .binOp .mul t x y u, ty, pos, af, g⟩ a σ (Ty.val (.int .u32 ((h * 33 % 4294967296 : Nat) : Int))).pr := by
  have e : IntKind.u32.wrap (((h : Nat) : Int) * 33) = ((h * 33 % 4294967296 : Nat) : Int) := by
    simp [IntKind.wrap, IntKind.bits, IntKind.signed]
  exact Yld.of_run (v := .int .u32 ((h * 33 % 4294967296 : Nat) : Int)) (by simp only [execOp, hx, hy]; simp only [go_sem, e]; try rfl) rfl
theorem y_xor32 {x y : Operand} {t u : TypeId} {m n : Nat} (hx : a.eval x = .int .u32 ((m : Nat) : Int)) (hy : a.eval y = .int .u32 ((n : Nat) : Int)) (hm : m < 4294967296) (hn : n < 4294967296) : Yld P ⟨d, .binOp .xor t x y u, ty, pos, af, g⟩ a σ (Ty.val (.int .u32 ((m ^^^ n : Nat) : Int))).pr := by
  have e := u32_xor_nat m n hm hn
  exact Yld.of_run (v := .int .u32 ((m ^^^ n : Nat) : Int)) (by simp only [execOp, hx, hy]; simp only [go_sem, e]; try rfl) rfl
theorem y_xor8 {x y : Operand} {t u : TypeId} {m n : Nat} (hx : a.eval x = .int .u8 ((m : Nat) : Int)) (hy : a.eval y = .int .u8 ((n : Nat) : Int)) (hm : m < 256) (hn : n < 256) : Yld P ⟨d, .binOp .xor t x y u, ty, pos, af, g⟩ a σ (Ty.val (.int .u8 ((m ^^^ n : Nat) : Int))).pr := by
  have e := u8_xor_nat m n hm hn
  exact Yld.of_run (v := .int .u8 ((m ^^^ n : Nat) : Int)) (by simp only [execOp, hx, hy]; simp only [go_sem, e]; try rfl) rfl
end
def ckT (l : List UInt8) (i : Nat) : Nat := chk (l.take i)
theorem ckT_lt {l : List UInt8} {i : Nat} : ckT l i < 4294967296 := chk_lt
theorem ckT_succ {l : List UInt8} {i : Nat} (h : i < l.length) : ckT l (i + 1) = ckS (ckT l i) (l.getD i 0) := by
  unfold ckT chk
  rw [List.take_add_one, List.foldl_append]
  simp [List.getD_eq_getElem?_getD, h]
theorem ckT_all {l : List UInt8} : ckT l l.length = chk l := by unfold ckT; rw [List.take_length]
end Go.KL

/- Contracts of the shelf, as contracts here. -/
namespace Go.KL
variable {P : Program}
def GW.grow (σ : GW) (w' : World) (h : σ.w.heap.size ≤ w'.heap.size) : GW := ⟨w', fun b => if b < σ.w.heap.size then σ.st b else 0, fun b hb => by
  by_cases hlt : b < σ.w.heap.size
  · omega
  · simp [hlt] at hb⟩
theorem GW.grow_stp {σ : GW} {w' : World} (h : RowKit.Below σ.w.heap.size σ.w w') : Stp 0 σ (σ.grow w' h.size) :=
  ⟨h.os, h.tape, h.output, .inr trivial, h.size, fun b hb _ => h.block b hb, fun b hb _ => by simp [GW.grow, hb]⟩
theorem fnc_below {f : FuncId} {args : Array Value} {σ : GW} {R : Ty} {v : Value} (h : Calls P f args σ.w fun e w' => e = .returned v ∧ RowKit.Below σ.w.heap.size σ.w w') (hR : ∀ τ, R.has τ v) : FnC P f args σ R := by
  refine Calls.mono h ?_
  rintro e w' ⟨rfl, hb⟩
  exact ⟨v, σ.grow w' hb.size, rfl, GW.grow_stp hb, rfl, hR _⟩
end Go.KL

/- A global that is there; errors held against nil; numbers read by the library. -/
namespace Go.KL
variable {P : Program}
def Glb (G : Nat) (σ : GW) : Prop := σ.st G = 1 ∧ ∃ ev, σ.w.cell? ⟨G, 0, none⟩ = some ev ∧ (ev = .nilIface ∨ ∃ te pe, ev = .iface te pe)
theorem Glb.up {G : Nat} {σ τ : GW} (h : σ.Le τ) (k : Glb G σ) : Glb G τ := by
  obtain ⟨h1, ev, h2, h3⟩ := k
  exact ⟨h.st G h1, ev, by rw [World.cell?_of_block (w := σ.w) (h.blk G h1)]; exact h2, h3⟩
theorem Glb.fl {G : Nat} {L : List Nat} {σ τ : GW} (h : FromL L σ τ) (hL : L.all (2 ≤ ·) = true) (k : Glb G σ) : Glb G τ := by
  have k1 := k.1
  have hn : σ.st G ∉ L := fun hm => by
    have := List.all_eq_true.1 hL _ hm
    rw [k1] at this
    simp at this
  have hlt := σ.lt G (by omega)
  obtain ⟨_, ev, h2, h3⟩ := k
  exact ⟨(h.stp.st G hlt hn).trans k1, ev, by rw [World.cell?_of_block (w := σ.w) (h.stp.blk G hlt hn)]; exact h2, h3⟩
def isNilV : Value → Bool
  | .nilIface => true
  | _ => false
def ErrV (ev : Value) : Prop := ev = .nilIface ∨ ∃ te pe, ev = .iface te pe
section
variable {σ : GW} {a : Act} {d : Option Tmp} {ty : TypeId} {pos : String} {af : Array Edge} {g : Option (Nat × Bool)}
end
theorem fnl_below {f : FuncId} {args : Array Value} {σ : GW} {R : Value → GW → Prop} (h : Calls P f args σ.w fun e w' => ∃ v, e = .returned v ∧ RowKit.Below σ.w.heap.size σ.w w' ∧ ∀ τ, R v τ) : FnL P f args σ [] R := by
  refine Calls.mono h ?_
  rintro e w' ⟨v, rfl, hb, hR⟩
  exact ⟨v, σ.grow w' hb.size, rfl, (GW.grow_stp hb).toL0, rfl, hR _⟩
end Go.KL

/- The library's variables that are read: two errors and a table; numbers read and printed; texts joined. -/
namespace Go.KL
open Go.Lib Go.RowKit Go.Sort
variable {P : Program}
def Tab (P : Program) (n : String) (k : IntKind) (zs : List Int) (σ : GW) : Prop := ∃ g, P.globalNamed n = some g ∧ σ.st g = 1 ∧ TabIs P σ.w n k zs
theorem tab_blk {n : String} {k : IntKind} {zs : List Int} {g : Nat} {w w' : World} (h1 : P.globalNamed n = some g) (hb : w'.heap[g]? = w.heap[g]?) (h : TabIs P w n k zs) : TabIs P w' n k zs := by
  unfold TabIs World.var? at h ⊢
  rw [h1] at h ⊢
  simp only [Option.bind_some] at h ⊢
  rw [hb]; exact h
theorem Tab.up {n : String} {k : IntKind} {zs : List Int} {σ τ : GW} (h : σ.Le τ) : Tab P n k zs σ → Tab P n k zs τ := fun ⟨g, h1, h2, h3⟩ => ⟨g, h1, h.st g h2, tab_blk h1 (h.blk g h2) h3⟩
theorem Tab.fl {n : String} {k : IntKind} {zs : List Int} {L : List Nat} {σ τ : GW} (h : FromL L σ τ) (hL : L.all (2 ≤ ·) = true) : Tab P n k zs σ → Tab P n k zs τ := fun ⟨g, h1, h2, h3⟩ => by
  have hn : σ.st g ∉ L := fun hm => by
    have := List.all_eq_true.1 hL _ hm
    rw [h2] at this
    simp at this
  have hlt := σ.lt g (by omega)
  exact ⟨g, h1, (h.stp.st g hlt hn).trans h2, tab_blk h1 (h.stp.blk g hlt hn) h3⟩
def p10N : String := "internal/strconv.uint64pow10"
structure Gbk (P : Program) (A B : Nat) (σ : GW) : Prop where
  syn : Glb A σ
  ran : Glb B σ
  tab : Tab P p10N .u64 pow10Tab σ
theorem Gbk.up {A B : Nat} {σ τ : GW} (h : σ.Le τ) (k : Gbk P A B σ) : Gbk P A B τ := ⟨Glb.up h k.syn, Glb.up h k.ran, Tab.up h k.tab⟩
theorem Gbk.fl {A B : Nat} {L : List Nat} {σ τ : GW} (h : FromL L σ τ) (hL : L.all (2 ≤ ·) = true) (k : Gbk P A B σ) : Gbk P A B τ := ⟨Glb.fl h hL k.syn, Glb.fl h hL k.ran, Tab.fl h hL k.tab⟩
theorem Tab.is {n : String} {k : IntKind} {zs : List Int} {σ : GW} (h : Tab P n k zs σ) : TabIs P σ.w n k zs := h.elim fun _ h => h.2.2
theorem fnc_grow {f : FuncId} {args : Array Value} {σ : GW} {R : Ty} {v : Value} (h : Calls P f args σ.w fun e w' => e = .returned v ∧ ∃ k os, w' = grow (σ.w.drewN k) os) (hR : ∀ τ, R.has τ v) : FnC P f args σ R :=
  fnc_below (v := v) (h.mono fun _ _ ⟨h1, k, os, h2⟩ => ⟨h1, h2 ▸ below_grow _ _ (Nat.le_refl _) k os⟩) hR
/-! ### Numbers read -/
def AtA (s : ByteArray) (n : Int) (ev : Value) : Prop := ErrV ev ∧ (-9223372036854775808 ≤ n ∧ n ≤ 9223372036854775807) ∧ ((isNilV ev = true ∧ atoiAll s.data.toList = .ok n) ∨ (isNilV ev = false ∧ ∀ v, atoiAll s.data.toList ≠ .ok v))
theorem ata_of {f : FuncId} {s : ByteArray} {σ : GW} {ti : TypeId} {te : TypeId} {G H : Nat} (hs : Glb G σ) (hg : Glb H σ)
    (hok : ∀ v, Lib.atoiAll s.data.toList = .ok v → Calls P f #[.string s] σ.w fun e w' => e = .returned (.tuple #[.int .i64 v, .nilIface]) ∧ (w' = σ.w ∨ ∃ t, w' = Lib.bytesWorld σ.w ti t))
    (hsy : (∀ v, Lib.atoiAll s.data.toList ≠ .ok v) → Lib.atoiAll s.data.toList ≠ .range → ∀ ev, σ.w.cell? ⟨G, 0, none⟩ = some ev → (ev = .nilIface ∨ ∃ te pe, ev = .iface te pe) → Calls P f #[.string s] σ.w fun e w' => ∃ N, e = .returned (.tuple #[.int .i64 0, .iface te (.pointer (some ⟨N, 0, none⟩))]) ∧ RowKit.Below σ.w.heap.size σ.w w')
    (hra : Lib.atoiAll s.data.toList = .range → ∀ ev, σ.w.cell? ⟨H, 0, none⟩ = some ev → (ev = .nilIface ∨ ∃ te pe, ev = .iface te pe) → Calls P f #[.string s] σ.w fun e w' => ∃ N, e = .returned (.tuple #[.int .i64 (Lib.atoiSat s.data.toList), .iface te (.pointer (some ⟨N, 0, none⟩))]) ∧ RowKit.Below σ.w.heap.size σ.w w') :
    FnL P f #[.string s] σ [] (fun v τ => ∃ (n : Int) (ev : Value), (Ty.has (.tup2 (.int n) (.val ev)) τ v) ∧ AtA s n ev) := by
  refine fnl_below ?_
  cases e : Lib.atoiAll s.data.toList
  · rename_i v
    refine (hok v e).mono ?_
    rintro e1 w' ⟨rfl, hw⟩
    have hb := Lib.atoiAll_bounds e
    refine ⟨_, rfl, ?_, fun τ => ⟨v, .nilIface, ⟨_, _, rfl, rfl, rfl⟩, .inl rfl, hb, .inl ⟨rfl, e⟩⟩⟩
    rcases hw with rfl | ⟨t, rfl⟩
    · exact RowKit.Below.refl _ _
    · exact Lib.bytesWorld_below _ _ _
  · obtain ⟨_, ev, hv, hev⟩ := hs
    refine (hsy (fun v h => by rw [e] at h; cases h) (fun h => by rw [e] at h; cases h) ev hv hev).mono ?_
    rintro e1 w' ⟨N, rfl, hb⟩
    exact ⟨_, rfl, hb, fun τ => ⟨0, _, ⟨_, _, rfl, rfl, rfl⟩, .inr ⟨_, _, rfl⟩, ⟨by decide, by decide⟩, .inr ⟨rfl, fun v h => by rw [e] at h; cases h⟩⟩⟩
  · obtain ⟨_, ev, hv, hev⟩ := hg
    refine (hra e ev hv hev).mono ?_
    rintro e1 w' ⟨N, rfl, hb⟩
    exact ⟨_, rfl, hb, fun τ => ⟨_, _, ⟨_, _, rfl, rfl, rfl⟩, .inr ⟨_, _, rfl⟩, Lib.atoiSat_bounds _, .inr ⟨rfl, fun v h => by rw [e] at h; cases h⟩⟩⟩
theorem atoi_dec {m : Nat} (h : m ≤ 9223372036854775807) : atoiAll (decDigits m) = .ok (m : Int) := by
  have hd : ∀ b ∈ decDigits m, isDig b := decDigits_dig m
  have hx := exN_dec m
  cases e : decDigits m with
  | nil => exact absurd e (decDigits_ne m)
  | cons c r =>
    rw [e] at hd hx
    have hc := hd c (by simp)
    unfold isDig at hc
    have e1 : (if c.toNat = 43 ∨ c.toNat = 45 then r else c :: r) = c :: r := if_neg (by omega)
    have hM : parseMag (c :: r) = parseUint10 0 (c :: r) := by unfold parseMag; rw [if_neg (by simp)]
    have hn : ¬ c.toNat = 45 := by omega
    rcases parse_dig (c :: r) 0 hd with h1 | ⟨h1, h64⟩
    · rw [hx] at h1
      simp only [atoiAll, e1, hM, h1]
      rw [if_neg (fun e => by omega), if_neg (fun e => hn e.1), if_neg hn]
    · omega
def NumBk (s : ByteArray) (n : Int) (b : Bool) : Prop := (b = true → 0 ≤ n ∧ n ≤ 9223372036854775807 ∧ s.data.toList = decDigits n.toNat) ∧ (b = false → ∀ m, m ≤ 9223372036854775807 → s.data.toList ≠ decDigits m)
theorem numP_of {s : ByteArray} {n : Int} {ev : Value} (h : AtA s n ev) {b : Bool} (hb : b = true ↔ (isNilV ev = true ∧ 0 ≤ n ∧ bsL (decDigits n.toNat) = s)) : NumBk s n b := by
  refine ⟨fun e => ?_, fun e m hm hs => ?_⟩
  · obtain ⟨h1, h2, h3⟩ := hb.1 e
    rcases h.2.2 with h4 | h4
    · exact ⟨h2, h.2.1.2, by rw [← h3, data_bsL]⟩
    · rw [h4.1] at h1; cases h1
  · have h1 := atoi_dec hm
    rw [← hs] at h1
    rcases h.2.2 with h4 | h4
    · rw [h1] at h4
      have h5 : (m : Int) = n := by have := h4.2; injection this
      have : b = true := hb.2 ⟨h4.1, by omega, by rw [show n.toNat = m by omega, ← hs, bsL_data]⟩
      rw [this] at e; cases e
    · exact h4.2 _ h1
theorem parts_two {body : List UInt8} {l : List ByteArray} {n k : Int} {b c : Bool} (hl : l = cutT 124 (bsL body)) (h4 : l.length = 4) (h1 : NumBk (l.getD 0 ByteArray.empty) n b) (h2 : NumBk (l.getD 1 ByteArray.empty) k c) :
    partsR body = if b = true ∧ c = true then some (n, k, l.getD 2 ByteArray.empty, cutT 44 (l.getD 3 ByteArray.empty)) else none := by
  unfold cutT at hl
  rw [data_bsL] at hl
  unfold partsR
  match hc : cutL 124 body with
  | [] => rw [hc] at hl; subst hl; simp at h4
  | [_] => rw [hc] at hl; subst hl; simp at h4
  | [_, _] => rw [hc] at hl; subst hl; simp at h4
  | [_, _, _] => rw [hc] at hl; subst hl; simp at h4
  | _ :: _ :: _ :: _ :: _ :: _ => rw [hc] at hl; subst hl; simp at h4
  | [x, y, m, q] =>
    rw [hc] at hl
    subst hl
    simp only [List.map_cons, List.map_nil, List.getD_cons_zero, List.getD_cons_succ] at h1 h2 ⊢
    have key : ∀ {z : List UInt8} {n : Int} {b : Bool}, NumBk (bsL z) n b → (b = true → decDigits (exN 0 z) = z ∧ exN 0 z < 9223372036854775808 ∧ ((exN 0 z : Nat) : Int) = n) ∧ (b = false → ¬ (decDigits (exN 0 z) = z ∧ exN 0 z < 9223372036854775808)) := by
      intro z n b h
      unfold NumBk at h
      rw [data_bsL] at h
      refine ⟨fun e => ?_, fun e k => ?_⟩
      · obtain ⟨g1, g2, g3⟩ := h.1 e
        have g4 := exN_dec n.toNat
        rw [← g3] at g4
        rw [g4]
        exact ⟨g3.symm, by omega, by omega⟩
      · exact h.2 e (exN 0 z) (by omega) k.1.symm
    have k1 := key h1
    have k2 := key h2
    cases b with
    | false => rw [if_neg (fun e => (k1.2 rfl) ⟨e.1, e.2.1⟩), if_neg (by simp)]
    | true =>
      cases c with
      | false => rw [if_neg (fun e => (k2.2 rfl) ⟨e.2.2.1, e.2.2.2⟩), if_neg (by simp)]
      | true =>
        obtain ⟨g1, g2, g3⟩ := k1.1 rfl
        obtain ⟨g4, g5, g6⟩ := k2.1 rfl
        rw [if_pos ⟨g1, g2, g4, g5⟩, if_pos ⟨rfl, rfl⟩, g3, g6]
        simp [cutT, data_bsL]
section
variable {σ : GW} {a : Act} {d : Option Tmp} {ty : TypeId} {pos : String} {af : Array Edge} {g : Option (Nat × Bool)}
theorem y_eqnil {t u : TypeId} {x : Operand} {ev : Value} (ht : P.underlying t = some (.interface (P.methodsAt t))) (hx : a.eval x = ev) (h : ErrV ev) :
    Yld P ⟨d, .binOp .eql t x (.const .nilIface) u, ty, pos, af, g⟩ a σ (Ty.bool (isNilV ev)).pr := by
  rcases h with rfl | ⟨te, pe, rfl⟩
  · exact Yld.of_run (v := .bool true) (by simp only [execOp, hx]; simp [go_sem, eqGuard, Act.eval, run_eql_nil_nil σ.w t ht]) rfl
  · exact Yld.of_run (v := .bool false) (by simp only [execOp, hx]; simp [go_sem, eqGuard, Act.eval, run_eql_held_nil σ.w t te pe ht]) rfl
end
/-! ### Texts joined -/
theorem lst_strs {σ : GW} {v : Value} {xs : List ByteArray} (h : Ty.has (Ty.lst Ty.str xs) σ v) : (∃ a c, v = .slice a 0 c ∧ xs = []) ∨ ∃ b o c, v = .slice (some ⟨b, o, none⟩) xs.length c ∧ xs.length ≤ c ∧ b < σ.w.heap.size ∧ ∀ (j : Nat) x, xs[j]? = some x → σ.w.cell? ⟨b, o + j, none⟩ = some (.string x) := by
  obtain ⟨a, cap, b, o, rfl, hn, hl, hs, hc⟩ := h
  rcases hs with hs | ⟨rfl, hs⟩
  · refine .inl ⟨a, cap, ?_⟩
    have : xs = [] := by simpa using hs
    subst this
    exact ⟨rfl, rfl⟩
  · refine .inr ⟨b, o, cap, rfl, hn.1, σ.lt b (by omega), fun j x hj => ?_⟩
    obtain ⟨u, hu, hT⟩ := hc j (Ty.str x) (by rw [List.getElem?_map, hj]; rfl)
    rw [hu, show u = _ from hT]
def jnB (xs : List ByteArray) : ByteArray := bsL (joinR xs)
theorem join_of {f : FuncId} {σ : GW} {v : Value} {xs : List ByteArray} {sep : ByteArray} (h : Ty.has (Ty.lst Ty.str xs) σ v)
    (h0 : ∀ a c, Calls P f #[.slice a 0 c, .string sep] σ.w fun e w' => e = .returned (.string ⟨#[]⟩) ∧ w' = σ.w)
    (h1 : ∀ b o c, (∀ (j : Nat) x, xs[j]? = some x → σ.w.cell? ⟨b, o + j, none⟩ = some (.string x)) → b < σ.w.heap.size → xs.length ≤ c → Calls P f #[.slice (some ⟨b, o, none⟩) xs.length c, .string sep] σ.w fun e w' => e = .returned (.string ⟨(join (xs.map (·.data.toList)) sep.data.toList).toArray⟩) ∧ Below σ.w.heap.size σ.w w') :
    FnC P f #[v, .string sep] σ (Ty.str (bsL (join (xs.map (·.data.toList)) sep.data.toList))) := by
  rcases lst_strs h with ⟨a, c, rfl, rfl⟩ | ⟨b, o, c, rfl, hc, hb, hcells⟩
  · exact fnc_below ((h0 a c).mono fun _ _ ⟨h2, h3⟩ => ⟨h2, h3 ▸ Below.refl _ _⟩) (fun τ => rfl)
  · exact fnc_below (h1 b o c hcells hb hc) (fun τ => rfl)
end Go.KL

/- Records looked through; what is read, by steps. -/
namespace Go.KL
open Go.Lib Go.RowKit
/-! ### Perhaps a record behind an interface -/
def Ty.ento (t : TypeId) (o : Option Rec) : Ty := ⟨fun σ v => ∀ r, o = some r → (Ty.ent t r).has σ v, fun h k r hr => Ty.up _ h (k r hr)⟩
theorem ento_is {t : TypeId} {o : Option Rec} {r : Rec} {σ : GW} {v : Value} (h : ∀ q, o = some q → q = r) (hx : (Ty.ent t r).has σ v) : (Ty.ento t o).has σ v := fun q hq => by rw [h q hq]; exact hx
theorem ento_none {t : TypeId} {o : Option Rec} {σ : GW} {v : Value} (h : o = none) : (Ty.ento t o).has σ v := fun q hq => by rw [h] at hq; cases hq
theorem ento_some {t : TypeId} {o : Option Rec} {r : Rec} {σ : GW} {v : Value} (h : o = some r) (hx : (Ty.ento t o).has σ v) : (Ty.ent t r).has σ v := hx r h
/-! ### May it be? -/
section
variable {dy ch : Int} {mt : ByteArray} {rg : List ByteArray} {k : Nat}
theorem may_val (h : dy < 0 ∨ 1000000 < dy ∨ ch < 1 ∨ 1000000 < ch) : mayR (dy, ch, mt, rg) = 12 := by unfold mayR; rw [if_pos h]
theorem may_name (h : ¬ (dy < 0 ∨ 1000000 < dy ∨ ch < 1 ∨ 1000000 < ch)) (h2 : nameL mt = false) : mayR (dy, ch, mt, rg) = 7 := by unfold mayR; rw [if_neg h, if_pos h2]
theorem may_cnt (h : ¬ (dy < 0 ∨ 1000000 < dy ∨ ch < 1 ∨ 1000000 < ch)) (h2 : nameL mt = true) (h3 : rg.length < 1 ∨ 12 < rg.length) : mayR (dy, ch, mt, rg) = 1 := by
  unfold mayR; rw [if_neg h, if_neg (by show ¬ nameL mt = false; rw [h2]; simp), if_pos h3]
theorem may_run (h : ¬ (dy < 0 ∨ 1000000 < dy ∨ ch < 1 ∨ 1000000 < ch)) (h2 : nameL mt = true) (h3 : ¬ (rg.length < 1 ∨ 12 < rg.length)) : rgM (rg.take 0) (rg.drop 0) = mayR (dy, ch, mt, rg) := by
  unfold mayR; rw [if_neg h, if_neg (by show ¬ nameL mt = false; rw [h2]; simp), if_neg h3]; rfl
theorem rg_drop (h : k < rg.length) : rg.drop k = rg.getD k ByteArray.empty :: rg.drop (k + 1) := by
  rw [List.drop_eq_getElem_cons h]; simp [List.getD_eq_getElem?_getD, h]
theorem rg_name {z : Int} (h : k < rg.length) (hq : rgM (rg.take k) (rg.drop k) = z) (hn : nameL (rg.getD k ByteArray.empty) = false) : z = 7 := by
  rw [rg_drop h, rgM_cons, if_pos hn] at hq; exact hq.symm
theorem rg_dbl {z : Int} (h : k < rg.length) (hq : rgM (rg.take k) (rg.drop k) = z) (hn : nameL (rg.getD k ByteArray.empty) = true) (hd : hasSt (rg.take k) (rg.getD k ByteArray.empty) = true) : z = 8 := by
  rw [rg_drop h, rgM_cons, if_neg (by rw [hn]; simp), if_pos hd] at hq; exact hq.symm
theorem rg_step {z : Int} (h : k < rg.length) (hq : rgM (rg.take k) (rg.drop k) = z) (hn : nameL (rg.getD k ByteArray.empty) = true) (hd : hasSt (rg.take k) (rg.getD k ByteArray.empty) = false) : rgM (rg.take (k + 1)) (rg.drop (k + 1)) = z := by
  rw [rg_drop h, rgM_cons, if_neg (by rw [hn]; simp), if_neg (by rw [hd]; simp)] at hq
  rw [List.take_add_one, show rg[k]? = some (rg.getD k ByteArray.empty) by simp [List.getD_eq_getElem?_getD, h]]
  exact hq
theorem rg_end {z : Int} (h : ¬ k < rg.length) (hq : rgM (rg.take k) (rg.drop k) = z) : z = 0 := by
  rw [List.drop_eq_nil_of_le (by omega)] at hq; exact hq.symm
end
theorem getD_memS {rg : List ByteArray} {k : Nat} (h : k < rg.length) : rg.getD k ByteArray.empty ∈ rg := by
  rw [List.getD_eq_getElem?_getD, List.getElem?_eq_getElem h]; exact List.getElem_mem h
/-! ### Texts looked for -/
def idxB (xs : List ByteArray) (x : ByteArray) : Int := if hasSt xs x = true then ((xs.findIdx (fun y => decide (y = x)) : Nat) : Int) else -1
theorem idxB_yes {xs : List ByteArray} {x : ByteArray} {k : Nat} (h : k < xs.length) (e : x = xs.getD k ByteArray.empty) (hno : ∀ j, j < k → xs.getD j ByteArray.empty ≠ x) : idxB xs x = k := by
  have hg : ∀ j (hj : j < xs.length), xs[j] = xs.getD j ByteArray.empty := fun j hj => by simp [List.getD_eq_getElem?_getD, hj]
  have hm : hasSt xs x = true := hasSt_iff.2 (by rw [e, ← hg k h]; exact List.getElem_mem h)
  unfold idxB
  rw [if_pos hm]
  congr 1
  rw [List.findIdx_eq h]
  refine ⟨decide_eq_true (by rw [hg k h]; exact e.symm), fun j hj => ?_⟩
  have := hno j hj
  rw [← hg j (by omega)] at this
  simpa using this
theorem idxB_no {xs : List ByteArray} {x : ByteArray} (hno : ∀ j, j < xs.length → xs.getD j ByteArray.empty ≠ x) : idxB xs x = -1 := by
  unfold idxB
  rw [if_neg]
  intro hm
  obtain ⟨j, hj, e⟩ := List.getElem_of_mem (hasSt_iff.1 hm)
  exact hno j hj (by rw [← e]; simp [List.getD_eq_getElem?_getD, hj])
theorem idxB_has {xs : List ByteArray} {x : ByteArray} : decide (0 ≤ idxB xs x) = hasSt xs x := by
  unfold idxB
  by_cases h : hasSt xs x = true
  · rw [if_pos h, h]; simp
  · rw [if_neg h]; simp at h; rw [h]; rfl
theorem ix_self {s : ByteArray} (h : s.size = 1) : indexByte s.data.toList (s.get! 0) = 0 := by
  have hl : 0 < s.data.toList.length := by simp; omega
  have hg : s.get! 0 = s.data.toList[0] := get_list (by omega)
  rw [hg]
  exact (by
    intro l hl
    cases l with
    | nil => simp at hl
    | cons c r => simp [indexByte] : ∀ (l : List UInt8) (hl : 0 < l.length), indexByte l l[0] = 0) _ hl
/-! ### Cut -/
def cutA (c : UInt8) (s : ByteArray) : ByteArray := if indexByte s.data.toList c = -1 then s else bsL (s.data.toList.take (indexByte s.data.toList c).toNat)
def cutZ (c : UInt8) (s : ByteArray) : ByteArray := if indexByte s.data.toList c = -1 then ByteArray.empty else bsL (s.data.toList.drop ((indexByte s.data.toList c).toNat + 1))
theorem cutA_yes {c : UInt8} {s : ByteArray} {o : Nat} (h : indexByte s.data.toList c = o) : ByteArray.extract s 0 o = cutA c s := by
  unfold cutA; rw [h, if_neg (by omega), ext_bsL]; simp
theorem cutZ_yes {c : UInt8} {s : ByteArray} {o : Nat} (h : indexByte s.data.toList c = o) : ByteArray.extract s (o + 1) s.size = cutZ c s := by
  unfold cutZ; rw [h, if_neg (by omega), ext_bsL]
  rw [List.take_of_length_le (by simp)]; rfl
theorem cutA_no {c : UInt8} {s : ByteArray} (h : indexByte s.data.toList c = -1) : s = cutA c s := by unfold cutA; rw [if_pos h]
theorem cutZ_no {c : UInt8} {s : ByteArray} (h : indexByte s.data.toList c = -1) : ByteArray.empty = cutZ c s := by unfold cutZ; rw [if_pos h]
section
variable {c : UInt8} {ys T : List ByteArray} {L : List UInt8} {i j : Nat} {s : ByteArray}
end
/-! ### A check, byte by byte -/
theorem ckT_step {s : ByteArray} {k : Nat} (h : k < s.size) : (ckT s.data.toList k * 33 % 4294967296) ^^^ (s.get! k).toNat = ckT s.data.toList (k + 1) := by
  have hl : k < s.data.toList.length := by simpa using h
  rw [ckT_succ hl]
  unfold ckS
  congr 2
  rw [get_list h, List.getD_eq_getElem?_getD, List.getElem?_eq_getElem hl]; rfl
theorem ckT_end {s : ByteArray} {k : Nat} (h : k = s.size) : ckT s.data.toList k = chk s.data.toList := by
  subst h
  have := ckT_all (l := s.data.toList)
  rwa [show s.data.toList.length = s.size by simp] at this
/-! ### The document's numbers -/
def dcB (n : Nat) : ByteArray := bsL (decDigits n)
theorem dcB_le {n : Nat} (h : n < 18446744073709551616) : (dcB n).size ≤ 20 := by unfold dcB; rw [bsL_size, decDigits_length]; exact nDigits_le20 n h
/-! ### A line, put together -/
theorem ba_list {x y : ByteArray} (h : x.data.toList = y.data.toList) : x = y := by rw [← bsL_data x, h, bsL_data]
theorem body_eq {dy ch : Int} {mt : ByteArray} {rg : List ByteArray} : (((((dcB dy.toNat ++ ByteArray.mk #[124]) ++ dcB ch.toNat) ++ ByteArray.mk #[124]) ++ mt) ++ ByteArray.mk #[124]) ++ jnB rg = bsL (bodyR (dy, ch, mt, rg)) := by
  apply ba_list
  rw [data_bsL]
  simp [bodyR, dcB, jnB, bsL]
theorem line_eq {r : Rec} : ((bsL (bodyR r) ++ ByteArray.mk #[35]) ++ dcB (chk (ByteArray.data (bsL (bodyR r))).toList)) ++ ByteArray.mk #[10] = bsL (lineR r) := by
  apply ba_list
  rw [data_bsL, data_bsL]
  simp [lineR, stamp, dcB, bsL]
theorem body_len {r : Rec} (h : mayR r = 0) (h1 : r.2.2.1.size ≤ 1000000) (h2 : (joinR r.2.2.2).length ≤ 1000000) : (bodyR r).length ≤ 3000000 := by
  have hro := mayR_ok h
  have := hro.d0; have := hro.d1; have := hro.c0; have := hro.c1
  have h3 : (decDigits r.1.toNat).length ≤ 20 := by rw [decDigits_length]; exact nDigits_le20 _ (by omega)
  have h4 : (decDigits r.2.1.toNat).length ≤ 20 := by rw [decDigits_length]; exact nDigits_le20 _ (by omega)
  unfold bodyR
  simp only [List.length_append, List.length_cons]
  have h5 : r.2.2.1.data.toList.length = r.2.2.1.size := by simp
  omega
/-! ### A line, read -/
theorem cutl_len {c : UInt8} : ∀ {l : List UInt8}, (∀ p ∈ cutL c l, p.length ≤ l.length) ∧ (cutL c l).length ≤ l.length + 1
  | [] => by simp [cutL]
  | b :: r => by
    obtain ⟨h1, h2⟩ := @cutl_len c r
    rw [cutL]
    split
    · refine ⟨fun p hp => ?_, by simp only [List.length_cons]; omega⟩
      rcases List.mem_cons.1 hp with rfl | hp
      · simp
      · have := h1 p hp; simp only [List.length_cons]; omega
    · cases e : cutL c r with
      | nil => exact absurd e cutL_ne
      | cons q qs =>
        rw [e] at h1 h2
        simp only
        refine ⟨fun p hp => ?_, by simp only [List.length_cons] at h2 ⊢; omega⟩
        rcases List.mem_cons.1 hp with rfl | hp
        · have := h1 q (by simp); simp only [List.length_cons]; omega
        · have := h1 p (by simp [hp]); simp only [List.length_cons]; omega
theorem cutT_sz {c : UInt8} {s p : ByteArray} (h : p ∈ cutT c s) : p.size ≤ s.size := by
  unfold cutT at h
  obtain ⟨q, hq, rfl⟩ := List.mem_map.1 h
  have := cutl_len.1 q hq
  rw [bsL_size]
  simpa using this
theorem cutT_get {c : UInt8} {s : ByteArray} (k : Nat) : ((cutT c s).getD k ByteArray.empty).size ≤ s.size := by
  by_cases h : k < (cutT c s).length
  · exact cutT_sz (getD_memS h)
  · rw [List.getD_eq_getElem?_getD, List.getElem?_eq_none (by omega)]; exact Nat.zero_le _
theorem cutT_n {c : UInt8} {s : ByteArray} : (cutT c s).length ≤ s.size + 1 := by
  unfold cutT
  rw [List.length_map]
  have := (@cutl_len c s.data.toList).2
  simpa using this
theorem cutA_sz {c : UInt8} {s : ByteArray} : (cutA c s).size ≤ s.size := by
  unfold cutA
  split
  · exact Nat.le_refl _
  · rw [bsL_size, List.length_take]; simp; omega
theorem cutA_list {c : UInt8} {s : ByteArray} (h : indexByte s.data.toList c ≠ -1) : cutA c s = bsL (s.data.toList.take (indexByte s.data.toList c).toNat) := by unfold cutA; rw [if_neg h]
theorem dcB_inj {n : Nat} {l : List UInt8} : dcB n = bsL l ↔ decDigits n = l := by
  unfold dcB
  constructor
  · intro h; rw [← data_bsL (decDigits n), h, data_bsL]
  · intro h; rw [h]
theorem rd_bad {s : ByteArray} (h : indexByte s.data.toList 35 = -1 ∨ (cutT 124 (cutA 35 s)).length ≠ 4 ∨ dcB (chk (cutA 35 s).data.toList) ≠ cutZ 35 s) : readR s.data.toList = none := by
  by_cases h1 : indexByte s.data.toList 35 = -1
  · unfold readR; rw [if_pos h1]
  · have h := h.resolve_left h1
    rw [cutA_list h1, data_bsL] at h
    unfold readR
    rw [if_neg h1]
    by_cases h2 : decDigits (chk (s.data.toList.take (indexByte s.data.toList 35).toNat)) = s.data.toList.drop ((indexByte s.data.toList 35).toNat + 1)
    · rw [if_neg (by simpa using h2)]
      have h3 := h.resolve_right (fun k => k (by unfold cutZ; rw [if_neg h1]; exact dcB_inj.2 h2))
      have : partsR (s.data.toList.take (indexByte s.data.toList 35).toNat) = none := by
        unfold partsR
        unfold cutT at h3
        rw [data_bsL, List.length_map] at h3
        split
        · rename_i a b m l e
          rw [e] at h3; simp at h3
        · rfl
      rw [this]
    · rw [if_pos h2]
theorem rd_parts {s : ByteArray} {n k : Int} {b c : Bool} (h35 : indexByte s.data.toList 35 ≠ -1) (h4 : (cutT 124 (cutA 35 s)).length = 4) (hsum : dcB (chk (cutA 35 s).data.toList) = cutZ 35 s)
    (h1 : NumBk ((cutT 124 (cutA 35 s)).getD 0 ByteArray.empty) n b) (h2 : NumBk ((cutT 124 (cutA 35 s)).getD 1 ByteArray.empty) k c) :
    readR s.data.toList = if b = true ∧ c = true then (if mayR (n, k, (cutT 124 (cutA 35 s)).getD 2 ByteArray.empty, cutT 44 ((cutT 124 (cutA 35 s)).getD 3 ByteArray.empty)) = 0 then some (n, k, (cutT 124 (cutA 35 s)).getD 2 ByteArray.empty, cutT 44 ((cutT 124 (cutA 35 s)).getD 3 ByteArray.empty)) else none) else none := by
  have hp := parts_two (body := s.data.toList.take (indexByte s.data.toList 35).toNat) (by rw [← cutA_list h35]) h4 h1 h2
  have hs2 : decDigits (chk (s.data.toList.take (indexByte s.data.toList 35).toNat)) = s.data.toList.drop ((indexByte s.data.toList 35).toNat + 1) := by
    rw [cutA_list h35, data_bsL] at hsum
    unfold cutZ at hsum
    rw [if_neg h35] at hsum
    exact dcB_inj.1 hsum
  unfold readR
  rw [if_neg h35, if_neg (by simpa using hs2), hp]
  by_cases e : b = true ∧ c = true
  · rw [if_pos e, if_pos e]
  · rw [if_neg e, if_neg e]
theorem rd_c1 {s : ByteArray} (c : (((!(!(decide (Lib.indexByte ((ByteArray.data s).toList) 35 = -1)))) || (decide ((((List.length (cutT 124 (cutA 35 s))) : Nat) : Int) ≠ (4 : Int)))) || (!(decide ((dcB ((chk (ByteArray.data ((cutA 35 s))).toList))) = (cutZ 35 s))))) = true) : readR s.data.toList = none := by
  refine rd_bad ?_
  simp only [Bool.not_not, Bool.or_eq_true, decide_eq_true_eq, Bool.not_eq_true', decide_eq_false_iff_not] at c
  rcases c with (h | h) | h
  · exact .inl h
  · exact .inr (.inl (by omega))
  · exact .inr (.inr h)
theorem rd_c0 {s : ByteArray} (c : (((!(!(decide (Lib.indexByte ((ByteArray.data s).toList) 35 = -1)))) || (decide ((((List.length (cutT 124 (cutA 35 s))) : Nat) : Int) ≠ (4 : Int)))) || (!(decide ((dcB ((chk (ByteArray.data ((cutA 35 s))).toList))) = (cutZ 35 s))))) = false) : indexByte s.data.toList 35 ≠ -1 ∧ (cutT 124 (cutA 35 s)).length = 4 ∧ dcB (chk (cutA 35 s).data.toList) = cutZ 35 s := by
  simp only [Bool.not_not, Bool.or_eq_false_iff, decide_eq_false_iff_not, Bool.not_eq_false', decide_eq_true_eq] at c
  exact ⟨c.1.1, by omega, c.2⟩
theorem rd_some {r : Rec} : (if mayR r = 0 then some r else none).isSome = decide (mayR r = 0) := by
  by_cases h : mayR r = 0
  · rw [if_pos h, decide_eq_true h]; rfl
  · rw [if_neg h, decide_eq_false h]; rfl
theorem rd_is {o : Option Rec} {r q : Rec} (h : o = if mayR r = 0 then some r else none) (hq : o = some q) : q = r := by
  rw [h] at hq
  split at hq
  · injection hq with hq; exact hq.symm
  · cases hq
/-! ### A book, opened line by line -/
section
variable {xs : List Rec} {l : List UInt8} {a : Nat} {r : Rec} {T : List Rec × Nat}
theorem cutA_take {c : UInt8} {L : List UInt8} (h : indexByte L c ≠ -1) : (ByteArray.data (cutA c (bsL L))).toList = L.take (indexByte L c).toNat := by
  unfold cutA; rw [data_bsL, if_neg h, data_bsL]
theorem cutA_size {c : UInt8} {L : List UInt8} (h : indexByte L c ≠ -1) : (cutA c (bsL L)).size = (indexByte L c).toNat ∧ (indexByte L c).toNat + 1 ≤ L.length := by
  have hs := congrArg List.length (ix_split h).1
  rw [List.length_append, List.length_cons, List.length_take, List.length_drop] at hs
  have h2 : (cutA c (bsL L)).size = (ByteArray.data (cutA c (bsL L))).toList.length := by simp
  rw [h2, cutA_take h, List.length_take]
  omega
theorem opn_next (hx : xs.length < 1000) (h : indexByte (l.drop a) 10 ≠ -1) (hr : readR ((l.drop a).take (indexByte (l.drop a) 10).toNat) = some r) (hq : xs ++ (opn (1000 - xs.length) (l.drop a)).1 = T.1 ∧ a + (opn (1000 - xs.length) (l.drop a)).2 = T.2) :
    (xs ++ [r]) ++ (opn (1000 - (xs ++ [r]).length) (l.drop (a + ((indexByte (l.drop a) 10).toNat + 1)))).1 = T.1 ∧ (a + ((indexByte (l.drop a) 10).toNat + 1)) + (opn (1000 - (xs ++ [r]).length) (l.drop (a + ((indexByte (l.drop a) 10).toNat + 1)))).2 = T.2 := by
  rw [show 1000 - xs.length = (1000 - (xs ++ [r]).length) + 1 by rw [List.length_append, List.length_singleton]; omega, opn_good h hr, List.drop_drop] at hq
  refine ⟨by rw [← hq.1]; simp, by rw [← hq.2]; simp only; omega⟩
theorem opn_fin0 (hx : ¬ xs.length < 1000) (hx2 : xs.length ≤ 1000) (hq : xs ++ (opn (1000 - xs.length) (l.drop a)).1 = T.1 ∧ a + (opn (1000 - xs.length) (l.drop a)).2 = T.2) : xs = T.1 ∧ a = T.2 := by
  rw [show 1000 - xs.length = 0 by omega] at hq
  simpa [opn] using hq
theorem opn_fin1 (h : indexByte (l.drop a) 10 = -1) (hq : xs ++ (opn (1000 - xs.length) (l.drop a)).1 = T.1 ∧ a + (opn (1000 - xs.length) (l.drop a)).2 = T.2) : xs = T.1 ∧ a = T.2 := by
  rw [opn_end h] at hq
  simpa using hq
theorem opn_fin2 (h : indexByte (l.drop a) 10 ≠ -1) (hr : readR ((l.drop a).take (indexByte (l.drop a) 10).toNat) = none) (hq : xs ++ (opn (1000 - xs.length) (l.drop a)).1 = T.1 ∧ a + (opn (1000 - xs.length) (l.drop a)).2 = T.2) : xs = T.1 ∧ a = T.2 := by
  rw [opn_bad h hr] at hq
  simpa using hq
end
end Go.KL

/- A text as bytes; a book's lines; records by day. -/
namespace Go.KL
open Go.Lib Go.RowKit
section
variable {P : Program} {d : Option Tmp} {ty : TypeId} {pos : String} {af : Array Edge} {g : Option (Nat × Bool)} {a : Act} {σ : GW}
def GW.byt (σ : GW) (e : TypeId) (s : ByteArray) : GW := ⟨bytesWorld σ.w e s, fun b => if b = σ.w.heap.size then 1 else σ.st b, fun b hb => by
  rw [bytesWorld_size]
  by_cases h : b = σ.w.heap.size
  · omega
  · rw [if_neg h] at hb
    have := σ.lt b hb; omega⟩
theorem byt_stp {e : TypeId} {s : ByteArray} : Stp 0 σ (σ.byt e s) :=
  ⟨rfl, rfl, rfl, .inl (Nat.le_succ _), by show _ ≤ (bytesWorld σ.w e s).heap.size; rw [bytesWorld_size]; omega, fun b hb _ => bytesWorld_at_old σ.w e s b hb, fun b hb _ => by show (if b = σ.w.heap.size then 1 else σ.st b) = _; rw [if_neg (by omega)]⟩
theorem grown_ge {w : World} {n : Nat} {e : TypeId} : n ≤ grownCap w n 0 e ∧ (n ≤ 281474976710656 → grownCap w n 0 e ≤ 9223372036854775807) :=
  ⟨grownCap_ge w n 0 e, fun h => grownCap_le_maxLen w n 0 e (by show n ≤ 9223372036854775807; omega)⟩
theorem y_convSB {x : Operand} {t u e : TypeId} {s : ByteArray} (ht : P.underlying t = some .string) (hu : P.underlying u = some (.slice e)) (he : P.underlying e = some (.int .u8)) (hx : a.eval x = .string s) (hs : s.size ≤ 281474976710656) :
    Yld P ⟨d, .convert t u x, ty, pos, af, g⟩ a σ (Ty.lst Ty.byte s.data.toList).pr := by
  intro K Q hk
  have hr := Go.Lib.run_convert_string_bytes (P := P) σ.w t u e s ht hu he
  have hr' : (execOp a.eval ⟨d, .convert t u x, ty, pos, af, g⟩).run P σ.w = .ok (.value (.slice (some ⟨σ.w.heap.size, 0, none⟩) s.size (grownCap σ.w s.size 0 e))) (bytesWorld σ.w e s) := by
    simp only [execOp, hx, Sem.run_bind, hr, Result.andThen_ok, Sem.run_pure]
  unfold Oper.wp
  rw [hr']
  have hg := grown_ge (w := σ.w) (n := s.size) (e := e)
  have hl : s.data.toList.length = s.size := by simp
  refine hk _ (σ.byt e s) byt_stp ⟨_, _, σ.w.heap.size, 0, by rw [hl], ⟨by rw [hl]; exact hg.1, hg.2 hs⟩, by simp, .inr ⟨rfl, by show (if _ = _ then 1 else _) = 1; rw [if_pos rfl]⟩, fun j T hj => ?_⟩
  rw [List.getElem?_map] at hj
  cases e1 : s.data.toList[j]? with
  | none => rw [e1] at hj; cases hj
  | some c =>
    rw [e1] at hj
    cases hj
    have hj2 : j < s.size := by rw [← hl]; exact (List.getElem?_eq_some_iff.1 e1).1
    refine ⟨_, by rw [Nat.zero_add]; exact bytesWorld_cell σ.w e s j hj2, ?_⟩
    show _ = _
    rw [List.getD_eq_getElem?_getD, e1]; rfl
end
/-! ### Lines -/
theorem lines_step {xs : List Rec} {k : Nat} (h : k < xs.length) : linesR (xs.take k) ++ lineR (xs.getD k Rec0) = linesR (xs.take (k + 1)) := by
  unfold linesR
  rw [List.take_add_one, List.flatMap_append, show xs[k]? = some (xs.getD k Rec0) by simp [List.getD_eq_getElem?_getD, h]]
  simp
theorem lines_len {xs : List Rec} {k : Nat} : (linesR (xs.take k)).length ≤ (linesR xs).length := by
  conv => rhs; rw [← List.take_append_drop k xs]
  unfold linesR
  rw [List.flatMap_append, List.length_append]; omega
theorem line_len {xs : List Rec} {r : Rec} (h : r ∈ xs) : (lineR r).length ≤ (linesR xs).length := by
  induction xs with
  | nil => cases h
  | cons x xs ih =>
    unfold linesR at ih ⊢
    rw [List.flatMap_cons, List.length_append]
    rcases List.mem_cons.1 h with rfl | h
    · omega
    · have := ih h; omega
theorem line_parts {r : Rec} : r.2.2.1.size ≤ (lineR r).length ∧ (joinR r.2.2.2).length ≤ (lineR r).length := by
  unfold lineR stamp bodyR
  simp only [List.length_append, List.length_cons]
  have : r.2.2.1.data.toList.length = r.2.2.1.size := by simp
  omega
theorem getD_memR {xs : List Rec} {k : Nat} (h : k < xs.length) : xs.getD k Rec0 ∈ xs := by
  rw [List.getD_eq_getElem?_getD, List.getElem?_eq_getElem h]; exact List.getElem_mem h
/-! ### By day -/
end Go.KL

/- The document's books: a line put together, a line read, a book read. -/
namespace Go.KL
open Go.Lib
/-! ### A line put together -/
/-! ### A line read -/
/-! ### A book read -/
section
variable {P : Program} {d : Option Tmp} {ty : TypeId} {pos : String} {af : Array Edge} {g : Option (Nat × Bool)} {a : Act} {σ : GW}
end
section
variable {xs : List Rec} {l : List UInt8} {a i : Nat} {r : Rec} {T : List Rec × Nat}
end
end Go.KL

/- 'append' to a row that never changes and has no room; 's[:h:h]' (never beside KlKnd). -/
namespace Go.KL
open Go.RowKit
variable {P : Program}
section
variable {d : Option Tmp} {ty : TypeId} {pos : String} {af : Array Edge} {g : Option (Nat × Bool)} {a : Act} {σ : GW}
end
end Go.KL

/- A book opened by the program and by the document. -/
namespace Go.KL
section
open Go.RowKit
variable {P : Program} {d : Option Tmp} {ty : TypeId} {pos : String} {af : Array Edge} {g : Option (Nat × Bool)} {a : Act} {σ : GW}
theorem y_refne {x y : Operand} {t u : TypeId} {ts : List Ty} {e : TypeId} (ht : P.underlying t = some (.pointer e)) (h : At (.ref ts) σ a x) (hy : a.eval y = .pointer none) : Yld P ⟨d, .binOp .neq t x y u, ty, pos, af, g⟩ a σ (Ty.bool true).pr := by
  obtain ⟨b, o, hx, _⟩ := h
  have hp : P.underlying t = some (.pointer (P.pointee t)) := by
    have : P.pointee t = e := by simp [Program.pointee, ht]
    rw [this]; exact ht
  have h1 := run_neq_pointer_nil (P := P) (w := σ.w) t (some ⟨b, o, none⟩) hp
  refine Yld.of_run (v := .bool true) ?_ rfl
  simp only [execOp, hx, hy]
  simp_all [eqGuard]
end
end Go.KL

/- A new row of bytes that is sealed, and is written once more. -/
namespace Go.KL
open Go.Lib Go.RowKit
variable {P : Program}
def FrB (σ : GW) (N : Nat) (v : Value) (xs : List UInt8) : Prop := ∃ b cap cur e lo hi, v = .slice (some ⟨b, 0, none⟩) xs.length cap ∧ (xs.length ≤ cap ∧ cap ≤ 9223372036854775807) ∧ N ≤ b ∧ σ.st b = 1 ∧ σ.w.heap[b]? = some (.cells cur e (lo, hi)) ∧ xs.length ≤ lo ∧ ∀ j, j < xs.length → cur[j]? = some (.int .u8 ((xs.getD j 0).toNat : Int))
theorem FrB.up {σ τ : GW} {N : Nat} {v : Value} {xs : List UInt8} (h : σ.Le τ) : FrB σ N v xs → FrB τ N v xs := fun ⟨b, cap, cur, e, lo, hi, h1, h2, h3, h4, h5, h6, h7⟩ => ⟨b, cap, cur, e, lo, hi, h1, h2, h3, h.st b h4, (h.blk b h4).trans h5, h6, h7⟩
theorem FrB.lst {σ : GW} {N : Nat} {v : Value} {xs : List UInt8} : FrB σ N v xs → (Ty.lst Ty.byte xs).has σ v := fun ⟨b, cap, cur, e, lo, hi, h1, h2, h3, h4, h5, h6, h7⟩ =>
  ⟨_, cap, b, 0, h1, h2, by simp, .inr ⟨rfl, h4⟩, fun j T hj => by
    rw [List.getElem?_map] at hj
    cases e1 : xs[j]? with
    | none => rw [e1] at hj; cases hj
    | some c =>
      rw [e1] at hj
      cases hj
      have hj2 : j < xs.length := (List.getElem?_eq_some_iff.1 e1).1
      refine ⟨_, ?_, (rfl : (Ty.byte c).has σ (.int .u8 (c.toNat : Int)))⟩
      have := h7 j hj2
      rw [List.getD_eq_getElem?_getD, e1] at this
      simp only [World.cell?, Nat.zero_add, h5]
      exact this⟩
def Ty.frshB (N : Nat) (xs : List UInt8) : Ty := ⟨fun σ v => FrB σ N v xs, fun h k => k.up h⟩
section
variable {d : Option Tmp} {ty : TypeId} {pos : String} {af : Array Edge} {g : Option (Nat × Bool)} {a : Act} {σ : GW}
theorem frshB_lst {N : Nat} {xs : List UInt8} {x : Operand} (h : At (Ty.frshB N xs) σ a x) : At (Ty.lst Ty.byte xs) σ a x := FrB.lst h
theorem y_convSBf {x : Operand} {t u e : TypeId} {s : ByteArray} {N : Nat} (ht : P.underlying t = some .string) (hu : P.underlying u = some (.slice e)) (he : P.underlying e = some (.int .u8)) (hx : a.eval x = .string s) (hs : s.size ≤ 281474976710656) (hN : N ≤ σ.w.heap.size) :
    Yld P ⟨d, .convert t u x, ty, pos, af, g⟩ a σ (Ty.frshB N s.data.toList).pr := by
  intro K Q hk
  have hr := Go.Lib.run_convert_string_bytes (P := P) σ.w t u e s ht hu he
  have hr' : (execOp a.eval ⟨d, .convert t u x, ty, pos, af, g⟩).run P σ.w = .ok (.value (.slice (some ⟨σ.w.heap.size, 0, none⟩) s.size (grownCap σ.w s.size 0 e))) (bytesWorld σ.w e s) := by
    simp only [execOp, hx, Sem.run_bind, hr, Result.andThen_ok, Sem.run_pure]
  unfold Oper.wp
  rw [hr']
  have hg := grown_ge (w := σ.w) (n := s.size) (e := e)
  have hl : s.data.toList.length = s.size := by simp
  refine hk _ (σ.byt e s) byt_stp ⟨σ.w.heap.size, _, bytesCells σ.w e s, e, _, _, by rw [hl], ⟨by rw [hl]; exact hg.1, hg.2 hs⟩, hN, ?_, bytesWorld_at_new σ.w e s, ?_, fun j hj => ?_⟩
  · show (if _ = _ then 1 else _) = 1
    rw [if_pos rfl]
  · rw [hl]; simp [bytesCells]
  · have h1 := bytesWorld_cell σ.w e s j (by rw [← hl]; exact hj)
    simp only [World.cell?, bytesWorld_at_new] at h1
    exact h1
theorem m_frb {s0 : GW} {z : Value} {N D ops Q} {o : Oper} {rest : List Oper} {t : TypeId} {q : Value} {by_ : Nat} {x y : Operand} {xs : List UInt8} {i : Nat} {c : UInt8} (hd : o = ⟨none, .store t x y, ty, pos, af, none⟩) (he : Info P t q 1 by_) (F : FromL [] s0 σ) (hz : FrB σ s0.w.heap.size z xs) (ok : Ok N D a) (hx : a.eval x = cellPtr z i) (hi : i < xs.length) (hy : a.eval y = .int .u8 (c.toNat : Int))
    (k : ∀ τ : GW, FromL [] s0 τ → FrB τ s0.w.heap.size z (xs.set i c) → wpList P ops Q rest a τ.w) : wpList P ops Q (o :: rest) a σ.w := by
  subst hd
  obtain ⟨b, cap, cur, el, lo, hi', rfl, h2, h3, h4, h5, h6, h7⟩ := hz
  have hx' : a.eval x = .pointer (some ⟨b, i, none⟩) := hx
  have hcell : σ.w.cell? ⟨b, i, none⟩ = some (.int .u8 ((xs.getD i 0).toNat : Int)) := by simp only [World.cell?, h5]; exact h7 i hi
  have hfr : σ.w.frozen? ⟨b, i, none⟩ = false := by
    simp only [World.frozen?, h5]
    have : ¬ lo ≤ i := by omega
    simp [this]
  have ho : (Value.int .u8 (c.toNat : Int)).oneCell' = true := rfl
  refine wpList_plain rfl fun K hK => ?_
  have hr : (execOp a.eval ⟨none, .store t x y, ty, pos, af, none⟩).run P σ.w = .ok .skip (σ.w.setCell ⟨b, i, none⟩ (.int .u8 (c.toNat : Int))) := by
    simp only [execOp, hx', hy]
    have hst : (store ⟨b, i, none⟩ (.int .u8 (c.toNat : Int))).run P σ.w = .ok () (σ.w.setCell ⟨b, i, none⟩ (.int .u8 (c.toNat : Int))) := by
      rw [run_store P σ.w _ _ _ ho, hcell, hfr]; rfl
    simp [Instr.storeAt, Instr.sureAddr, storeVar, Sem.run_bind, cells_of_one ho, he.size, storeCells, Addr.add_zero', hst]
  unfold Oper.wp
  rw [hr]
  refine hK _ _ ?_
  have hgb : b ≠ b → False := fun h => h rfl
  have hheap : (σ.w.setCell ⟨b, i, none⟩ (.int .u8 (c.toNat : Int))).heap[b]? = some (.cells (cur.setIfInBounds i (.int .u8 (c.toNat : Int))) el (lo, hi')) := by
    unfold World.setCell
    rw [Array.getElem?_modify, if_pos rfl, h5]
    rfl
  refine k ⟨σ.w.setCell ⟨b, i, none⟩ (.int .u8 (c.toNat : Int)), σ.st, fun b h => by have := σ.lt b h; simpa using this⟩ ⟨⟨F.stp.os, F.stp.tape, F.stp.output, F.stp.dr, ?_, fun b' hb' hm => ?_, F.stp.st⟩, F.low⟩ ⟨b, cap, _, el, lo, hi', by rw [List.length_set], by rw [List.length_set]; exact h2, h3, h4, hheap, by rw [List.length_set]; exact h6, fun j hj => ?_⟩
  · have := F.stp.size
    simpa using this
  · show (σ.w.setCell ⟨b, i, none⟩ _).heap[b']? = _
    rw [Below.heap_setCell σ.w _ _ b' (by rintro rfl; exact absurd h3 (Nat.not_le_of_lt hb'))]
    exact F.stp.blk b' hb' hm
  · rw [List.length_set] at hj
    by_cases e1 : j = i
    · subst e1
      rw [List.getD_eq_getElem?_getD, List.getElem?_set_self hj]
      have hjc : j < cur.size := by
        have := h7 j hj
        exact (Array.getElem?_eq_some_iff.1 this).1
      simp [hjc]
    · rw [List.getD_eq_getElem?_getD, List.getElem?_set_ne (Ne.symm e1), ← List.getD_eq_getElem?_getD, Array.getElem?_setIfInBounds_ne (Ne.symm e1)]
      exact h7 j hj
theorem ownp_field2 {k : Nat} {x : Operand} {ts : List Ty} {t ft : TypeId} {f off c by_ : Nat} {z v : Value} (i : Nat) (hf : fieldOf P t f = some (ft, off)) (he : Info P ft z c by_) (hc : 0 < c) (h : OwnP σ k v ts) (hx : a.eval x = ptrAt v i) :
    Yld P ⟨d, .fieldAddr t x f, ty, pos, af, g⟩ a σ (Ty.val (ptrAt v (i + off))).pr := by
  obtain ⟨gg, e', cur, rfl, _⟩ := h
  have hx' : a.eval x = .pointer (some ⟨gg, i, none⟩) := hx
  refine Yld.of_run (v := .pointer (some ⟨gg, i + off, none⟩)) ?_ rfl
  simp only [execOp, hx']
  have := run_fieldAt (o := i) (b := gg) hf he hc σ.w
  simp [this]
end
end Go.KL

/- Records by number: five names, shifts by a number. -/
namespace Go.KL
open Go.Lib Go.RowKit
variable {P : Program}
section
variable {d : Option Tmp} {ty : TypeId} {pos : String} {af : Array Edge} {g : Option (Nat × Bool)} {a : Act} {σ : GW}
theorem y_shrN {x y : Operand} {t u : TypeId} {n k : Nat} (hx : At (Ty.nat n) σ a x) (hy : At (Ty.nat k) σ a y) (hk : k < 64) : Yld P ⟨d, .binOp .shr t x y u, ty, pos, af, g⟩ a σ (Ty.nat (n / 2 ^ k)).pr := by
  have ex : a.eval x = .int .i64 ((n : Nat) : Int) := hx
  have ey : a.eval y = .int .i64 ((k : Nat) : Int) := hy
  have e1 : Int.fdiv ((n : Nat) : Int) (2 ^ k) = ((n / 2 ^ k : Nat) : Int) := by
    rw [Int.fdiv_eq_ediv_of_nonneg _ (Int.pow_nonneg (by decide))]
    simp
  refine Yld.of_run (v := .int .i64 ((n / 2 ^ k : Nat) : Int)) ?_ rfl
  simp only [execOp, ex, ey]
  simp [go_sem, binOp, e1, show k < 64 by omega]
theorem y_build5s {x0 x1 x2 x3 x4 : Operand} {p0 p1 p2 p3 p4 : ByteArray} {t e : TypeId} {z : Value} {b : Nat} (ht : P.underlying t = some (.slice e)) (he : Info P e z 1 b) (hz : z.cells.size = 1)
    (e0 : a.eval x0 = .string p0) (e1 : a.eval x1 = .string p1) (e2 : a.eval x2 = .string p2) (e3 : a.eval x3 = .string p3) (e4 : a.eval x4 = .string p4) :
    Yld P ⟨d, .buildSlice t 5 #[(0, x0), (1, x1), (2, x2), (3, x3), (4, x4)], ty, pos, af, g⟩ a σ (Ty.lst Ty.str [p0, p1, p2, p3, p4]).pr := by
  intro K Q hk
  have hr : (execOp a.eval ⟨d, .buildSlice t 5 #[(0, x0), (1, x1), (2, x2), (3, x3), (4, x4)], ty, pos, af, g⟩).run P σ.w = .ok (.value (.slice (some ⟨σ.w.heap.size, 0, none⟩) 5 5)) (σ.w.alloc (.cells #[Value.string p0, Value.string p1, Value.string p2, Value.string p3, Value.string p4] e)) := by
    simp only [execOp, List.map_toArray, List.map_cons, List.map_nil, e0, e1, e2, e3, e4]
    have hr : Array.range 5 = #[0, 1, 2, 3, 4] := rfl
    simp [Instr.buildSlice, run_underlying ht, he.size, he.zero, Instr.fill, Value.cells, hz, newRow, newObj, Sem.run, Sem.run_bind, hr]
  unfold Oper.wp
  rw [hr]
  refine hk _ (σ.seal (.cells #[Value.string p0, Value.string p1, Value.string p2, Value.string p3, Value.string p4] e)) (Stp.seal _ _) ⟨_, 5, σ.w.heap.size, 0, rfl, ⟨Nat.le_refl _, by decide⟩, rfl, .inr ⟨rfl, by simp [GW.seal]⟩, fun j U hj => ?_⟩
  match j, hj with
  | 0, hj => exact ⟨.string p0, by (show World.cell? (σ.w.alloc _) _ = _; simp only [World.cell?, heap_alloc_new]; rfl), by cases hj; rfl⟩
  | 1, hj => exact ⟨.string p1, by (show World.cell? (σ.w.alloc _) _ = _; simp only [World.cell?, heap_alloc_new]; rfl), by cases hj; rfl⟩
  | 2, hj => exact ⟨.string p2, by (show World.cell? (σ.w.alloc _) _ = _; simp only [World.cell?, heap_alloc_new]; rfl), by cases hj; rfl⟩
  | 3, hj => exact ⟨.string p3, by (show World.cell? (σ.w.alloc _) _ = _; simp only [World.cell?, heap_alloc_new]; rfl), by cases hj; rfl⟩
  | 4, hj => exact ⟨.string p4, by (show World.cell? (σ.w.alloc _) _ = _; simp only [World.cell?, heap_alloc_new]; rfl), by cases hj; rfl⟩
  | j + 5, hj => simp at hj
end
/-! ### The record -/
abbrev nm5 : List ByteArray := [ByteArray.mk #[65, 100, 97], ByteArray.mk #[66, 111], ByteArray.mk #[67, 121, 32, 195, 150, 122], ByteArray.mk #[68, 101, 101], ByteArray.mk #[69, 55]]
abbrev plB : ByteArray := ByteArray.mk #[80, 108, 97, 105, 110, 32, 66, 111, 98]
def sub5 : Nat → List (List ByteArray)
  | 0 => [[]]
  | k + 1 => sub5 k ++ (sub5 k).map (fun l => l ++ [nm5.getD k ByteArray.empty])
def RecG (r : Rec) : Prop := mayR r = 0 ∧ r.2.2.1.size ≤ 1000000 ∧ (∀ x ∈ r.2.2.2, x.size ≤ 1000000) ∧ (lineR r).length ≤ 1000
theorem sub_no {k : Nat} {rg : List ByteArray} (h : rg ∈ sub5 k) : rg ∈ sub5 (k + 1) := List.mem_append.2 (.inl h)
theorem sub_yes {k : Nat} {rg : List ByteArray} (h : rg ∈ sub5 k) : rg ++ [nm5.getD k ByteArray.empty] ∈ sub5 (k + 1) := List.mem_append.2 (.inr (List.mem_map.2 ⟨rg, h, rfl⟩))
theorem plB_ok : nameL plB = true := by decide +kernel
theorem sub_len : ∀ {k : Nat} {rg : List ByteArray}, rg ∈ sub5 k → rg.length ≤ k
  | 0, rg, h => by simp [sub5] at h; subst h; exact Nat.le_refl _
  | k + 1, rg, h => by
    rcases List.mem_append.1 h with h | h
    · have := sub_len h; omega
    · obtain ⟨l, hl, rfl⟩ := List.mem_map.1 h
      have := sub_len hl
      rw [List.length_append, List.length_singleton]; omega
theorem sub_all : ∀ rg ∈ sub5 5, rg ≠ [] → rgM [] rg = 0 ∧ (joinR rg).length ≤ 100 ∧ (rg.all fun x => decide (x.size ≤ 100)) = true := by decide +kernel
theorem rec_ok {dy ch : Int} {rg : List ByteArray} (h : rg ∈ sub5 5) (hne : rg ≠ []) (h1 : 0 ≤ dy ∧ dy ≤ 50) (h2 : 1 ≤ ch ∧ ch ≤ 5040) : RecG (dy, ch, plB, rg) := by
  obtain ⟨a1, a2, a3⟩ := sub_all rg h hne
  have hl := sub_len h
  have hl1 : 1 ≤ rg.length := by
    cases rg with
    | nil => exact absurd rfl hne
    | cons x l => simp
  have hm : mayR (dy, ch, plB, rg) = 0 := by
    unfold mayR
    simp only
    rw [if_neg (by omega), if_neg (by rw [plB_ok]; simp), if_neg (by omega), a1]
  have hz : plB.size = 9 := rfl
  refine ⟨hm, by show plB.size ≤ _; omega, fun x hx => ?_, ?_⟩
  · have := List.all_eq_true.1 a3 x hx
    have := of_decide_eq_true this
    omega
  · have h3 : (decDigits dy.toNat).length ≤ 20 := by rw [decDigits_length]; exact nDigits_le20 _ (by omega)
    have h4 : (decDigits ch.toNat).length ≤ 20 := by rw [decDigits_length]; exact nDigits_le20 _ (by omega)
    have h5 : plB.data.toList.length = 9 := rfl
    have h6 : (decDigits (chk (bodyR (dy, ch, plB, rg)))).length ≤ 20 := by rw [decDigits_length]; exact nDigits_le20 _ (Nat.lt_trans chk_lt (by decide))
    unfold lineR stamp
    simp only [List.length_append, List.length_cons, List.length_nil]
    have h7 : (bodyR (dy, ch, plB, rg)).length ≤ 200 := by
      unfold bodyR
      simp only [List.length_append, List.length_cons, List.length_nil]
      omega
    omega
end Go.KL

/- A book that is cut off, or of which one byte is turned. -/
namespace Go.KL
open Go.Lib
def endN (xs : List Rec) (k : Nat) : Nat := (linesR (xs.take k)).length
def endsB (xs : List Rec) : List Int := (List.range xs.length).map fun k => ((endN xs (k + 1) : Nat) : Int)
theorem endsB_len {xs : List Rec} : (endsB xs).length = xs.length := by simp [endsB]
theorem ends_get {xs : List Rec} {i : Nat} (h : i < xs.length) : (endsB xs).getD i 0 = ((endN xs (i + 1) : Nat) : Int) := by
  simp [endsB, List.getD_eq_getElem?_getD, h]
theorem ends_snoc {xs : List Rec} {r : Rec} : endsB xs ++ [(((linesR (xs ++ [r])).length : Nat) : Int)] = endsB (xs ++ [r]) := by
  unfold endsB
  rw [List.length_append, List.length_singleton, List.range_succ, List.map_append]
  congr 1
  · refine List.map_congr_left fun k hk => ?_
    have hk2 : k < xs.length := by simpa using hk
    unfold endN
    rw [List.take_append_of_le_length (by omega)]
  · unfold endN
    rw [List.map_singleton, List.take_of_length_le (by simp)]
theorem lines_app {xs ys : List Rec} : linesR (xs ++ ys) = linesR xs ++ linesR ys := by unfold linesR; rw [List.flatMap_append]
theorem lines_cons {r : Rec} {ys : List Rec} : linesR (r :: ys) = lineR r ++ linesR ys := by unfold linesR; rw [List.flatMap_cons]
theorem lines_le {xs : List Rec} (h : ∀ r ∈ xs, RecG r) : (linesR xs).length ≤ 1000 * xs.length := by
  induction xs with
  | nil => exact Nat.zero_le _
  | cons x xs ih =>
    rw [lines_cons, List.length_append, List.length_cons]
    have h1 := (h x (by simp)).2.2.2
    have h2 := ih fun r hr => h r (by simp [hr])
    omega
theorem line_pos {r : Rec} : 1 ≤ (lineR r).length := by unfold lineR; rw [List.length_append]; simp
theorem lines_ge {xs : List Rec} : xs.length ≤ (linesR xs).length := by
  induction xs with
  | nil => exact Nat.zero_le _
  | cons x xs ih =>
    rw [lines_cons, List.length_append, List.length_cons]
    have := @line_pos x
    omega
theorem endN_all {xs : List Rec} {k : Nat} (h : xs.length ≤ k) : endN xs k = (linesR xs).length := by unfold endN; rw [List.take_of_length_le h]
theorem lines_split {xs : List Rec} {j : Nat} : linesR xs = linesR (xs.take j) ++ linesR (xs.drop j) := by rw [← lines_app, List.take_append_drop]
theorem stamp_no {r : Rec} (h : mayR r = 0) : ∀ b ∈ stamp (bodyR r), b ≠ 10 := by
  intro b hb
  unfold stamp at hb
  rcases List.mem_append.1 hb with hb | hb
  · exact body_no (mayR_ok h) (.inr rfl) b hb
  · rcases List.mem_cons.1 hb with rfl | hb
    · decide
    · exact decDigits_no (by decide) _ b hb
theorem opn_pref : ∀ {rs : List Rec} {k : Nat} {t : List UInt8}, (∀ r ∈ rs, mayR r = 0) → rs.length ≤ k → (opn k (linesR rs ++ t)).2 = (linesR rs).length + (opn (k - rs.length) t).2
  | [], k, t, _, _ => by
    show (opn k t).2 = 0 + (opn k t).2
    omega
  | r :: rs, 0, t, _, hk => by simp at hk
  | r :: rs, k + 1, t, h, hk => by
    have hm := h r (by simp)
    have e : linesR (r :: rs) ++ t = stamp (bodyR r) ++ (10 : UInt8) :: (linesR rs ++ t) := by
      rw [lines_cons]; unfold lineR; simp
    have hix : indexByte (linesR (r :: rs) ++ t) 10 = ((stamp (bodyR r)).length : Int) := by rw [e]; exact ix_app (stamp_no hm)
    have ht : (linesR (r :: rs) ++ t).take (indexByte (linesR (r :: rs) ++ t) 10).toNat = stamp (bodyR r) := by rw [hix, e]; simp
    have hd : (linesR (r :: rs) ++ t).drop ((indexByte (linesR (r :: rs) ++ t) 10).toNat + 1) = linesR rs ++ t := by rw [hix, e]; simp
    rw [opn_good (r := r) (by rw [hix]; omega) (by rw [ht]; exact read_own hm), hd]
    have ih := opn_pref (rs := rs) (k := k) (t := t) (fun q hq => h q (by simp [hq])) (by simpa using hk)
    have hixn : (indexByte (linesR (r :: rs) ++ t) 10).toNat = (stamp (bodyR r)).length := by rw [hix]; simp
    show (indexByte (linesR (r :: rs) ++ t) 10).toNat + 1 + _ = _
    rw [hixn, ih, lines_cons, List.length_append, List.length_cons, show k + 1 - (rs.length + 1) = k - rs.length by omega]
    unfold lineR
    rw [List.length_append, List.length_singleton]
    omega
theorem opn_nil {k : Nat} {l : List UInt8} (h : ∀ a t, l = a ++ (10 : UInt8) :: t → (∀ b ∈ a, b ≠ 10) → readR a = none) : (opn k l).2 = 0 := by
  by_cases hi : indexByte l 10 = -1
  · rw [opn_end hi]
  · obtain ⟨e, hn⟩ := ix_split hi
    rw [opn_bad hi (h _ _ e hn)]
/-! ### Cut off -/
theorem cut_law {xs : List Rec} {j c : Nat} (h : ∀ r ∈ xs, mayR r = 0) (hl : xs.length ≤ 1000) (hj : j ≤ xs.length) (h1 : endN xs j ≤ c) (h2 : j = xs.length ∨ c < endN xs (j + 1)) : (opn 1000 ((linesR xs).take c)).2 = endN xs j := by
  rw [lines_split (j := j), List.take_append, List.take_of_length_le (show (linesR (xs.take j)).length ≤ c from h1)]
  rw [opn_pref (fun r hr => h r (List.mem_of_mem_take hr)) (by rw [List.length_take]; omega)]
  have : (opn (1000 - (xs.take j).length) ((linesR (xs.drop j)).take (c - (linesR (xs.take j)).length))).2 = 0 := by
    refine opn_nil fun a t e hn => ?_
    exfalso
    rcases Nat.lt_or_ge j xs.length with hlt | hge
    · have h2 := h2.resolve_left (by omega)
      have ed : xs.drop j = xs[j] :: xs.drop (j + 1) := List.drop_eq_getElem_cons hlt
      have hend : endN xs (j + 1) = endN xs j + (lineR xs[j]).length := by
        unfold endN
        rw [List.take_add_one, lines_app, List.length_append, List.getElem?_eq_getElem hlt]
        simp [lines_cons, linesR]
      rw [ed, lines_cons] at e
      unfold lineR at e hend
      rw [List.length_append, List.length_singleton] at hend
      have hle : c - (linesR (xs.take j)).length ≤ (stamp (bodyR xs[j])).length := by unfold endN at hend h2 h1; omega
      rw [List.append_assoc, List.take_append_of_le_length hle] at e
      have hmem : (10 : UInt8) ∈ (stamp (bodyR xs[j])).take (c - (linesR (xs.take j)).length) := by rw [e]; simp
      exact stamp_no (h _ (List.getElem_mem hlt)) 10 (List.mem_of_mem_take hmem) rfl
    · rw [List.drop_of_length_le hge] at e
      have := congrArg List.length e
      simp [linesR] at this
  rw [this]; rfl
/-! ### One byte turned -/
theorem xor_canr {x y b : Nat} (e : x ^^^ b = y ^^^ b) : x = y := by
  have h := congrArg (fun z => z ^^^ b) e
  simpa [Nat.xor_assoc] using h
theorem inv33 {h : Nat} (l : h < 4294967296) : h * 33 % 4294967296 * 1041204193 % 4294967296 = h := by
  rw [Nat.mul_mod, Nat.mod_mod, ← Nat.mul_mod, Nat.mul_assoc, show 33 * 1041204193 = 1 + 4294967296 * 8 from rfl, Nat.mul_add, Nat.mul_one, ← Nat.mul_assoc, Nat.mul_comm h 4294967296, Nat.mul_assoc, Nat.add_mul_mod_self_left, Nat.mod_eq_of_lt l]
theorem mul33_inj {h1 h2 : Nat} (l1 : h1 < 4294967296) (l2 : h2 < 4294967296) (e : h1 * 33 % 4294967296 = h2 * 33 % 4294967296) : h1 = h2 := by
  rw [← inv33 l1, ← inv33 l2, e]
theorem ckS_inj {h1 h2 : Nat} {b : UInt8} (l1 : h1 < 4294967296) (l2 : h2 < 4294967296) (h : h1 ≠ h2) : ckS h1 b ≠ ckS h2 b := by
  intro e
  unfold ckS at e
  exact h (mul33_inj l1 l2 (xor_canr (b := b.toNat) e))
theorem fold_inj : ∀ {l : List UInt8} {h1 h2 : Nat}, h1 < 4294967296 → h2 < 4294967296 → h1 ≠ h2 → l.foldl ckS h1 ≠ l.foldl ckS h2
  | [], _, _, _, _, h => h
  | b :: l, h1, h2, l1, l2, h => fold_inj (l := l) ckS_lt ckS_lt (ckS_inj l1 l2 h)
theorem chk_turn {u w : List UInt8} {b c : UInt8} (h : b ≠ c) : chk (u ++ b :: w) ≠ chk (u ++ c :: w) := by
  unfold chk
  rw [List.foldl_append, List.foldl_append, List.foldl_cons, List.foldl_cons]
  refine fold_inj ckS_lt ckS_lt fun e => ?_
  unfold ckS at e
  rw [Nat.xor_comm, Nat.xor_comm _ c.toNat] at e
  exact h (UInt8.toNat_inj.1 (xor_canr e))
theorem pre_no {c : UInt8} : ∀ {X a t r : List UInt8}, (∀ b ∈ X, b ≠ c) → X ++ t = a ++ c :: r → ∃ q, a = X ++ q ∧ t = q ++ c :: r
  | [], a, t, r, _, e => ⟨a, rfl, e⟩
  | x :: X, [], t, r, h, e => by
    injection e with e1 _
    exact absurd e1 (h x (by simp))
  | x :: X, y :: a, t, r, h, e => by
    rw [List.cons_append, List.cons_append] at e
    injection e with e1 e2
    obtain ⟨q, h1, h2⟩ := pre_no (X := X) (fun b hb => h b (by simp [hb])) e2
    exact ⟨q, by rw [h1, e1]; rfl, h2⟩
theorem fst_no {c : UInt8} {p t a r : List UInt8} (hp : ∀ b ∈ p, b ≠ c) (ha : ∀ b ∈ a, b ≠ c) (e : p ++ c :: t = a ++ c :: r) : a = p := by
  obtain ⟨q, h1, h2⟩ := pre_no hp e
  cases q with
  | nil => rw [h1, List.append_nil]
  | cons x q =>
    injection h2 with h3 _
    exact absurd h3.symm (ha x (by rw [h1]; simp))
theorem un_a {s : List UInt8} (h : ∀ b ∈ s, b ≠ 35) : readR s = none := by unfold readR; rw [if_pos (ix_none.2 h)]
theorem un_b {u t : List UInt8} (h : ∀ b ∈ u, b ≠ 35) (ht : decDigits (chk u) ≠ t) : readR (u ++ 35 :: t) = none := by
  have hix := ix_app (r := t) h
  unfold readR
  rw [if_neg (by rw [hix]; omega), if_pos]
  rw [hix]
  simpa using ht
theorem no_sub {c : UInt8} {l m : List UInt8} (h : ∀ b ∈ l, b ≠ c) (hs : ∀ b ∈ m, b ∈ l) : ∀ b ∈ m, b ≠ c := fun b hb => h b (hs b hb)
theorem no_app {c : UInt8} {l m : List UInt8} (h : ∀ b ∈ l, b ≠ c) (k : ∀ b ∈ m, b ≠ c) : ∀ b ∈ l ++ m, b ≠ c := fun b hb => (List.mem_append.1 hb).elim (h b) (k b)
theorem no_cons {c x : UInt8} {m : List UInt8} (h : x ≠ c) (k : ∀ b ∈ m, b ≠ c) : ∀ b ∈ x :: m, b ≠ c := fun b hb => (List.mem_cons.1 hb).elim (fun e => e ▸ h) (k b)
theorem split3 {y b : UInt8} : ∀ {X u Y m : List UInt8}, X ++ y :: Y = u ++ b :: m → (∃ m2, X = u ++ b :: m2 ∧ m = m2 ++ y :: Y) ∨ (u = X ∧ b = y ∧ m = Y) ∨ ∃ u2, u = X ++ y :: u2 ∧ Y = u2 ++ b :: m
  | [], [], Y, m, e => by
    injection e with e1 e2
    exact .inr (.inl ⟨rfl, e1.symm, e2.symm⟩)
  | [], x :: u, Y, m, e => by
    injection e with e1 e2
    exact .inr (.inr ⟨u, by rw [e1]; rfl, e2⟩)
  | x :: X, [], Y, m, e => by
    injection e with e1 e2
    exact .inl ⟨X, by rw [e1]; rfl, e2.symm⟩
  | x :: X, z :: u, Y, m, e => by
    rw [List.cons_append, List.cons_append] at e
    injection e with e1 e2
    subst e1
    rcases split3 (X := X) e2 with ⟨m2, h1, h2⟩ | ⟨h1, h2, h3⟩ | ⟨u2, h1, h2⟩
    · exact .inl ⟨m2, by rw [h1]; rfl, h2⟩
    · exact .inr (.inl ⟨by rw [h1], h2, h3⟩)
    · exact .inr (.inr ⟨u2, by rw [h1]; rfl, h2⟩)
theorem turn_line {r : Rec} (hm : mayR r = 0) {u w t : List UInt8} {b c : UInt8} (e : lineR r = u ++ b :: w) (hbc : b ≠ c) : ∀ a q, u ++ c :: (w ++ t) = a ++ (10 : UInt8) :: q → (∀ x ∈ a, x ≠ 10) → readR a = none := by
  intro a q ea ha
  have hro := mayR_ok hm
  have hB10 := body_no hro (.inr rfl)
  have hB35 := body_no hro (.inl rfl)
  have hD10 := decDigits_no (c := 10) (by decide) (chk (bodyR r))
  have hD35 := decDigits_no (c := 35) (by decide) (chk (bodyR r))
  have hS := stamp_no hm
  have eS : stamp (bodyR r) = bodyR r ++ 35 :: decDigits (chk (bodyR r)) := rfl
  have el : lineR r = stamp (bodyR r) ++ 10 :: [] := rfl
  rw [el] at e
  rcases split3 e with ⟨m, h1, h2⟩ | ⟨h1, h2, h3⟩ | ⟨u2, h1, h2⟩
  · -- within the stamp
    subst h2
    rw [eS] at h1
    have ea' : u ++ c :: (m ++ 10 :: t) = a ++ 10 :: q := by rw [← ea]; simp
    rcases split3 h1 with ⟨m2, k1, k2⟩ | ⟨k1, k2, k3⟩ | ⟨u2, k1, k2⟩
    · -- in the body
      have hu10 := no_sub hB10 (m := u) (fun x hx => by rw [k1]; simp [hx])
      have hu35 := no_sub hB35 (m := u) (fun x hx => by rw [k1]; simp [hx])
      have hm10 := no_sub hB10 (m := m2) (fun x hx => by rw [k1]; simp [hx])
      have hm35 := no_sub hB35 (m := m2) (fun x hx => by rw [k1]; simp [hx])
      by_cases c10 : c = 10
      · subst c10
        rw [fst_no hu10 ha ea']
        exact un_a hu35
      · have hp10 : ∀ x ∈ u ++ c :: (m2 ++ 35 :: decDigits (chk (bodyR r))), x ≠ 10 := no_app hu10 (no_cons c10 (no_app hm10 (no_cons (by decide) hD10)))
        have := fst_no (t := t) hp10 ha (by rw [← ea', k2]; simp)
        rw [this]
        by_cases c35 : c = 35
        · subst c35
          refine un_b hu35 fun h4 => ?_
          have : (35 : UInt8) ∈ decDigits (chk u) := by rw [h4]; simp
          exact decDigits_no (c := 35) (by decide) (chk u) _ this rfl
        · rw [show u ++ c :: (m2 ++ 35 :: decDigits (chk (bodyR r))) = (u ++ c :: m2) ++ 35 :: decDigits (chk (bodyR r)) by simp]
          refine un_b (no_app hu35 (no_cons c35 hm35)) fun h4 => ?_
          have h5 := decDigits_inj h4
          rw [k1] at h5
          exact chk_turn (Ne.symm hbc) h5
    · -- the '#'
      subst k1
      subst k2
      by_cases c10 : c = 10
      · subst c10
        rw [fst_no hB10 ha ea']
        exact un_a hB35
      · have hp10 : ∀ x ∈ bodyR r ++ c :: decDigits (chk (bodyR r)), x ≠ 10 := no_app hB10 (no_cons c10 hD10)
        have := fst_no (t := t) hp10 ha (by rw [← ea', k3]; simp)
        rw [this]
        exact un_a (no_app hB35 (no_cons (Ne.symm hbc) hD35))
    · -- in the digits
      subst k1
      have hv10 := no_sub hD10 (m := u2) (fun x hx => by rw [k2]; simp [hx])
      have hm10 := no_sub hD10 (m := m) (fun x hx => by rw [k2]; simp [hx])
      by_cases c10 : c = 10
      · subst c10
        have hp10 : ∀ x ∈ bodyR r ++ 35 :: u2, x ≠ 10 := no_app hB10 (no_cons (by decide) hv10)
        rw [fst_no hp10 ha ea']
        refine un_b hB35 fun h4 => ?_
        rw [k2] at h4
        have := congrArg List.length h4
        simp at this
      · have hp10 : ∀ x ∈ (bodyR r ++ 35 :: u2) ++ c :: m, x ≠ 10 := no_app (no_app hB10 (no_cons (by decide) hv10)) (no_cons c10 hm10)
        have := fst_no (t := t) hp10 ha (by rw [← ea']; simp)
        rw [this, List.append_assoc, List.cons_append]
        refine un_b hB35 fun h4 => ?_
        rw [k2] at h4
        have := List.append_cancel_left h4
        injection this with h5 _
        exact hbc h5
  · -- the newline
    subst h1
    subst h2
    subst h3
    rw [List.nil_append] at ea
    have hX : ∀ x ∈ stamp (bodyR r) ++ [c], x ≠ 10 := no_app hS (no_cons (Ne.symm hbc) (by simp))
    obtain ⟨p, h3, _⟩ := pre_no (t := t) hX (by rw [← ea]; simp)
    rw [h3, eS, List.append_assoc, List.append_assoc, List.cons_append]
    refine un_b hB35 fun h4 => ?_
    have := congrArg List.length h4
    simp at this
  · simp at h2
theorem turn_law {xs : List Rec} {j i : Nat} {c : UInt8} (h : ∀ r ∈ xs, mayR r = 0) (hl : xs.length ≤ 1000) (hj : j < xs.length) (h1 : endN xs j ≤ i) (h2 : i < endN xs (j + 1)) (hc : (linesR xs).getD i 0 ≠ c) : (opn 1000 ((linesR xs).set i c)).2 = endN xs j := by
  have ed : xs.drop j = xs[j] :: xs.drop (j + 1) := List.drop_eq_getElem_cons hj
  have hend : endN xs (j + 1) = endN xs j + (lineR xs[j]).length := by
    unfold endN
    rw [List.take_add_one, lines_app, List.length_append, List.getElem?_eq_getElem hj]
    simp [lines_cons, linesR]
  have e0 : linesR xs = linesR (xs.take j) ++ (lineR xs[j] ++ linesR (xs.drop (j + 1))) := by rw [← lines_cons, ← ed]; exact lines_split
  have hi : i - endN xs j < (lineR xs[j]).length := by omega
  have e1 : lineR xs[j] = (lineR xs[j]).take (i - endN xs j) ++ (lineR xs[j])[i - endN xs j] :: (lineR xs[j]).drop (i - endN xs j + 1) := by
    rw [← List.drop_eq_getElem_cons hi, List.take_append_drop]
  have hlen : ((lineR xs[j]).take (i - endN xs j)).length = i - endN xs j := by rw [List.length_take]; omega
  have eN : (linesR (xs.take j)).length = endN xs j := rfl
  have hb : (linesR xs).getD i 0 = (lineR xs[j])[i - endN xs j] := by
    rw [e0, List.getD_eq_getElem?_getD, List.getElem?_append_right h1, eN, List.getElem?_append_left hi, List.getElem?_eq_getElem hi]; rfl
  have es : (linesR xs).set i c = linesR (xs.take j) ++ ((lineR xs[j]).take (i - endN xs j) ++ c :: ((lineR xs[j]).drop (i - endN xs j + 1) ++ linesR (xs.drop (j + 1)))) := by
    rw [e0, List.set_append_right _ _ h1]
    congr 1
    rw [eN, List.set_append_left _ _ hi]
    conv => lhs; arg 1; rw [e1]
    rw [List.set_append_right _ _ (by rw [hlen]; exact Nat.le_refl _), hlen, Nat.sub_self, List.set_cons_zero, List.append_assoc, List.cons_append]
  rw [es, opn_pref (fun r hr => h r (List.mem_of_mem_take hr)) (by rw [List.length_take]; omega), opn_nil (turn_line (h _ (List.getElem_mem hj)) e1 (by rw [← hb]; exact hc))]
  rfl
end Go.KL

/- A row of bytes by its name; what a book says when it is cut off or turned. -/
namespace Go.KL
open Go.Lib Go.RowKit
variable {P : Program}
theorem FrB.k0 {σ τ : GW} {N : Nat} {v : Value} {xs : List UInt8} (h : FrB σ N v xs) (hs : Stp 0 σ τ) : FrB τ N v xs := h.up hs.le0
theorem FrB.keepL {L : List Nat} {σ τ : GW} {N : Nat} {v : Value} {xs : List UInt8} (h : FrB σ N v xs) (hs : StpL L σ τ) (h1 : 1 ∉ L) (_ : 1 ∉ L) : FrB τ N v xs := h.up (hs.le h1)
section
variable {d : Option Tmp} {ty : TypeId} {pos : String} {af : Array Edge} {g : Option (Nat × Bool)} {a : Act} {σ : GW}
theorem frb_at {N : Nat} {z : Value} {xs : List UInt8} {x : Operand} (hx : a.eval x = z) (h : FrB σ N z xs) : At (Ty.lst Ty.byte xs) σ a x := by
  show Ty.has _ _ (a.eval x)
  rw [hx]; exact h.lst
theorem frb_fr {N : Nat} {z : Value} {xs : List UInt8} {x : Operand} (hx : a.eval x = z) (h : FrB σ N z xs) : At (Ty.frshB N xs) σ a x := by
  show FrB σ N (a.eval x) xs
  rw [hx]; exact h
theorem y_indexFr {x y : Operand} {t e : TypeId} {q z : Value} {b : Nat} {ki : IntKind} {N i : Nat} {xs : List UInt8} (ht : P.underlying t = some (.slice e)) (he : Info P e q 1 b) (h : FrB σ N z xs) (hx : a.eval x = z) (hy : a.eval y = .int ki (i : Int)) (hi : i < xs.length) :
    Yld P ⟨d, .indexAddr t x y, ty, pos, af, g⟩ a σ (Ty.val (cellPtr z i)).pr := by
  obtain ⟨bb, cap, cur, el, lo, hi', rfl, h2, _⟩ := h
  have h1 : (i : Int) < (xs.length : Int) := by omega
  refine Yld.of_run (v := .pointer (some ⟨bb, i, none⟩)) ?_ rfl
  simp only [execOp, hx, hy]
  simp [Instr.indexAt, asIntOf, run_underlying ht, h1, he.size, Addr.add_lit]
  intro h9; omega
theorem y_refeq {x y : Operand} {t u : TypeId} {ts : List Ty} {e : TypeId} (ht : P.underlying t = some (.pointer e)) (h : At (.ref ts) σ a x) (hy : a.eval y = .pointer none) : Yld P ⟨d, .binOp .eql t x y u, ty, pos, af, g⟩ a σ (Ty.bool false).pr := by
  obtain ⟨b, o, hx, _⟩ := h
  have hp : P.underlying t = some (.pointer (P.pointee t)) := by
    have : P.pointee t = e := by simp [Program.pointee, ht]
    rw [this]; exact ht
  have h1 := run_eql_pointer_nil (P := P) (w := σ.w) t (some ⟨b, o, none⟩) hp
  refine Yld.of_run (v := .bool false) ?_ rfl
  simp only [execOp, hx, hy]
  simp_all [eqGuard]
theorem y_xorB {x y : Operand} {t u : TypeId} {p q : UInt8} (hx : At (Ty.byte p) σ a x) (hy : At (Ty.byte q) σ a y) : Yld P ⟨d, .binOp .xor t x y u, ty, pos, af, g⟩ a σ (Ty.byte (p ^^^ q)).pr := by
  have h := y_xor8 (P := P) (d := d) (ty := ty) (pos := pos) (af := af) (g := g) (t := t) (u := u) (σ := σ) (m := p.toNat) (n := q.toNat) hx hy (UInt8.toNat_lt p) (UInt8.toNat_lt q)
  refine h.mono fun _ _ k => ?_
  show _ = Value.int .u8 (((p ^^^ q).toNat : Nat) : Int)
  rw [UInt8.toNat_xor]; exact k
theorem y_xorBN {x y : Operand} {t u : TypeId} {p : UInt8} {n : Nat} (hn : n < 256) (hx : At (Ty.byte p) σ a x) (hy : a.eval y = .int .u8 ((n : Nat) : Int)) : Yld P ⟨d, .binOp .xor t x y u, ty, pos, af, g⟩ a σ (Ty.byte (p ^^^ UInt8.ofNat n)).pr :=
  y_xorB hx (show a.eval y = .int .u8 (((UInt8.ofNat n).toNat : Nat) : Int) by rw [hy, UInt8.toNat_ofNat', Nat.mod_eq_of_lt hn])
end
theorem ofn_ne {n : Nat} (h1 : 1 ≤ n) (h2 : n < 256) : UInt8.ofNat n ≠ 0 := by
  intro e
  have := congrArg UInt8.toNat e
  rw [UInt8.toNat_ofNat'] at this
  have h4 : (0 : UInt8).toNat = 0 := rfl
  omega
theorem xor_ne {x y : UInt8} (h : y ≠ 0) : x ≠ x ^^^ y := by
  intro e
  apply h
  have h1 := congrArg (fun z => x ^^^ z) e
  have h2 : x ^^^ (x ^^^ y) = y := by rw [← UInt8.xor_assoc, UInt8.xor_self, UInt8.zero_xor]
  have h3 : x ^^^ x = 0 := UInt8.xor_self
  exact (h2.symm.trans h1.symm).trans h3
theorem getD_memI {l : List Int} {k : Nat} (h : k < l.length) : l.getD k 0 ∈ l := by
  rw [List.getD_eq_getElem?_getD, List.getElem?_eq_getElem h]; exact List.getElem_mem h
theorem cut_says {xs : List Rec} {j c : Nat} (h : ∀ r ∈ xs, mayR r = 0) (hl : xs.length ≤ 1000) (hj : j ≤ xs.length) (h1 : endN xs j ≤ c) (h2 : j = xs.length ∨ c < endN xs (j + 1)) : linesR (opn 1000 ((linesR xs).take c)).1 = (linesR xs).take (endN xs j) := by
  rw [(opn_lines 1000 _).1, cut_law h hl hj h1 h2, List.take_take, Nat.min_eq_left h1]
theorem turn_says {xs : List Rec} {j i : Nat} {c : UInt8} (h : ∀ r ∈ xs, mayR r = 0) (hl : xs.length ≤ 1000) (hj : j < xs.length) (h1 : endN xs j ≤ i) (h2 : i < endN xs (j + 1)) (hc : (linesR xs).getD i 0 ≠ c) : linesR (opn 1000 ((linesR xs).set i c)).1 = ((linesR xs).set i c).take (endN xs j) := by
  rw [(opn_lines 1000 _).1, turn_law h hl hj h1 h2 hc]
theorem end_next {xs : List Rec} {i j c : Nat} (hi : i = xs.length) (hj : j ≤ i) (hn : ∀ k, j < k → k ≤ i → c < endN xs k) : j = xs.length ∨ c < endN xs (j + 1) := by
  rcases Nat.lt_or_ge j xs.length with h | h
  · exact .inr (hn (j + 1) (by omega) (by omega))
  · exact .inl (by omega)
theorem end_in {xs : List Rec} {i j c : Nat} (hi : i = xs.length) (hj : j ≤ i) (h1 : endN xs j ≤ c) (hc : c < (linesR xs).length) : j < xs.length := by
  rcases Nat.lt_or_ge j xs.length with h | h
  · exact h
  · have := endN_all (xs := xs) h; omega
end Go.KL

