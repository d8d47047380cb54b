/- Words: the enumeration of a group's rows, one behind the other. -/
import Derived.Test.YtkjifbgofckfeaaTopGroupK2
import Derived.Shelf.GgSortFunc.Insertion
import Derived.Shelf.SlSortCmp.Whole1
import Derived.Test.YtkjifbgofckfeaaTopGroupK1
import Derived.Laws.CopyRow
import Derived.Laws.Bits64b
import Derived.Lib.AppendStr
import Derived.Laws.BitsLemmas
import Derived.Lib.IndexLaws
import Derived.Below
namespace Go.KL
open Go.RowKit
section
variable {n i j k T : Nat} {G R W N R2 W2 L : List (List Int)} {r w w' l2 : List Int}
theorem one_prt (hn : 1 ≤ n ∧ n ≤ 12) (hG : ∀ x ∈ G, RowN n x) : PrtP n G [roundsL n] where
  hn := hn
  hG := hG
  row x hx := by rw [List.mem_singleton.1 hx]; exact rounds_rowN hn
  one := by simp
  mul x y hx hy := by rw [List.mem_singleton.1 hx, List.mem_singleton.1 hy, byL_rounds_right (roundsL_len n)]; simp
  inv x hx := by rw [List.mem_singleton.1 hx, undo_rounds hn]; simp
  sub x hx := by rw [List.mem_singleton.1 hx]; exact .one
theorem same_one (hx : RowN n r) (hy : RowN n w) : sameP [roundsL n] r w ↔ r = w := by
  constructor
  · intro h
    have h : byL r (undoL w) = roundsL n := List.mem_singleton.1 h
    have := by_back hx hy
    rw [h, byL_rounds_left hy.bd] at this
    exact this.symm
  · rintro rfl; exact List.mem_singleton.2 (undo_right hx)
theorem fnd_in (hn : 1 ≤ n ∧ n ≤ 12) (hG : ∀ x ∈ G, RowN n x) (hR : Reps n G [roundsL n] R) (hr : RowN n r) (h : r ∈ R) : ∃ k, fndP [roundsL n] R r = some k := by
  obtain ⟨k, hk, rfl⟩ := List.getElem_of_mem h
  have e : R.getD k [] = R[k] := by simp [hk]
  exact ⟨k, fnd_is (one_prt hn hG) hR hr hk (by rw [e]; exact (same_one hr hr).2 rfl)⟩
theorem fnd_out (hn : 1 ≤ n ∧ n ≤ 12) (hG : ∀ x ∈ G, RowN n x) (hR : Reps n G [roundsL n] R) (hr : RowN n r) (h : r ∉ R) : fndP [roundsL n] R r = none := by
  cases e : fndP [roundsL n] R r with
  | none => rfl
  | some k =>
    obtain ⟨h1, h2⟩ := fnd_some e
    have hk := hR.rows (one_prt hn hG) h1
    rw [(same_one hr hk).1 h2] at h
    exact absurd (mem_atD [] h1) h
structure ClX (n : Nat) (G L W : List (List Int)) (i j : Nat) : Prop where
  x : ∃ R0 W0 N0 l2, PrS n G [roundsL n] i R0 W0 N0 ∧ i < R0.length ∧ PrT G [roundsL n] R0 W0 i j L W l2
structure ClY (n : Nat) (G L W : List (List Int)) (i : Nat) : Prop where
  y : ∃ N0, PrS n G [roundsL n] i L W N0
theorem ClY.start : ClY n G [roundsL n] [[]] 0 := ⟨_, PrS.start⟩
theorem ClY.go (h : ClY n G L W i) (hi : i < L.length) : ClX n G L W i 0 := by
  obtain ⟨N0, s⟩ := h.y
  exact ⟨L, W, N0, [], s, hi, PrT.start⟩
theorem ClX.reps (hn : 1 ≤ n ∧ n ≤ 12) (hG : ∀ x ∈ G, RowN n x) (h : ClX n G L W i j) (hj : j ≤ 2 * G.length) : Reps n G [roundsL n] L ∧ W.length = L.length ∧ i < L.length := by
  obtain ⟨R0, W0, N0, l2, s, hi, t⟩ := h.x
  obtain ⟨hR, hwl, _⟩ := s.ok (one_prt hn hG)
  obtain ⟨h1, h2, h3, _⟩ := t.ok (one_prt hn hG) hR hwl hi hj
  exact ⟨h1, h3, by omega⟩
theorem ClX.old (hn : 1 ≤ n ∧ n ≤ 12) (hG : ∀ x ∈ G, RowN n x) (h : ClX n G L W i j) (hj : j < 2 * G.length) (hm : byL (L.getD i []) (ltr G j) ∈ L) : ClX n G L W i (j + 1) := by
  obtain ⟨hR, _, hi'⟩ := h.reps hn hG (by omega)
  obtain ⟨R0, W0, N0, l2, s, hi, t⟩ := h.x
  obtain ⟨k, hk⟩ := fnd_in hn hG hR ((hR.rows (one_prt hn hG) hi').by (ltr_row hG hj).1) hm
  exact ⟨R0, W0, N0, _, s, hi, t.old hk⟩
theorem ClX.new (hn : 1 ≤ n ∧ n ≤ 12) (hG : ∀ x ∈ G, RowN n x) (h : ClX n G L W i j) (hj : j < 2 * G.length) (hm : byL (L.getD i []) (ltr G j) ∉ L) : ClX n G (L ++ [byL (L.getD i []) (ltr G j)]) (W ++ [W.getD i [] ++ [ltrN j]]) i (j + 1) := by
  obtain ⟨hR, _, hi'⟩ := h.reps hn hG (by omega)
  obtain ⟨R0, W0, N0, l2, s, hi, t⟩ := h.x
  exact ⟨R0, W0, N0, _, s, hi, t.new (fnd_out hn hG hR ((hR.rows (one_prt hn hG) hi').by (ltr_row hG hj).1) hm)⟩
theorem ClX.next (h : ClX n G L W i (2 * G.length)) : ClY n G L W (i + 1) := by
  obtain ⟨R0, W0, N0, l2, s, hi, t⟩ := h.x
  exact ⟨_, s.next hi t⟩
def WordOf (n : Nat) (G : List (List Int)) (r w : List Int) : Prop := ∃ i R W k, ClY n G R W i ∧ k < R.length ∧ R.getD k [] = r ∧ W.getD k [] = w
theorem prJ_pre (j : Nat) : ∃ A B, (prJ G [roundsL n] R W i j).1 = R ++ A ∧ (prJ G [roundsL n] R W i j).2.1 = W ++ B := by
  induction j with
  | zero => exact ⟨[], [], by simp [prJ], by simp [prJ]⟩
  | succ j ih =>
    obtain ⟨A, B, a, b⟩ := ih
    cases e : fndP [roundsL n] (prJ G [roundsL n] R W i j).1 (byL ((prJ G [roundsL n] R W i j).1.getD i []) (ltr G j)) with
    | some k => rw [prJ_some e]; exact ⟨A, B, a, b⟩
    | none => rw [prJ_none e]; exact ⟨_, _, by rw [a, List.append_assoc], by rw [b, List.append_assoc]⟩
theorem prI_pre (d : Nat) : ∃ A B, (prI n G [roundsL n] (i + d)).1 = (prI n G [roundsL n] i).1 ++ A ∧ (prI n G [roundsL n] (i + d)).2.1 = (prI n G [roundsL n] i).2.1 ++ B := by
  induction d with
  | zero => exact ⟨[], [], by simp, by simp⟩
  | succ d ih =>
    obtain ⟨A, B, a, b⟩ := ih
    obtain ⟨A', B', a', b'⟩ := prJ_pre (n := n) (G := G) (R := (prI n G [roundsL n] (i + d)).1) (W := (prI n G [roundsL n] (i + d)).2.1) (i := i + d) (2 * G.length)
    refine ⟨A ++ A', B ++ B', ?_, ?_⟩
    · refine Eq.trans a' ?_
      rw [a, List.append_assoc]
    · refine Eq.trans b' ?_
      rw [b, List.append_assoc]
theorem ClY.all (hn : 1 ≤ n ∧ n ≤ 12) (hG : ∀ x ∈ G, RowN n x) (h : ClY n G R W i) (hi : R.length = i) (hr : Cl n (fun y => y ∈ G) r) : ∃ k, k < R.length ∧ R.getD k [] = r := by
  obtain ⟨N0, s⟩ := h.y
  obtain ⟨k, hk, hs⟩ := cover (one_prt hn hG) s hi hr
  obtain ⟨hR, _, _⟩ := s.ok (one_prt hn hG)
  exact ⟨k, hk, ((same_one (hr.row hn hG) (hR.rows (one_prt hn hG) hk)).1 hs).symm⟩
/-! ### A search that goes back -/
structure SpotP (SP : List (List Int × Int × Int)) (R W : List (List Int)) : Prop where
  len : SP.length = R.length
  row : ∀ k, k < R.length → (SP.getD k ([], 0, 0)).1 = R.getD k []
  up : ∀ k, k < R.length → (SP.getD k ([], 0, 0)).2.2 < (k : Int) ∧ -1 ≤ (SP.getD k ([], 0, 0)).2.2
  word : ∀ k, k < R.length → W.getD k [] = if (SP.getD k ([], 0, 0)).2.2 < 0 then [] else W.getD (SP.getD k ([], 0, 0)).2.2.toNat [] ++ [(SP.getD k ([], 0, 0)).2.1]
theorem SpotP.start : SpotP [(roundsL n, 0, -1)] [roundsL n] [[]] := by
  have z : ∀ k, k < [roundsL n].length → k = 0 := fun k hk => by simp at hk; omega
  refine ⟨rfl, fun k hk => ?_, fun k hk => ?_, fun k hk => ?_⟩ <;> (have := z k hk; subst this)
  · rfl
  · exact ⟨by show (-1 : Int) < 0; omega, by show (-1 : Int) ≤ -1; omega⟩
  · rfl
theorem SpotP.new {SP : List (List Int × Int × Int)} (h : SpotP SP R W) (hw : W.length = R.length) (hi : i < R.length) {l : Int} : SpotP (SP ++ [(r, l, (i : Int))]) (R ++ [r]) (W ++ [W.getD i [] ++ [l]]) := by
  have hl := h.len
  have old : ∀ k, k < R.length → (SP ++ [(r, l, (i : Int))]).getD k ([], 0, 0) = SP.getD k ([], 0, 0) := fun k hk => by simp [List.getD_eq_getElem?_getD, List.getElem?_append_left (show k < SP.length by omega)]
  have last : (SP ++ [(r, l, (i : Int))]).getD R.length ([], 0, 0) = (r, l, (i : Int)) := by rw [← hl]; simp [List.getD_eq_getElem?_getD]
  refine ⟨by simp [hl], fun k hk => ?_, fun k hk => ?_, fun k hk => ?_⟩ <;> (rw [List.length_append, List.length_singleton] at hk; by_cases e : k < R.length)
  · rw [old k e, getD_snoc e]; exact h.row k e
  · have : k = R.length := by omega
    subst this; rw [last, getD_last]
  · rw [old k e]; exact h.up k e
  · have : k = R.length := by omega
    subst this; rw [last]; exact ⟨by show (i : Int) < _; omega, by show -1 ≤ (i : Int); omega⟩
  · rw [old k e, getD_snoc (by omega), h.word k e]
    have hu := h.up k e
    split
    · rfl
    · rw [getD_snoc (by omega)]
  · have : k = R.length := by omega
    subst this
    rw [last]
    have e2 : (W ++ [W.getD i [] ++ [l]]).getD R.length [] = W.getD i [] ++ [l] := by rw [← hw]; exact getD_last
    rw [e2, if_neg (by show ¬ (i : Int) < 0; omega)]
    show _ = (W ++ [W.getD i [] ++ [l]]).getD ((i : Int)).toNat [] ++ [l]
    rw [Int.toNat_natCast, getD_snoc (by omega)]
end
end Go.KL

/- Letters, a row turned round, the way back of a search; orbits. -/
namespace Go.KL
open Go.RowKit
/-! ### Letters -/
def lettersL (m : Nat) : List Int := (List.range (2 * m)).map ltrN
theorem lettersL_len (m : Nat) : (lettersL m).length = 2 * m := by simp [lettersL]
theorem lettersL_succ (m : Nat) : lettersL (m + 1) = lettersL m ++ [((m : Nat) : Int) + 1, -((m : Nat) : Int) - 1] := by
  unfold lettersL
  rw [show 2 * (m + 1) = (2 * m + 1) + 1 by omega, List.range_succ, List.range_succ, List.map_append, List.map_append, List.append_assoc]
  congr 1
  have e1 : ltrN (2 * m) = (m : Int) + 1 := by unfold ltrN; rw [if_neg (by omega), show 2 * m / 2 = m by omega]; omega
  have e2 : ltrN (2 * m + 1) = -(m : Int) - 1 := by unfold ltrN; rw [if_pos (by omega), show (2 * m + 1) / 2 = m by omega]; omega
  simp [e1, e2]
theorem lettersL_get {m j : Nat} (hj : j < 2 * m) : (lettersL m).getD j 0 = ltrN j := by simp [lettersL, List.getD_eq_getElem?_getD, hj]
/-! ### Turned round -/
/-! ### The way back -/
def backW (SP : List (List Int × Int × Int)) : Nat → Int → List Int
  | 0, _ => []
  | f + 1, k => if (SP.getD k.toNat ([], 0, 0)).2.2 < 0 then [] else (SP.getD k.toNat ([], 0, 0)).2.1 :: backW SP f (SP.getD k.toNat ([], 0, 0)).2.2
theorem backW_word {SP : List (List Int × Int × Int)} {R W : List (List Int)} (h : SpotP SP R W) : ∀ (f k : Nat), k < f → k < R.length → (backW SP f (k : Int)).reverse = W.getD k []
  | 0, k, h1, _ => by omega
  | f + 1, k, h1, hk => by
    have hu := h.up k hk
    have hw := h.word k hk
    rw [backW, Int.toNat_natCast, hw]
    by_cases h2 : (SP.getD k ([], 0, 0)).2.2 < 0
    · rw [if_pos h2, if_pos h2]; rfl
    · rw [if_neg h2, if_neg h2, List.reverse_cons]
      have := backW_word h f (SP.getD k ([], 0, 0)).2.2.toNat (by omega) (by omega)
      rw [show (((SP.getD k ([], 0, 0)).2.2.toNat : Nat) : Int) = (SP.getD k ([], 0, 0)).2.2 by omega] at this
      rw [this]
/-! ### A number turned about, as it wraps -/
section
variable {P : Program} {d : Option Tmp} {ty t : TypeId} {pos : String} {af : Array Edge} {g : Option (Nat × Bool)} {a : Act} {σ : GW} {x : Operand} {m : Int}
end
end Go.KL

/- A search that goes back: its spots in memory, what it has seen; the word of a row. -/
namespace Go.KL
open Go.RowKit
abbrev Spt := List Int × Int × Int
def spotC (p : Spt) : List Ty := [Ty.lst Ty.int p.1, Ty.int p.2.1, Ty.int p.2.2]
theorem spotOne : ∀ x, ∀ U ∈ spotC x, One U := fun x U hU => by
  simp only [spotC, List.mem_cons, List.not_mem_nil, or_false] at hU
  rcases hU with rfl | rfl | rfl
  · exact one_sl
  · exact one_val rfl
  · exact one_val rfl
section
variable {n i j k T : Nat} {G R W L : List (List Int)} {r w : List Int} {c : Nat → Lev} {f : Int → Option Int} {SP : List Spt}
def SeenI (n : Nat) (R : List (List Int)) (f : Int → Option Int) : Prop := ∀ x, RowN n x → f ((rankL x : Nat) : Int) = if x ∈ R then some 1 else none
theorem SeenI.start (hn : 1 ≤ n ∧ n ≤ 12) : SeenI n [roundsL n] (fun x => if x = ((rankL (roundsL n) : Nat) : Int) then some (1 : Int) else (fun _ => none) x) := fun x hx => by
  by_cases h : x = roundsL n
  · rw [h]; simp
  · have : rankL x ≠ rankL (roundsL n) := fun e => h (rank_eq hx (rounds_rowN hn) e)
    simp only [List.mem_singleton, h, if_false]
    rw [if_neg (by omega)]
theorem SeenI.put (h : SeenI n R f) (hr : RowN n r) : SeenI n (R ++ [r]) (fun p => if p = ((rankL r : Nat) : Int) then some (1 : Int) else f p) := fun x hx => by
  by_cases e : x = r
  · rw [e]; simp
  · have : rankL x ≠ rankL r := fun e' => e (rank_eq hx hr e')
    simp only [List.mem_append, List.mem_singleton, e, or_false]
    rw [if_neg (by omega)]; exact h x hx
theorem SeenI.no (h : SeenI n R f) (hr : RowN n r) (h0 : (f ((rankL r : Nat) : Int)).getD 0 = 0) : r ∉ R := fun hm => by
  rw [h r hr, if_pos hm] at h0; simp at h0
theorem SeenI.yes (h : SeenI n R f) (hr : RowN n r) (h0 : (f ((rankL r : Nat) : Int)).getD 0 ≠ 0) : r ∈ R := Classical.byContradiction fun hm => h0 (by rw [h r hr, if_neg hm]; rfl)
/-! ### The word -/
theorem ClX.few (hn : 1 ≤ n ∧ n ≤ 12) (hG : ∀ x ∈ G, RowN n x) (h : ClX n G L W i j) (hj : j ≤ 2 * G.length) {F : List (List Int)} (hF : EltsOk n G F) : L.length ≤ szTo n (fun y => y ∈ G) n := by
  have := (h.reps hn hG hj).1.few (one_prt hn hG) (by simp) hF
  rw [hF.len] at this
  simpa using this
theorem ClY.few (hn : 1 ≤ n ∧ n ≤ 12) (hG : ∀ x ∈ G, RowN n x) (h : ClY n G L W i) {F : List (List Int)} (hF : EltsOk n G F) : L.length ≤ szTo n (fun y => y ∈ G) n ∧ W.length = L.length := by
  obtain ⟨N0, s⟩ := h.y
  obtain ⟨hR, hwl, _⟩ := s.ok (one_prt hn hG)
  have := hR.few (one_prt hn hG) (by simp) hF
  rw [hF.len] at this
  exact ⟨by simpa using this, hwl⟩
theorem ClY.row (hn : 1 ≤ n ∧ n ≤ 12) (hG : ∀ x ∈ G, RowN n x) (h : ClY n G L W i) (hk : k < L.length) : RowN n (L.getD k []) := by
  obtain ⟨N0, s⟩ := h.y
  exact (s.ok (one_prt hn hG)).1.rows (one_prt hn hG) hk
theorem ClX.row (hn : 1 ≤ n ∧ n ≤ 12) (hG : ∀ x ∈ G, RowN n x) (h : ClX n G L W i j) (hj : j ≤ 2 * G.length) (hk : k < L.length) : RowN n (L.getD k []) := (h.reps hn hG hj).1.rows (one_prt hn hG) hk
theorem ClY.at_ (hn : 1 ≤ n ∧ n ≤ 12) (hG : ∀ x ∈ G, RowN n x) (h : ClY n G L W i) (hi : i ≤ L.length) (hr : Cl n (fun y => y ∈ G) r) (hno : ∀ k, k < i → L.getD k [] ≠ r) : i < L.length := by
  refine Nat.lt_of_not_le fun hle => ?_
  obtain ⟨k, hk, e⟩ := h.all hn hG (by omega) hr
  exact hno k (by omega) e
structure ClS (n : Nat) (G L W : List (List Int)) (i j : Nat) (r : List Int) (SP : List Spt) (f : Int → Option Int) : Prop where
  x : ClX n G L W i j
  sp : SpotP SP L W
  sn : SeenI n L f
  no : ∀ k, k ≤ i → L.getD k [] ≠ r
structure ClO (n : Nat) (G L W : List (List Int)) (i : Nat) (r : List Int) (SP : List Spt) (f : Int → Option Int) : Prop where
  y : ClY n G L W i
  le : i ≤ L.length
  sp : SpotP SP L W
  sn : SeenI n L f
  no : ∀ k, k < i → L.getD k [] ≠ r
theorem ClO.start (hn : 1 ≤ n ∧ n ≤ 12) : ClO n G [roundsL n] [[]] 0 r [(roundsL n, 0, -1)] (fun x => if x = ((rankL (roundsL n) : Nat) : Int) then some (1 : Int) else (fun _ => none) x) := ⟨ClY.start, by simp, SpotP.start, SeenI.start hn, fun k hk => by omega⟩
theorem ClO.in_ (hn : 1 ≤ n ∧ n ≤ 12) (hG : ∀ x ∈ G, RowN n x) (h : ClO n G L W i r SP f) (hr : Cl n (fun y => y ∈ G) r) : i < L.length ∧ i < SP.length ∧ (SP.getD i ([], 0, 0)).1 = L.getD i [] ∧ RowN n (L.getD i []) := by
  have hi := h.y.at_ hn hG h.le hr h.no
  exact ⟨hi, by rw [h.sp.len]; exact hi, h.sp.row i hi, h.y.row hn hG hi⟩
theorem ClO.few (hn : 1 ≤ n ∧ n ≤ 12) (hG : ∀ x ∈ G, RowN n x) (h : ClO n G L W i r SP f) {F : List (List Int)} (hF : EltsOk n G F) : L.length ≤ szTo n (fun y => y ∈ G) n ∧ SP.length = L.length := ⟨(h.y.few hn hG hF).1, h.sp.len⟩
theorem ClO.go (h : ClO n G L W i r SP f) (hi : i < L.length) (hne : L.getD i [] ≠ r) : ClS n G L W i 0 r SP f := ⟨h.y.go hi, h.sp, h.sn, fun k hk => by
  rcases Nat.lt_or_ge k i with h1 | h1
  · exact h.no k h1
  · rw [show k = i by omega]; exact hne⟩
theorem ClS.few (hn : 1 ≤ n ∧ n ≤ 12) (hG : ∀ x ∈ G, RowN n x) (h : ClS n G L W i j r SP f) (hj : j ≤ 2 * G.length) {F : List (List Int)} (hF : EltsOk n G F) : L.length ≤ szTo n (fun y => y ∈ G) n ∧ SP.length = L.length ∧ i < L.length := ⟨h.x.few hn hG hj hF, h.sp.len, (h.x.reps hn hG hj).2.2⟩
theorem ltrN_bd (hj : j < 2 * G.length) : ltrN j ≠ 0 ∧ ltrN j ≤ (G.length : Int) ∧ -(G.length : Int) ≤ ltrN j := by
  unfold ltrN
  by_cases h : j % 2 = 1
  · rw [if_pos h]; omega
  · rw [if_neg h]; omega
theorem genL_ltr (_hj : j < 2 * G.length) : genL G (ltrN j) = KL.ltr G j := by
  unfold genL KL.ltr ltrN
  by_cases h : j % 2 = 1
  · rw [if_pos h, if_pos (by omega), if_pos h]; congr 2; omega
  · rw [if_neg h, if_neg (by omega), if_neg h]; congr 1; omega
theorem ClS.ltr (hn : 1 ≤ n ∧ n ≤ 12) (hG : ∀ x ∈ G, RowN n x) (h : ClS n G L W i j r SP f) (hj : j < 2 * G.length) : RowN n (L.getD i []) ∧ RowN n (genL G (ltrN j)) ∧ genL G (ltrN j) = KL.ltr G j ∧ RowN n (byL (L.getD i []) (KL.ltr G j)) := by
  have hi := (h.x.reps hn hG (by omega)).2.2
  have h1 := h.x.row hn hG (by omega) hi
  have h2 := (ltr_row hG hj).1
  have e : genL G (ltrN j) = KL.ltr G j := genL_ltr hj
  exact ⟨h1, by rw [e]; exact h2, e, h1.by h2⟩
theorem ClS.old (hn : 1 ≤ n ∧ n ≤ 12) (hG : ∀ x ∈ G, RowN n x) (h : ClS n G L W i j r SP f) (hj : j < 2 * G.length) (h0 : (f ((rankL (byL (L.getD i []) (KL.ltr G j)) : Nat) : Int)).getD 0 ≠ 0) : ClS n G L W i (j + 1) r SP f :=
  ⟨h.x.old hn hG hj (h.sn.yes (h.ltr hn hG hj).2.2.2 h0), h.sp, h.sn, h.no⟩
theorem ClS.new (hn : 1 ≤ n ∧ n ≤ 12) (hG : ∀ x ∈ G, RowN n x) (h : ClS n G L W i j r SP f) (hj : j < 2 * G.length) (h0 : (f ((rankL (byL (L.getD i []) (KL.ltr G j)) : Nat) : Int)).getD 0 = 0) :
    ClS n G (L ++ [byL (L.getD i []) (KL.ltr G j)]) (W ++ [W.getD i [] ++ [ltrN j]]) i (j + 1) r (SP ++ [(byL (L.getD i []) (KL.ltr G j), ltrN j, (i : Int))]) (fun p => if p = ((rankL (byL (L.getD i []) (KL.ltr G j)) : Nat) : Int) then some (1 : Int) else f p) := by
  obtain ⟨_, hwl, hi⟩ := h.x.reps hn hG (by omega)
  have hr := (h.ltr hn hG hj).2.2.2
  exact ⟨h.x.new hn hG hj (h.sn.no hr h0), h.sp.new hwl hi, h.sn.put hr, fun k hk => by rw [getD_snoc (by omega)]; exact h.no k hk⟩
theorem ClS.next (hn : 1 ≤ n ∧ n ≤ 12) (hG : ∀ x ∈ G, RowN n x) (h : ClS n G L W i (2 * G.length) r SP f) : ClO n G L W (i + 1) r SP f := ⟨h.x.next, by have := (h.x.reps hn hG (by omega)).2.2; omega, h.sp, h.sn, fun k hk => h.no k (by omega)⟩
theorem ClS.keep (_h : ClS n G L W i j r SP f) (hi : i < L.length) {y z : List Int} (e : L.getD i [] = z) : (L ++ [y]).getD i [] = z := by rw [getD_snoc hi]; exact e
noncomputable def wordE (n : Nat) (c : Nat → Lev) (G : List (List Int)) (r : List Int) : Int := if fitsE n r ≠ 0 then fitsE n r else if hasB n c r = false then 14 else if 5040 < szTo n (fun y => y ∈ G) n then 3 else 0
def WrdP (n : Nat) (c : Nat → Lev) (G : List (List Int)) (r w : List Int) : Prop := (wordE n c G r = 0 → WordOf n G r w) ∧ (wordE n c G r ≠ 0 → w = [])
theorem word_fit (h : fitsE n r ≠ 0) : wordE n c G r = fitsE n r := by unfold wordE; rw [if_pos h]
theorem word_14 (h : fitsE n r = 0) (h2 : hasB n c r = false) : wordE n c G r = 14 := by unfold wordE; rw [if_neg (by omega), if_pos h2]
theorem word_3 (h : fitsE n r = 0) (h2 : hasB n c r = true) (h3 : 5040 < szTo n (fun y => y ∈ G) n) : wordE n c G r = 3 := by unfold wordE; rw [if_neg (by omega), if_neg (by simp [h2]), if_pos h3]
theorem word_0 (h : fitsE n r = 0) (h2 : hasB n c r = true) (h3 : ¬ 5040 < szTo n (fun y => y ∈ G) n) : wordE n c G r = 0 := by unfold wordE; rw [if_neg (by omega), if_neg (by simp [h2]), if_neg h3]
theorem wrdP_no (h : wordE n c G r ≠ 0) : WrdP n c G r [] := ⟨fun e => absurd e h, fun _ => rfl⟩
theorem ClO.word (h : ClO n G L W i r SP f) (hi : i < L.length) (e : L.getD i [] = r) (he : wordE n c G r = 0) : WrdP n c G r (backW SP (i + 1) (i : Int)).reverse :=
  ⟨fun _ => ⟨i, L, W, i, h.y, hi, e, (backW_word h.sp (i + 1) i (by omega) hi).symm⟩, fun e' => absurd he e'⟩
/-! ### The way back, step by step -/
structure BackP (SP : List Spt) (i : Nat) (out : List Int) (q : Nat) : Prop where
  lt : q ≤ i
  eq : backW SP (i + 1) (i : Int) = out ++ backW SP (q + 1) (q : Int)
theorem BackP.start : BackP SP i [] i := ⟨Nat.le_refl _, rfl⟩
theorem backW_more {R W : List (List Int)} (h : SpotP SP R W) : ∀ (f g k : Nat), k < f → k < g → k < R.length → backW SP f (k : Int) = backW SP g (k : Int)
  | 0, _, _, h1, _, _ => by omega
  | _, 0, _, _, h1, _ => by omega
  | f + 1, g + 1, k, h1, h2, hk => by
    have hu := h.up k hk
    rw [backW, backW, Int.toNat_natCast]
    by_cases h3 : (SP.getD k ([], 0, 0)).2.2 < 0
    · rw [if_pos h3, if_pos h3]
    · rw [if_neg h3, if_neg h3]
      have := backW_more h f g (SP.getD k ([], 0, 0)).2.2.toNat (by omega) (by omega) (by omega)
      rw [show (((SP.getD k ([], 0, 0)).2.2.toNat : Nat) : Int) = (SP.getD k ([], 0, 0)).2.2 by omega] at this
      rw [this]
theorem BackP.step {R W : List (List Int)} {out : List Int} {q : Nat} (hs : SpotP SP R W) (hi : i < R.length) (h : BackP SP i out q) (h0 : 0 ≤ (SP.getD q ([], 0, 0)).2.2) : BackP SP i (out ++ [(SP.getD q ([], 0, 0)).2.1]) (SP.getD q ([], 0, 0)).2.2.toNat ∧ (SP.getD q ([], 0, 0)).2.2.toNat < q ∧ (((SP.getD q ([], 0, 0)).2.2.toNat : Nat) : Int) = (SP.getD q ([], 0, 0)).2.2 := by
  have hl := h.lt
  have hu := hs.up q (by omega)
  refine ⟨⟨by omega, ?_⟩, by omega, by omega⟩
  rw [h.eq, backW, Int.toNat_natCast, if_neg (by omega), List.append_assoc]
  congr 1
  have := backW_more hs q ((SP.getD q ([], 0, 0)).2.2.toNat + 1) (SP.getD q ([], 0, 0)).2.2.toNat (by omega) (by omega) (by omega)
  rw [show (((SP.getD q ([], 0, 0)).2.2.toNat : Nat) : Int) = (SP.getD q ([], 0, 0)).2.2 by omega] at this ⊢
  rw [this]; rfl
theorem BackP.done {out : List Int} {q : Nat} (h : BackP SP i out q) (h0 : (SP.getD q ([], 0, 0)).2.2 < 0) : out = backW SP (i + 1) (i : Int) := by
  rw [h.eq, backW, Int.toNat_natCast, if_pos h0, List.append_nil]
theorem BackP.len {R W : List (List Int)} {out : List Int} {q : Nat} (hs : SpotP SP R W) (hi : i < R.length) (h : BackP SP i out q) : out.length ≤ i + 1 := by
  have hb : ∀ (f : Nat) (k : Int), (backW SP f k).length ≤ f := fun f => by
    induction f with
    | zero => intro k; simp [backW]
    | succ f ih => intro k; rw [backW]; split <;> simp_all
  have := hb (i + 1) (i : Int)
  rw [h.eq, List.length_append] at this
  omega
end
end Go.KL

/- Lists compared; a world that a reader leaves behind. -/
namespace Go.KL
open Go.RowKit Go.Sort
def cmpI (x y : Int) : Int := if x < y then -1 else if y < x then 1 else 0
def cmpL : List Int → List Int → Int
  | [], [] => 0
  | [], _ :: _ => -1
  | _ :: _, [] => 1
  | x :: a, y :: b => if cmpI x y ≠ 0 then cmpI x y else cmpL a b
theorem cmpI_zero {x y : Int} : cmpI x y = 0 ↔ x = y := by unfold cmpI; split <;> (try split) <;> omega
theorem cmpI_neg {x y : Int} : cmpI x y < 0 ↔ x < y := by unfold cmpI; split <;> (try split) <;> omega
theorem cmpL_lt : ∀ a b : List Int, decide (cmpL a b < 0) = belowL a b
  | [], [] => rfl
  | [], _ :: _ => by simp [cmpL, belowL]
  | _ :: _, [] => by simp [cmpL, belowL]
  | x :: a, y :: b => by
    rw [cmpL, belowL]
    by_cases h : x = y
    · rw [if_neg (by rw [Classical.not_not]; exact cmpI_zero.2 h), if_pos h]; exact cmpL_lt a b
    · rw [if_pos (fun e => h (cmpI_zero.1 e)), if_neg h, decide_eq_decide]; exact cmpI_neg
theorem cmp_step {a b : List Int} {i : Nat} {z : Int} (h : cmpL (a.drop i) (b.drop i) = z) (h1 : i < a.length) (h2 : i < b.length) (e : ¬ cmpI (a.getD i 0) (b.getD i 0) ≠ 0) : cmpL (a.drop (i + 1)) (b.drop (i + 1)) = z := by
  rw [drop_consD 0 h1, drop_consD 0 h2, cmpL, if_neg e] at h; exact h
theorem cmp_ne {a b : List Int} {i : Nat} {z : Int} (h : cmpL (a.drop i) (b.drop i) = z) (h1 : i < a.length) (h2 : i < b.length) (e : cmpI (a.getD i 0) (b.getD i 0) ≠ 0) : cmpI (a.getD i 0) (b.getD i 0) = z := by
  rw [drop_consD 0 h1, drop_consD 0 h2, cmpL, if_pos e] at h; exact h
theorem cmp_long {a b : List Int} {i : Nat} {z : Int} (h : cmpL (a.drop i) (b.drop i) = z) (h1 : i < a.length) (h2 : b.length ≤ i) : z = 1 := by
  rw [drop_consD 0 h1, List.drop_eq_nil_of_le h2, cmpL] at h; exact h.symm
theorem cmp_short {a b : List Int} {i : Nat} {z : Int} (h : cmpL (a.drop i) (b.drop i) = z) (h1 : a.length ≤ i) (h2 : i < b.length) : z = -1 := by
  rw [drop_consD 0 h2, List.drop_eq_nil_of_le h1, cmpL] at h; exact h.symm
theorem cmp_same {a b : List Int} {i : Nat} {z : Int} (h : cmpL (a.drop i) (b.drop i) = z) (h1 : a.length ≤ i) (h2 : b.length ≤ i) : z = 0 := by
  rw [List.drop_eq_nil_of_le h1, List.drop_eq_nil_of_le h2, cmpL] at h; exact h.symm
end Go.KL

/- slices.SortFunc of a row of lists that is owned, the comparison one that leaves the world as it is. -/
namespace Go.KL
open Go.RowKit Go.Sort Go.Shelf Go.Lib Go.Proofs
variable {P : Program}
def Elt (σ : GW) : Type := { p : Value × List Int // (Ty.ints p.2).has σ p.1 }
instance (σ : GW) : Inhabited (Elt σ) := ⟨⟨(.slice none 0 0, []), nil_has rfl⟩⟩
def Elt.enc {σ : GW} (x : Elt σ) : Value := x.1.1
def Elt.cf {σ : GW} (x y : Elt σ) : Int := cmpL x.1.2 y.1.2
theorem Elt.lt {σ : GW} (x y : Elt σ) : ltOf Elt.cf x y = belowL x.1.2 y.1.2 := cmpL_lt _ _
theorem Elt.swo (σ : GW) : SWO (ltOf (Elt.cf (σ := σ))) where
  irrefl x := by rw [Elt.lt, below_irr]
  trans x y z h1 h2 := by rw [Elt.lt] at *; exact below_trans h1 h2
  ntrans x y z h1 h2 := by
    rw [Elt.lt] at *
    have := leL_trans z.1.2 y.1.2 x.1.2 (by unfold leL; rw [h2]; rfl) (by unfold leL; rw [h1]; rfl)
    unfold leL at this; simpa using this
theorem Elt.one {σ : GW} : OneCell (Elt.enc (σ := σ)) := fun x => by
  obtain ⟨_, _, _, _, e, _⟩ := x.2
  unfold Elt.enc; rw [e]; rfl
theorem heap_sortWorld {α : Type} [Inhabited α] {enc : α → Value} {w : World} {blk off m : Nat} {dk : Array α} {os : Array Obj} {b : Nat} (hb : b < w.heap.size) : (sortWorld enc w blk off m dk os).heap[b]? = if blk = b then (w.heap[b]?).map (onCells (putCells enc off dk)) else w.heap[b]? := by
  unfold sortWorld
  rw [heap_grow_old _ _ (by simpa using hb)]
  unfold putRow mapBlock
  simp only [Array.getElem?_modify, heap_ahead]
theorem size_sortWorld {α : Type} [Inhabited α] {enc : α → Value} {w : World} {blk off m : Nat} {dk : Array α} {os : Array Obj} : w.heap.size ≤ (sortWorld enc w blk off m dk os).heap.size := by
  unfold sortWorld; rw [size_grow, Sort.size_putRow]; simp only [heap_ahead]; omega
theorem m_sortP {d : Option Tmp} {ty : TypeId} {pos : String} {af : Array Edge} {gd : Option (Nat × Bool)} {a : Act} {σ : GW} {f g : FuncId} {fn : Func} {x : Operand} {tys : Array TypeId} {k : Nat} {e : TypeId} {v : Value} {D : List (List Int)} (hk : 2 ≤ k) (h : Own σ k e 1 v D.length (D.map Ty.ints)) (hx : a.eval x = v) (hD : D.length < 4611686018427387904)
    (hf : P.funcs[f]? = some fn) (hn : (fn.name == "runtime.NumGoroutine") = false) (hb : fn.body.isSome = true)
    (hS : ∀ (α : Type) [Inhabited α] (enc : α → Value), OneCell enc → ∀ (cf : α → α → Int), SWO (ltOf cf) → ∀ (blk off cap : Nat) (d : Array α) (w : World), CmpLays1 P g #[] enc cf blk off d.size w → Holds enc w blk off d → blk < w.heap.size → d.size < 4611686018427387904 →
      Calls P f #[.slice (some ⟨blk, off, none⟩) d.size cap, .func (.func g) #[] #[]] w fun e w' => e = .returned (.tuple #[]) ∧ ∃ d' n os, PermIn 0 d.size d d' ∧ SortedIn (ltOf cf) 0 d.size d' ∧ w' = sortWorld enc w blk off n d' os)
    (hN : ∀ (p : Option Addr) (cap : Nat) (fv : Value) (w : World), Calls P f #[.slice p 0 cap, fv] w fun e w' => e = .returned (.tuple #[]) ∧ w' = w)
    (hcmp : ∀ (σ : GW) (u w : Value) (xs ys : List Int), (Ty.ints xs).has σ u → (Ty.ints ys).has σ w → Calls P g #[u, w] σ.w fun e w' => e = .returned (.int .i64 (cmpL xs ys)) ∧ w' = σ.w) :
    YldL [k] P ⟨d, .call ⟨.value (.func f), #[x, .func g], tys⟩, ty, pos, af, gd⟩ a σ (fun _ τ => ∃ S : List (List Int), S.Perm D ∧ S.Pairwise (fun x y => leL x y = true) ∧ Own τ k e 1 v D.length (S.map Ty.ints)) := by
  intro K Q hk'
  have hr : (execOp a.eval ⟨d, .call ⟨.value (.func f), #[x, .func g], tys⟩, ty, pos, af, gd⟩).run P σ.w = .ok (.enter f #[v, .func (.func g) #[] #[]]) σ.w := by
    have hn' : ¬ fn.name = "runtime.NumGoroutine" := by simpa using hn
    have hb' : ¬ fn.body = none := by intro e; simp [e] at hb
    simp only [execOp, resolve, List.map_toArray, List.map_cons, List.map_nil, hx]
    simp [Act.eval, Deferred.ofValue, invoke, callFunc, hf, hn', hb', program, Sem.run, Sem.run_bind]
  unfold Oper.wp
  rw [hr]
  obtain ⟨us, ⟨hl, hc⟩, hl2, hty, hst⟩ := h
  rcases hc with ⟨rfl, hn0⟩ | ⟨gb, cap, cur, rfl, _, hg, hnc, hcm, hcs, htk⟩
  · refine Calls.mono (hN none 0 _ σ.w) ?_
    rintro e' w' ⟨rfl, rfl⟩
    have hD0 : D = [] := List.eq_nil_of_length_eq_zero hn0
    subst hD0
    exact hk' _ σ (StpL.refl _ _) ⟨[], List.Perm.refl _, List.Pairwise.nil, us, ⟨hl, .inl ⟨rfl, rfl⟩⟩, hl2, hty, hst⟩
  · have hgk := hst gb rfl
    have hgs := (Array.getElem?_eq_some_iff.1 hg).1
    rw [Nat.mul_one] at hl hcs htk
    rw [List.length_map] at hl2
    have hel : ∀ i : Fin D.length, (Ty.ints (D[i.1]'i.2)).has σ (us[i.1]'(by omega)) := fun i => hty i.1 _ _ (by simp) (by simp [hl])
    let dd : Array (Elt σ) := (List.ofFn fun i : Fin D.length => (⟨(us[i.1]'(by omega), D[i.1]'i.2), hel i⟩ : Elt σ)).toArray
    have hds : dd.size = D.length := by show (List.ofFn _).length = _; exact List.length_ofFn
    have hdg : ∀ j (hj : j < D.length), dd[j]! = ⟨(us[j]'(by omega), D[j]), hel ⟨j, hj⟩⟩ := fun j hj => by
      rw [getElem!_pos dd j (by omega)]; show (List.ofFn _)[j]'_ = _; exact List.getElem_ofFn _
    have hcu : ∀ j, j < D.length → cur[j]? = us[j]? := fun j hj => by
      rw [← htk, List.getElem?_take, if_pos hj]; simp
    have hH : Holds (Elt.enc (σ := σ)) σ.w gb 0 dd := fun j hj => by
      rw [hds] at hj
      rw [Nat.zero_add]
      constructor
      · rw [hdg j hj]
        simp only [World.cell?, hg]
        rw [hcu j hj]
        simp [Elt.enc, show j < us.length by omega]
      · simp [World.frozen?, hg]
    have hC : CmpLays1 P g #[] (Elt.enc (σ := σ)) Elt.cf gb 0 dd.size σ.w := fun m os dk _ x y => by
      let σ' : GW := ⟨sortWorld Elt.enc σ.w gb 0 m dk os, fun b => if σ.st b = 1 then 1 else 0, fun b hb => by
        refine Nat.lt_of_lt_of_le (σ.lt b ?_) size_sortWorld
        intro e; rw [e] at hb; simp at hb⟩
      have hle : σ.Le σ' := ⟨fun b hb => by show (if σ.st b = 1 then 1 else 0) = 1; rw [if_pos hb], fun b hb => by
        have := σ.lt b (by omega)
        show (sortWorld _ _ _ _ _ _ _).heap[b]? = _
        rw [heap_sortWorld this, if_neg (by rintro rfl; omega)]⟩
      refine Calls.mono (hcmp σ' x.1.1 y.1.1 x.1.2 y.1.2 (Ty.up _ hle x.2) (Ty.up _ hle y.2)) ?_
      rintro e' w' ⟨rfl, rfl⟩
      exact ⟨rfl, 0, #[], by rw [grow_empty]; rfl⟩
    have hcon := hS (Elt σ) Elt.enc Elt.one Elt.cf (Elt.swo σ) gb 0 cap dd σ.w hC hH hgs (by omega)
    rw [hds] at hcon
    refine Calls.mono hcon ?_
    rintro e' w' ⟨rfl, d', n', os, ⟨p1, _, p3⟩, hso, rfl⟩
    have hex : ∀ q : Array (Elt σ), q.size = D.length → (q.extract 0 D.length).toList = q.toList := fun q hq => by
      rw [← hq, Array.extract_size]
    rw [hex d' (by omega), hex dd hds] at p3
    have hmap : dd.toList.map (fun z => z.1.2) = D := by
      apply List.ext_getElem
      · rw [List.length_map]; exact hds
      · intro i h1 h2
        have h3 := hdg i h2
        rw [getElem!_pos dd i (by omega)] at h3
        rw [List.getElem_map, Array.getElem_toList, h3]
    have hlt : ∀ b, b < σ.w.heap.size → b < (sortWorld Elt.enc σ.w gb 0 n' d' os).heap.size := fun b hb => Nat.lt_of_lt_of_le hb size_sortWorld
    let ρ : GW := ⟨sortWorld Elt.enc σ.w gb 0 n' d' os, fun b => σ.st b, fun b hb => hlt b (σ.lt b hb)⟩
    have hne : ∀ b, σ.st b ≠ k → gb ≠ b := fun b hb e => hb (e ▸ hgk)
    have hst2 : StpL [k] σ ρ := ⟨rfl, rfl, rfl, by (refine .inl ?_; show σ.w.drawn ≤ σ.w.drawn + n'; omega), size_sortWorld, fun b hb hm => by
      show (sortWorld _ _ _ _ _ _ _).heap[b]? = _
      rw [heap_sortWorld hb, if_neg (hne b (by simpa using hm))], fun _ _ _ => rfl⟩
    refine hk' _ ρ hst2 ⟨d'.toList.map (fun z => z.1.2), ?_, ?_, ?_⟩
    · have := p3.map (fun z : Elt σ => z.1.2)
      rwa [hmap] at this
    · rw [List.pairwise_map, List.pairwise_iff_getElem]
      intro i j hi hj hij
      have hj' : j < d'.size := by simpa using hj
      have := hso i j (Nat.zero_le _) hij (by omega)
      rw [getElem!_pos d' i (by omega), getElem!_pos d' j hj', Elt.lt] at this
      unfold leL
      simp only [Array.getElem_toList, this, Bool.not_false]
    · have hd's : d'.size = D.length := by omega
      have hg2 : ρ.w.heap[gb]? = some (.cells (putCells Elt.enc 0 d' cur) e (0, 0)) := by
        show (sortWorld _ _ _ _ _ _ _).heap[gb]? = _
        rw [heap_sortWorld hgs, if_pos rfl, hg]; rfl
      have htake : (putCells Elt.enc 0 d' cur).toList.take (D.length * 1) = d'.toList.map Elt.enc := by
        rw [Nat.mul_one]
        apply List.ext_getElem
        · simp [putCells]; omega
        · intro i h1 h2
          simp only [List.length_map, Array.length_toList] at h2
          simp [putCells, h2]
      refine Own.intro (us := d'.toList.map Elt.enc) hg2 hgk hnc hcm (by simp [putCells, hcs]) htake (by simp) fun j T u hT hu => ?_
      rw [List.getElem?_map, List.getElem?_map] at hT
      rw [List.getElem?_map] at hu
      obtain ⟨z, hz⟩ : ∃ z, d'.toList[j]? = some z := by
        cases hq : d'.toList[j]? with
        | none => rw [hq] at hu; simp at hu
        | some z => exact ⟨z, rfl⟩
      rw [hz] at hT hu
      simp at hT hu
      subst hT; subst hu
      exact Ty.up _ (hst2.le (by simp; omega)) z.2
end Go.KL

/- A row of numbers that is owned, written in its place by the library. -/
namespace Go.KL
open Go.RowKit Go.Sort Go.Shelf Go.Lib Go.Proofs
def sortI (xs : List Int) : List Int := xs.mergeSort fun x y => decide (x ≤ y)
theorem own_ints {σ : GW} {k : Nat} {e : TypeId} {v : Value} {xs : List Int} (_hk : 2 ≤ k) (h : Own σ k e 1 v xs.length (xs.map Ty.int)) : (v = .slice none 0 0 ∧ xs = []) ∨
    ∃ gb cap, v = .slice (some ⟨gb, 0, none⟩) xs.length cap ∧ gb < σ.w.heap.size ∧ Holds (Value.int .i64) σ.w gb 0 xs.toArray ∧
      ∀ (ys : List Int) (m : Nat) (os : Array Obj), ys.length = xs.length → ∃ τ : GW, τ.w = sortWorld (Value.int .i64) σ.w gb 0 m ys.toArray os ∧ StpL [k] σ τ ∧ Own τ k e 1 v ys.length (ys.map Ty.int) := by
  obtain ⟨us, ⟨hl, hc⟩, hl2, hty, hst⟩ := h
  rcases hc with ⟨rfl, hn0⟩ | ⟨gb, cap, cur, rfl, _, hg, hnc, hcm, hcs, htk⟩
  · exact .inl ⟨rfl, List.eq_nil_of_length_eq_zero hn0⟩
  · refine .inr ⟨gb, cap, rfl, ?_⟩
    have hgk := hst gb rfl
    have hgs := (Array.getElem?_eq_some_iff.1 hg).1
    rw [Nat.mul_one] at hl hcs htk
    rw [List.length_map] at hl2
    have hel : ∀ i (hi : i < xs.length), us[i]? = some (Value.int .i64 xs[i]) := fun i hi => by
      have hu : us[i]? = some (us[i]'(by omega)) := by simp [hl, hi]
      have := hty i (Ty.int xs[i]) (us[i]'(by omega)) (by simp [hi]) hu
      have e2 : us[i]'(by omega) = Value.int .i64 xs[i] := this
      rw [hu, e2]
    have hcu : ∀ j, j < xs.length → cur[j]? = us[j]? := fun j hj => by
      rw [← htk, List.getElem?_take, if_pos hj]; simp
    refine ⟨hgs, fun j hj => ?_, fun ys m os hys => ?_⟩
    · have hj : j < xs.length := by simpa using hj
      rw [Nat.zero_add]
      constructor
      · simp only [World.cell?, hg]
        rw [hcu j hj, hel j hj]
        simp [hj]
      · simp [World.frozen?, hg]
    · have hlt : ∀ b, b < σ.w.heap.size → b < (sortWorld (Value.int .i64) σ.w gb 0 m ys.toArray os).heap.size := fun b hb => Nat.lt_of_lt_of_le hb size_sortWorld
      let ρ : GW := ⟨sortWorld (Value.int .i64) σ.w gb 0 m ys.toArray os, fun b => σ.st b, fun b hb => hlt b (σ.lt b hb)⟩
      have hne : ∀ b, σ.st b ≠ k → gb ≠ b := fun b hb e => hb (e ▸ hgk)
      have hst2 : StpL [k] σ ρ := ⟨rfl, rfl, rfl, by (refine .inl ?_; show σ.w.drawn ≤ σ.w.drawn + m; omega), size_sortWorld, fun b hb hm => by
        show (sortWorld _ _ _ _ _ _ _).heap[b]? = _
        rw [heap_sortWorld hb, if_neg (hne b (by simpa using hm))], fun _ _ _ => rfl⟩
      refine ⟨ρ, rfl, hst2, ?_⟩
      have hg2 : ρ.w.heap[gb]? = some (.cells (putCells (Value.int .i64) 0 ys.toArray cur) e (0, 0)) := by
        show (sortWorld _ _ _ _ _ _ _).heap[gb]? = _
        rw [heap_sortWorld hgs, if_pos rfl, hg]; rfl
      have htake : (putCells (Value.int .i64) 0 ys.toArray cur).toList.take (xs.length * 1) = ys.map (Value.int .i64) := by
        rw [Nat.mul_one]
        apply List.ext_getElem
        · simp [putCells]; omega
        · intro i h1 h2
          simp only [List.length_map] at h2
          simp [putCells, h2]
      have := Own.intro (σ := ρ) (us := ys.map (Value.int .i64)) (n := xs.length) (ts := ys.map Ty.int) hg2 hgk hnc hcm (by simp [putCells, hcs]) htake (by simp) (fun j T u hT hu => by
        simp only [List.getElem?_map, Option.map_eq_some_iff] at hT hu
        obtain ⟨x, hx, rfl⟩ := hT
        obtain ⟨y, hy, rfl⟩ := hu
        rw [hx] at hy; cases hy
        exact rfl)
      rw [hys]; exact this
end Go.KL

/- Orbits: which bells come to each other's places. -/
namespace Go.KL
open Go.RowKit
section
variable {n i j k b q : Nat} {G L R : List (List Int)} {o S : List Int} {r : List Int}
def InO (n : Nat) (G : List (List Int)) (b q : Nat) : Prop := ∃ r, Cl n (fun y => y ∈ G) r ∧ r.getD b 0 = (q : Int)
theorem InO.refl (hb : b < n) : InO n G b b := ⟨roundsL n, .one, roundsL_get hb⟩
theorem InO.trans (hn : 1 ≤ n ∧ n ≤ 12) (hG : ∀ x ∈ G, RowN n x) (hb : b < n) (h : InO n G b q) (h2 : InO n G q k) : InO n G b k := by
  obtain ⟨r, hr, e⟩ := h
  obtain ⟨s, hs, e2⟩ := h2
  refine ⟨byL s r, hs.prod hn hG hr, ?_⟩
  rw [byL_get _ _ _ (by rw [(hr.row hn hG).len]; exact hb), e, Int.toNat_natCast, e2]
theorem InO.symm (hn : 1 ≤ n ∧ n ≤ 12) (hG : ∀ x ∈ G, RowN n x) (hb : b < n) (h : InO n G b q) : InO n G q b := by
  obtain ⟨r, hr, e⟩ := h
  have hrr := hr.row hn hG
  refine ⟨undoL r, hr.undo hn hG, ?_⟩
  have h1 : byL (undoL r) r = roundsL n := undo_left hrr
  have h2 : (byL (undoL r) r).getD b 0 = (b : Int) := by rw [h1]; exact roundsL_get hb
  rwa [byL_get _ _ _ (by rw [hrr.len]; exact hb), e, Int.toNat_natCast] at h2
open Classical in
noncomputable def orbT (n : Nat) (G : List (List Int)) (b m : Nat) : List Int := ((List.range m).filter fun k => decide (InO n G b k)).map fun (k : Nat) => (k : Int)
open Classical in
noncomputable def orbsL (n : Nat) (G : List (List Int)) (m : Nat) : List (List Int) := ((List.range m).filter fun b => decide (∀ k, k < b → ¬ InO n G b k)).map fun b => orbT n G b n
theorem orbT_mem {m : Nat} {x : Int} : x ∈ orbT n G b m ↔ ∃ k : Nat, x = (k : Int) ∧ k < m ∧ InO n G b k := by
  unfold orbT
  simp only [List.mem_map, List.mem_filter, List.mem_range, decide_eq_true_eq]
  constructor
  · rintro ⟨k, ⟨h1, h2⟩, rfl⟩; exact ⟨k, rfl, h1, h2⟩
  · rintro ⟨k, rfl, h1, h2⟩; exact ⟨k, ⟨h1, h2⟩, rfl⟩
theorem orbT_lt {m : Nat} : (orbT n G b m).Pairwise (· < ·) := by
  unfold orbT
  rw [List.pairwise_map]
  exact ((List.pairwise_lt_range).filter _).imp fun h => by omega
theorem orbT_len {m : Nat} : (orbT n G b m).length ≤ m := by
  unfold orbT
  rw [List.length_map]
  exact Nat.le_trans (List.length_filter_le _ _) (by simp)
theorem orbs_yes (h : ∀ k, k < b → ¬ InO n G b k) : orbsL n G (b + 1) = orbsL n G b ++ [orbT n G b n] := by
  unfold orbsL; rw [List.range_succ, List.filter_append, List.map_append]
  simp only [List.filter_cons, List.filter_nil]
  rw [if_pos (by simpa using h)]; rfl
theorem orbs_no (h : ¬ ∀ k, k < b → ¬ InO n G b k) : orbsL n G (b + 1) = orbsL n G b := by
  unfold orbsL; rw [List.range_succ, List.filter_append, List.map_append]
  simp only [List.filter_cons, List.filter_nil]
  rw [if_neg (by simpa using h)]; simp
theorem orbs_len {m : Nat} : (orbsL n G m).length ≤ m := by
  unfold orbsL
  rw [List.length_map]
  exact Nat.le_trans (List.length_filter_le _ _) (by simp)
theorem orbs_mem {m : Nat} {l : List Int} (h : l ∈ orbsL n G m) : ∃ b, b < m ∧ l = orbT n G b n := by
  unfold orbsL at h
  simp only [List.mem_map, List.mem_filter, List.mem_range] at h
  obtain ⟨b, ⟨h1, _⟩, rfl⟩ := h
  exact ⟨b, h1, rfl⟩
theorem sortI_eq {xs ys : List Int} (h1 : xs.Nodup) (h2 : ys.Pairwise (· < ·)) (h : ∀ x, x ∈ xs ↔ x ∈ ys) : sortI xs = ys := by
  have hp : (sortI xs).Perm xs := List.mergeSort_perm _ _
  have hs : (sortI xs).Pairwise (fun x y => decide (x ≤ y) = true) := List.pairwise_mergeSort (by intro a b c; simp; omega) (by intro a b; simp; omega) xs
  have hp2 : xs.Perm ys := (List.perm_ext_iff_of_nodup h1 (h2.imp fun h => by omega)).2 h
  exact List.Perm.eq_of_pairwise (le := fun x y => decide (x ≤ y) = true) (fun a b _ _ h1 h2 => by simp at h1 h2; omega) hs (h2.imp fun h => by simp; omega) (hp.trans hp2)
/-! ### What is seen of those that are done -/
structure SnO (n : Nat) (G : List (List Int)) (b : Nat) (S : List Int) : Prop where
  len : S.length = n
  v : ∀ k, k < n → 0 ≤ S.getD k 0 ∧ S.getD k 0 ≤ 1
  i : ∀ k, k < n → (S.getD k 0 ≠ 0 ↔ ∃ b', b' < b ∧ InO n G b' k)
theorem SnO.start : SnO n G 0 (List.replicate n 0) where
  len := by simp
  v k hk := by simp [hk]
  i k hk := by simp [hk]
theorem SnO.skip (hn : 1 ≤ n ∧ n ≤ 12) (hG : ∀ x ∈ G, RowN n x) (h : SnO n G b S) (hb : b < n) (h0 : S.getD b 0 > 0) : SnO n G (b + 1) S ∧ orbsL n G (b + 1) = orbsL n G b := by
  obtain ⟨b', h1, h2⟩ := (h.i b hb).1 (by omega)
  refine ⟨⟨h.len, h.v, fun k hk => (h.i k hk).trans ⟨fun ⟨c, h3, h4⟩ => ⟨c, by omega, h4⟩, fun ⟨c, h3, h4⟩ => ?_⟩⟩, orbs_no fun h => h b' h1 (h2.symm hn hG (by omega))⟩
  rcases Nat.lt_or_ge c b with h5 | h5
  · exact ⟨c, h5, h4⟩
  · obtain rfl : c = b := by omega
    exact ⟨b', h1, h2.trans hn hG (by omega) h4⟩
structure OBf (n : Nat) (G : List (List Int)) (b : Nat) (o S : List Int) (i j : Nat) : Prop where
  len : S.length = n
  lt : b < n
  new : ¬ ∃ b', b' < b ∧ InO n G b' b
  nd : o.Nodup
  mem : ∀ x ∈ o, ∃ k : Nat, x = (k : Int) ∧ k < n ∧ InO n G b k
  z : (b : Int) ∈ o
  v : ∀ k, k < n → 0 ≤ S.getD k 0 ∧ S.getD k 0 ≤ 1
  sn : ∀ k, k < n → (S.getD k 0 ≠ 0 ↔ (∃ b', b' < b ∧ InO n G b' k) ∨ (k : Int) ∈ o)
  il : i ≤ o.length
  cl : ∀ a, a < i → ∀ x ∈ G, x.getD (o.getD a 0).toNat 0 ∈ o
  clj : ∀ a, a < j → (G.getD a []).getD (o.getD i 0).toNat 0 ∈ o
theorem OBf.start (h : SnO n G b S) (hb : b < n) (h0 : ¬ S.getD b 0 > 0) : OBf n G b [(b : Int)] (S.set b (S.getD b 0 + 1)) 0 0 := by
  have hv := h.v b hb
  have hl := h.len
  have hz : S.getD b 0 = 0 := by omega
  refine ⟨by rw [List.length_set, hl], hb, fun h' => absurd ((h.i b hb).2 h') (by omega), by simp, fun x hx => ⟨b, by simpa using hx, hb, InO.refl hb⟩, by simp, fun k hk => ?_, fun k hk => ?_, by simp, fun a ha => by omega, fun a ha => by omega⟩
  · by_cases e : k = b
    · rw [e, gtSetSelf (by omega), hz]; omega
    · rw [gtSetNe (fun e' => e e'.symm)]; exact h.v k hk
  · by_cases e : k = b
    · subst e; rw [gtSetSelf (by omega), hz]; simp
    · rw [gtSetNe (fun e' => e e'.symm), h.i k hk]
      have : (k : Int) ∉ [(b : Int)] := by simp; omega
      simp [this]
theorem OBf.olen (h : OBf n G b o S i j) : o.length ≤ n := nodup_len n o h.nd fun x hx => by
  obtain ⟨k, rfl, hk, _⟩ := h.mem x hx
  omega
theorem OBf.at_ (h : OBf n G b o S i j) (hi : i < o.length) : 0 ≤ o.getD i 0 ∧ o.getD i 0 < n := by
  obtain ⟨k, e, hk, _⟩ := h.mem _ (mem_atD 0 hi)
  omega
theorem OBf.img (hn : 1 ≤ n ∧ n ≤ 12) (hG : ∀ x ∈ G, RowN n x) (h : OBf n G b o S i j) (hi : i < o.length) {x : List Int} (hx : x ∈ G) : ∃ k : Nat, x.getD (o.getD i 0).toNat 0 = (k : Int) ∧ k < n ∧ InO n G b k := by
  obtain ⟨q, e, hq, hO⟩ := h.mem _ (mem_atD 0 hi)
  rw [e, Int.toNat_natCast]
  have := (hG x hx).at hq
  refine ⟨(x.getD q 0).toNat, by omega, by omega, hO.trans hn hG h.lt ⟨x, Cl.gen (S := fun y => y ∈ G) hG hx, by omega⟩⟩
theorem OBf.old (hn : 1 ≤ n ∧ n ≤ 12) (hG : ∀ x ∈ G, RowN n x) (h : OBf n G b o S i j) (hi : i < o.length) (hj : j < G.length) (h0 : S.getD ((G.getD j []).getD (o.getD i 0).toNat 0).toNat 0 ≠ 0) : OBf n G b o S i (j + 1) := by
  obtain ⟨k, e, hk, hO⟩ := h.img hn hG hi (mem_atD [] hj)
  refine ⟨h.len, h.lt, h.new, h.nd, h.mem, h.z, h.v, h.sn, h.il, h.cl, fun a ha => ?_⟩
  by_cases ea : a = j
  · rw [ea, e]
    rw [e, Int.toNat_natCast, h.sn k hk] at h0
    rcases h0 with ⟨b', h1, h2⟩ | h1
    · exact absurd ⟨b', h1, h2.trans hn hG (by have := h.lt; omega) (hO.symm hn hG h.lt)⟩ h.new
    · exact h1
  · exact h.clj a (by omega)
theorem OBf.put (hn : 1 ≤ n ∧ n ≤ 12) (hG : ∀ x ∈ G, RowN n x) (h : OBf n G b o S i j) (hi : i < o.length) (hj : j < G.length) (h0 : S.getD ((G.getD j []).getD (o.getD i 0).toNat 0).toNat 0 = 0) :
    OBf n G b (o ++ [(G.getD j []).getD (o.getD i 0).toNat 0]) (S.set ((G.getD j []).getD (o.getD i 0).toNat 0).toNat (S.getD ((G.getD j []).getD (o.getD i 0).toNat 0).toNat 0 + 1)) i (j + 1) := by
  obtain ⟨k, e, hk, hO⟩ := h.img hn hG hi (mem_atD [] hj)
  have hl := h.len
  rw [e, Int.toNat_natCast] at h0 ⊢
  have hno : (k : Int) ∉ o := fun hm => by have := (h.sn k hk).2 (.inr hm); omega
  have hgt : (o ++ [(k : Int)]).getD i 0 = o.getD i 0 := by simp [List.getD_eq_getElem?_getD, List.getElem?_append_left hi]
  refine ⟨by rw [List.length_set, hl], h.lt, h.new, ?_, fun x hx => ?_, List.mem_append_left _ h.z, fun m hm => ?_, fun m hm => ?_, by rw [List.length_append]; have := h.il; omega, fun a ha x hx => ?_, fun a ha => ?_⟩
  · rw [List.nodup_append]
    exact ⟨h.nd, by simp, fun a ha c hc => by rw [List.mem_singleton] at hc; rintro rfl; exact hno (hc ▸ ha)⟩
  · rcases List.mem_append.1 hx with hx | hx
    · exact h.mem x hx
    · exact ⟨k, by simpa using hx, hk, hO⟩
  · by_cases em : m = k
    · rw [em, gtSetSelf (by omega), h0]; omega
    · rw [gtSetNe (fun e' => em e'.symm)]; exact h.v m hm
  · by_cases em : m = k
    · subst em; rw [gtSetSelf (by omega), h0]; simp
    · rw [gtSetNe (fun e' => em e'.symm), h.sn m hm]
      have : ((m : Int) = (k : Int)) ↔ False := ⟨fun h => em (by omega), False.elim⟩
      simp [this]
  · have hal := h.il
    have : (o ++ [(k : Int)]).getD a 0 = o.getD a 0 := by simp [List.getD_eq_getElem?_getD, List.getElem?_append_left (show a < o.length by omega)]
    rw [this]; exact List.mem_append_left _ (h.cl a ha x hx)
  · rw [hgt]
    by_cases ea : a = j
    · rw [ea, e]; simp
    · exact List.mem_append_left _ (h.clj a (by omega))
theorem OBf.next (h : OBf n G b o S i G.length) (hi : i < o.length) : OBf n G b o S (i + 1) 0 :=
  ⟨h.len, h.lt, h.new, h.nd, h.mem, h.z, h.v, h.sn, by omega, fun a ha x hx => by
    by_cases e : a = i
    · rw [e]
      obtain ⟨c, hc, rfl⟩ := List.getElem_of_mem hx
      have := h.clj c hc
      simpa [List.getD_eq_getElem?_getD, hc] using this
    · exact h.cl a (by omega) x hx, fun a ha => by omega⟩
theorem OBf.all (hn : 1 ≤ n ∧ n ≤ 12) (hG : ∀ x ∈ G, RowN n x) (h : OBf n G b o S o.length j) (hr : Cl n (fun y => y ∈ G) r) : r.getD b 0 ∈ o := by
  induction hr with
  | one => rw [roundsL_get h.lt]; exact h.z
  | @mul x y hx hy ih =>
    have hyr := hy.row hn hG
    rw [byL_get _ _ _ (by rw [hyr.len]; exact h.lt)]
    obtain ⟨a, ha, e⟩ := List.getElem_of_mem ih
    have := h.cl a ha x hx
    rwa [show o.getD a 0 = y.getD b 0 by rw [← e]; simp [ha]] at this
theorem OBf.done (hn : 1 ≤ n ∧ n ≤ 12) (hG : ∀ x ∈ G, RowN n x) (h : OBf n G b o S i j) (hi : i = o.length) : sortI o = orbT n G b n ∧ SnO n G (b + 1) S ∧ orbsL n G (b + 1) = orbsL n G b ++ [orbT n G b n] := by
  subst hi
  have hm : ∀ k : Nat, k < n → ((k : Int) ∈ o ↔ InO n G b k) := fun k hk => ⟨fun hk' => by
    obtain ⟨m, e, _, hO⟩ := h.mem _ hk'
    obtain rfl : k = m := by omega
    exact hO, fun ⟨r, hr, e⟩ => e ▸ h.all hn hG hr⟩
  refine ⟨sortI_eq h.nd orbT_lt fun x => ?_, ⟨h.len, h.v, fun k hk => ?_⟩, orbs_yes fun k hk hO => h.new ⟨k, hk, hO.symm hn hG h.lt⟩⟩
  · rw [orbT_mem]
    constructor
    · intro hx
      obtain ⟨k, rfl, hk, hO⟩ := h.mem x hx
      exact ⟨k, rfl, hk, hO⟩
    · rintro ⟨k, rfl, hk, hO⟩
      exact (hm k hk).2 hO
  · rw [h.sn k hk, hm k hk]
    constructor
    · rintro (⟨b', h1, h2⟩ | h1)
      · exact ⟨b', by omega, h2⟩
      · exact ⟨b, by omega, h1⟩
    · rintro ⟨b', h1, h2⟩
      rcases Nat.lt_or_ge b' b with h3 | h3
      · exact .inl ⟨b', h3, h2⟩
      · obtain rfl : b' = b := by omega
        exact .inr h2
/-! ### The document's orbits -/
end
end Go.KL

/- Those that leave a bell in its place: by a chain whose first base is this bell. -/
namespace Go.KL
open Go.RowKit
section
variable {n b i j : Nat} {G K : List (List Int)} {x y r : List Int} {c d tc : Nat → Lev}
def swapL (n b : Nat) : List Int := ((roundsL n).set 0 (b : Int)).set b 0
theorem swap_len : (swapL n b).length = n := by unfold swapL; rw [List.length_set, List.length_set, roundsL_len]
theorem swap_get (hb : b < n) {k : Nat} (hk : k < n) : (swapL n b).getD k 0 = if k = 0 then (b : Int) else if k = b then 0 else (k : Int) := by
  unfold swapL
  by_cases h1 : k = b
  · subst h1
    rw [gtSetSelf (by rw [List.length_set, roundsL_len]; exact hk)]
    by_cases h2 : k = 0
    · subst h2; rfl
    · rw [if_neg h2, if_pos rfl]
  · rw [gtSetNe (fun e => h1 e.symm)]
    by_cases h2 : k = 0
    · subst h2; rw [gtSetSelf (by rw [roundsL_len]; exact hk), if_pos rfl]
    · rw [gtSetNe (fun e => h2 e.symm), roundsL_get hk, if_neg h2, if_neg h1]
theorem swap_back (hb : b < n) {k : Nat} (hk : k < n) : (swapL n b).getD ((swapL n b).getD k 0).toNat 0 = (k : Int) := by
  rw [swap_get hb hk]
  by_cases h1 : k = 0
  · subst h1
    rw [if_pos rfl, Int.toNat_natCast, swap_get hb hb]
    by_cases h2 : b = 0
    · subst h2; rfl
    · rw [if_neg h2, if_pos rfl]; rfl
  · rw [if_neg h1]
    by_cases h2 : k = b
    · subst h2
      rw [if_pos rfl, show (0 : Int).toNat = 0 from rfl, swap_get hb (by omega), if_pos rfl]
    · rw [if_neg h2, Int.toNat_natCast, swap_get hb hk, if_neg h1, if_neg h2]
theorem swap_twice (hb : b < n) : byL (swapL n b) (swapL n b) = roundsL n := by
  refine ext0 (by rw [byL_len, swap_len, roundsL_len]) fun k hk => ?_
  rw [byL_len, swap_len] at hk
  rw [byL_get _ _ _ (by rw [swap_len]; exact hk), swap_back hb hk, roundsL_get hk]
theorem swap_lt (hb : b < n) {k : Nat} (hk : k < n) : 0 ≤ (swapL n b).getD k 0 ∧ (swapL n b).getD k 0 < n := by
  rw [swap_get hb hk]
  by_cases h1 : k = 0
  · rw [if_pos h1]; omega
  · rw [if_neg h1]
    by_cases h2 : k = b
    · rw [if_pos h2]; omega
    · rw [if_neg h2]; omega
theorem swap_row (hn : 1 ≤ n ∧ n ≤ 12) (hb : b < n) : RowN n (swapL n b) := by
  have hl := swap_len (n := n) (b := b)
  refine ⟨⟨by omega, by omega, fun k hk => ?_⟩, hl⟩
  rw [hl] at hk
  have hm : (k : Int) ∈ swapL n b := by
    have h1 := swap_lt hb hk
    have := mem_atD (l := swapL n b) 0 (show ((swapL n b).getD k 0).toNat < (swapL n b).length by omega)
    rwa [swap_back hb hk] at this
  have hnd : (swapL n b).Nodup := by
    rw [List.nodup_iff_pairwise_ne, List.pairwise_iff_getElem]
    intro u v hu hv huv e
    have e1 : (swapL n b).getD u 0 = (swapL n b).getD v 0 := by simp [List.getD_eq_getElem?_getD, hu, hv, e]
    have h1 := swap_back hb (show u < n by omega)
    rw [e1, swap_back hb (show v < n by omega)] at h1
    omega
  have h1 := List.count_pos_iff.2 hm
  have h2 := List.nodup_iff_count.1 hnd (k : Int)
  omega
def turnL (n b : Nat) (x : List Int) : List Int := byL (swapL n b) (byL x (swapL n b))
variable (hn : 1 ≤ n ∧ n ≤ 12) (hb : b < n)
include hn hb
theorem turn_row (hx : RowN n x) : RowN n (turnL n b x) := (swap_row hn hb).by (hx.by (swap_row hn hb))
theorem turn_mul (hx : RowN n x) (hy : RowN n y) : turnL n b (byL x y) = byL (turnL n b x) (turnL n b y) := by
  have hs := swap_row hn hb
  unfold turnL
  rw [← by_as _ (hx.by hs) (hs.by (hy.by hs)), ← by_as x hs (hs.by (hy.by hs)), by_as _ hs (hy.by hs), swap_twice hb, byL_rounds_left (hy.by hs).bd, by_as x hy hs]
theorem turn_one : turnL n b (roundsL n) = roundsL n := by
  unfold turnL; rw [byL_rounds_left (swap_row hn hb).bd, swap_twice hb]
theorem turn_turn (hx : RowN n x) : turnL n b (turnL n b x) = x := by
  have hs := swap_row hn hb
  unfold turnL
  rw [← by_as _ (hx.by hs) hs, ← by_as x hs hs, swap_twice hb, byL_rounds_right hx.len, by_as _ hs hx, swap_twice hb, byL_rounds_left hx.bd]
theorem turn_zero (hx : RowN n x) : (turnL n b x).getD 0 0 = 0 ↔ x.getD b 0 = (b : Int) := by
  have hs := swap_row hn hb
  have h0 : (swapL n b).getD 0 0 = (b : Int) := by rw [swap_get hb (by omega), if_pos rfl]
  unfold turnL
  rw [byL_get _ _ _ (by rw [byL_len, swap_len]; omega), byL_get _ _ _ (by rw [swap_len]; omega), h0, Int.toNat_natCast]
  have hx0 := hx.at hb
  constructor
  · intro h
    have h1 := swap_back hb (show (x.getD b 0).toNat < n by omega)
    rw [h, show (0 : Int).toNat = 0 from rfl, h0] at h1
    omega
  · intro h
    rw [h, Int.toNat_natCast, swap_get hb hb]
    by_cases e : b = 0
    · rw [if_pos e, e]; rfl
    · rw [if_neg e, if_pos rfl]
theorem turn_cl (hG : ∀ x ∈ G, RowN n x) (hK : ∀ x ∈ K, RowN n x) (h : ∀ x ∈ G, Cl n (fun y => y ∈ K) (turnL n b x)) (hr : Cl n (fun y => y ∈ G) r) : Cl n (fun y => y ∈ K) (turnL n b r) := by
  induction hr with
  | one => rw [turn_one hn hb]; exact .one
  | @mul x y hx hy ih =>
    rw [turn_mul hn hb (hG x hx) (hy.row hn hG)]
    exact (h x hx).prod hn hK ih
omit hn hb in
structure StI (n b : Nat) (G : List (List Int)) (tc : Nat → Lev) (j i : Nat) (K : List (List Int)) (c : Nat → Lev) : Prop where
  of : ChnOf n K c
  row : ∀ x ∈ K, RowN n x
  sub : ∀ x ∈ K, Cl n (fun y => y ∈ G) x ∧ x.getD b 0 = (b : Int)
  cov : ∀ l, 1 ≤ l → l ≤ j → ∀ s ∈ (tc l).gens, Cl n (fun y => y ∈ K) (turnL n b s)
  cur : ∀ a, a < i → Cl n (fun y => y ∈ K) (turnL n b ((tc (1 + j)).gens.getD a []))
  len : K.length ≤ j * 1000000 + i
omit hn hb in
theorem StI.start (h : ChnOf n [] c) : StI n b G tc 0 0 [] c := ⟨h, fun x hx => (by cases hx), fun x hx => (by cases hx), fun l h1 h2 => by omega, fun a ha => by omega, by simp⟩
omit hn hb in
theorem lev_gens (hT : ChnOf n (G.map (turnL n b)) tc) (hl : j < n) : (tc j).gens.length ≤ 1000000 := by
  have := hT.room j (Nat.zero_le _) hl
  have h2 : 0 ≤ (j - 0 + 1) * miss n tc 0 := Nat.zero_le _
  omega
theorem StI.at_ (hG : ∀ x ∈ G, RowN n x) (hT : ChnOf n (G.map (turnL n b)) tc) (hj : j + 1 < n) (hi : i < (tc (1 + j)).gens.length) :
    RowN n ((tc (1 + j)).gens.getD i []) ∧ RowN n (turnL n b ((tc (1 + j)).gens.getD i [])) ∧ Cl n (fun y => y ∈ G) (turnL n b ((tc (1 + j)).gens.getD i [])) ∧ (turnL n b ((tc (1 + j)).gens.getD i [])).getD b 0 = (b : Int) := by
  have hM : ∀ x ∈ G.map (turnL n b), RowN n x := fun x hx => by
    obtain ⟨y, hy, rfl⟩ := List.mem_map.1 hx
    exact turn_row hn hb (hG y hy)
  have hm := mem_atD [] hi
  have hs := ((hT.wc.lev (1 + j) (by omega)).gen _ hm)
  have hcl : Cl n (GS tc (1 + j)) ((tc (1 + j)).gens.getD i []) := Cl.gen (S := GS tc (1 + j)) (hT.wc.gs (by omega)) hm
  have h0 : Cl n (GS tc 0) ((tc (1 + j)).gens.getD i []) := Good.dn hT.wc (1 + j) 0 hT.good (by omega) (by simpa using hcl)
  have h1 := (hT.cl _).1 h0
  have h2 : Cl n (fun y => y ∈ G) (turnL n b ((tc (1 + j)).gens.getD i [])) := turn_cl hn hb hM hG (fun x hx => by
    obtain ⟨y, hy, rfl⟩ := List.mem_map.1 hx
    rw [turn_turn hn hb (hG y hy)]
    exact Cl.gen (S := fun y => y ∈ G) hG hy) h1
  have h3 := turn_row hn hb hs.1
  refine ⟨hs.1, h3, h2, ?_⟩
  rw [← turn_zero hn hb h3, turn_turn hn hb hs.1]
  exact hs.2 0 (by omega)
omit hb hn in
theorem StI.old (h : StI n b G tc j i K c) (hm : Cl n (fun y => y ∈ K) (turnL n b ((tc (1 + j)).gens.getD i []))) : StI n b G tc j (i + 1) K c := ⟨h.of, h.row, h.sub, h.cov, fun a ha => by
  by_cases e : a = i
  · rw [e]; exact hm
  · exact h.cur a (by omega), by have := h.len; omega⟩
omit hb hn in
theorem StI.new (h : StI n b G tc j i K c) (hx : RowN n x) (e : turnL n b ((tc (1 + j)).gens.getD i []) = x) (h1 : Cl n (fun y => y ∈ G) x) (h2 : x.getD b 0 = (b : Int)) (ha : AddP n 0 x c d) : StI n b G tc j (i + 1) (K ++ [x]) d := by
  have hn := h.of.wc.nn
  have hK : ∀ y ∈ K ++ [x], RowN n y := fun y hy => by
    rcases List.mem_append.1 hy with hy | hy
    · exact h.row y hy
    · rw [List.mem_singleton.1 hy]; exact hx
  have up : ∀ z, Cl n (fun y => y ∈ K) z → Cl n (fun y => y ∈ K ++ [x]) z := fun z hz => hz.sub hn hK fun y hy => Cl.gen (S := fun y => y ∈ K ++ [x]) hK (List.mem_append_left _ hy)
  refine ⟨h.of.add h.row hx ha, hK, fun y hy => ?_, fun l a1 a2 s hs => up _ (h.cov l a1 a2 s hs), fun a ha' => ?_, by rw [List.length_append, List.length_singleton]; have := h.len; omega⟩
  · rcases List.mem_append.1 hy with hy | hy
    · exact h.sub y hy
    · rw [List.mem_singleton.1 hy]; exact ⟨h1, h2⟩
  · by_cases ea : a = i
    · rw [ea, e]; exact Cl.gen (S := fun y => y ∈ K ++ [x]) hK (by simp)
    · exact up _ (h.cur a (by omega))
omit hb hn in
theorem StI.next (h : StI n b G tc j (tc (1 + j)).gens.length K c) (hl : (tc (1 + j)).gens.length ≤ 1000000) : StI n b G tc (j + 1) 0 K c := ⟨h.of, h.row, h.sub, fun l h1 h2 s hs => by
  by_cases e : l = 1 + j
  · subst e
    obtain ⟨a, ha, rfl⟩ := List.getElem_of_mem hs
    have := h.cur a ha
    simpa [List.getD_eq_getElem?_getD, ha] using this
  · exact h.cov l h1 (by omega) s hs, fun a ha => by omega, (by have h2 := h.len; rw [Nat.add_mul, Nat.one_mul]; exact Nat.le_trans h2 (Nat.add_le_add_left hl _))⟩
omit hn hb in
structure StlP (n b : Nat) (G K : List (List Int)) (c : Nat → Lev) : Prop where
  of : ChnOf n K c
  row : ∀ x ∈ K, RowN n x
  cl : ∀ r, Cl n (fun y => y ∈ K) r ↔ Cl n (fun y => y ∈ G) r ∧ r.getD b 0 = (b : Int)
  len : K.length ≤ 12000000
theorem StI.done (hG : ∀ x ∈ G, RowN n x) (hT : ChnOf n (G.map (turnL n b)) tc) (h : StI n b G tc j 0 K c) (hj : j + 1 = n) : StlP n b G K c := by
  refine ⟨h.of, h.row, fun r => ⟨fun hr => ?_, fun ⟨hr, hf⟩ => ?_⟩, by have := h.len; omega⟩
  · refine ⟨hr.sub hn hG fun y hy => (h.sub y hy).1, ?_⟩
    induction hr with
    | one => exact roundsL_get hb
    | @mul x y hx hy ih =>
      rw [byL_get _ _ _ (by rw [(hy.row hn h.row).len]; exact hb), ih, Int.toNat_natCast, (h.sub x hx).2]
  · have hM : ∀ x ∈ G.map (turnL n b), RowN n x := fun x hx => by
      obtain ⟨y, hy, rfl⟩ := List.mem_map.1 hx
      exact turn_row hn hb (hG y hy)
    have hrr := hr.row hn hG
    have htr := turn_row hn hb hrr
    have h1 : Cl n (fun y => y ∈ G.map (turnL n b)) (turnL n b r) := turn_cl hn hb hG hM (fun x hx => Cl.gen (S := fun y => y ∈ G.map (turnL n b)) hM (List.mem_map.2 ⟨x, hx, rfl⟩)) hr
    have hfx : Fx 1 (turnL n b r) := fun k hk => by
      obtain rfl : k = 0 := by omega
      exact (turn_zero hn hb hrr).2 hf
    have h2 := (hT.has htr).2 h1
    rw [mem_down hT.wc (by omega) htr hfx] at h2
    have h3 := (hT.good 1 (by omega) (by omega) _ htr hfx).1 h2
    have hg1 : ∀ x ∈ (tc 1).gens, RowN n x := fun x hx => (hT.wc.gs (k := 1) (by omega)) x hx
    have h4 := turn_cl hn hb hg1 h.row (fun s hs => by
      by_cases e : n = 1
      · have := hT.wc.top; rw [e] at this; rw [this] at hs; cases hs
      · exact h.cov 1 (Nat.le_refl _) (by omega) s hs) h3
    rwa [turn_turn hn hb hrr] at h4
end
end Go.KL

/- Groups, as the document says: what the law's functions ask of words, orbits and stabilisers. -/
namespace Go.KL
open Go.RowKit
section
variable {n b i : Nat} {G K R W E F : List (List Int)} {r w : List Int} {c d : Nat → Lev} {z : Int}
/-! ### Those that stay -/
theorem getD_i64 (h : ∀ x ∈ w, -9223372036854775808 ≤ x ∧ x ≤ 9223372036854775807) (j : Nat) : -9223372036854775808 ≤ w.getD j 0 ∧ w.getD j 0 ≤ 9223372036854775807 := by
  rcases Nat.lt_or_ge j w.length with hj | hj
  · exact h _ (mem_atD 0 hj)
  · rw [List.getD_eq_getElem?_getD, List.getElem?_eq_none hj]; simp
end
end Go.KL

/- Rows that share an array: 'append' leaves alone what is ahead. -/
namespace Go.KL
open Go.RowKit
variable {P : Program}

variable {d : Option Tmp} {ty : TypeId} {pos : String} {af : Array Edge} {g : Option (Nat × Bool)} {a : Act} {σ : GW}

end Go.KL

/- 'append' to a fresh empty row, in any order with what stands beside it. -/
namespace Go.KL
open Go.RowKit
variable {P : Program}

theorem own_append0 {σ : GW} {k : Nat} {t ty e : TypeId} {z : Value} {c by_ : Nat} {v src : Value} {n m : Nat} {ts us : List Ty} (hk : 2 ≤ k) (ht : P.underlying t = some (.slice e)) (he : Info P e z c by_) (hz : z.cells.size = c) (hc : 0 < c)
    (h : Own σ k e c v n ts) (hx : (Ty.sl c m us).has σ src) (h1 : ∀ U, U ∈ us → One U) (hlen : n + m ≤ 9223372036854775807) (hbytes : (n + m) * by_ ≤ 140737488355328) (hv0 : ∃ ad, v = .slice ad n 0) :
    ∃ v' τ, (Builtin.append_ #[t, t] ty #[v, src]).run P σ.w = .ok v' τ.w ∧ Stp 0 σ τ ∧ Own τ k e c v' (n + m) (ts ++ us) := by
  have h0 := h
  obtain ⟨vs, r1, r2, r3, r4⟩ := h
  obtain ⟨ad, cap0, b, o, rfl, hcap0, hl, hs, hcl⟩ := hx
  obtain ⟨i, hi, hi1, rfl, rfl⟩ := he.get
  obtain ⟨ws, w1, w2, w3⟩ := sl_news hcl
  have hone : ∀ u ∈ ws, u.oneCell' = true := fun u hu => by
    obtain ⟨j, hj⟩ := List.mem_iff_getElem?.1 hu
    obtain ⟨T, hT⟩ : ∃ T, us[j]? = some T := ⟨us[j]'(by rw [← w1]; exact (List.getElem?_eq_some_iff.1 hj).1), by simp⟩
    exact h1 T (List.mem_of_getElem? hT) σ u (w3 j T u hT hj)
  have hlw : ws.length = m * i.size := by rw [w1]; exact hl
  have hl' : (vs ++ ws).length = (ts ++ us).length := by simp [r2, w1]
  -- a new array
  have new : ∀ (old : Nat) (τw : World), old < n + m → τw = σ.w.drew.alloc (.cells (vs.toArray ++ ws.toArray ++ Builtin.zeroCells z.cells (grownCap σ.w (n + m) old e - (n + m))) e) →
      ∃ τ : GW, τ.w = τw ∧ Stp 0 σ τ ∧ Own τ k e i.size (.slice (some ⟨σ.w.heap.size, 0, none⟩) (n + m) (grownCap σ.w (n + m) old e)) (n + m) (ts ++ us) := by
    intro old τw _ hτ
    subst hτ
    have hge := grownCap_ge σ.w (n + m) old e
    have hcm : grownCap σ.w (n + m) old e ≤ maxLen := grownCap_le_maxLen σ.w (n + m) old e hlen
    have hstp : Stp 0 σ (σ.drew.mk' k (.cells (vs.toArray ++ ws.toArray ++ Builtin.zeroCells z.cells (grownCap σ.w (n + m) old e - (n + m))) e)) := (Stp.drew σ).trans (Stp.mk' σ.drew k _)
    refine ⟨_, rfl, hstp, Own.intro (us := vs ++ ws) (heap_alloc_new σ.w.drew _) (by show (if _ = _ then k else _) = k; rw [if_pos]; rfl) hge hcm ?_ ?_ hl' ?_⟩
    · simp only [Array.size_append, List.size_toArray, size_zeroCells, hz, r1.1, hlw, ← Nat.add_mul]
      congr 1; omega
    · simp only [Array.toList_append, List.append_assoc]
      rw [← List.append_assoc, show (n + m) * i.size = (vs ++ ws).length by rw [List.length_append, r1.1, hlw, Nat.add_mul]]
      exact List.take_left
    · exact typed_append r2 (fun j T u hT hu => T.up hstp.le0 (r3 j T u hT hu)) (fun j T u hT hu => T.up hstp.le0 (w3 j T u hT hu))
  rcases r1.2 with ⟨rfl, rfl⟩ | ⟨g, cap, cur, rfl, _, hg, hn, hm, hcs, htk⟩
  · have hvs : vs = [] := List.eq_nil_of_length_eq_zero (by rw [r1.1]; simp)
    by_cases hm0 : m = 0
    · subst hm0
      have hus : us = [] := List.eq_nil_of_length_eq_zero (by rw [hl]; simp)
      subst hus
      refine ⟨.slice none 0 0, σ, ?_, Stp.refl _ _, by simpa using h0⟩
      cases ad <;> simp [Builtin.append_, run_underlying ht, sizeOf, typeInfo, hi, Builtin.lenOf, Builtin.firstCells, loadCells, loadCellsFrom]
    · have hus : us ≠ [] := by
        intro e; subst e
        have : 0 < m * i.size := Nat.mul_pos (by omega) hc
        simp only [List.length_nil] at hl
        omega
      obtain ⟨rfl, hst⟩ := hs.resolve_left hus
      have hr := run_append_nil (P := P) σ.w t ty e i z ht hi hi1 ⟨b, o, none⟩ m cap0 ws hlw (fun j u hj => by rw [Addr.add_lit]; exact w2 j u hj) (by omega) (by omega) (by simp only [Nat.zero_add] at hbytes; omega)
      obtain ⟨τ, e1, e2, e3⟩ := new 0 _ (by omega) rfl
      simp only [Nat.zero_add] at e1 e3 ⊢
      exact ⟨_, τ, by rw [hr, e1, hvs]; simp, e2, e3⟩
  · have hlt : g < σ.w.heap.size := (Array.getElem?_eq_some_iff.1 hg).1
    have hgk := r4 g rfl
    by_cases hnone : ad = none
    · subst hnone
      have hus : us = [] := hs.resolve_right (fun h => by cases h.1)
      have hm0 : m = 0 := by
        subst hus
        rcases Nat.eq_zero_or_pos m with h | h
        · exact h
        · have : 0 < m * i.size := Nat.mul_pos h hc
          simp only [List.length_nil] at hl
          omega
      subst hm0; subst hus
      refine ⟨_, σ, ?_, Stp.refl _ _, by simpa using h0⟩
      simp [Builtin.append_, run_underlying ht, sizeOf, typeInfo, hi, Builtin.lenOf, Builtin.firstCells, hn, storeCells, loadCells]
    · obtain ⟨ad', rfl⟩ := Option.ne_none_iff_exists'.1 hnone
      have hnews : ∀ (j : Nat) (u : Value), ws[j]? = some u → σ.w.cell? (ad'.add j) = some u := fun j u hj => by
        rcases hs with rfl | ⟨he', _⟩
        · have : ws = [] := List.eq_nil_of_length_eq_zero w1
          subst this; simp at hj
        · cases he'; rw [Addr.add_lit]; exact w2 j u hj
      have hcap : cap = 0 := by
        obtain ⟨ad0, e0⟩ := hv0
        cases e0; rfl
      by_cases hroom : n + m ≤ cap
      · have hm0 : m = 0 := by omega
        have hn0 : n = 0 := by omega
        have hfit : n * i.size + ws.length ≤ cur.size := by rw [hlw, hcs, ← Nat.add_mul]; exact Nat.mul_le_mul_right _ hroom
        have hr := run_append_room (P := P) σ.w t ty e i ht hi g n cap cur hg ad' m cap0 ws hlw hnews hone hroom hfit
        have hc0 : cur.size = 0 := by rw [hcs, hcap, Nat.zero_mul]
        have hw0 : ws = [] := List.eq_nil_of_length_eq_zero (by rw [hlw, hm0, Nat.zero_mul])
        have hcur : (cur.toList.take (n * i.size) ++ ws ++ cur.toList.drop (n * i.size + ws.length)).toArray = cur := by
          have : cur = #[] := Array.eq_empty_of_size_eq_zero hc0
          subst this; subst hw0; simp
        rw [hcur] at hr
        have hstp : Stp 0 σ (σ.setRow g cur) := ⟨rfl, rfl, rfl, Dr.refl _, by simp [GW.setRow, World.setRow], fun b hb _ => by
          by_cases e : b = g
          · subst e; rw [hg]; exact setRow_heap σ.w b cur cur _ (0, 0) hg
          · exact setRow_other σ.w g b cur e, fun _ _ _ => rfl⟩
        refine ⟨_, _, hr, hstp, Own.intro (us := vs ++ ws) (setRow_heap σ.w g cur _ e (0, 0) hg) hgk hroom hm hcs ?_ hl' ?_⟩
        · rw [hw0, List.append_nil, hm0, Nat.add_zero]; exact htk
        · exact typed_append r2 (fun j T u hT hu => T.up hstp.le0 (r3 j T u hT hu)) (fun j T u hT hu => T.up hstp.le0 (w3 j T u hT hu))
      · have holds : ∀ (j : Nat) (u : Value), vs[j]? = some u → σ.w.cell? ((⟨g, 0, none⟩ : Addr).add j) = some u := r1.cells (g := g) rfl
        have hr := run_append_grow (P := P) σ.w t ty e i z ht hi hi1 ⟨g, 0, none⟩ n cap vs r1.1 holds ad' m cap0 ws hlw hnews (by omega) (by omega) (growslice_fits (by omega) hbytes)
        obtain ⟨τ, e1, e2, e3⟩ := new cap _ (by omega) rfl
        exact ⟨_, τ, by rw [hr, e1], e2, e3⟩


variable {d : Option Tmp} {ty : TypeId} {pos : String} {af : Array Edge} {g : Option (Nat × Bool)} {a : Act} {σ : GW}
def Pr.own0 (k : Nat) (e : TypeId) : Pr := ⟨fun σ v => Own σ k e 1 v 0 [] ∧ ∃ ad, v = .slice ad 0 0, fun hs h => ⟨h.1.keep hs (by decide) (.inl rfl), h.2⟩⟩
theorem y_lit00 {k : Nat} {t e : TypeId} {z : Value} {b : Nat} (ht : P.underlying t = some (.slice e)) (he : Info P e z 1 b) :
    Yld P ⟨d, .buildSlice t 0 #[], ty, pos, af, g⟩ a σ (Pr.own0 k e) := by
  intro K Q hk
  have hr : (execOp a.eval ⟨d, .buildSlice t 0 #[], ty, pos, af, g⟩).run P σ.w = .ok (.value (.slice (some ⟨σ.w.heap.size, 0, none⟩) 0 0)) (σ.w.alloc (.cells #[] e)) := by
    simp only [execOp, List.map_toArray, List.map_nil]
    simp [Instr.buildSlice, run_underlying ht, he.size, Instr.fill, newRow, newObj, Sem.run, Sem.run_bind, Array.range_zero']
  unfold Oper.wp
  rw [hr]
  exact hk _ (σ.mk' k (.cells #[] e)) (Stp.mk' σ k _) ⟨Own.intro (us := []) (heap_alloc_new σ.w _) (by show (if _ = _ then k else _) = k; rw [if_pos rfl]) (Nat.le_refl _) (Nat.zero_le _) rfl rfl rfl (fun j T u h => by simp at h), _, rfl⟩
theorem y_append0 {k : Nat} {t e : TypeId} {z : Value} {by_ : Nat} {x y : Operand} {m : Nat} {us : List Ty} (ht : P.underlying t = some (.slice e)) (he : Info P e z 1 by_) (hk : 2 ≤ k) (hz : z.cells.size = 1)
    (h : (Pr.own0 k e).has σ (a.eval x)) (hx : At (.sl 1 m us) σ a y) (h1 : ∀ U, U ∈ us → One U) (hlen : m ≤ 9223372036854775807) (hbytes : m * by_ ≤ 140737488355328) :
    Yld P ⟨d, .call ⟨.builtin .append, #[x, y], #[t, t]⟩, ty, pos, af, g⟩ a σ (Pr.own k e 1 m us) := by
  intro K Q hk'
  obtain ⟨v', τ, hr, hs, ho⟩ := own_append0 (ty := ty) hk ht he hz (by decide) h.1 hx h1 (by omega) (by rw [Nat.zero_add]; exact hbytes) h.2
  have hr' : (execOp a.eval ⟨d, .call ⟨.builtin .append, #[x, y], #[t, t]⟩, ty, pos, af, g⟩).run P σ.w = .ok (.value v') τ.w := by
    simp only [execOp, resolve, Sem.run_bind, Sem.run_pure, Result.andThen_ok, invoke, List.map_toArray, List.map_cons, List.map_nil, builtin, hr]
  unfold Oper.wp
  rw [hr']
  exact hk' v' τ hs (by rw [Nat.zero_add, List.nil_append] at ho; exact ho)
end Go.KL

/- A region in whatever order, one operation of which writes: the others neither read nor write what it writes. -/
namespace Go.KL
open Go.RowKit
variable {P : Program}

theorem half_any3 {m N : Nat} {ops : Array Oper} {Q : Exit → Act → World → Prop} (hF : Form N ops) (hm : m ≤ ops.size) (hB : forcedB m ops.toList = true) (M : (Nat → Bool) → Act → GW → Prop)
    (hstep : ∀ (i : Nat) o (L : Nat → Bool) a σ (K : Act → World → Prop), ops[i]? = some o → i < m → M L a σ → L i = false → (∀ e ∈ o.after, Region.binds .any e = true → L e.on = true) →
      (∀ (j : Nat) oj, ops[j]? = some oj → L j = true → ∀ e ∈ oj.after, Region.binds .any e = true → L e.on = true) → (∀ a' σ', M (fun j => L j || j == i) a' σ' → K a' σ'.w) → wpOp P ops Q i K a σ.w)
    (hQ : ∀ a σ, M (fun j => decide (j < m)) a σ → wpList P ops Q (ops.toList.drop m) a σ.w) : ∀ (f : Nat) (L : Array Bool) (a : Act) (σ : GW), L.size = ops.size → left ops.size L ≤ f → (∀ j, j < ops.size → m ≤ j → L.getD j true = false) →
    (∀ (j : Nat) oj, ops[j]? = some oj → L.getD j true = true → ∀ e ∈ oj.after, Region.binds .any e = true → L.getD e.on true = true) → M (fun j => decide (j < m) && L.getD j true) a σ → wpAny P .any ops Q f L a σ.w := by
  intro f
  induction f with
  | zero =>
    intro L a σ hs hf hLm hcl hmid
    have hnone : ∀ j, j < ops.size → L.getD j true = true := fun j hj => by
      cases h : L.getD j true with
      | true => rfl
      | false => have := left_set hs hj h; omega
    have hmm : m = ops.size := by
      rcases Nat.lt_or_ge m ops.size with h | h
      · have := hnone m h; rw [hLm m h (Nat.le_refl _)] at this; cases this
      · omega
    have e : (fun j => decide (j < m) && L.getD j true) = (fun j => decide (j < m)) := by
      funext j
      by_cases h : j < m
      · rw [hnone j (by omega)]; simp
      · simp [h]
    rw [e] at hmid
    exact tail_any hF hB 0 m 0 L a σ.w (by omega) (Nat.le_refl _) hs (Nat.le_refl _) (fun j hj => by rw [hnone j hj]; simp; omega) (hQ a σ hmid)
  | succ f ih =>
    intro L a σ hs hf hLm hcl hmid
    by_cases hdone : ∀ j, j < m → L.getD j true = true
    · have hL : ∀ j, j < ops.size → L.getD j true = decide (j < m) := fun j hj => by
        by_cases h : j < m
        · rw [hdone j h]; simp [h]
        · rw [hLm j hj (by omega)]; simp [h]
      have e : (fun j => decide (j < m) && L.getD j true) = (fun j => decide (j < m)) := by
        funext j
        by_cases h : j < m
        · rw [hdone j h]; simp
        · simp [h]
      rw [e] at hmid
      refine tail_any hF hB (ops.size - m) m (f + 1) L a σ.w (by omega) (Nat.le_refl _) hs ?_ hL (hQ a σ hmid)
      refine Nat.le_trans ?_ hf
      unfold left
      have : (List.range ops.size).countP (fun i => !L.getD i true) = (List.range ops.size).countP (fun i => decide (m ≤ i)) := List.countP_congr fun i hi => by rw [hL i (List.mem_range.1 hi)]; simp
      rw [this]
      have hcnt : ∀ n, (List.range n).countP (fun i => decide (m ≤ i)) = n - m := fun n => by
        induction n with
        | zero => simp
        | succ n ihn =>
          rw [List.range_succ, List.countP_append, ihn]
          by_cases h : m ≤ n <;> simp [h] <;> omega
      rw [hcnt]
      exact Nat.le_refl _
    · have hsome : ∃ j, j < m ∧ L.getD j true = false := by
        refine Classical.byContradiction fun hn => hdone fun j hj => ?_
        cases h : L.getD j true with
        | true => rfl
        | false => exact absurd ⟨j, hj, h⟩ hn
      have up : ∀ k, L.getD k false = true → L.getD k true = true := fun k h => by
        by_cases hk : k < L.size
        · simp [hk] at h ⊢; exact h
        · simp [hk] at h
      refine ⟨fun hr => ?_, fun i hi => ?_⟩
      · exfalso
        have key : ∀ j, j < m → L.getD j true = true := by
          intro j
          induction j using Nat.strongRecOn with
          | _ j ihj =>
          intro hj
          cases hL : L.getD j true with
          | true => rfl
          | false =>
            exfalso
            obtain ⟨o, ho⟩ : ∃ o, ops[j]? = some o := ⟨ops[j]'(by omega), by simp⟩
            have : j ∈ Region.ready .any ops L := mem_ready.2 ⟨hL, o, ho, fun e he hb => by
              have hlt := hF.back j o ho e he hb
              have := ihj e.on hlt (Nat.lt_trans hlt hj)
              have hsz : e.on < L.size := by rw [hs]; omega
              simp [hsz] at this ⊢; exact this⟩
            rw [hr] at this; cases this
        exact hdone key
      · obtain ⟨h0, o, ho, hall⟩ := mem_ready.1 hi
        have hi' : i < ops.size := (Array.getElem?_eq_some_iff.1 ho).1
        have him : i < m := by
          rcases Nat.lt_or_ge i m with h | h
          · exact h
          · exfalso
            obtain ⟨j, hj, hjL⟩ := hsome
            have := forced_spec (L := fun j => decide (j < ops.size) && L.getD j true) hB (fun j oj hj hLj e he hb => by
              simp only [Bool.and_eq_true, decide_eq_true_eq] at hLj ⊢
              exact ⟨by have := hF.back j oj hj e he hb; omega, hcl j oj hj hLj.2 e he hb⟩) ho h (fun e he hb => by
              simp only [Bool.and_eq_true, decide_eq_true_eq]
              exact ⟨by have := hF.back i o ho e he hb; omega, up _ (hall e he hb)⟩) j (by omega)
            simp only [Bool.and_eq_true] at this
            rw [hjL] at this; cases this.2
        refine hstep i o _ a σ _ ho him hmid (by simp [h0]) (fun e he hb => ?_) (fun j oj hj hLj e he hb => ?_) fun a' σ' hm' => ih _ a' σ' (by simpa using hs) (by have := left_set hs hi' h0; omega) (fun j hj hmj => ?_) ?_ ?_
        · have := hF.back i o ho e he hb
          simp only [up _ (hall e he hb), Bool.and_true, decide_eq_true_eq]; omega
        · simp only [Bool.and_eq_true, decide_eq_true_eq] at hLj ⊢
          exact ⟨by have := hF.back j oj hj e he hb; omega, hcl j oj hj hLj.2 e he hb⟩
        · rw [getD_set_ne true (by omega)]; exact hLm j hj hmj
        · intro j oj hj hLj e he hb
          by_cases hji : j = i
          · subst hji
            rw [ho] at hj; cases hj
            have hne := hF.back j o ho e he hb
            rw [getD_set_ne true (by omega)]
            exact up _ (hall e he hb)
          · rw [getD_set_ne true (Ne.symm hji)] at hLj
            have := hcl j oj hj hLj e he hb
            by_cases hei : e.on = i
            · rw [hei, h0] at this; cases this
            · rw [getD_set_ne true (Ne.symm hei)]; exact this
        · have : (fun j => (decide (j < m) && L.getD j true) || j == i) = (fun j => decide (j < m) && (L.setIfInBounds i true).getD j true) := by
            funext j
            by_cases hji : j = i
            · subst hji; simp [him, hs, hi']
            · rw [getD_set_ne true (Ne.symm hji)]; simp [hji]
          rwa [this] at hm'

theorem half_seq3 {m N : Nat} {ops : Array Oper} {Q : Exit → Act → World → Prop} (hF : Form N ops) (hm : m ≤ ops.size) (M : (Nat → Bool) → Act → GW → Prop)
    (hstep : ∀ (i : Nat) o (L : Nat → Bool) a σ (K : Act → World → Prop), ops[i]? = some o → i < m → M L a σ → L i = false → (∀ e ∈ o.after, Region.binds .any e = true → L e.on = true) →
      (∀ (j : Nat) oj, ops[j]? = some oj → L j = true → ∀ e ∈ oj.after, Region.binds .any e = true → L e.on = true) → (∀ a' σ', M (fun j => L j || j == i) a' σ' → K a' σ'.w) → wpOp P ops Q i K a σ.w)
    (hQ : ∀ a σ, M (fun j => decide (j < m)) a σ → wpOps P ops Q (List.range' m (ops.size - m)) a σ.w) : ∀ (n k : Nat) (a : Act) (σ : GW), k + n = m → M (fun j => decide (j < k)) a σ → wpOps P ops Q (List.range' k (n + (ops.size - m))) a σ.w
  | 0, k, a, σ, hk, hmid => by
    obtain rfl : k = m := by omega
    rw [Nat.zero_add]
    exact hQ a σ hmid
  | n + 1, k, a, σ, hk, hmid => by
    rw [show n + 1 + (ops.size - m) = (n + (ops.size - m)) + 1 by omega, List.range'_succ, wpOps_cons]
    obtain ⟨o, ho⟩ : ∃ o, ops[k]? = some o := ⟨ops[k]'(by omega), by simp⟩
    refine hstep k o _ a σ _ ho (by omega) hmid (by simp) (fun e he hbi => by simpa using hF.back k o ho e he hbi)
      (fun j oj hj hlt e he hbi => by have := hF.back j oj hj e he hbi; simp at hlt ⊢; omega) fun a' σ' hm' => half_seq3 hF hm M hstep hQ n (k + 1) a' σ' (by omega) ?_
    have : (fun j => decide (j < k) || j == k) = (fun j => decide (j < k + 1)) := by
      funext j; rw [Bool.eq_iff_iff]; simp; omega
    rwa [this] at hm'

def Ty.any : Ty := ⟨fun _ _ => True, fun _ h => h⟩

structure Mid3 (p d N : Nat) (D : List Deferred) (W : List Nat) (B : Pr) (ops : Array Oper) (Φ : Nat → Ty) (a0 : Act) (σ0 : GW) (L : Nat → Bool) (a : Act) (σ : GW) : Prop where
  stp : StpL W σ0 σ
  stp0 : L p = false → Stp 0 σ0 σ
  ok : Ok N D a
  done : ∀ j, L j = true → j ≠ p → rd ops (fun i => (Φ i).pr) j a σ
  donep : L p = true → B.has σ (a.eval (.tmp d))
  same : ∀ t, (∀ j, dstOf ops j = some t → L j = false) → a.eval (.tmp t) = a0.eval (.tmp t)

def Obl3 (P : Program) (N : Nat) (D : List Deferred) (W : List Nat) (ops : Array Oper) (Φ : Nat → Ty) (a0 : Act) (σ0 : GW) (i : Nat) (o : Oper) : Prop :=
  ∀ a σ, StpL W σ0 σ → Ok N D a → (∀ t, free ops i t = true → a.eval (.tmp t) = a0.eval (.tmp t)) → Deps ops (fun i => (Φ i).pr) a σ o.after.toList (Run P ops o a σ (Φ i).pr)
def OblW (P : Program) (N : Nat) (D : List Deferred) (W : List Nat) (B : Pr) (ops : Array Oper) (Φ : Nat → Ty) (a0 : Act) (σ0 : GW) (i : Nat) (o : Oper) : Prop :=
  ∀ a σ, Stp 0 σ0 σ → Ok N D a → (∀ t, free ops i t = true → a.eval (.tmp t) = a0.eval (.tmp t)) → Deps ops (fun i => (Φ i).pr) a σ o.after.toList (YldL W P o a σ (fun v τ => B.has τ v))
def Obls3 (P : Program) (p N : Nat) (D : List Deferred) (W : List Nat) (B : Pr) (ops : Array Oper) (Φ : Nat → Ty) (a0 : Act) (σ0 : GW) : Nat → List Oper → Prop
  | _, [] => True
  | i, o :: l => (if i = p then OblW P N D W B ops Φ a0 σ0 i o else Obl3 P N D W ops Φ a0 σ0 i o) ∧ Obls3 P p N D W B ops Φ a0 σ0 (i + 1) l
theorem Obls3.get {p N : Nat} {D : List Deferred} {W : List Nat} {B : Pr} {ops : Array Oper} {Φ : Nat → Ty} {a0 : Act} {σ0 : GW} : ∀ (l : List Oper) (k : Nat), Obls3 P p N D W B ops Φ a0 σ0 k l → ∀ j o, l[j]? = some o → (if k + j = p then OblW P N D W B ops Φ a0 σ0 (k + j) o else Obl3 P N D W ops Φ a0 σ0 (k + j) o)
  | [], _, _, j, o, h => by simp at h
  | x :: l, k, h, 0, o, hj => by simp at hj; subst hj; exact h.1
  | x :: l, k, h, j + 1, o, hj => by
    have := Obls3.get l (k + 1) h.2 j o (by simpa using hj)
    rwa [show k + 1 + j = k + (j + 1) by omega] at this
theorem Obls3.up {p N : Nat} {D : List Deferred} {W : List Nat} {B : Pr} {ops : Array Oper} {Φ : Nat → Ty} {a0 : Act} {σ0 σ1 : GW} (hs : Stp 0 σ0 σ1) : ∀ (l : List Oper) (k : Nat), Obls3 P p N D W B ops Φ a0 σ0 k l → Obls3 P p N D W B ops Φ a0 σ1 k l
  | [], _, _ => trivial
  | x :: l, k, h => by
    refine ⟨?_, Obls3.up hs l (k + 1) h.2⟩
    have h1 := h.1
    split at h1
    · rename_i e; rw [if_pos e]; exact fun a σ hs' => h1 a σ (hs.trans hs')
    · rename_i e; rw [if_neg e]; exact fun a σ hs' => h1 a σ (hs.toL0.trans hs')

theorem Mid3.op {p d N : Nat} {D : List Deferred} {W : List Nat} {B : Pr} {ops : Array Oper} {Φ : Nat → Ty} {a0 : Act} {σ0 : GW} {L : Nat → Bool} {a : Act} {σ : GW} {i : Nat} {o : Oper} {Q : Exit → Act → World → Prop} {K : Act → World → Prop}
    (hF : Form N ops) (h1 : 1 ∉ W) (hp : dstOf ops p = some d) (hΦ : ∀ e v, (Φ p).has e v) (hpg : ∀ o, ops[p]? = some o → o.guard = none) (hm : Mid3 p d N D W B ops Φ a0 σ0 L a σ) (ho : ops[i]? = some o) (hL : L i = false)
    (hob : if i = p then OblW P N D W B ops Φ a0 σ0 i o else Obl3 P N D W ops Φ a0 σ0 i o)
    (hall : ∀ e ∈ o.after, Region.binds .any e = true → L e.on = true) (hclosed : ∀ (j : Nat) oj, ops[j]? = some oj → L j = true → ∀ e ∈ oj.after, Region.binds .any e = true → L e.on = true)
    (hK : ∀ a' σ', Mid3 p d N D W B ops Φ a0 σ0 (fun j => L j || j == i) a' σ' → K a' σ'.w) : wpOp P ops Q i K a σ.w := by
  have hdi : dstOf ops i = o.dst := by simp [dstOf, ho]
  have hsame : ∀ t, free ops i t = true → a.eval (.tmp t) = a0.eval (.tmp t) := by
    intro t ht
    refine hm.same t fun j hj => ?_
    cases hLj : L j with
    | false => rfl
    | true =>
      exfalso
      unfold dstOf at hj
      obtain ⟨oj, hoj, hd⟩ := Option.bind_eq_some_iff.1 hj
      unfold free at ht
      have := (List.all_eq_true.1 ht) oj (List.mem_of_getElem? hoj)
      simp only [hd, bne_self_eq_false, Bool.false_or, List.any_eq_true, Bool.and_eq_true, beq_iff_eq] at this
      obtain ⟨e, he, hb, hon⟩ := this
      have := hclosed j oj (by simpa using hoj) hLj e (by simpa using he) hb
      rw [hon, hL] at this
      cases this
  have hdeps : ∀ e ∈ o.after.toList, Region.binds .any e = true → rd ops (fun i => (Φ i).pr) e.on a σ := fun e he hb => by
    by_cases hep : e.on = p
    · rw [hep]; unfold rd; rw [hp]; exact hΦ _ _
    · exact hm.done e.on (hall e (by simpa using he) hb) hep
  -- whatever step of whichever kind: what holds behind it
  have done' : ∀ v (τ : GW), σ.Le τ → (i ≠ p → (Φ i).has τ v) → ∀ j, (L j || j == i) = true → j ≠ p → rd ops (fun i => (Φ i).pr) j (a.put o.dst v) τ := by
    intro v τ hle hv j hLj hjp
    by_cases hji : j = i
    · subst hji
      unfold rd
      cases hd : dstOf ops j with
      | none => trivial
      | some d =>
        have : o.dst = some d := by rw [← hdi]; exact hd
        simp only [this]
        rw [eval_put_same hm.ok (hF.lt j d hd)]
        exact hv hjp
    · have hLj' : L j = true := by simpa [hji] using hLj
      have h0 := hm.done j hLj' hjp
      unfold rd at h0 ⊢
      cases hd : dstOf ops j with
      | none => trivial
      | some d =>
        rw [hd] at h0
        simp only at h0 ⊢
        rw [eval_put_ne (fun he => hji (hF.uniq j i d hd (by rw [hdi]; exact he)))]
        exact (Φ j).up hle h0
  have same' : ∀ v t, (∀ j, dstOf ops j = some t → (L j || j == i) = false) → (a.put o.dst v).eval (.tmp t) = a0.eval (.tmp t) := by
    intro v t ht
    have h1 : o.dst ≠ some t := fun he => by
      have := ht i (by rw [hdi]; exact he)
      simp at this
    rw [eval_put_ne h1]
    exact hm.same t fun j hj => by
      have := ht j hj
      simp at this
      exact this.1
  by_cases hip : i = p
  · subst hip
    rw [if_pos rfl] at hob
    have hy := Deps.elim o.after.toList hdeps (hob a σ (hm.stp0 hL) hm.ok hsame)
    unfold wpOp
    simp only [ho]
    have hw : Region.wanted o (yielded ops a.tmps) = true := by simp [Region.wanted, hpg o ho]
    rw [if_pos hw]
    refine .inl (hy K Q fun v τ hs hr => hK _ τ ⟨hm.stp.trans hs, fun h => (by simp at h), hm.ok.put _ _, done' v τ (hs.le h1) (fun h => absurd rfl h), fun _ => ?_, same' v⟩)
    have : o.dst = some d := by rw [← hdi]; exact hp
    rw [this, eval_put_same hm.ok (hF.lt i d hp)]
    exact hr
  · rw [if_neg hip] at hob
    have hrun := Deps.elim o.after.toList hdeps (hob a σ hm.stp hm.ok hsame)
    have next : ∀ v τ, Stp 0 σ τ → (Φ i).has τ v → K (a.put o.dst v) τ.w := by
      intro v τ hs hv
      refine hK _ τ ⟨hm.stp.trans hs.toL0, fun h => ?_, hm.ok.put _ _, done' v τ hs.le0 (fun _ => hv), fun h => ?_, same' v⟩
      · simp at h; exact (hm.stp0 h.1).trans hs
      · have hLp : L p = true := by simpa [Ne.symm hip] using h
        rw [eval_put_ne (fun he => hip (hF.uniq i p d (by rw [hdi]; exact he) hp))]
        exact B.up hs (hm.donep hLp)
    unfold wpOp
    simp only [ho]
    by_cases hw : Region.wanted o (yielded ops a.tmps) = true
    · rw [if_pos hw]
      exact .inl (hrun.1 hw K Q next)
    · rw [if_neg hw]
      exact next undef σ (Stp.refl _ _) (hrun.2 (by simpa using hw))

theorem obR3 {i p : Nat} {A B : Prop} (h : i ≠ p) (k : B) : if i = p then A else B := by rw [if_neg h]; exact k
theorem obR3w {i p : Nat} {A B : Prop} (h : i = p) (k : A) : if i = p then A else B := by rw [if_pos h]; exact k

structure Half3 (m d N : Nat) (D : List Deferred) (W : List Nat) (B : Pr) (ops : Array Oper) (Φ : Nat → Ty) (a0 : Act) (σ0 : GW) (a : Act) (σ : GW) : Prop where
  stp : StpL W σ0 σ
  ok : Ok N D a
  done : ∀ j, j < m → rd ops (fun i => (Φ i).pr) j a σ
  donep : B.has σ (a.eval (.tmp d))
  same : ∀ t, ((ops.toList.take m).all fun o => o.dst != some t) = true → a.eval (.tmp t) = a0.eval (.tmp t)

theorem Mid3.half {m p d N : Nat} {D : List Deferred} {W : List Nat} {B : Pr} {ops : Array Oper} {Φ : Nat → Ty} {a0 : Act} {σ0 : GW} {a : Act} {σ : GW} (h : Mid3 p d N D W B ops Φ a0 σ0 (fun j => decide (j < m)) a σ) (hpm : p < m) (hp : dstOf ops p = some d) (hΦ : ∀ e v, (Φ p).has e v) : Half3 m d N D W B ops Φ a0 σ0 a σ := by
  refine ⟨h.stp, h.ok, fun j hj => ?_, h.donep (by simpa using hpm), fun t ht => h.same t fun j hj => ?_⟩
  · by_cases hjp : j = p
    · rw [hjp]; unfold rd; rw [hp]; exact hΦ _ _
    · exact h.done j (by simpa using hj) hjp
  · by_cases hjm : j < m
    · obtain ⟨o, ho, hd⟩ := Option.bind_eq_some_iff.1 hj
      have := (List.all_eq_true.1 ht) o (List.mem_of_getElem? (i := j) (by rw [List.getElem?_take, if_pos hjm]; exact ho))
      simp [hd] at this
    · simpa using hjm

theorem reg3 {N : Nat} {D : List Deferred} {ops : Array Oper} {id : Nat} {draw : Bool} {Q : Exit → Act → World → Prop} {a : Act} {σ : GW} (hP : P.follows .mixedOrders = true) (m p d : Nat) (W : List Nat) (h1 : 1 ∉ W) (B : Pr) (Φ : Nat → Ty) (ok : Ok N D a) (hF : formB N ops = true) (hm : m ≤ ops.size) (hB : (!draw || forcedB m ops.toList) = true)
    (hpm : p < m) (hp : dstOf ops p = some d) (hΦ : ∀ e v, (Φ p).has e v) (hpg : (ops.toList[p]?).all (fun o => o.guard.isNone) = true) (hob : Obls3 P p N D W B ops Φ a σ 0 (ops.toList.take m))
    (hQ : ∀ a' σ', Half3 m d N D W B ops Φ a σ a' σ' → wpList P ops Q (ops.toList.drop m) a' σ'.w) : (Code.region id ops draw).wp P Q a σ.w := by
  have hF' := Form.of_B hF
  have hpg' : ∀ o, ops[p]? = some o → o.guard = none := fun o ho => by
    rw [show ops.toList[p]? = some o by simpa using ho] at hpg
    simpa using hpg
  have step : ∀ σ0, Stp 0 σ σ0 → ∀ (i : Nat) o (L : Nat → Bool) a' σ' (K : Act → World → Prop), ops[i]? = some o → i < m → Mid3 p d N D W B ops Φ a σ0 L a' σ' → L i = false → (∀ e ∈ o.after, Region.binds .any e = true → L e.on = true) →
      (∀ (j : Nat) oj, ops[j]? = some oj → L j = true → ∀ e ∈ oj.after, Region.binds .any e = true → L e.on = true) → (∀ a' σ', Mid3 p d N D W B ops Φ a σ0 (fun j => L j || j == i) a' σ' → K a' σ'.w) → wpOp P ops Q i K a' σ'.w :=
    fun σ0 hs i o L a' σ' K ho him hmid hL hall hcl hK => Mid3.op hF' h1 hp hΦ hpg' hmid ho hL
      (by simpa using Obls3.get (ops.toList.take m) 0 (Obls3.up hs _ _ hob) i o (by rw [List.getElem?_take, if_pos him]; simpa using ho)) hall hcl hK
  have start : ∀ σ0, Mid3 p d N D W B ops Φ a σ0 (fun _ => false) a σ0 := fun σ0 => ⟨StpL.refl _ _, fun _ => Stp.refl _ _, ok, fun _ h => (by cases h), fun h => (by cases h), fun _ _ => rfl⟩
  cases draw with
  | false =>
    refine wp_region ?_
    rw [List.range_eq_range']
    have := half_seq3 (Q := Q) hF' hm (Mid3 p d N D W B ops Φ a σ) (step σ (Stp.refl _ _)) (fun a' σ' h => ?_) m 0 a σ (by simp) (by have := start σ; simpa using this)
    · rwa [show m + (ops.size - m) = ops.size by omega] at this
    · have := wpOps_eq_wpList (P := P) (ops := ops) (Q := Q) (ops.toList.drop m) m (fun j => by rw [List.getElem?_drop]; simp)
      rw [show (ops.toList.drop m).length = ops.size - m by simp] at this
      rw [this]
      exact hQ a' σ' (h.half hpm hp hΦ)
  | true =>
    refine wp_region_any hP ?_
    have hd := Stp.drew σ
    refine half_any3 hF' hm (by simpa using hB) (Mid3 p d N D W B ops Φ a σ.drew) (step σ.drew hd) (fun a' σ' h => ?_) _ _ a σ.drew (by simp) (Nat.le_trans List.countP_le_length (by simp)) ?_ ?_ ?_
    · have h2 := h.half hpm hp hΦ
      exact hQ a' σ' ⟨hd.toL0.trans h2.stp, h2.ok, h2.done, h2.donep, h2.same⟩
    · intro j hj _; simp [hj]
    · intro j oj hj h
      have : j < ops.size := (Array.getElem?_eq_some_iff.1 hj).1
      simp [this] at h
    · have e : (fun j => decide (j < m) && (Array.replicate ops.size false).getD j true) = fun _ => false := by
        funext j; by_cases hj : j < ops.size
        · simp [hj]
        · simp; omega
      rw [e]; exact start σ.drew
theorem Half3.kt {m d N : Nat} {D : List Deferred} {W : List Nat} {B : Pr} {ops : Array Oper} {Φ : Nat → Ty} {a0 a : Act} {σ0 σ : GW} {T : Ty} {t : Nat} (h : Half3 m d N D W B ops Φ a0 σ0 a σ) (h1 : 1 ∉ W) (k : T.has σ0 (a0.eval (.tmp t))) (ht : ((ops.toList.take m).all fun o => o.dst != some t) = true) : T.has σ (a.eval (.tmp t)) := by
  rw [h.same t ht]; exact T.up (h.stp.le h1) k
end Go.KL

/- A region in whatever order, of which one operation stores into what another one has made. -/
namespace Go.KL
open Go.RowKit
variable {P : Program}

/-! ### The operation that writes is a store into what an operation of the region has made -/
end Go.KL

/- A region in whatever order, of which one operation appends to what another one has made. -/
namespace Go.KL
open Go.RowKit
variable {P : Program}

/-! ### The operation that writes appends to what an operation of the region has made -/
end Go.KL

/- A region in whatever order, of which one operation appends to what another one has made (sealed at once), and a third one writes what was there. -/
namespace Go.KL
open Go.RowKit
variable {P : Program}

/-! ### The operation that writes appends to what an operation of the region has made; another one writes; another one writes -/
end Go.KL

/- A region in whatever order, one operation of which stores: the others neither read nor write what it writes. -/
namespace Go.KL
open Go.RowKit
variable {P : Program}
structure Mid7 (p N : Nat) (D : List Deferred) (W : List Nat) (B : Pr) (ops : Array Oper) (Φ : Nat → Ty) (a0 : Act) (σ0 : GW) (L : Nat → Bool) (a : Act) (σ : GW) : Prop where
  stp : StpL W σ0 σ
  stp0 : L p = false → Stp 0 σ0 σ
  ok : Ok N D a
  done : ∀ j, L j = true → j ≠ p → rd ops (fun i => (Φ i).pr) j a σ
  donep : L p = true → B.has σ undef
  same : ∀ t, (∀ j, dstOf ops j = some t → L j = false) → a.eval (.tmp t) = a0.eval (.tmp t)

def OblW7 (P : Program) (N : Nat) (D : List Deferred) (W : List Nat) (B : Pr) (ops : Array Oper) (Φ : Nat → Ty) (a0 : Act) (σ0 : GW) (i : Nat) (o : Oper) : Prop :=
  ∀ a σ, Stp 0 σ0 σ → Ok N D a → (∀ t, free ops i t = true → a.eval (.tmp t) = a0.eval (.tmp t)) → Deps ops (fun i => (Φ i).pr) a σ o.after.toList (YldL W P o a σ (fun _ τ => B.has τ undef))
def Obls7 (P : Program) (p N : Nat) (D : List Deferred) (W : List Nat) (B : Pr) (ops : Array Oper) (Φ : Nat → Ty) (a0 : Act) (σ0 : GW) : Nat → List Oper → Prop
  | _, [] => True
  | i, o :: l => (if i = p then OblW7 P N D W B ops Φ a0 σ0 i o else Obl3 P N D W ops Φ a0 σ0 i o) ∧ Obls7 P p N D W B ops Φ a0 σ0 (i + 1) l
theorem Obls7.get {p N : Nat} {D : List Deferred} {W : List Nat} {B : Pr} {ops : Array Oper} {Φ : Nat → Ty} {a0 : Act} {σ0 : GW} : ∀ (l : List Oper) (k : Nat), Obls7 P p N D W B ops Φ a0 σ0 k l → ∀ j o, l[j]? = some o → (if k + j = p then OblW7 P N D W B ops Φ a0 σ0 (k + j) o else Obl3 P N D W ops Φ a0 σ0 (k + j) o)
  | [], _, _, j, o, h => by simp at h
  | x :: l, k, h, 0, o, hj => by simp at hj; subst hj; exact h.1
  | x :: l, k, h, j + 1, o, hj => by
    have := Obls7.get l (k + 1) h.2 j o (by simpa using hj)
    rwa [show k + 1 + j = k + (j + 1) by omega] at this
theorem Obls7.up {p N : Nat} {D : List Deferred} {W : List Nat} {B : Pr} {ops : Array Oper} {Φ : Nat → Ty} {a0 : Act} {σ0 σ1 : GW} (hs : Stp 0 σ0 σ1) : ∀ (l : List Oper) (k : Nat), Obls7 P p N D W B ops Φ a0 σ0 k l → Obls7 P p N D W B ops Φ a0 σ1 k l
  | [], _, _ => trivial
  | x :: l, k, h => by
    refine ⟨?_, Obls7.up hs l (k + 1) h.2⟩
    have h1 := h.1
    split at h1
    · rename_i e; rw [if_pos e]; exact fun a σ hs' => h1 a σ (hs.trans hs')
    · rename_i e; rw [if_neg e]; exact fun a σ hs' => h1 a σ (hs.toL0.trans hs')

theorem Mid7.op {p N : Nat} {D : List Deferred} {W : List Nat} {B : Pr} {ops : Array Oper} {Φ : Nat → Ty} {a0 : Act} {σ0 : GW} {L : Nat → Bool} {a : Act} {σ : GW} {i : Nat} {o : Oper} {Q : Exit → Act → World → Prop} {K : Act → World → Prop}
    (hF : Form N ops) (h1 : 1 ∉ W) (hp : dstOf ops p = none) (hpg : ∀ o, ops[p]? = some o → o.guard = none) (hm : Mid7 p N D W B ops Φ a0 σ0 L a σ) (ho : ops[i]? = some o) (hL : L i = false)
    (hob : if i = p then OblW7 P N D W B ops Φ a0 σ0 i o else Obl3 P N D W ops Φ a0 σ0 i o)
    (hall : ∀ e ∈ o.after, Region.binds .any e = true → L e.on = true) (hclosed : ∀ (j : Nat) oj, ops[j]? = some oj → L j = true → ∀ e ∈ oj.after, Region.binds .any e = true → L e.on = true)
    (hK : ∀ a' σ', Mid7 p N D W B ops Φ a0 σ0 (fun j => L j || j == i) a' σ' → K a' σ'.w) : wpOp P ops Q i K a σ.w := by
  have hdi : dstOf ops i = o.dst := by simp [dstOf, ho]
  have hsame : ∀ t, free ops i t = true → a.eval (.tmp t) = a0.eval (.tmp t) := by
    intro t ht
    refine hm.same t fun j hj => ?_
    cases hLj : L j with
    | false => rfl
    | true =>
      exfalso
      unfold dstOf at hj
      obtain ⟨oj, hoj, hd⟩ := Option.bind_eq_some_iff.1 hj
      unfold free at ht
      have := (List.all_eq_true.1 ht) oj (List.mem_of_getElem? hoj)
      simp only [hd, bne_self_eq_false, Bool.false_or, List.any_eq_true, Bool.and_eq_true, beq_iff_eq] at this
      obtain ⟨e, he, hb, hon⟩ := this
      have := hclosed j oj (by simpa using hoj) hLj e (by simpa using he) hb
      rw [hon, hL] at this
      cases this
  have hdeps : ∀ e ∈ o.after.toList, Region.binds .any e = true → rd ops (fun i => (Φ i).pr) e.on a σ := fun e he hb => by
    by_cases hep : e.on = p
    · rw [hep]; unfold rd; rw [hp]; trivial
    · exact hm.done e.on (hall e (by simpa using he) hb) hep
  -- whatever step of whichever kind: what holds behind it
  have done' : ∀ v (τ : GW), σ.Le τ → (i ≠ p → (Φ i).has τ v) → ∀ j, (L j || j == i) = true → j ≠ p → rd ops (fun i => (Φ i).pr) j (a.put o.dst v) τ := by
    intro v τ hle hv j hLj hjp
    by_cases hji : j = i
    · subst hji
      unfold rd
      cases hd : dstOf ops j with
      | none => trivial
      | some d =>
        have : o.dst = some d := by rw [← hdi]; exact hd
        simp only [this]
        rw [eval_put_same hm.ok (hF.lt j d hd)]
        exact hv hjp
    · have hLj' : L j = true := by simpa [hji] using hLj
      have h0 := hm.done j hLj' hjp
      unfold rd at h0 ⊢
      cases hd : dstOf ops j with
      | none => trivial
      | some d =>
        rw [hd] at h0
        simp only at h0 ⊢
        rw [eval_put_ne (fun he => hji (hF.uniq j i d hd (by rw [hdi]; exact he)))]
        exact (Φ j).up hle h0
  have same' : ∀ v t, (∀ j, dstOf ops j = some t → (L j || j == i) = false) → (a.put o.dst v).eval (.tmp t) = a0.eval (.tmp t) := by
    intro v t ht
    have h1 : o.dst ≠ some t := fun he => by
      have := ht i (by rw [hdi]; exact he)
      simp at this
    rw [eval_put_ne h1]
    exact hm.same t fun j hj => by
      have := ht j hj
      simp at this
      exact this.1
  by_cases hip : i = p
  · subst hip
    rw [if_pos rfl] at hob
    have hy := Deps.elim o.after.toList hdeps (hob a σ (hm.stp0 hL) hm.ok hsame)
    unfold wpOp
    simp only [ho]
    have hw : Region.wanted o (yielded ops a.tmps) = true := by simp [Region.wanted, hpg o ho]
    rw [if_pos hw]
    refine .inl (hy K Q fun v τ hs hr => hK _ τ ⟨hm.stp.trans hs, fun h => (by simp at h), hm.ok.put _ _, done' v τ (hs.le h1) (fun h => absurd rfl h), fun _ => ?_, same' v⟩)
    exact hr
  · rw [if_neg hip] at hob
    have hrun := Deps.elim o.after.toList hdeps (hob a σ hm.stp hm.ok hsame)
    have next : ∀ v τ, Stp 0 σ τ → (Φ i).has τ v → K (a.put o.dst v) τ.w := by
      intro v τ hs hv
      refine hK _ τ ⟨hm.stp.trans hs.toL0, fun h => ?_, hm.ok.put _ _, done' v τ hs.le0 (fun _ => hv), fun h => ?_, same' v⟩
      · simp at h; exact (hm.stp0 h.1).trans hs
      · have hLp : L p = true := by simpa [Ne.symm hip] using h
        exact B.up hs (hm.donep hLp)
    unfold wpOp
    simp only [ho]
    by_cases hw : Region.wanted o (yielded ops a.tmps) = true
    · rw [if_pos hw]
      exact .inl (hrun.1 hw K Q next)
    · rw [if_neg hw]
      exact next undef σ (Stp.refl _ _) (hrun.2 (by simpa using hw))

structure Half7 (m N : Nat) (D : List Deferred) (W : List Nat) (B : Pr) (ops : Array Oper) (Φ : Nat → Ty) (a0 : Act) (σ0 : GW) (a : Act) (σ : GW) : Prop where
  stp : StpL W σ0 σ
  ok : Ok N D a
  done : ∀ j, j < m → rd ops (fun i => (Φ i).pr) j a σ
  donep : B.has σ undef
  same : ∀ t, ((ops.toList.take m).all fun o => o.dst != some t) = true → a.eval (.tmp t) = a0.eval (.tmp t)

theorem Mid7.half {m p N : Nat} {D : List Deferred} {W : List Nat} {B : Pr} {ops : Array Oper} {Φ : Nat → Ty} {a0 : Act} {σ0 : GW} {a : Act} {σ : GW} (h : Mid7 p N D W B ops Φ a0 σ0 (fun j => decide (j < m)) a σ) (hpm : p < m) (hp : dstOf ops p = none) : Half7 m N D W B ops Φ a0 σ0 a σ := by
  refine ⟨h.stp, h.ok, fun j hj => ?_, h.donep (by simpa using hpm), fun t ht => h.same t fun j hj => ?_⟩
  · by_cases hjp : j = p
    · rw [hjp]; unfold rd; rw [hp]; trivial
    · exact h.done j (by simpa using hj) hjp
  · by_cases hjm : j < m
    · obtain ⟨o, ho, hd⟩ := Option.bind_eq_some_iff.1 hj
      have := (List.all_eq_true.1 ht) o (List.mem_of_getElem? (i := j) (by rw [List.getElem?_take, if_pos hjm]; exact ho))
      simp [hd] at this
    · simpa using hjm

theorem reg7 {N : Nat} {D : List Deferred} {ops : Array Oper} {id : Nat} {draw : Bool} {Q : Exit → Act → World → Prop} {a : Act} {σ : GW} (hP : P.follows .mixedOrders = true) (m p : Nat) (W : List Nat) (h1 : 1 ∉ W) (B : Pr) (Φ : Nat → Ty) (ok : Ok N D a) (hF : formB N ops = true) (hm : m ≤ ops.size) (hB : (!draw || forcedB m ops.toList) = true)
    (hpm : p < m) (hp : dstOf ops p = none) (hpg : (ops.toList[p]?).all (fun o => o.guard.isNone) = true) (hob : Obls7 P p N D W B ops Φ a σ 0 (ops.toList.take m))
    (hQ : ∀ a' σ', Half7 m N D W B ops Φ a σ a' σ' → wpList P ops Q (ops.toList.drop m) a' σ'.w) : (Code.region id ops draw).wp P Q a σ.w := by
  have hF' := Form.of_B hF
  have hpg' : ∀ o, ops[p]? = some o → o.guard = none := fun o ho => by
    rw [show ops.toList[p]? = some o by simpa using ho] at hpg
    simpa using hpg
  have step : ∀ σ0, Stp 0 σ σ0 → ∀ (i : Nat) o (L : Nat → Bool) a' σ' (K : Act → World → Prop), ops[i]? = some o → i < m → Mid7 p N D W B ops Φ a σ0 L a' σ' → L i = false → (∀ e ∈ o.after, Region.binds .any e = true → L e.on = true) →
      (∀ (j : Nat) oj, ops[j]? = some oj → L j = true → ∀ e ∈ oj.after, Region.binds .any e = true → L e.on = true) → (∀ a' σ', Mid7 p N D W B ops Φ a σ0 (fun j => L j || j == i) a' σ' → K a' σ'.w) → wpOp P ops Q i K a' σ'.w :=
    fun σ0 hs i o L a' σ' K ho him hmid hL hall hcl hK => Mid7.op hF' h1 hp hpg' hmid ho hL
      (by simpa using Obls7.get (ops.toList.take m) 0 (Obls7.up hs _ _ hob) i o (by rw [List.getElem?_take, if_pos him]; simpa using ho)) hall hcl hK
  have start : ∀ σ0, Mid7 p N D W B ops Φ a σ0 (fun _ => false) a σ0 := fun σ0 => ⟨StpL.refl _ _, fun _ => Stp.refl _ _, ok, fun _ h => (by cases h), fun h => (by cases h), fun _ _ => rfl⟩
  cases draw with
  | false =>
    refine wp_region ?_
    rw [List.range_eq_range']
    have := half_seq3 (Q := Q) hF' hm (Mid7 p N D W B ops Φ a σ) (step σ (Stp.refl _ _)) (fun a' σ' h => ?_) m 0 a σ (by simp) (by have := start σ; simpa using this)
    · rwa [show m + (ops.size - m) = ops.size by omega] at this
    · have := wpOps_eq_wpList (P := P) (ops := ops) (Q := Q) (ops.toList.drop m) m (fun j => by rw [List.getElem?_drop]; simp)
      rw [show (ops.toList.drop m).length = ops.size - m by simp] at this
      rw [this]
      exact hQ a' σ' (h.half hpm hp)
  | true =>
    refine wp_region_any hP ?_
    have hd := Stp.drew σ
    refine half_any3 hF' hm (by simpa using hB) (Mid7 p N D W B ops Φ a σ.drew) (step σ.drew hd) (fun a' σ' h => ?_) _ _ a σ.drew (by simp) (Nat.le_trans List.countP_le_length (by simp)) ?_ ?_ ?_
    · have h2 := h.half hpm hp
      exact hQ a' σ' ⟨hd.toL0.trans h2.stp, h2.ok, h2.done, h2.donep, h2.same⟩
    · intro j hj _; simp [hj]
    · intro j oj hj h
      have : j < ops.size := (Array.getElem?_eq_some_iff.1 hj).1
      simp [this] at h
    · have e : (fun j => decide (j < m) && (Array.replicate ops.size false).getD j true) = fun _ => false := by
        funext j; by_cases hj : j < ops.size
        · simp [hj]
        · simp; omega
      rw [e]; exact start σ.drew
theorem Half7.kt {m N : Nat} {D : List Deferred} {W : List Nat} {B : Pr} {ops : Array Oper} {Φ : Nat → Ty} {a0 a : Act} {σ0 σ : GW} {T : Ty} {t : Nat} (h : Half7 m N D W B ops Φ a0 σ0 a σ) (h1 : 1 ∉ W) (k : T.has σ0 (a0.eval (.tmp t))) (ht : ((ops.toList.take m).all fun o => o.dst != some t) = true) : T.has σ (a.eval (.tmp t)) := by
  rw [h.same t ht]; exact T.up (h.stp.le h1) k
def At0 (v : Value) (n : Nat) : Prop := 0 < n → ∃ g cap, v = .slice (some ⟨g, 0, none⟩) n cap
theorem Own.at0 {σ : GW} {k : Nat} {e : TypeId} {c n : Nat} {v : Value} {ts : List Ty} (h : Own σ k e c v n ts) : At0 v n := fun hn => by
  obtain ⟨g, cap, e, _, _⟩ := h.at hn
  exact ⟨g, cap, e⟩
theorem y_indexF {d : Option Tmp} {ty : TypeId} {pos : String} {af : Array Edge} {g : Option (Nat × Bool)} {a : Act} {σ : GW} {x y : Operand} {n : Nat} {t e : TypeId} {z v : Value} {b : Nat} {ki : IntKind} {i : Int} (ht : P.underlying t = some (.slice e)) (he : Info P e z 1 b)
    (h : At0 v n) (hx : a.eval x = v) (hy : a.eval y = .int ki i) (h0 : 0 ≤ i) (h1 : i < n) :
    Yld P ⟨d, .indexAddr t x y, ty, pos, af, g⟩ a σ (Ty.val (cellPtr v i.toNat)).pr := by
  obtain ⟨g, cap, rfl⟩ := h (by omega)
  refine Yld.of_run (v := .pointer (some ⟨g, i.toNat, none⟩)) ?_ rfl
  simp only [execOp, hx, hy]
  simp [Instr.indexAt, asIntOf, run_underlying ht, h0, h1, he.size, Addr.add_lit]
def Pr.st (k : Nat) (e : TypeId) (c : Nat) (v : Value) (n : Nat) (ts : List Ty) : Pr := ⟨fun σ _ => Own σ k e c v n ts, fun hs h => h.keep hs (by decide) (.inl rfl)⟩
end Go.KL

/- A call that only reads what is owned: it is shown sealed, and its answer hangs on no memory. -/
namespace Go.KL
open Go.RowKit
section
variable {P : Program} {d : Option Tmp} {ty : TypeId} {pos : String} {af : Array Edge} {g : Option (Nat × Bool)} {a : Act} {σ : GW}
end
end Go.KL

/- Touches that are read. -/
namespace Go.KL
structure ItP where
  err : Int
  out : List Int
  rest : List Int
section
variable {sg : List Int}
/-! What is left is a tail. -/
/-! Fuel. -/
/-! What is told of errors. -/
/-! Step by step. -/
end
/-! Runes of a text, as a loop over it gives them. -/
abbrev Ty.rune (n : Int) : Ty := .val (.int .i32 n)
section
variable {sg : List Int} {deep : Nat} {l s : List Int}
end
section
variable {sg : List Int} {s : ByteArray} {X : ItP}
end
end Go.KL

/- 'copy' into a row that is owned; a row told several times. -/
namespace Go.KL
open Go.RowKit
variable {P : Program} {d : Option Tmp} {ty : TypeId} {pos : String} {af : Array Edge} {g : Option (Nat × Bool)} {a : Act} {σ : GW}
def SlForm (v : Value) (n : Nat) : Prop := ∃ ad cap, v = .slice ad n cap ∧ n ≤ cap ∧ cap ≤ 9223372036854775807
section
variable {x y : Operand} {n : Nat} {t e' : TypeId} {z v : Value} {b : Nat} {ki : IntKind} (ht : P.underlying t = some (.slice e')) (he : Info P e' z 1 b) (ho : SlForm v n) (hx : a.eval x = v)
include ht he ho hx
end
/-! Some arithmetic of 64 bits without a sign. -/
/-! A row told several times. -/
end Go.KL

/- A row from an element on: its length, its elements' places. -/
namespace Go.KL
open Go.RowKit
variable {P : Program} {d : Option Tmp} {ty : TypeId} {pos : String} {af : Array Edge} {g : Option (Nat × Bool)} {a : Act} {σ : GW}
theorem sufOf_some (gg n cap j : Nat) : sufOf (.slice (some ⟨gg, 0, none⟩) n cap) j = if j < cap then .slice (some ⟨gg, j, none⟩) (n - j) (cap - j) else sufOf (.slice (some ⟨gg, 0, none⟩) n cap) j := by
  by_cases h : j < cap
  · rw [if_pos h]
    show sliced (some ⟨gg, 0, none⟩) j n cap 1 = _
    unfold sliced
    rw [if_neg (by omega)]
    simp [Addr.add_lit]
  · rw [if_neg h]
theorem sufOf_at {gg n cap j : Nat} (h : j < cap) : sufOf (.slice (some ⟨gg, 0, none⟩) n cap) j = .slice (some ⟨gg, j, none⟩) (n - j) (cap - j) := by rw [sufOf_some, if_pos h]
theorem y_sufLen {x : Operand} {t e : TypeId} {v : Value} {n j : Nat} (ht : P.underlying t = some (.slice e)) (hv : SlForm v n) (hx : a.eval x = sufOf v j) : Yld P ⟨d, .call ⟨.builtin .len, #[x], #[t]⟩, ty, pos, af, g⟩ a σ (Ty.nat (n - j)).pr := by
  obtain ⟨ad, cap, rfl, _, _⟩ := hv
  obtain ⟨ad', cap', e1⟩ : ∃ ad' cap', sufOf (.slice ad n cap) j = .slice ad' (n - j) cap' := by
    show ∃ ad' cap', sliced ad j n cap 1 = _
    unfold sliced
    split <;> exact ⟨_, _, rfl⟩
  exact Yld.of_run (v := .int .i64 ((n - j : Nat) : Int)) (run_builtin1 (hx.trans e1) (fun cs => by simp [builtin, Builtin.len_, run_underlying ht, goInt])) rfl
theorem y_sufIdx {k : Nat} {x y : Operand} {n j i : Nat} {ts : List Ty} {t e : TypeId} {z v : Value} {b : Nat} {ki : IntKind} (ht : P.underlying t = some (.slice e)) (he : Info P e z 1 b) (h : Own σ k e 1 v n ts) (hx : a.eval x = sufOf v j) (hy : a.eval y = .int ki ((i : Nat) : Int)) (h1 : j + i < n) :
    Yld P ⟨d, .indexAddr t x y, ty, pos, af, g⟩ a σ (Ty.val (cellPtr v (j + i))).pr := by
  have hc := h.cap
  obtain ⟨gg, cap, rfl, _, _⟩ := h.at (by omega)
  have hc' : n ≤ cap := hc
  have hx' : a.eval x = .slice (some ⟨gg, j, none⟩) (n - j) (cap - j) := by rw [hx]; exact sufOf_at (by omega)
  refine Yld.of_run (v := .pointer (some ⟨gg, j + i, none⟩)) ?_ rfl
  have h2 : ((i : Nat) : Int) < ((n - j : Nat) : Int) := by omega
  simp only [execOp, hx', hy]
  have h3 : ¬ n ≤ i + j := by omega
  simp [Instr.indexAt, asIntOf, run_underlying ht, h2, h3, he.size, Addr.add_lit]
end Go.KL

/- Rows of structs that are owned: an element's address, its fields, the whole of it. -/
namespace Go.KL
open Go.RowKit
section
variable {P : Program} {d : Option Tmp} {ty : TypeId} {pos : String} {af : Array Edge} {g : Option (Nat × Bool)} {a : Act} {σ : GW}
theorem y_idxc {k : Nat} {x y : Operand} {c n i : Nat} {ts : List Ty} {t e : TypeId} {z v : Value} {b : Nat} {ki : IntKind} (ht : P.underlying t = some (.slice e)) (he : Info P e z c b)
    (h : Own σ k e c v n ts) (hx : a.eval x = v) (hy : a.eval y = .int ki (i : Int)) (h1 : i < n) :
    Yld P ⟨d, .indexAddr t x y, ty, pos, af, g⟩ a σ (Ty.val (cellPtr v (i * c))).pr := by
  have := own_index (d := d) (ty := ty) (pos := pos) (af := af) (g := g) (i := (i : Int)) ht he h hx hy (by omega) (by omega)
  rwa [Int.toNat_natCast] at this
theorem y_fieldcc {k : Nat} {x : Operand} {n i : Nat} {ts : List Ty} {e t ft : TypeId} {f off c c2 by_ : Nat} {z v : Value} (hf : fieldOf P t f = some (ft, off)) (he : Info P ft z c by_) (hc : 0 < c) (h : Own σ k e c2 v n ts) (hn : 0 < n) (hx : a.eval x = cellPtr v i) :
    Yld P ⟨d, .fieldAddr t x f, ty, pos, af, g⟩ a σ (Ty.val (cellPtr v (i + off))).pr := by
  obtain ⟨gg, cap, rfl, _, _⟩ := h.at hn
  refine Yld.of_run (v := .pointer (some ⟨gg, i + off, none⟩)) ?_ rfl
  simp only [execOp, hx, cellPtr]
  have := run_fieldAt (o := i) (b := gg) hf he hc σ.w
  simp [this]
theorem own_loadst {k o n c m : Nat} {x : Operand} {ts : List Ty} {t e : TypeId} {fs : Array Field} {z v : Value} {by_ : Nat} (ht : P.underlying t = some (.struct fs)) (he : Info P t z c by_) (hl : o + c ≤ ts.length) (hc : 0 < c) (h : Own σ k e m v n ts) (hx : a.eval x = cellPtr v o) :
    Yld P ⟨d, .load t x, ty, pos, af, g⟩ a σ (Ty.agg ((ts.drop o).take c)).pr := by
  have hlen := h.len
  have hn : 0 < n := by
    rcases Nat.eq_zero_or_pos n with h0 | h0
    · subst h0; omega
    · exact h0
  obtain ⟨gg, cap, rfl, _, _⟩ := h.at hn
  obtain ⟨us, r1, r2, r3, _⟩ := h
  have hx' : a.eval x = .pointer (some ⟨gg, o, none⟩) := hx
  have hlen2 : ((us.drop o).take c).length = c := by rw [List.length_take, List.length_drop]; omega
  have hget : ∀ j, j < c → ((us.drop o).take c)[j]? = us[o + j]? := fun j hj => by rw [List.getElem?_take_of_lt hj, List.getElem?_drop]
  refine Yld.of_run (v := .agg ((us.drop o).take c).toArray) ?_ ⟨_, rfl, ?_, fun j T u hj hu => ?_⟩
  · simp only [execOp, hx']
    have := run_loadVar (P := P) ht he (w := σ.w) (ad := ⟨gg, o, none⟩) (us := (us.drop o).take c) hlen2 (fun j u hj => by
      have hlt : j < c := by have := (List.getElem?_eq_some_iff.1 hj).1; omega
      rw [hget j hlt] at hj
      rw [Addr.add_lit]
      have hc' := r1.cellAt (o + j) (by omega)
      rw [hj] at hc'
      exact hc')
    simp [Instr.loadAt, Instr.sureAddr, this]
  · simp only [List.size_toArray, hlen2]; rw [List.length_take, List.length_drop]; omega
  · have hlt : j < c := by have := (List.getElem?_eq_some_iff.1 hj).1; rw [List.length_take] at this; omega
    rw [List.getElem?_take_of_lt hlt, List.getElem?_drop] at hj
    have hu2 : ((us.drop o).take c)[j]? = some u := by simpa using hu
    rw [hget j hlt] at hu2
    exact r3 _ T u hj hu2
end
theorem spots_len {xs : List Spt} : (xs.flatMap spotC).length = xs.length * 3 := by
  induction xs with
  | nil => rfl
  | cons x xs ih => rw [List.flatMap_cons, List.length_append, ih, List.length_cons]; show 3 + _ = _; omega
theorem spots_drop : ∀ {xs : List Spt} {i : Nat}, i < xs.length → ((xs.flatMap spotC).drop (i * 3)).take 3 = spotC (xs.getD i ([], 0, 0))
  | x :: xs, 0, _ => rfl
  | x :: xs, i + 1, h => by
    have ih := spots_drop (xs := xs) (i := i) (by simpa using h)
    rw [List.flatMap_cons, show (i + 1) * 3 = 3 + i * 3 by omega, ← List.drop_drop]
    exact ih
theorem spots_get {xs : List Spt} {i f : Nat} {T : Ty} (h : i < xs.length) (hf : f < 3) (hT : (spotC (xs.getD i ([], 0, 0)))[f]? = some T) : (xs.flatMap spotC)[i * 3 + f]? = some T := by
  rw [← spots_drop h, List.getElem?_take_of_lt hf, List.getElem?_drop] at hT
  exact hT
theorem yld_agg {P : Program} {o : Oper} {a : Act} {σ : GW} {ts us : List Ty} (e : ts = us) (h : Yld P o a σ (Ty.agg ts).pr) : Yld P o a σ (Ty.agg us).pr := e ▸ h
end Go.KL

/- Arrays as values: built of two parts, and what stands at a place. -/
namespace Go.KL
open Go.RowKit
variable {P : Program} {d : Option Tmp} {ty : TypeId} {pos : String} {af : Array Edge} {g : Option (Nat × Bool)} {a : Act} {σ : GW}
/-! ### Bells that are told -/
end Go.KL

/- How many rows are like a pattern: as many as there are ways to place the other bells. -/
namespace Go.KL
/-! ### A pattern as one list -/
end Go.KL

/- Of all rows so many are like a pattern as there are ways to place the other bells. -/
namespace Go.KL
section
variable {P : Program} {d : Option Tmp} {ty : TypeId} {pos : String} {af : Array Edge} {g : Option (Nat × Bool)} {a : Act} {σ : GW}
end
section
variable (raw r : List Int) (star : Nat)
end
section
variable {raw r : List Int} {star : Nat}
end
end Go.KL

/- Bytes of a text, appended; touches, printed. -/
namespace Go.KL
open Go.RowKit Go.Lib
variable {P : Program} {d : Option Tmp} {ty : TypeId} {pos : String} {af : Array Edge} {g : Option (Nat × Bool)} {a : Act} {σ : GW}
/-! Numbers, printed. -/
/-! Touches, printed. -/
section
variable {cs : List BCall} {s T : ByteArray} {l : List Int} {i n : Nat}
end
end Go.KL

/- Runes, written as bytes: bits of bytes, rows of three and four new bytes. -/
namespace Go.KL
open Go.RowKit Go.Lib
section
variable {P : Program} {d : Option Tmp} {ty : TypeId} {pos : String} {af : Array Edge} {g : Option (Nat × Bool)} {a : Act} {σ : GW}
end
end Go.KL

/- Touches there and back: what is printed of leads is read as these. -/
namespace Go.KL
open Go.RowKit Go.Lib
section
variable {cs : List BCall}
end
end Go.KL

/- A text cut at each byte of a kind. -/
namespace Go.KL
open Go.Lib
end Go.KL
namespace Go.KL
section
variable {P : Program} {d : Option Tmp} {ty : TypeId} {pos : String} {af : Array Edge} {g : Option (Nat × Bool)} {a : Act} {σ : GW}
end
end Go.KL
namespace Go.KL
open Go.Lib
variable {ys T : List ByteArray} {l : List UInt8} {i m : Nat} {c : UInt8} {v : ByteArray}
end Go.KL
namespace Go.KL
variable {ys T : List ByteArray} {L : List UInt8} {i j : Nat} {s : ByteArray}
end Go.KL
namespace Go.KL
variable {ys T : List ByteArray} {L : List UInt8} {i j : Nat} {s : ByteArray}
end Go.KL

/- Contracts of the shelf, as contracts here. -/
namespace Go.KL
variable {P : Program}
def GW.grow (σ : GW) (w' : World) (h : σ.w.heap.size ≤ w'.heap.size) : GW := ⟨w', fun b => if b < σ.w.heap.size then σ.st b else 0, fun b hb => by
  by_cases hlt : b < σ.w.heap.size
  · omega
  · simp [hlt] at hb⟩
end Go.KL

/- BURNSIDE: colourings that are alike. -/
namespace Go.KL
open Go.RowKit
section
variable {α β : Type}
theorem sum_cong {f g : α → Nat} {l : List α} (h : ∀ x ∈ l, f x = g x) : (l.map f).sum = (l.map g).sum := congrArg List.sum (List.map_congr_left h)
theorem sum_addf (f g : α → Nat) : ∀ l : List α, (l.map fun x => f x + g x).sum = (l.map f).sum + (l.map g).sum
  | [] => rfl
  | a :: l => by simp only [List.map_cons, List.sum_cons, sum_addf f g l]; omega
theorem sum_cst (c : Nat) : ∀ l : List α, (l.map fun _ => c).sum = l.length * c
  | [] => by simp
  | a :: l => by simp only [List.map_cons, List.sum_cons, sum_cst c l, List.length_cons, Nat.succ_mul]; omega
theorem sum_ind (p : α → Bool) : ∀ l : List α, (l.map fun x => if p x = true then 1 else 0).sum = l.countP p
  | [] => rfl
  | a :: l => by simp only [List.map_cons, List.sum_cons, sum_ind p l, List.countP_cons]; omega
theorem sum_comm (f : α → β → Nat) : ∀ (A : List α) (B : List β), (A.map fun a => (B.map (f a)).sum).sum = (B.map fun b => (A.map fun a => f a b).sum).sum
  | [], B => by simp only [List.map_nil, List.sum_nil]; rw [sum_cst]; simp
  | a :: A, B => by
    simp only [List.map_cons, List.sum_cons]
    rw [sum_comm f A B, sum_addf (f a) (fun b => (A.map fun a => f a b).sum) B]
theorem sum_swapP (p : α → β → Bool) (A : List α) (B : List β) : (A.map fun a => B.countP (p a)).sum = (B.map fun b => A.countP fun a => p a b).sum := by
  have h1 : (A.map fun a => B.countP (p a)).sum = (A.map fun a => (B.map fun b => if p a b = true then 1 else 0).sum).sum := sum_cong fun a _ => (sum_ind (p a) B).symm
  rw [h1, sum_comm (fun a b => if p a b = true then 1 else 0)]
  exact sum_cong fun b _ => sum_ind (fun a => p a b) A
theorem sum_zero {f : α → Nat} : ∀ {l : List α}, (∀ x ∈ l, f x = 0) → (l.map f).sum = 0
  | [], _ => rfl
  | a :: l, h => by rw [List.map_cons, List.sum_cons, h a (by simp), sum_zero fun x hx => h x (by simp [hx])]
theorem sum_oneN {f : α → Nat} {a : α} : ∀ {l : List α}, l.Nodup → a ∈ l → (∀ x ∈ l, x ≠ a → f x = 0) → (l.map f).sum = f a
  | [], _, h, _ => by cases h
  | b :: l, hnd, hm, h => by
    rw [List.nodup_cons] at hnd
    rw [List.map_cons, List.sum_cons]
    by_cases e : b = a
    · rw [sum_zero (f := f) fun x hx => h x (by simp [hx]) fun ex => hnd.1 (by rw [e, ← ex]; exact hx), e]; rfl
    · have hm2 : a ∈ l := by
        rcases List.mem_cons.1 hm with h1 | h1
        · exact absurd h1.symm e
        · exact h1
      rw [h b (by simp) e, sum_oneN hnd.2 hm2 fun x hx => h x (by simp [hx])]; omega
theorem count_one [DecidableEq α] {a : α} {l : List α} (hnd : l.Nodup) (hm : a ∈ l) : l.countP (fun y => decide (a = y)) = 1 := by
  rw [← sum_ind, sum_oneN hnd hm fun x _ hx => if_neg (by simpa using fun e : a = x => hx e.symm)]
  exact if_pos (by simp)
end
section
variable {n : Nat} {G E X : List (List Int)} {x y f f1 f2 : List Int}
/-! ### All colourings -/
def dist (m : List Int) (x : List Int) : Bool := (List.range m.length).all fun c => decide (((x.count (c : Int) : Nat) : Int) = m.getD c 0)
end
end Go.KL

/- A GROUP IS WHAT ITS GENERATORS MAKE IT: words are as short as can be; orbit and stabiliser; the size divides that of all rows. -/
namespace Go.KL
open Go.RowKit
section
variable {n i j k b : Nat} {G K R W E F : List (List Int)} {r x y w u : List Int} {c d : Nat → Lev}
/-! ### Words are short -/
structure ShI (G : List (List Int)) (i : Nat) (R W : List (List Int)) : Prop where
  mono : ∀ a b, a ≤ b → b < R.length → (W.getD a []).length ≤ (W.getD b []).length
  up : i < R.length → ∀ k, k < R.length → (W.getD k []).length ≤ (W.getD i []).length + 1
  done : ∀ a, a < i → ∀ j, j < 2 * G.length → ∃ k, k < R.length ∧ R.getD k [] = byL (R.getD a []) (ltr G j) ∧ (W.getD k []).length ≤ (W.getD a []).length + 1
structure ShJ (G : List (List Int)) (i j : Nat) (R W : List (List Int)) : Prop where
  mono : ∀ a b, a ≤ b → b < R.length → (W.getD a []).length ≤ (W.getD b []).length
  up : ∀ k, k < R.length → (W.getD k []).length ≤ (W.getD i []).length + 1
  done : ∀ a, a < i → ∀ j, j < 2 * G.length → ∃ k, k < R.length ∧ R.getD k [] = byL (R.getD a []) (ltr G j) ∧ (W.getD k []).length ≤ (W.getD a []).length + 1
  cur : ∀ a, a < j → ∃ k, k < R.length ∧ R.getD k [] = byL (R.getD i []) (ltr G a)
theorem ShI.go (h : ShI G i R W) (hi : i < R.length) : ShJ G i 0 R W := ⟨h.mono, h.up hi, h.done, fun a ha => by omega⟩
theorem ShJ.next (h : ShJ G i (2 * G.length) R W) (_hi : i < R.length) : ShI G (i + 1) R W where
  mono := h.mono
  up h1 k hk := Nat.le_trans (h.up k hk) (by have := h.mono i (i + 1) (by omega) h1; omega)
  done a ha j hj := by
    by_cases e : a = i
    · subst e
      obtain ⟨k, h1, h2⟩ := h.cur j hj
      exact ⟨k, h1, h2, h.up k h1⟩
    · exact h.done a (by omega) j hj
theorem ShJ.old (h : ShJ G i j R W) (hk : k < R.length) (e : R.getD k [] = byL (R.getD i []) (ltr G j)) : ShJ G i (j + 1) R W := ⟨h.mono, h.up, h.done, fun a ha => by
  by_cases ea : a = j
  · subst ea; exact ⟨k, hk, e⟩
  · exact h.cur a (by omega)⟩
theorem ShJ.new (h : ShJ G i j R W) (hw : W.length = R.length) (hi : i < R.length) {l : Int} : ShJ G i (j + 1) (R ++ [byL (R.getD i []) (ltr G j)]) (W ++ [W.getD i [] ++ [l]]) := by
  have ow : ∀ k, k < R.length → (W ++ [W.getD i [] ++ [l]]).getD k [] = W.getD k [] := fun k hk => getD_snoc (by omega)
  have lw : (W ++ [W.getD i [] ++ [l]]).getD R.length [] = W.getD i [] ++ [l] := by rw [← hw]; exact getD_last
  refine ⟨fun a b hab hb => ?_, fun k hk => ?_, fun a ha j hj => ?_, fun a ha => ?_⟩
  · rw [List.length_append, List.length_singleton] at hb
    by_cases eb : b < R.length
    · rw [ow a (by omega), ow b eb]; exact h.mono a b hab eb
    · obtain rfl : b = R.length := by omega
      rw [lw, List.length_append, List.length_singleton]
      by_cases ea : a < R.length
      · rw [ow a ea]; exact h.up a ea
      · obtain rfl : a = R.length := by omega
        rw [lw, List.length_append, List.length_singleton]
        exact Nat.le_refl _
  · rw [List.length_append, List.length_singleton] at hk
    rw [ow i hi]
    by_cases ek : k < R.length
    · rw [ow k ek]; exact h.up k ek
    · obtain rfl : k = R.length := by omega
      rw [lw, List.length_append, List.length_singleton]
      exact Nat.le_refl _
  · obtain ⟨k, h1, h2, h3⟩ := h.done a ha j hj
    exact ⟨k, by rw [List.length_append]; omega, by rw [getD_snoc h1, getD_snoc (by omega)]; exact h2, by rw [ow k h1, ow a (by omega)]; exact h3⟩
  · rw [getD_snoc hi]
    by_cases ea : a = j
    · subst ea; exact ⟨R.length, by simp, getD_last⟩
    · obtain ⟨k, h1, h2⟩ := h.cur a (by omega)
      exact ⟨k, by rw [List.length_append]; omega, by rw [getD_snoc h1]; exact h2⟩
theorem shJ (hn : 1 ≤ n ∧ n ≤ 12) (hG : ∀ x ∈ G, RowN n x) (hR : Reps n G [roundsL n] R) (hw : W.length = R.length) (hi : i < R.length) (h : ShI G i R W) : ∀ j, j ≤ 2 * G.length → ShJ G i j (prJ G [roundsL n] R W i j).1 (prJ G [roundsL n] R W i j).2.1
  | 0, _ => h.go hi
  | j + 1, hj => by
    have ih := shJ hn hG hR hw hi h j (by omega)
    have ok := prJ_ok (one_prt hn hG) hR hw hi j (by omega)
    have hi2 : i < (prJ G [roundsL n] R W i j).1.length := by have := ok.len; omega
    have hir := ok.reps.rows (one_prt hn hG) hi2
    cases e : fndP [roundsL n] (prJ G [roundsL n] R W i j).1 (byL ((prJ G [roundsL n] R W i j).1.getD i []) (ltr G j)) with
    | some k =>
      rw [prJ_some e]
      obtain ⟨h1, h2⟩ := fnd_some e
      exact ih.old h1 ((same_one (hir.by (ltr_row hG (by omega)).1) (ok.reps.rows (one_prt hn hG) h1)).1 h2).symm
    | none => rw [prJ_none e]; exact ih.new ok.wl hi2
theorem shI (hn : 1 ≤ n ∧ n ≤ 12) (hG : ∀ x ∈ G, RowN n x) : ∀ i, (∀ i', i' < i → i' < (prI n G [roundsL n] i').1.length) → ShI G i (prI n G [roundsL n] i).1 (prI n G [roundsL n] i).2.1
  | 0, _ => by
    have hz : ∀ k, k < (prI n G [roundsL n] 0).1.length → k = 0 := fun k hk => by
      have hk : k < [roundsL n].length := hk
      simp at hk; omega
    exact ⟨fun a b hab hb => by have := hz b hb; obtain rfl : a = b := by omega
                                exact Nat.le_refl _, fun _ k hk => by rw [hz k hk]; omega, fun a ha => by omega⟩
  | i + 1, hl => by
    have ih := shI hn hG i fun i' hi' => hl i' (by omega)
    have ok := prI_ok (one_prt hn hG) i fun i' hi' => hl i' (by omega)
    have hi := hl i (by omega)
    have okj := prJ_ok (one_prt hn hG) ok.reps ok.wl hi (2 * G.length) (Nat.le_refl _)
    rw [prI]
    exact (shJ hn hG ok.reps ok.wl hi ih (2 * G.length) (Nat.le_refl _)).next (by have := okj.len; omega)
theorem gen_is (hk : k < u.length) (hb : badW G u u.length = false) : ∃ j, j < 2 * G.length ∧ genL G (u.getD k 0) = ltr G j := by
  obtain ⟨h0, h1, h2⟩ := badW_no hb k hk
  by_cases hneg : u.getD k 0 < 0
  · refine ⟨2 * (-u.getD k 0 - 1).toNat + 1, by omega, ?_⟩
    unfold genL KL.ltr
    rw [if_pos hneg, if_pos (by omega)]
    congr 2; omega
  · refine ⟨2 * (u.getD k 0 - 1).toNat, by omega, ?_⟩
    unfold genL KL.ltr
    rw [if_neg hneg, if_neg (by omega)]
    congr 1; omega
theorem WordOf.short (hn : 1 ≤ n ∧ n ≤ 12) (hG : ∀ x ∈ G, RowN n x) (h : WordOf n G r w) (hu : WordP n G u r) : w.length ≤ u.length := by
  obtain ⟨i, R, W, k, hY, hk, hr, rfl⟩ := h
  obtain ⟨N0, s⟩ := hY.y
  obtain ⟨hR, hwl, _⟩ := s.ok (one_prt hn hG)
  have hS : ShI G i R W := by
    have := shI hn hG i s.lt
    rwa [s.eq] at this
  have key : ∀ t, t ≤ u.length → (∀ k, k < R.length → (W.getD k []).length ≤ u.length) ∨ ∃ a, a < R.length ∧ R.getD a [] = sayT n G u t ∧ (W.getD a []).length ≤ t := by
    intro t
    induction t with
    | zero =>
      intro _
      refine .inr ⟨0, hR.ne, hR.z, ?_⟩
      have hwz : W.getD 0 [] = [] := by
        obtain ⟨A, B, _, e⟩ := prI_pre (n := n) (G := G) (i := 0) i
        rw [Nat.zero_add, s.eq] at e
        have e : W = [[]] ++ B := e
        rw [e]; rfl
      rw [hwz]; exact Nat.le_refl _
    | succ t ih =>
      intro ht
      rcases ih (by omega) with h1 | ⟨a, ha, he, hl⟩
      · exact .inl h1
      · rcases Nat.lt_or_ge a i with hai | hai
        · obtain ⟨j, hj, ej⟩ := gen_is (G := G) (u := u) (k := t) (by omega) hu.ok
          obtain ⟨q, hq, eq, hql⟩ := hS.done a hai j hj
          exact .inr ⟨q, hq, by rw [sayT, ← he, ej]; exact eq, by omega⟩
        · refine .inl fun q hq => ?_
          have hi : i < R.length := by omega
          have := hS.up hi q hq
          have := hS.mono i a hai ha
          omega
  rcases key u.length (Nat.le_refl _) with h1 | ⟨a, ha, he, hl⟩
  · exact h1 k hk
  · rw [hu.eq, ← hr] at he
    have hkr := hR.rows (one_prt hn hG) hk
    have : a = k := hR.dis a k ha hk (by rw [he]; exact (same_one hkr hkr).2 rfl)
    rw [← this]; exact hl
theorem WordOf.says (hn : 1 ≤ n ∧ n ≤ 12) (hG : ∀ x ∈ G, RowN n x) (h : WordOf n G r w) : WordP n G w r := by
  obtain ⟨i, R, W, k, hY, hk, hr, rfl⟩ := h
  obtain ⟨N0, s⟩ := hY.y
  have := (s.v (one_prt hn hG)).word k hk
  rw [← hr]; exact this
/-! ### ORBIT AND STABILISER -/
theorem orb_class (hn : 1 ≤ n ∧ n ≤ 12) (hG : ∀ x ∈ G, RowN n x) (hE : EltsOk n G E) (hF : EltsOk n K F) (hb : b < n) (hcl : ∀ r, Cl n (fun y => y ∈ K) r ↔ Cl n (fun y => y ∈ G) r ∧ r.getD b 0 = (b : Int)) {t : List Int} (ht : Cl n (fun y => y ∈ G) t) {p : Nat} (hp : t.getD b 0 = (p : Int)) : E.countP (fun r => decide (r.getD b 0 = (p : Int))) = F.length := by
  have htr := ht.row hn hG
  rw [List.countP_eq_length_filter]
  apply Nat.le_antisymm
  · have := nd_sub (a := (E.filter fun r => decide (r.getD b 0 = (p : Int))).map (byL (undoL t))) (b := F) (by
      refine List.pairwise_map.2 ((List.Pairwise.filter _ hE.nd).imp_of_mem fun {a b} ha hb hne e => hne ?_)
      have ha' := ((hE.mem a).1 (List.mem_filter.1 ha).1).row hn hG
      have hb' := ((hE.mem b).1 (List.mem_filter.1 hb).1).row hn hG
      have := back_row ha' htr
      rw [e, back_row hb' htr] at this
      exact this.symm) fun x hx => by
      obtain ⟨r, hr, rfl⟩ := List.mem_map.1 hx
      obtain ⟨h1, h2⟩ := List.mem_filter.1 hr
      have h2 := of_decide_eq_true h2
      have hrc := (hE.mem r).1 h1
      refine (hF.mem _).2 ((hcl _).2 ⟨(ht.undo hn hG).prod hn hG hrc, ?_⟩)
      rw [by_at (hrc.row hn hG) hb, h2, Int.toNat_natCast, ← show (t.getD b 0).toNat = p by rw [hp, Int.toNat_natCast]]
      exact undo_at htr hb
    rwa [List.length_map] at this
  · have := nd_sub (a := F.map (byL t)) (b := E.filter fun r => decide (r.getD b 0 = (p : Int))) (by
      refine List.pairwise_map.2 (hF.nd.imp_of_mem fun {a b} ha hb hne e => hne ?_)
      have ha' := ((hcl a).1 ((hF.mem a).1 ha)).1.row hn hG
      have hb' := ((hcl b).1 ((hF.mem b).1 hb)).1.row hn hG
      have := fore_row ha' htr
      rw [e, fore_row hb' htr] at this
      exact this.symm) fun x hx => by
      obtain ⟨r, hr, rfl⟩ := List.mem_map.1 hx
      obtain ⟨h1, h2⟩ := (hcl r).1 ((hF.mem r).1 hr)
      refine List.mem_filter.2 ⟨(hE.mem _).2 (ht.prod hn hG h1), decide_eq_true ?_⟩
      rw [by_at (h1.row hn hG) hb, h2, Int.toNat_natCast, hp]
    rwa [List.length_map] at this
theorem len_parts (hb : b < n) (l : List (List Int)) (h : ∀ r ∈ l, RowN n r) : l.length = ((List.range n).map fun (p : Nat) => l.countP fun r => decide (r.getD b 0 = (p : Int))).sum := by
  rw [← sum_swapP (fun (r : List Int) (p : Nat) => decide (r.getD b 0 = (p : Int))) l (List.range n), sum_cong (g := fun _ => 1) fun r hr => ?_, sum_cst]
  · omega
  · have hr := (h r hr).at hb
    obtain ⟨q, hq⟩ : ∃ q : Nat, r.getD b 0 = (q : Int) := ⟨(r.getD b 0).toNat, by omega⟩
    rw [List.countP_congr (q := fun p => decide (q = p)) fun p _ => by rw [decide_eq_true_eq, decide_eq_true_eq]; omega]
    exact count_one List.nodup_range (List.mem_range.2 (by omega))
open Classical in
theorem orb_stab (hn : 1 ≤ n ∧ n ≤ 12) (hG : ∀ x ∈ G, RowN n x) (hE : EltsOk n G E) (hF : EltsOk n K F) (hb : b < n) (hcl : ∀ r, Cl n (fun y => y ∈ K) r ↔ Cl n (fun y => y ∈ G) r ∧ r.getD b 0 = (b : Int)) : E.length = (orbT n G b n).length * F.length := by
  refine (len_parts hb E fun r hr => ((hE.mem r).1 hr).row hn hG).trans ?_
  have e : (fun p : Nat => E.countP fun r => decide (r.getD b 0 = (p : Int))) = fun p : Nat => if InO n G b p then F.length else 0 := by
    funext p
    by_cases h : InO n G b p
    · rw [if_pos h]
      obtain ⟨t, h1, h2⟩ := h
      exact orb_class hn hG hE hF hb hcl h1 h2
    · rw [if_neg h, List.countP_eq_zero]
      intro r hr hd
      exact h ⟨r, (hE.mem r).1 hr, of_decide_eq_true hd⟩
  rw [e, if_sum]
  unfold orbT
  rw [List.length_map, List.countP_eq_length_filter]
theorem StlP.size (hC : ChnOf n G c) (hG : ∀ x ∈ G, RowN n x) (hb : b < n) (h : StlP n b G K d) : szTo n (fun y => y ∈ G) n = (orbT n G b n).length * szTo n (fun y => y ∈ K) n := by
  obtain ⟨E, hE⟩ := hC.elts hG
  obtain ⟨F, hF⟩ := h.of.elts h.row
  rw [← hE.len, ← hF.len]
  exact orb_stab hC.wc.nn hG hE hF hb h.cl
/-! ### It divides -/
theorem dvd_cl (hn : 1 ≤ n ∧ n ≤ 12) (hG : ∀ x ∈ G, RowN n x) (hE : EltsOk n G E) : ∀ (m : Nat) (A : List (List Int)), A.length ≤ m → A.Nodup → (∀ x ∈ A, RowN n x) → (∀ x ∈ A, ∀ g ∈ E, byL x g ∈ A) → E.length ∣ A.length
  | 0, A, hm, _, _, _ => by rw [show A.length = 0 by omega]; exact Nat.dvd_zero _
  | m + 1, [], _, _, _, _ => by exact Nat.dvd_zero _
  | m + 1, x :: A, hm, hnd, hr, hcl => by
    have hxr := hr x (by simp)
    have hEr : ∀ g ∈ E, RowN n g := fun g hg => ((hE.mem g).1 hg).row hn hG
    have hxx : x ∈ E.map (byL x) := List.mem_map.2 ⟨roundsL n, (hE.mem _).2 .one, byL_rounds_right hxr.len⟩
    let p : List Int → Bool := fun y => decide (y ∈ E.map (byL x))
    have h1 : (x :: A).length = ((x :: A).filter p).length + ((x :: A).filter fun y => !p y).length := by
      have : ∀ l : List (List Int), l.length = (l.filter p).length + (l.filter fun y => !p y).length := by
        intro l
        induction l with
        | nil => rfl
        | cons b l ih =>
          rw [List.filter_cons, List.filter_cons]
          cases p b
          · simp only [Bool.not_false, if_true, List.length_cons, Bool.false_eq_true, if_false]; omega
          · simp only [Bool.not_true, if_true, List.length_cons, Bool.false_eq_true, if_false]; omega
      exact this _
    have hmn : (E.map (byL x)).Nodup := List.pairwise_map.2 (hE.nd.imp_of_mem fun {a b} ha hb hne e => hne (by
      have := fore_row (hEr a ha) hxr
      rw [e, fore_row (hEr b hb) hxr] at this
      exact this.symm))
    have h2 : ((x :: A).filter p).length = E.length := by
      apply Nat.le_antisymm
      · have := nd_sub (a := (x :: A).filter p) (b := E.map (byL x)) (hnd.filter _) fun y hy => of_decide_eq_true (List.mem_filter.1 hy).2
        rwa [List.length_map] at this
      · have := nd_sub (a := E.map (byL x)) (b := (x :: A).filter p) hmn fun y hy => by
          refine List.mem_filter.2 ⟨?_, decide_eq_true hy⟩
          obtain ⟨g, hg, rfl⟩ := List.mem_map.1 hy
          exact hcl x (by simp) g hg
        rwa [List.length_map] at this
    have h3 : ((x :: A).filter fun y => !p y).length ≤ m := by
      have : 0 < ((x :: A).filter p).length := List.length_pos_of_mem (List.mem_filter.2 ⟨List.mem_cons_self, decide_eq_true hxx⟩)
      omega
    have ih := dvd_cl hn hG hE m ((x :: A).filter fun y => !p y) h3 (hnd.filter _) (fun y hy => hr y (List.mem_filter.1 hy).1) fun y hy g hg => by
      obtain ⟨hy1, hy2⟩ := List.mem_filter.1 hy
      refine List.mem_filter.2 ⟨hcl y hy1 g hg, ?_⟩
      have hy2 : y ∉ E.map (byL x) := by simpa [p] using hy2
      have : byL y g ∉ E.map (byL x) := fun hm => hy2 (by
        obtain ⟨h, hh, e⟩ := List.mem_map.1 hm
        refine List.mem_map.2 ⟨byL h (undoL g), (hE.mem _).2 (((hE.mem h).1 hh).prod hn hG (((hE.mem g).1 hg).undo hn hG)), ?_⟩
        rw [by_as x (hEr h hh) (hEr g hg).undo, e, by_fore (hr y hy1) (hEr g hg)])
      simpa [p] using this
    rw [h1, h2]
    exact Nat.dvd_add (Nat.dvd_refl _) ih
theorem atL_rowN (hn : 1 ≤ n ∧ n ≤ 12) (hk : k < fct n) : RowN n (atL n k) := ⟨at_row hn.1 hn.2 hk, at_len n k⟩
theorem sz_dvd (hC : ChnOf n G c) (hG : ∀ x ∈ G, RowN n x) : szTo n (fun y => y ∈ G) n ∣ fct n := by
  obtain ⟨E, hE⟩ := hC.elts hG
  have hn := hC.wc.nn
  have := dvd_cl hn hG hE (fct n) ((List.range (fct n)).map (atL n)) (by simp) (by
    refine List.pairwise_map.2 (List.nodup_range.imp_of_mem fun {a b} ha hb hne e => hne ?_)
    have := congrArg rankL e
    rwa [at_rank (List.mem_range.1 ha), at_rank (List.mem_range.1 hb)] at this) (fun x hx => by
    obtain ⟨k, hk, rfl⟩ := List.mem_map.1 hx
    exact atL_rowN hn (List.mem_range.1 hk)) fun x hx g hg => by
    obtain ⟨k, hk, rfl⟩ := List.mem_map.1 hx
    have hr := (atL_rowN hn (List.mem_range.1 hk)).by (((hE.mem g).1 hg).row hn hG)
    refine List.mem_map.2 ⟨rankL (byL (atL n k) g), List.mem_range.2 ?_, ?_⟩
    · have := rankL_lt (byL (atL n k) g)
      rwa [hr.len] at this
    · have := rank_at hr.row
      rwa [hr.len] at this
  rw [List.length_map, List.length_range, hE.len] at this
  exact this
/-! ### The law -/
theorem sz_mod (hC : ChnOf n G c) (hG : ∀ x ∈ G, RowN n x) : fct n % szTo n (fun y => y ∈ G) n = 0 := Nat.mod_eq_zero_of_dvd (sz_dvd hC hG)
theorem say_cl (hn : 1 ≤ n ∧ n ≤ 12) (hG : ∀ x ∈ G, RowN n x) : ∀ {j : Nat}, badW G w j = false → Cl n (fun y => y ∈ G) (sayT n G w j)
  | 0, _ => .one
  | j + 1, h => by
    have h1 : badW G w j = false := by rw [badW, Bool.or_eq_false_iff] at h; exact h.1
    obtain ⟨a, b, c⟩ := badW_no h j (by omega)
    refine (say_cl hn hG h1).prod hn hG ?_
    unfold genL
    split
    · exact (Cl.gen (S := fun y => y ∈ G) hG (mem_atD [] (by omega))).undo hn hG
    · exact Cl.gen (S := fun y => y ∈ G) hG (mem_atD [] (by omega))
/-! ### The letters of the law -/
def upT (a : List Int) (g i : Nat) : List Int := (a.take i).map fun z => ((1 + pick z g : Nat) : Int)
def dnT (a : List Int) (g i : Nat) : List Int := (a.take i).map fun z => -1 - ((pick z g : Nat) : Int)
theorem upT_succ {a : List Int} {g : Nat} (h : i < a.length) : upT a g (i + 1) = upT a g i ++ [((1 + pick (a.getD i 0) g : Nat) : Int)] := by
  unfold upT; rw [take_snoc a 0 i h, List.map_append]; rfl
theorem dnT_succ {a : List Int} {g : Nat} (h : i < a.length) : dnT a g (i + 1) = dnT a g i ++ [-1 - ((pick (a.getD i 0) g : Nat) : Int)] := by
  unfold dnT; rw [take_snoc a 0 i h, List.map_append]; rfl
theorem upT_len {a : List Int} {g : Nat} : (upT a g i).length ≤ a.length := by unfold upT; rw [List.length_map, List.length_take]; omega
theorem dnT_len {a : List Int} {g : Nat} : (dnT a g i).length ≤ a.length := by unfold dnT; rw [List.length_map, List.length_take]; omega
theorem badW_of : ∀ {k : Nat}, (∀ j, j < k → w.getD j 0 ≠ 0 ∧ w.getD j 0 ≤ G.length ∧ -(G.length : Int) ≤ w.getD j 0) → badW G w k = false
  | 0, _ => rfl
  | k + 1, h => by
    have := h k (by omega)
    exact badW_succ (badW_of fun j hj => h j (by omega)) (by omega)
theorem upT_ok {a : List Int} (hg : 0 < i → 0 < G.length) : badW G (upT a G.length i) (upT a G.length i).length = false := badW_of fun j hj => by
  obtain ⟨z, hz, e⟩ := List.mem_map.1 (mem_atD 0 hj)
  have hi : 0 < i := by
    rcases Nat.eq_zero_or_pos i with h | h
    · subst h; simp at hz
    · exact h
  have := pick_lt z (hg hi)
  have e : _ = (upT a G.length i).getD j 0 := e
  rw [← e]
  omega
theorem dnT_ok {a : List Int} (hg : 0 < i → 0 < G.length) : badW G (dnT a G.length i) (dnT a G.length i).length = false := badW_of fun j hj => by
  obtain ⟨z, hz, e⟩ := List.mem_map.1 (mem_atD 0 hj)
  have hi : 0 < i := by
    rcases Nat.eq_zero_or_pos i with h | h
    · subst h; simp at hz
    · exact h
  have := pick_lt z (hg hi)
  have e : _ = (dnT a G.length i).getD j 0 := e
  rw [← e]
  omega
def orbAt (L : List (List Int)) (b : Int) : Nat → Nat
  | 0 => 0
  | i + 1 => if b ∈ L.getD i [] then (L.getD i []).length else orbAt L b i
def orbIn (L : List (List Int)) (b : Int) (i k : Nat) : Nat := if b ∈ (L.getD i []).take k then (L.getD i []).length else orbAt L b i
theorem orbIn_zero {L : List (List Int)} {z : Int} : orbIn L z i 0 = orbAt L z i := by simp [orbIn]
theorem orbIn_all {L : List (List Int)} {z : Int} (h : k = (L.getD i []).length) : orbIn L z i k = orbAt L z (i + 1) := by
  unfold orbIn; rw [h, List.take_length]; rfl
theorem orbIn_yes {L : List (List Int)} {z : Int} (hk : k < (L.getD i []).length) (e : (L.getD i []).getD k 0 = z) : orbIn L z i (k + 1) = (L.getD i []).length := by
  unfold orbIn; rw [take_snoc _ 0 k hk, if_pos (by rw [e]; simp)]
theorem orbIn_no {L : List (List Int)} {z : Int} (hk : k < (L.getD i []).length) (e : (L.getD i []).getD k 0 ≠ z) : orbIn L z i (k + 1) = orbIn L z i k := by
  unfold orbIn; rw [take_snoc _ 0 k hk]
  have : z ∈ (L.getD i []).take k ++ [(L.getD i []).getD k 0] ↔ z ∈ (L.getD i []).take k := by
    rw [List.mem_append, List.mem_singleton]
    exact ⟨fun h => h.resolve_right fun h2 => e h2.symm, .inl⟩
  by_cases h : z ∈ (L.getD i []).take k
  · rw [if_pos (this.2 h), if_pos h]
  · rw [if_neg fun h2 => h (this.1 h2), if_neg h]
theorem orbAt_is {L : List (List Int)} {z : Int} {m : Nat} : ∀ {k : Nat}, (∃ i, i < k ∧ z ∈ L.getD i []) → (∀ i, i < k → z ∈ L.getD i [] → (L.getD i []).length = m) → orbAt L z k = m
  | 0, h, _ => by obtain ⟨i, hi, _⟩ := h; omega
  | k + 1, h, h2 => by
    rw [orbAt]
    by_cases e : z ∈ L.getD k []
    · rw [if_pos e]; exact h2 k (by omega) e
    · rw [if_neg e]
      obtain ⟨i, hi, hz⟩ := h
      refine orbAt_is ⟨i, ?_, hz⟩ fun j hj => h2 j (by omega)
      refine Nat.lt_of_le_of_ne (by omega) fun e2 => e (e2 ▸ hz)
theorem orbT_same (hn : 1 ≤ n ∧ n ≤ 12) (hG : ∀ x ∈ G, RowN n x) (hb : b < n) (hk : k < n) (h : InO n G k b) : orbT n G k n = orbT n G b n := by
  have e : ∀ q, InO n G k q ↔ InO n G b q := fun q => ⟨fun h2 => (h.symm hn hG hk).trans hn hG hb h2, fun h2 => h.trans hn hG hk h2⟩
  unfold orbT
  congr 1
  refine List.filter_congr fun q _ => ?_
  rw [decide_eq_decide]; exact e q
theorem least_orb (hn : 1 ≤ n ∧ n ≤ 12) (hG : ∀ x ∈ G, RowN n x) : ∀ (m b : Nat), b ≤ m → b < n → ∃ k, k < n ∧ InO n G k b ∧ ∀ j, j < k → ¬ InO n G k j
  | 0, b, hm, hb => ⟨b, hb, InO.refl hb, fun j hj => by omega⟩
  | m + 1, b, hm, hb => by
    by_cases h : ∃ j, j < b ∧ InO n G b j
    · obtain ⟨j, hj, hI⟩ := h
      obtain ⟨k, h1, h2, h3⟩ := least_orb hn hG m j (by omega) (by omega)
      exact ⟨k, h1, h2.trans hn hG h1 (hI.symm hn hG hb), h3⟩
    · exact ⟨b, hb, InO.refl hb, fun j hj hI => h ⟨j, hj, hI⟩⟩
theorem orb_found (hn : 1 ≤ n ∧ n ≤ 12) (hG : ∀ x ∈ G, RowN n x) (hb : b < n) : orbAt (orbsL n G n) ((b : Nat) : Int) (orbsL n G n).length = (orbT n G b n).length := by
  refine orbAt_is ?_ fun i hi hz => ?_
  · obtain ⟨k, h1, h2, h3⟩ := least_orb hn hG b b (Nat.le_refl _) hb
    have hm : orbT n G k n ∈ orbsL n G n := by
      unfold orbsL
      simp only [List.mem_map, List.mem_filter, List.mem_range, decide_eq_true_eq]
      exact ⟨k, ⟨h1, fun j hj => h3 j hj⟩, rfl⟩
    obtain ⟨i, hi, e⟩ := List.getElem_of_mem hm
    refine ⟨i, hi, ?_⟩
    rw [show (orbsL n G n).getD i [] = (orbsL n G n)[i] by simp [hi], e]
    exact orbT_mem.2 ⟨b, rfl, hb, h2⟩
  · obtain ⟨k, hk, e⟩ := orbs_mem (mem_atD [] hi)
    rw [e] at hz ⊢
    obtain ⟨q, e2, _, hI⟩ := orbT_mem.1 hz
    obtain rfl : b = q := by omega
    rw [orbT_same hn hG hb hk hI]
theorem orbAt_zero {L : List (List Int)} {z : Int} : orbAt L z 0 = 0 := by simp only [orbAt]
theorem orbs_lenat {n : Nat} {G : List (List Int)} {m j : Nat} : ((orbsL n G m).getD j []).length ≤ n := by
  by_cases h : j < (orbsL n G m).length
  · obtain ⟨b, _, e⟩ := orbs_mem (mem_atD [] h)
    rw [e]; exact orbT_len
  · rw [List.getD_eq_getElem?_getD, List.getElem?_eq_none (by omega)]; exact Nat.zero_le _
end
end Go.KL

