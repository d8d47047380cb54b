/- The signs of bells: where a rune stands among them. -/
import Derived.Test.YtbilebfnanlgfaaTopMusicK1
import Derived.Lib.Builder
import Derived.Lib.UnsafeStr
import Derived.Lib.SliceRun
import Derived.Lib.DecodeN
import Derived.ProofKit
import Derived.JoinedCond
import Derived.SizedLaws
import Derived.Deep.Slices
import Derived.Deep.CondSized
namespace Go.KL
abbrev SIGNS : ByteArray := ByteArray.mk #[49, 50, 51, 52, 53, 54, 55, 56, 57, 48, 69, 84]
def signIdx (c : Int) : Int := if 0 ≤ c ∧ c < 128 then Lib.indexByte SIGNS.data.toList c.toNat.toUInt8 else -1

theorem ixb_no {l : List UInt8} {c : UInt8} (h : ∀ b ∈ l, b ≠ c) : Lib.indexByte l c = -1 := by
  induction l with
  | nil => rfl
  | cons b l ih =>
    rw [Lib.indexByte, if_neg (by simpa using h b (by simp)), ih fun x hx => h x (by simp [hx])]
    simp
theorem ixb_yes {c : UInt8} : ∀ {l : List UInt8} {i : Nat} (hi : i < l.length), l[i] = c → (∀ j (hj : j < i), l[j]'(by omega) ≠ c) → Lib.indexByte l c = i
  | b :: l, 0, hi, h, _ => by
    simp at h
    rw [Lib.indexByte, if_pos (by simpa using h)]; rfl
  | b :: l, i + 1, hi, h, hn => by
    have h0 : b ≠ c := hn 0 (by omega)
    have ih := ixb_yes (l := l) (i := i) (by simpa using hi) (by simpa using h) (fun j hj => by have := hn (j + 1) (by omega); simpa using this)
    rw [Lib.indexByte, if_neg (by simpa using h0), ih]
    rw [if_neg (by simp)]; omega
theorem get_list {s : ByteArray} {i : Nat} (h : i < s.size) : s.get! i = s.data.toList[i]'(by simpa using h) := by
  have h' : i < s.data.size := h
  simp only [ByteArray.get!]
  rw [getElem!_pos s.data i h']
  simp
theorem u8_eq {b c : UInt8} : ((b.toNat : Nat) : Int) = ((c.toNat : Nat) : Int) ↔ b = c := by
  rw [Int.natCast_inj]; exact UInt8.toNat_inj
theorem u8_of {c : Int} (h0 : 0 ≤ c) (h1 : c < 256) : ((c.toNat.toUInt8.toNat : Nat) : Int) = c := by
  have : c.toNat.toUInt8.toNat = c.toNat := by
    show (UInt8.ofNat c.toNat).toNat = _
    rw [UInt8.toNat_ofNat']; omega
  omega
theorem ixs_yes {s : ByteArray} {c : Int} {i : Nat} (h0 : 0 ≤ c) (h1 : c < 256) (hi : i < s.size) (h : (((s.get! i).toNat : Nat) : Int) = c) (hn : ∀ j, j < i → (((s.get! j).toNat : Nat) : Int) ≠ c) : Lib.indexByte s.data.toList c.toNat.toUInt8 = i := by
  have hc := u8_of h0 h1
  refine ixb_yes (by simpa using hi) ?_ (fun j hj => ?_)
  · rw [← get_list hi, ← u8_eq, hc]; exact h
  · have := hn j hj
    rw [← get_list (by omega), Ne, ← u8_eq, hc]; exact this
theorem signs_lt {j : Nat} (h : j < 12) : (SIGNS.get! j).toNat < 128 := by
  have : ∀ j : Fin 12, (SIGNS.get! j).toNat < 128 := by decide
  exact this ⟨j, h⟩
theorem signs_run {p : Nat} (h : p < 12) : run1 SIGNS p < 128 ∧ stepTo SIGNS p = p + 1 := by
  have : ∀ j : Fin 12, run1 SIGNS j < 128 ∧ stepTo SIGNS j = j.val + 1 := by decide
  exact this ⟨p, h⟩
theorem signs_size : SIGNS.size = 12 := rfl
theorem signs_cut {l : Nat} {c : Int} (h0 : 128 ≤ c) (h1 : c < 256) : Lib.indexByte (SIGNS.extract l SIGNS.size).data.toList c.toNat.toUInt8 = -1 := by
  refine ixb_no fun b hb => ?_
  have hc := u8_of (c := c) (by omega) h1
  have hm : b ∈ SIGNS.data.toList := by
    simp only [ByteArray.data_extract, Array.toList_extract, List.extract_eq_take_drop] at hb
    exact List.mem_of_mem_drop (List.mem_of_mem_take hb)
  have hlt : b.toNat < 128 := by
    have : ∀ b ∈ SIGNS.data.toList, b.toNat < 128 := by decide
    exact this b hm
  intro e
  rw [← e] at hc; omega
theorem enc_facts {r : Int} (h : 128 ≤ r) (hv : Utf8.valid r = true) : 2 ≤ (Utf8.encode r).size ∧ (Utf8.encode r).size ≤ 4 ∧ 128 ≤ ((Utf8.encode r).get! ((Utf8.encode r).size - 1)).toNat ∧ ((Utf8.encode r).get! ((Utf8.encode r).size - 1)).toNat < 256 := by
  have hm : ∀ m : Nat, m % 64 < 64 := fun m => Nat.mod_lt _ (by decide)
  have hb : ∀ m : Nat, (UInt8.ofNat (0x80 + m % 64)).toNat = 128 + m % 64 := fun m => by rw [UInt8.toNat_ofNat']; have := hm m; omega
  unfold Utf8.encode
  simp only [hv, if_true]
  rw [if_neg (by omega)]
  split
  · refine ⟨Nat.le_of_ble_eq_true rfl, Nat.le_of_ble_eq_true rfl, ?_, ?_⟩
    · show 128 ≤ (UInt8.ofNat (0x80 + r.toNat % 64)).toNat
      rw [hb]; omega
    · show (UInt8.ofNat (0x80 + r.toNat % 64)).toNat < 256
      rw [hb]; have := hm r.toNat; omega
  · split
    · refine ⟨Nat.le_of_ble_eq_true rfl, Nat.le_of_ble_eq_true rfl, ?_, ?_⟩
      · show 128 ≤ (UInt8.ofNat (0x80 + r.toNat % 64)).toNat
        rw [hb]; omega
      · show (UInt8.ofNat (0x80 + r.toNat % 64)).toNat < 256
        rw [hb]; have := hm r.toNat; omega
    · refine ⟨Nat.le_of_ble_eq_true rfl, Nat.le_of_ble_eq_true rfl, ?_, ?_⟩
      · show 128 ≤ (UInt8.ofNat (0x80 + r.toNat % 64)).toNat
        rw [hb]; omega
      · show (UInt8.ofNat (0x80 + r.toNat % 64)).toNat < 256
        rw [hb]; have := hm r.toNat; omega
theorem signIdx_lo {c : Int} (h0 : 0 ≤ c) (h1 : c < 128) : signIdx c = Lib.indexByte SIGNS.data.toList c.toNat.toUInt8 := if_pos ⟨h0, h1⟩
theorem signIdx_hi {c : Int} (h : ¬ (0 ≤ c ∧ c < 128)) : signIdx c = -1 := if_neg h
theorem wrap_u8 {c : Int} (h0 : 0 ≤ c) (h1 : c < 256) : IntKind.u8.wrap c = c := by
  simp [IntKind.wrap, IntKind.bits, IntKind.signed]; omega
end Go.KL

/- What package strings' Builder meets: pointers held against each other, a row of bytes that becomes a string. -/
namespace Go.KL
open Go.RowKit
variable {P : Program} {d : Option Tmp} {ty : TypeId} {pos : String} {af : Array Edge} {g : Option (Nat × Bool)} {a : Act} {σ : GW}

abbrev Ty.byte (b : UInt8) : Ty := .val (.int .u8 ((b.toNat : Nat) : Int))
def bsL (l : List UInt8) : ByteArray := ⟨l.toArray⟩
def OwnPT (E : TypeId) (σ : GW) (k : Nat) (v : Value) (ts : List Ty) : Prop :=
  ∃ g cur, v = .pointer (some ⟨g, 0, none⟩) ∧ σ.st g = k ∧ σ.w.heap[g]? = some (.cells cur E (0, 0)) ∧ cur.size = ts.length ∧ ∀ (j : Nat) (T : Ty) (u : Value), ts[j]? = some T → cur[j]? = some u → T.has σ u
theorem OwnPT.toP {E : TypeId} {k : Nat} {v : Value} {ts : List Ty} (h : OwnPT E σ k v ts) : OwnP σ k v ts := by
  obtain ⟨g, cur, h1, h2, h3, h4, h5⟩ := h; exact ⟨g, E, cur, h1, h2, h3, h4, h5⟩
theorem OwnPT.keepL {E : TypeId} {L : List Nat} {k : Nat} {σ τ : GW} {v : Value} {ts : List Ty} (h : OwnPT E σ k v ts) (hs : StpL L σ τ) (h1 : 1 ∉ L) (hk : k ∉ L) : OwnPT E τ k v ts := by
  obtain ⟨g, cur, rfl, r2, r3, r4, r5⟩ := h
  have hg := (Array.getElem?_eq_some_iff.1 r3).1
  have hq : σ.st g ∉ L := by rw [r2]; exact hk
  exact ⟨g, cur, rfl, (hs.st g hg hq).trans r2, (hs.blk g hg hq).trans r3, r4, fun j T u hj hu => T.up (hs.le h1) (r5 j T u hj hu)⟩
theorem OwnPT.k0 {E : TypeId} {k : Nat} {σ τ : GW} {v : Value} {ts : List Ty} (h : OwnPT E σ k v ts) (hs : Stp 0 σ τ) : OwnPT E τ k v ts := h.keepL (L := []) hs.toL0 (by simp) (by simp)
theorem OwnPT.one {E : TypeId} {k : Nat} {v : Value} {ts : List Ty} (h : OwnPT E σ k v ts) : v.oneCell' = true := h.toP.one
end Go.KL
namespace Go.KL
end Go.KL

/- Cutting one out of a row that is owned: its two ends, joined in place, and the rest made zero. -/
namespace Go.KL
open Go.RowKit
variable {P : Program} {d : Option Tmp} {ty : TypeId} {pos : String} {af : Array Edge} {g : Option (Nat × Bool)} {a : Act} {σ : GW}
def capGe (v : Value) (n : Nat) : Prop := match v with | .slice _ _ cap => n ≤ cap | _ => False

theorem Own.form {k : Nat} {e : TypeId} {n : Nat} {v : Value} {ts : List Ty} (h : Own σ k e 1 v n ts) : ∃ ad cap, v = .slice ad n cap ∧ n ≤ cap ∧ cap ≤ 9223372036854775807 := by
  obtain ⟨us, r1, _⟩ := h
  rcases r1.2 with ⟨rfl, rfl⟩ | ⟨gg, cap, cur, rfl, _, _, hn, hm, _⟩
  · exact ⟨none, 0, rfl, Nat.le_refl _, by decide⟩
  · exact ⟨_, cap, rfl, hn, hm⟩
theorem Own.cap {k : Nat} {e : TypeId} {n : Nat} {v : Value} {ts : List Ty} (h : Own σ k e 1 v n ts) : capGe v n := by
  obtain ⟨ad, cap, rfl, hn, _⟩ := h.form; exact hn
section
variable {k : Nat} {x y y' y'' : Operand} {n : Nat} {ts : List Ty} {t e e' : TypeId} {z v : Value} {b : Nat} {ki kj kk : IntKind} (ht : P.underlying t = some (.slice e')) (he : Info P e' z 1 b) (ho : Own σ k e 1 v n ts) (hx : a.eval x = v)
include ht he ho hx
end
theorem one_map {α : Type} {f : α → Ty} {xs : List α} (h : ∀ x, One (f x)) : ∀ U, U ∈ xs.map f → One U := fun U hU => by
  obtain ⟨x, _, rfl⟩ := List.mem_map.1 hU; exact h x
end Go.KL

/- All rows, each once: the way that is looked for; what rows may generate. -/
namespace Go.KL
theorem fct_small {n : Nat} (h : n < 2) : fct n = 1 := by
  match n, h with
  | 0, _ => rfl
  | 1, _ => rfl
theorem fct_all {n j : Nat} (h1 : 1 ≤ j) (h2 : j ≤ n ∨ j = 1) (h3 : n < j + 1) : fct j = fct n := by
  by_cases h : n < 2
  · rw [fct_small h, fct_small (by omega)]
  · rw [show j = n by omega]
theorem fct_rec {n : Nat} (h : ¬ n < 2) : n * fct (n - 1) = fct n := by
  obtain ⟨q, rfl⟩ : ∃ q, n = q + 1 := ⟨n - 1, by omega⟩
  rfl
/-! ### What may generate -/
def gensTo (n : Int) : List (List Int) → Int
  | [] => 0
  | g :: l => if rowMay g ≠ 0 then rowMay g else if ((g.length : Nat) : Int) ≠ n then 1 else gensTo n l
def gensMay (n : Int) (l : List (List Int)) : Int := if n < 1 ∨ 12 < n ∨ 8 < l.length then 1 else gensTo n l
theorem gensTo_ok {n : Int} : ∀ {l : List (List Int)}, gensTo n l = 0 → ∀ g ∈ l, IsRow g ∧ ((g.length : Nat) : Int) = n
  | [], _, g, hg => by cases hg
  | x :: l, h, g, hg => by
    rw [gensTo] at h
    split at h
    · contradiction
    · rename_i h1
      split at h
      · cases h
      · rename_i h2
        rcases List.mem_cons.1 hg with rfl | hg
        · exact ⟨rowMay_ok.1 (Classical.not_not.1 h1), Classical.not_not.1 h2⟩
        · exact gensTo_ok h g hg
theorem gensMay_ok {n : Int} {l : List (List Int)} (h : gensMay n l = 0) : (1 ≤ n ∧ n ≤ 12 ∧ l.length ≤ 8) ∧ ∀ k, k < l.length → IsRow (l.getD k []) ∧ (((l.getD k []).length : Nat) : Int) = n := by
  unfold gensMay at h
  split at h
  · cases h
  · rename_i hc
    refine ⟨by omega, fun k hk => gensTo_ok h _ ?_⟩
    simp [hk]

/-! ### The order of a row, taken again and again -/
/-! ### The way -/
structure Tour (n : Nat) (cs : List (List Int)) (rows : List (List Int)) (path : List Int) (r : List Int) : Prop where
  len : rows.length = path.length + 1
  row : ∀ x ∈ rows, IsRow x ∧ x.length = n
  nd : rows.Nodup
  last : rows.getD (rows.length - 1) [] = r
  csr : ∀ k, k < cs.length → IsRow (cs.getD k []) ∧ (cs.getD k []).length = n
  nn : 1 ≤ n ∧ n ≤ 4
  cl : cs.length ≤ 8
theorem Tour.rr {n : Nat} {cs rows : List (List Int)} {path r : List Int} (h : Tour n cs rows path r) : IsRow r ∧ r.length = n := by
  refine h.row r ?_
  have hl : rows.length - 1 < rows.length := by have := h.len; omega
  rw [← h.last]
  have e : rows.getD (rows.length - 1) [] = rows[rows.length - 1] := by simp [hl]
  rw [e]; exact List.getElem_mem hl
theorem Tour.x {n : Nat} {cs rows : List (List Int)} {path r : List Int} (h : Tour n cs rows path r) {k : Nat} (hk : k < cs.length) : IsRow (byL r (cs.getD k [])) ∧ (byL r (cs.getD k [])).length = n := by
  have h1 := h.rr
  have h2 := h.csr k hk
  exact ⟨byL_row h1.1 h2.1 (by omega), by rw [byL_len]; exact h2.2⟩
theorem rows_le {n : Nat} {rows : List (List Int)} (h : ∀ x ∈ rows, IsRow x ∧ x.length = n) (hn : rows.Nodup) : rows.length ≤ fct n := by
  have := nodup_len (fct n) (rows.map fun x => ((rankL x : Nat) : Int)) (by
    refine List.pairwise_map.2 (hn.imp_of_mem ?_)
    intro a b ha hb hab e
    refine hab (rank_row_inj (h a ha).1 (h b hb).1 (by rw [(h a ha).2, (h b hb).2]) (by omega))) (fun x hx => by
    obtain ⟨y, hy, rfl⟩ := List.mem_map.1 hx
    have := rankL_lt y
    rw [(h y hy).2] at this
    omega)
  simpa using this
theorem Tour.next {n : Nat} {cs rows : List (List Int)} {path r : List Int} (h : Tour n cs rows path r) {k : Nat} (hk : k < cs.length) (hx : byL r (cs.getD k []) ∉ rows) : Tour n cs (rows ++ [byL r (cs.getD k [])]) (path ++ [(k : Int)]) (byL r (cs.getD k [])) := by
  refine ⟨by simp [h.len], fun x hxm => ?_, ?_, by simp, h.csr, h.nn, h.cl⟩
  · rcases List.mem_append.1 hxm with hm | hm
    · exact h.row x hm
    · simp at hm; subst hm; exact h.x hk
  · refine List.nodup_append.2 ⟨h.nd, by simp, fun a ha b hb => ?_⟩
    simp at hb; subst hb
    rintro rfl; exact hx ha
theorem Tour.lt {n : Nat} {cs rows : List (List Int)} {path r : List Int} (h : Tour n cs rows path r) : path.length < fct n ∧ fct n ≤ 24 := by
  have h1 := rows_le h.row h.nd
  have h2 := h.len
  have h3 : fct n ≤ fct 4 := fct_mono h.nn.2
  have h4 : fct 4 = 24 := by decide
  omega
def SeenT (n : Nat) (rows : List (List Int)) (f : Int → Option Int) : Prop := ∀ x, IsRow x → x.length = n → (f ((rankL x : Nat) : Int)).getD 0 = if x ∈ rows then 1 else 0
theorem SeenT.put {n : Nat} {rows : List (List Int)} {f : Int → Option Int} (h : SeenT n rows f) {x : List Int} (hx : IsRow x ∧ x.length = n) : SeenT n (rows ++ [x]) (fun p => if p = ((rankL x : Nat) : Int) then some 1 else f p) := by
  intro y hy hl
  by_cases e : y = x
  · subst e; simp
  · have hne : rankL y ≠ rankL x := fun hh => e (rank_row_inj hy hx.1 (by omega) hh)
    simp only [Int.natCast_inj, if_neg hne]
    rw [h y hy hl]
    simp [e]
theorem SeenT.drop {n : Nat} {rows : List (List Int)} {f : Int → Option Int} {x : List Int} (h : SeenT n (rows ++ [x]) f) (hx : IsRow x ∧ x.length = n) (hn : x ∉ rows) : SeenT n rows (fun p => if p = ((rankL x : Nat) : Int) then some 0 else f p) := by
  intro y hy hl
  by_cases e : y = x
  · subst e; simp [hn]
  · have hne : rankL y ≠ rankL x := fun hh => e (rank_row_inj hy hx.1 (by omega) hh)
    simp only [Int.natCast_inj, if_neg hne]
    rw [h y hy hl]
    simp [e]
end Go.KL
namespace Go.KL
section
variable {F : List (List Int) → List Int → Option (List Int)} {cs : List (List Int)} {N : Nat} {rows : List (List Int)} {path r : List Int} {k : Nat} (hl : rows.getD (rows.length - 1) [] = r)
include hl
end
theorem Tour.start {n : Int} {cs : List (List Int)} (h : ¬ (n < 1 ∨ 4 < n ∨ 8 < cs.length)) (h2 : ¬ gensMay n cs ≠ 0) : Tour n.toNat cs [roundsL n.toNat] [] (roundsL n.toNat) := by
  have hg := gensMay_ok (Classical.not_not.1 h2)
  refine ⟨rfl, fun x hx => ?_, by simp, rfl, fun k hk => ⟨(hg.2 k hk).1, by have := (hg.2 k hk).2; omega⟩, ⟨by omega, by omega⟩, by omega⟩
  simp at hx; subst hx
  exact ⟨roundsL_row (by omega) (by omega), roundsL_len _⟩
end Go.KL
namespace Go.KL
end Go.KL

/- All rows, each once: what is found rings, and nothing ahead of it does. -/
namespace Go.KL
def SeenB (n : Nat) (vis : List (List Int)) (f : Int → Option Bool) : Prop := ∀ x, IsRow x → x.length = n → (f ((rankL x : Nat) : Int)).getD false = decide (x ∈ vis)
theorem SeenB.put {n : Nat} {vis : List (List Int)} {f : Int → Option Bool} (h : SeenB n vis f) {x : List Int} (hx : IsRow x) (hl : x.length = n) : SeenB n (vis ++ [x]) (fun p => if p = ((rankL x : Nat) : Int) then some true else f p) := by
  intro y hy hly
  by_cases e : y = x
  · subst e; simp
  · have hne : rankL y ≠ rankL x := fun hh => e (rank_row_inj hy hx (by omega) hh)
    simp only [Int.natCast_inj, if_neg hne]
    rw [h y hy hly]
    simp [e]
end Go.KL

/- Rows read and written as text; the row at a place; the laws of rows. -/
namespace Go.KL
theorem run1_lo {s : ByteArray} {p : Nat} (hb : (s.get! p).toNat < 128) : run1 s p = (s.get! p).toNat ∧ wid s p = 1 := by
  unfold run1 wid Utf8.decode
  simp only [Nat.add_zero]
  rw [if_pos hb]
  exact ⟨rfl, rfl⟩
theorem run1_bd (s : ByteArray) (p : Nat) : run1 s p ≤ 1114111 := by
  unfold run1 Utf8.decode
  simp only
  have hm : ∀ m : Nat, m % 64 < 64 := fun m => Nat.mod_lt _ (by decide)
  have hv : ∀ c : Nat, Utf8.valid ((c : Nat) : Int) = true → c ≤ 1114111 := fun c h => by
    unfold Utf8.valid at h
    simp only [Bool.or_eq_true, Bool.and_eq_true, decide_eq_true_eq] at h
    omega
  repeat' split
  all_goals first
    | (show Utf8.runeError ≤ _; decide)
    | (rename_i h; simp only [Bool.and_eq_true] at h; exact hv _ h.2)
    | (have h1 := hm (s.get! (p + 1)).toNat
       have h2 : (s.get! (p + 0)).toNat % 32 < 32 := Nat.mod_lt _ (by decide)
       simp only []
       omega)
theorem signs_inj {i j : Nat} (hi : i < 12) (hj : j < 12) (h : (SIGNS.get! i).toNat = (SIGNS.get! j).toNat) : i = j := by
  have : ∀ i j : Fin 12, (SIGNS.get! i).toNat = (SIGNS.get! j).toNat → i = j := by decide
  have := this ⟨i, hi⟩ ⟨j, hj⟩ h
  simpa using this
theorem sign_of {k : Nat} (h : k < 12) : signIdx (((SIGNS.get! k).toNat : Nat) : Int) = k := by
  have h1 := signs_lt h
  rw [signIdx_lo (by omega) (by omega)]
  refine ixs_yes (by omega) (by omega) (by rw [signs_size]; exact h) rfl (fun j hj e => ?_)
  have := signs_inj (i := j) (j := k) (by omega) h (by omega)
  omega
theorem bsL_size (l : List UInt8) : (bsL l).size = l.length := by simp [bsL, ByteArray.size]
theorem bsL_get {l : List UInt8} {j : Nat} (h : j < l.length) : (bsL l).get! j = l[j] := by
  rw [get_list (by rw [bsL_size]; exact h)]
  simp [bsL]
theorem IsRow.lt12 {r : List Int} (h : IsRow r) {i : Nat} (hi : i < r.length) : 0 ≤ r.getD i 0 ∧ r.getD i 0 < 12 := by
  have := h.at hi; have := h.le; omega
theorem at_step {os lf : List Int} {m q : Nat} {z : List Int} (h : os ++ atF m lf q = z) (hm : 1 ≤ m) : (os ++ [lf.getD (q / fct (m - 1)) 0]) ++ atF (m - 1) (lf.eraseIdx (q / fct (m - 1))) (q % fct (m - 1)) = z := by
  obtain ⟨j, rfl⟩ : ∃ j, m = j + 1 := ⟨m - 1, by omega⟩
  rw [atF] at h
  rw [← h]; simp
theorem at_div {m q : Nat} (hm : 1 ≤ m) (h : q < fct m) : q / fct (m - 1) < m ∧ q % fct (m - 1) < fct (m - 1) := by
  obtain ⟨j, rfl⟩ : ∃ j, m = j + 1 := ⟨m - 1, by omega⟩
  exact ⟨div_fct h, Nat.mod_lt _ (fct_pos _)⟩
theorem erase_eq (l : List Int) (i : Nat) : l.take i ++ l.drop (i + 1) = l.eraseIdx i := (List.eraseIdx_eq_take_drop_succ ..).symm
end Go.KL
namespace Go.KL
end Go.KL

/- Runes as the document reads them: -1 for a byte that is none. -/
namespace Go.KL
def runM (s : ByteArray) (p : Nat) : Int := if run1 s p = 65533 ∧ wid s p = 1 then -1 else run1 s p
section
variable {s : ByteArray} (h128 : ¬ (s.get! 0).toNat < 128)
include h128 in
end
/-! ### All runes of a text -/
def runsF (s : ByteArray) : Nat → Nat → List Int
  | 0, _ => []
  | f + 1, p => if p < s.size then runM s p :: runsF s f (p + wid s p) else []
def runsL (s : ByteArray) : List Int := runsF s s.size 0
theorem runsF_end {s : ByteArray} {f p : Nat} (h : s.size ≤ p) : runsF s f p = [] := by cases f <;> simp [runsF, show ¬ p < s.size by omega]
theorem runsF_step {s : ByteArray} {f p : Nat} {xs zs : List Int} (h : xs ++ runsF s f p = zs) (hp : p < s.size) (hf : s.size ≤ f + p) : (xs ++ [runM s p]) ++ runsF s (f - 1) (p + wid s p) = zs := by
  obtain ⟨f, rfl⟩ : ∃ g, f = g + 1 := ⟨f - 1, by omega⟩
  rw [runsF, if_pos hp] at h
  rw [← h]; simp
theorem wid_in {s : ByteArray} {p : Nat} (h : p < s.size) : p + wid s p ≤ s.size := by
  have hw : wid s p ≤ s.size - p := by
    unfold wid
    rw [Lib.decode_at]
    unfold Lib.decodeN
    repeat' split
    all_goals (simp only; omega)
  omega
end Go.KL

/- What the law RowSays wants beside: cycles as the document finds them, text by signs. -/
namespace Go.KL
theorem bsL_cat (l m : List UInt8) : bsL l ++ bsL m = bsL (l ++ m) := by
  apply ByteArray.ext
  simp [bsL, ByteArray.data_append]
end Go.KL

/- Patterns of bells: the maths. -/
namespace Go.KL
theorem runsF_len (s : ByteArray) : ∀ (f p : Nat), (runsF s f p).length ≤ s.size - p
  | 0, p => by simp [runsF]
  | f + 1, p => by
    rw [runsF]
    split
    · have := runsF_len s f (p + wid s p)
      have := wid_pos s p
      rw [List.length_cons]; omega
    · simp
theorem runsL_len (s : ByteArray) : (runsL s).length ≤ s.size := runsF_len s s.size 0
theorem runsF_cons {s : ByteArray} {f p : Nat} (hp : p < s.size) (hf : s.size ≤ f + p) : runsF s f p = runM s p :: runsF s (f - 1) (p + wid s p) := by
  obtain ⟨f, rfl⟩ : ∃ g, f = g + 1 := ⟨f - 1, by omega⟩
  rw [runsF, if_pos hp]; rfl
def bellQ (c : Int) : Int := if c = 63 then -1 else signIdx c
def frR : List Int → List Int
  | [] => []
  | c :: l => if c = 42 then [] else c :: frR l
def bkR : List Int → List Int
  | [] => []
  | c :: l => if c = 42 then l else bkR l
def hasS (l : List Int) : Bool := decide ((42 : Int) ∈ l)
def okStep (n : Int) (xs : List Int) (c : Int) : Int := if c = 42 ∧ hasS xs = false then 0 else if c = 63 then 0 else if signIdx c < 0 ∨ n ≤ signIdx c then 4 else if c ∈ xs then 2 else 0
def peF (n : Int) : List Int → List Int → Int
  | _, [] => 0
  | xs, c :: r => if okStep n xs c ≠ 0 then okStep n xs c else peF n (xs ++ [c]) r
def starN (l : List Int) : Nat := if hasS l = true then 1 else 0
def patMay (n : Int) (l : List Int) : Int :=
  if n < 1 ∨ 12 < n then 1 else if peF n [] l ≠ 0 then peF n [] l else if n < ((l.length : Nat) : Int) - starN l ∨ (((l.length : Nat) : Int) < n ∧ starN l = 0) then 1 else 0
theorem patMay_cnt {n : Int} {l : List Int} (h : n < 1 ∨ 12 < n) : patMay n l = 1 := if_pos h
theorem patMay_err {n : Int} {l : List Int} (h : ¬ (n < 1 ∨ 12 < n)) (h2 : peF n [] l ≠ 0) : patMay n l = peF n [] l := by unfold patMay; rw [if_neg h, if_pos h2]
theorem patMay_len {n : Int} {l : List Int} (h : ¬ (n < 1 ∨ 12 < n)) (h2 : peF n [] l = 0) (h3 : n < ((l.length : Nat) : Int) - starN l ∨ (((l.length : Nat) : Int) < n ∧ starN l = 0)) : patMay n l = 1 := by
  unfold patMay; rw [if_neg h, if_neg (by omega), if_pos h3]
theorem patMay_ok {n : Int} {l : List Int} (h : ¬ (n < 1 ∨ 12 < n)) (h2 : peF n [] l = 0) (h3 : ¬ (n < ((l.length : Nat) : Int) - starN l ∨ (((l.length : Nat) : Int) < n ∧ starN l = 0))) : patMay n l = 0 := by
  unfold patMay; rw [if_neg h, if_neg (by omega), if_neg h3]
theorem pe_stop {n : Int} {xs r z : List Int} {c e : Int} (h : peF n xs (c :: r) = peF n [] z) (h2 : okStep n xs c = e) (h3 : e ≠ 0) : peF n [] z = e := by
  rw [← h, peF, h2, if_pos h3]
theorem pe_go {n : Int} {xs r z : List Int} {c : Int} (h : peF n xs (c :: r) = peF n [] z) (h2 : okStep n xs c = 0) : peF n (xs ++ [c]) r = peF n [] z := by
  rw [← h, peF, h2, if_neg (by simp)]
/-! ### Signs -/
theorem sign_back {c : Int} (h : 0 ≤ signIdx c) : signIdx c < 12 ∧ c = (((SIGNS.get! (signIdx c).toNat).toNat : Nat) : Int) := by
  by_cases hc : 0 ≤ c ∧ c < 128
  · have key : ∀ c : Fin 128, signIdx ((c.val : Nat) : Int) < 0 ∨ (signIdx ((c.val : Nat) : Int) < 12 ∧ ((c.val : Nat) : Int) = (((SIGNS.get! (signIdx ((c.val : Nat) : Int)).toNat).toNat : Nat) : Int)) := by decide +kernel
    have := key ⟨c.toNat, by omega⟩
    simp only [show ((c.toNat : Nat) : Int) = c by omega] at this
    omega
  · rw [signIdx_hi hc] at h; omega
theorem sign_inj {c d : Int} (h : 0 ≤ signIdx c) (e : signIdx c = signIdx d) : c = d := by
  have h1 := (sign_back h).2
  have h2 := (sign_back (c := d) (by omega)).2
  rw [h1, h2, e]
theorem sign_42 : signIdx 42 = -1 := by decide +kernel
theorem sign_63 : signIdx 63 = -1 := by decide +kernel
theorem run_m (s : ByteArray) (p : Nat) : runM s p = ((run1 s p : Nat) : Int) ∨ (runM s p = -1 ∧ run1 s p = 65533) := by
  unfold runM
  split
  · rename_i h; exact .inr ⟨rfl, h.1⟩
  · exact .inl rfl
theorem run_same (s : ByteArray) (p : Nat) : signIdx (runM s p) = signIdx ((run1 s p : Nat) : Int) ∧ (runM s p = 42 ↔ ((run1 s p : Nat) : Int) = 42) ∧ (runM s p = 63 ↔ ((run1 s p : Nat) : Int) = 63) := by
  rcases run_m s p with e | ⟨e1, e2⟩
  · rw [e]; exact ⟨rfl, Iff.rfl, Iff.rfl⟩
  · rw [e1, e2]
    refine ⟨?_, ?_, ?_⟩
    · rw [signIdx_hi (by omega), signIdx_hi (by omega)]
    · omega
    · omega
/-! ### Ahead of the star and behind it -/
theorem hasS_cons (x : Int) (l : List Int) : hasS (x :: l) = (decide (x = 42) || hasS l) := by
  unfold hasS
  rw [Bool.eq_iff_iff]
  simp only [List.mem_cons, Bool.or_eq_true, decide_eq_true_eq]
  constructor <;> rintro (h | h) <;> first | exact .inl h.symm | exact .inr h
theorem pat_at {l : List Int} {i : Nat} (hi : i < l.length) (hn : ∀ j, j < i → l.getD j 0 ≠ 42) (h : l.getD i 0 = 42) : frR l = l.take i ∧ bkR l = l.drop (i + 1) ∧ hasS l = true := by
  induction l generalizing i with
  | nil => simp at hi
  | cons x l ih =>
    cases i with
    | zero =>
      have hx : x = 42 := by simpa using h
      subst hx
      refine ⟨by simp [frR], by simp [bkR], by simp [hasS]⟩
    | succ i =>
      have hx : x ≠ 42 := by have := hn 0 (by omega); simpa using this
      obtain ⟨a, b, c⟩ := ih (i := i) (by simpa using hi) (fun j hj => by have := hn (j + 1) (by omega); simpa using this) (by simpa using h)
      refine ⟨?_, ?_, ?_⟩
      · rw [frR, if_neg hx, a]; rfl
      · rw [bkR, if_neg hx, b]; rfl
      · rw [hasS_cons, c, Bool.or_true]
theorem frbk_no : ∀ {xs : List Int}, hasS xs = false → frR xs = xs ∧ bkR xs = []
  | [], _ => ⟨rfl, rfl⟩
  | x :: l, h => by
    rw [hasS_cons, Bool.or_eq_false_iff, decide_eq_false_iff_not] at h
    obtain ⟨a, b⟩ := frbk_no h.2
    rw [frR, bkR, if_neg h.1, if_neg h.1, a, b]; exact ⟨rfl, rfl⟩
theorem hasS_snoc (xs : List Int) (c : Int) : hasS (xs ++ [c]) = (hasS xs || decide (c = 42)) := by
  unfold hasS
  rw [Bool.eq_iff_iff]
  simp only [List.mem_append, List.mem_singleton, Bool.or_eq_true, decide_eq_true_eq]
  constructor <;> rintro (h | h) <;> first | exact .inl h | exact .inr h.symm
theorem frbk_yes : ∀ {xs : List Int}, hasS xs = true → ∀ c : Int, frR (xs ++ [c]) = frR xs ∧ bkR (xs ++ [c]) = bkR xs ++ [c]
  | [], h, _ => by simp [hasS] at h
  | x :: l, h, c => by
    by_cases hx : x = 42
    · rw [List.cons_append, frR, frR, bkR, bkR, if_pos hx, if_pos hx, if_pos hx, if_pos hx]; exact ⟨rfl, rfl⟩
    · rw [hasS_cons, decide_eq_false hx, Bool.false_or] at h
      obtain ⟨a, b⟩ := frbk_yes h c
      rw [List.cons_append, frR, frR, bkR, bkR, if_neg hx, if_neg hx, if_neg hx, if_neg hx, a, b]; exact ⟨rfl, rfl⟩
theorem frbk_new {xs : List Int} (h : hasS xs = false) {c : Int} (hc : c ≠ 42) : frR (xs ++ [c]) = frR xs ++ [c] ∧ bkR (xs ++ [c]) = bkR xs := by
  have h1 := frbk_no h
  have h2 := frbk_no (xs := xs ++ [c]) (by rw [hasS_snoc, h]; simp [hc])
  rw [h1.1, h1.2, h2.1, h2.2]; exact ⟨rfl, rfl⟩
theorem frbk_star {xs : List Int} (h : hasS xs = false) : frR (xs ++ [42]) = frR xs ∧ bkR (xs ++ [42]) = bkR xs := by
  have h1 := frbk_no h
  have hm : (42 : Int) ∉ xs := of_decide_eq_false h
  have := pat_at (l := xs ++ [42]) (i := xs.length) (by simp) (fun j hj e => hm (by
    have e1 : (xs ++ [42]).getD j 0 = xs[j] := by simp [List.getD_eq_getElem?_getD, List.getElem?_append_left hj, hj]
    rw [← e, e1]; exact List.getElem_mem hj)) (by simp)
  rw [this.1, this.2.1, h1.1, h1.2]; simp
theorem frbk_len : ∀ (l : List Int), (frR l).length + (bkR l).length + starN l = l.length
  | [] => rfl
  | x :: l => by
    have ih := frbk_len l
    unfold starN at ih ⊢
    by_cases hx : x = 42
    · rw [frR, bkR, if_pos hx, if_pos hx, hasS_cons, decide_eq_true hx, Bool.true_or, if_pos rfl, List.length_cons, List.length_nil]; omega
    · rw [frR, bkR, if_neg hx, if_neg hx, hasS_cons, decide_eq_false hx, Bool.false_or, List.length_cons, List.length_cons]; omega
/-! ### What was seen -/
def seenF (xs : List Int) (b : Int) : Option Int := if 0 ≤ b ∧ ∃ c ∈ xs, signIdx c = b then some 1 else none
theorem seen_nil : seenF [] = fun _ => none := by funext b; simp [seenF]
theorem seen_mem {xs : List Int} {c : Int} (h : 0 ≤ signIdx c) : seenF xs (signIdx c) = some 1 ↔ c ∈ xs := by
  unfold seenF
  constructor
  · intro hh
    split at hh
    · rename_i h2
      obtain ⟨_, d, hd, e⟩ := h2
      rw [sign_inj h e.symm]; exact hd
    · cases hh
  · intro hc; rw [if_pos ⟨h, c, hc, rfl⟩]
theorem seen_none {xs : List Int} {c : Int} (h : 0 ≤ signIdx c) (hc : c ∉ xs) : seenF xs (signIdx c) = none := by
  have := seen_mem (xs := xs) h
  unfold seenF at this ⊢
  split
  · rename_i h2; rw [if_pos h2] at this; exact absurd (this.1 rfl) hc
  · rfl
theorem seen_skip {xs : List Int} {c : Int} (h : signIdx c < 0) : seenF (xs ++ [c]) = seenF xs := by
  funext b
  unfold seenF
  congr 1
  apply propext
  constructor
  · rintro ⟨h0, d, hd, e⟩
    rcases List.mem_append.1 hd with h1 | h1
    · exact ⟨h0, d, h1, e⟩
    · simp at h1; subst h1; omega
  · rintro ⟨h0, d, hd, e⟩; exact ⟨h0, d, List.mem_append_left _ hd, e⟩
theorem seen_new {xs : List Int} {c : Int} (h : 0 ≤ signIdx c) : seenF (xs ++ [c]) = fun x => if x = signIdx c then some 1 else seenF xs x := by
  funext b
  by_cases e : b = signIdx c
  · subst e; rw [if_pos rfl]; unfold seenF; rw [if_pos ⟨h, c, by simp, rfl⟩]
  · rw [if_neg e]
    unfold seenF
    congr 1
    apply propext
    constructor
    · rintro ⟨h0, d, hd, e'⟩
      rcases List.mem_append.1 hd with h1 | h1
      · exact ⟨h0, d, h1, e'⟩
      · simp at h1; subst h1; exact absurd e'.symm e
    · rintro ⟨h0, d, hd, e'⟩; exact ⟨h0, d, List.mem_append_left _ hd, e'⟩
/-! ### Like a pattern -/
def likeB (f b r : List Int) : Bool := ((List.range f.length).all fun i => decide (f.getD i 0 < 0 ∨ r.getD i 0 = f.getD i 0)) && ((List.range b.length).all fun i => decide (b.getD i 0 < 0 ∨ r.getD (r.length - b.length + i) 0 = b.getD i 0))
theorem like_no1 {f b r : List Int} {i : Nat} (hi : i < f.length) (h0 : 0 ≤ f.getD i 0) (h : r.getD i 0 ≠ f.getD i 0) : likeB f b r = false := by
  unfold likeB
  rw [Bool.and_eq_false_iff]; left
  rw [List.all_eq_false]
  exact ⟨i, List.mem_range.2 hi, by simp only [decide_eq_true_eq]; omega⟩
theorem like_no2 {f b r : List Int} {i : Nat} (hi : i < b.length) (h0 : 0 ≤ b.getD i 0) (h : r.getD (r.length - b.length + i) 0 ≠ b.getD i 0) : likeB f b r = false := by
  unfold likeB
  rw [Bool.and_eq_false_iff]; right
  rw [List.all_eq_false]
  exact ⟨i, List.mem_range.2 hi, by simp only [decide_eq_true_eq]; omega⟩
theorem like_yes {f b r : List Int} (h1 : ∀ i, i < f.length → f.getD i 0 < 0 ∨ r.getD i 0 = f.getD i 0) (h2 : ∀ i, i < b.length → b.getD i 0 < 0 ∨ r.getD (r.length - b.length + i) 0 = b.getD i 0) : likeB f b r = true := by
  unfold likeB
  rw [Bool.and_eq_true, List.all_eq_true, List.all_eq_true]
  exact ⟨fun i hi => decide_eq_true (h1 i (List.mem_range.1 hi)), fun i hi => decide_eq_true (h2 i (List.mem_range.1 hi))⟩
theorem all_next {Q : Nat → Prop} {k : Nat} (h : ∀ j, j < k → Q j) (hk : Q k) : ∀ j, j < k + 1 → Q j := fun j hj => by
  by_cases e : j = k
  · rw [e]; exact hk
  · exact h j (by omega)
theorem bellQ_63 : bellQ 63 = -1 := rfl
theorem bellQ_ne {c : Int} (h : c ≠ 63) : bellQ c = signIdx c := if_neg h
/-! ### Steps -/
theorem starN_0 {xs : List Int} : starN xs = 0 ↔ hasS xs = false := by unfold starN; split <;> simp_all
theorem starN_le (xs : List Int) : starN xs ≤ 1 := by unfold starN; split <;> omega
theorem ok_star {n : Int} {xs : List Int} {c : Int} (h : c = 42) (h2 : starN xs = 0) : okStep n xs c = 0 := by unfold okStep; rw [if_pos ⟨h, starN_0.1 h2⟩]
theorem ok_q {n : Int} {xs : List Int} {c : Int} (h : c = 63) : okStep n xs c = 0 := by unfold okStep; rw [if_neg (by omega), if_pos h]
theorem ok_word {n : Int} {xs : List Int} {c : Int} (h : ¬ (c = 42 ∧ starN xs = 0)) (h2 : c ≠ 63) (h3 : signIdx c < 0 ∨ n ≤ signIdx c) : okStep n xs c = 4 := by
  unfold okStep; rw [if_neg (by rw [← starN_0]; exact h), if_neg h2, if_pos h3]
theorem ok_row {n : Int} {xs : List Int} {c : Int} (h : ¬ (c = 42 ∧ starN xs = 0)) (h2 : c ≠ 63) (h3 : ¬ (signIdx c < 0 ∨ n ≤ signIdx c)) (h4 : c ∈ xs) : okStep n xs c = 2 := by
  unfold okStep; rw [if_neg (by rw [← starN_0]; exact h), if_neg h2, if_neg h3, if_pos h4]
theorem ok_new {n : Int} {xs : List Int} {c : Int} (h : ¬ (c = 42 ∧ starN xs = 0)) (h2 : c ≠ 63) (h3 : ¬ (signIdx c < 0 ∨ n ≤ signIdx c)) (h4 : c ∉ xs) : okStep n xs c = 0 := by
  unfold okStep; rw [if_neg (by rw [← starN_0]; exact h), if_neg h2, if_neg h3, if_neg h4]
theorem ne_42 {c : Int} (h : 0 ≤ signIdx c) : c ≠ 42 := fun e => by rw [e, sign_42] at h; omega
/-! ### A pattern that may be -/
theorem pat_facts {n : Int} {l : List Int} (h : patMay n l = 0) : ¬ (n < 1 ∨ 12 < n) ∧ peF n [] l = 0 ∧ (((frR l).length + (bkR l).length : Nat) : Int) ≤ n ∧ (hasS l = false → (((frR l).length + (bkR l).length : Nat) : Int) = n) := by
  have hl := frbk_len l
  unfold patMay at h
  split at h
  · omega
  · rename_i h1
    split at h
    · omega
    · rename_i h2
      split at h
      · omega
      · rename_i h3
        refine ⟨h1, by omega, by omega, fun hs => ?_⟩
        have := starN_0.2 hs
        omega
/-! ### The walks of Like and fits -/
theorem seen_in {xs : List Int} {c : Int} (h0 : 0 ≤ signIdx c) (h : 0 < (seenF xs (signIdx c)).getD 0) : c ∈ xs := by
  refine Classical.byContradiction fun hn => ?_
  rw [seen_none h0 hn] at h; simp at h
theorem seen_out {xs : List Int} {c : Int} (h0 : 0 ≤ signIdx c) (h : ¬ 0 < (seenF xs (signIdx c)).getD 0) : c ∉ xs := fun hm => by
  rw [(seen_mem h0).2 hm] at h; simp at h
end Go.KL

/- Results of which the first lies in a struct's variable. -/
namespace Go.KL
open Go.RowKit
variable {P : Program} {fn : Func} {σ0 σ : GW} {a : Act} {N d e f : Nat} {L : List Nat} {R : Value → GW → Prop}
theorem run_cell {t k : Nat} {T : TypeId} {fs : Array Field} {z : Value} {by_ : Nat} {ts : List Ty} (hT : P.underlying T = some (.struct fs)) (he : Info P T z ts.length by_) (h : OwnP σ k (a.eval (.tmp t)) ts) :
    ∃ ad cur, a.tmps.getD t undef = .pointer (some ad) ∧ (loadVar T ad).run P σ.w = .ok (.agg cur) σ.w ∧ (Ty.agg ts).has σ (.agg cur) := by
  obtain ⟨gg, e', cur, e1, h2, h3, h4, h5⟩ := h
  have hl := run_loadVar (P := P) hT he (w := σ.w) (ad := ⟨gg, 0, none⟩) (us := cur.toList) (by simp [h4]) (fun j u hj => by
    rw [Addr.add_lit, Nat.zero_add]
    simp at hj
    simp [World.cell?, h3, hj])
  exact ⟨_, cur, e1, by simpa using hl, cur, rfl, h4, h5⟩
theorem retL2c {t k : Nat} {T : TypeId} {fs : Array Field} {z : Value} {by_ : Nat} {ts : List Ty} (hr : fn.results = #[.cell t T, .tmp e]) (ok : Ok N a) (hF : FromL L σ0 σ) (hT : P.underlying T = some (.struct fs)) (he : Info P T z ts.length by_) (h : OwnP σ k (a.eval (.tmp t)) ts)
    (hR : ∀ v, (Ty.agg ts).has σ v → R (.tuple #[v, a.eval (.tmp e)]) σ) : bodyPost P fn (RetL σ0 L R) .ret a σ.w := by
  obtain ⟨ad, cur, e2, hl, hv⟩ := run_cell hT he h
  refine bodyPost_ret (v := .tuple #[.agg cur, a.eval (.tmp e)]) ?_ ok.defers ⟨_, σ, rfl, hF, rfl, hR _ hv⟩
  have e3 : a.tmps[t]?.getD undef = .pointer (some ad) := by rw [← e2, Array.getD_eq_getD_getElem?]
  simp [results, hr, e3, asAddr, hl, Act.eval]
theorem nil_has {α : Type} {f : α → Ty} {xs : List α} {σ : GW} (e : xs = []) : (Ty.lst f xs).has σ (.slice none 0 0) := by subst e; exact sl_nil
end Go.KL

/- How many rows are like patterns. -/
namespace Go.KL
abbrev Ty.str (s : ByteArray) : Ty := Ty.val (.string s)
def texMay (n : Int) : List ByteArray → Int
  | [] => 0
  | t :: ts => if patMay n (runsL t) ≠ 0 then patMay n (runsL t) else texMay n ts
def rowsMay (n : Int) : List (List Int) → Int
  | [] => 0
  | r :: rs => if rowMay r ≠ 0 then rowMay r else if ((r.length : Nat) : Int) ≠ n then 1 else rowsMay n rs
def musMay (n : Int) (ts : List ByteArray) (rows : List (List Int)) : Int :=
  if 50 < ts.length ∨ 20001 < rows.length then 3 else if texMay n ts ≠ 0 then texMay n ts else rowsMay n rows
def likeT (t : ByteArray) (r : List Int) : Bool := likeB (List.map bellQ (frR (runsL t))) (List.map bellQ (bkR (runsL t))) r
def cntL (t : ByteArray) (rows : List (List Int)) : Nat := rows.countP (likeT t)
def musL (ts : List ByteArray) (rows : List (List Int)) : List Int := ts.map fun t => ((cntL t rows : Nat) : Int)
theorem musL_len (ts : List ByteArray) (rows : List (List Int)) : (musL ts rows).length = ts.length := List.length_map ..
theorem drop_cons {α : Type} (l : List α) (d : α) {i : Nat} (hi : i < l.length) : l.drop i = l.getD i d :: l.drop (i + 1) := by
  rw [List.drop_eq_getElem_cons hi]; simp [hi]
theorem cnt_yes {t : ByteArray} {rows : List (List Int)} {j : Nat} (hj : j < rows.length) (h : likeT t (rows.getD j []) = true) : cntL t (rows.take (j + 1)) = cntL t (rows.take j) + 1 := by
  rw [take_snoc rows [] j hj]; simp only [cntL, List.countP_append, List.countP_singleton, h, if_true]
theorem cnt_no {t : ByteArray} {rows : List (List Int)} {j : Nat} (hj : j < rows.length) (h : likeT t (rows.getD j []) = false) : cntL t (rows.take (j + 1)) = cntL t (rows.take j) := by
  rw [take_snoc rows [] j hj]; simp only [cntL, List.countP_append, List.countP_singleton, h]; rfl
theorem cntL_le (t : ByteArray) (rows : List (List Int)) : cntL t rows ≤ rows.length := List.countP_le_length
theorem tex_stop {n : Int} {ts z : List ByteArray} {t : ByteArray} (h : texMay n (t :: ts) = texMay n z) (h2 : patMay n (runsL t) ≠ 0) : texMay n z = patMay n (runsL t) := by rw [← h, texMay, if_pos h2]
theorem tex_go {n : Int} {ts z : List ByteArray} {t : ByteArray} (h : texMay n (t :: ts) = texMay n z) (h2 : ¬ patMay n (runsL t) ≠ 0) : texMay n ts = texMay n z := by rw [← h, texMay, if_neg h2]
theorem rows_stop {n : Int} {rs z : List (List Int)} {r : List Int} (h : rowsMay n (r :: rs) = rowsMay n z) (h2 : rowMay r ≠ 0) : rowsMay n z = rowMay r := by rw [← h, rowsMay, if_pos h2]
theorem rows_len {n : Int} {rs z : List (List Int)} {r : List Int} (h : rowsMay n (r :: rs) = rowsMay n z) (h2 : ¬ rowMay r ≠ 0) (h3 : ((r.length : Nat) : Int) ≠ n) : rowsMay n z = 1 := by rw [← h, rowsMay, if_neg h2, if_pos h3]
theorem rows_go {n : Int} {rs z : List (List Int)} {r : List Int} (h : rowsMay n (r :: rs) = rowsMay n z) (h2 : ¬ rowMay r ≠ 0) (h3 : ¬ ((r.length : Nat) : Int) ≠ n) : rowsMay n rs = rowsMay n z := by rw [← h, rowsMay, if_neg h2, if_neg h3]
theorem tex_all {n : Int} : ∀ {ts : List ByteArray}, texMay n ts = 0 → ∀ t ∈ ts, patMay n (runsL t) = 0
  | [], _, t, h => by simp at h
  | x :: ts, h, t, ht => by
    rw [texMay] at h
    split at h
    · rename_i h1; exact absurd h h1
    · rename_i h1
      rcases List.mem_cons.1 ht with rfl | ht
      · exact Classical.not_not.1 h1
      · exact tex_all h t ht
theorem mem_getD {α : Type} {l : List α} {i : Nat} (d : α) (hi : i < l.length) : l.getD i d ∈ l := by
  rw [show l.getD i d = l[i] by simp [hi]]; exact List.getElem_mem hi
theorem mus_lim {n : Int} {ts : List ByteArray} {rows : List (List Int)} (h : 50 < ts.length ∨ 20001 < rows.length) : musMay n ts rows = 3 := if_pos h
theorem mus_tex {n : Int} {ts : List ByteArray} {rows : List (List Int)} (h : ¬ (50 < ts.length ∨ 20001 < rows.length)) (h2 : texMay n ts ≠ 0) : musMay n ts rows = texMay n ts := by unfold musMay; rw [if_neg h, if_pos h2]
theorem mus_rows {n : Int} {ts : List ByteArray} {rows : List (List Int)} (h : ¬ (50 < ts.length ∨ 20001 < rows.length)) (h2 : texMay n ts = 0) : musMay n ts rows = rowsMay n rows := by unfold musMay; rw [if_neg h, if_neg (by omega)]
theorem like_wants {n : Int} {t : ByteArray} {r : List Int} (h : patMay n (runsL t) = 0) (hl : ((r.length : Nat) : Int) = n) :
    (frR (runsL t)).length ≤ r.length ∧ (bkR (runsL t)).length ≤ r.length := by
  have := (pat_facts h).2.2.1
  omega
end Go.KL

/- Rows whose elements are structs of c cells. -/
namespace Go.KL
open Go.RowKit
variable {P : Program} {d : Option Tmp} {ty : TypeId} {pos : String} {af : Array Edge} {g : Option (Nat × Bool)} {a : Act} {σ : GW}
abbrev Ty.lstc {α : Type} (c : Nat) (F : α → List Ty) (xs : List α) : Ty := Ty.sl c xs.length (xs.flatMap F)
theorem flat_get {α : Type} {c : Nat} {F : α → List Ty} (hF : ∀ x, (F x).length = c) (dd : α) : ∀ {xs : List α} {i : Nat}, i < xs.length → ∀ j, j < c → (xs.flatMap F)[i * c + j]? = (F (xs.getD i dd))[j]?
  | [], i, h, _, _ => by simp at h
  | x :: xs, 0, _, j, hj => by
    rw [List.flatMap_cons, Nat.zero_mul, Nat.zero_add, List.getElem?_append_left (by rw [hF]; exact hj)]
    simp
  | x :: xs, i + 1, h, j, hj => by
    rw [List.flatMap_cons, List.getElem?_append_right (by rw [hF, Nat.succ_mul]; omega), hF, show (i + 1) * c + j - c = i * c + j by rw [Nat.succ_mul]; omega, flat_get hF dd (by simpa using h) j hj]
    simp
theorem y_indexc {α : Type} {c : Nat} {F : α → List Ty} {xs : List α} (dd : α) {x y : Operand} {t e : TypeId} {z : Value} {b : Nat} {k : IntKind} {i : Int} (ht : P.underlying t = some (.slice e)) (he : Info P e z c b)
    (hx : At (Ty.lstc c F xs) σ a x) (hy : a.eval y = .int k i) (h0 : 0 ≤ i) (h1 : i.toNat < xs.length) (hc : 0 < c) (hF : ∀ x, (F x).length = c) :
    Yld P ⟨d, .indexAddr t x y, ty, pos, af, g⟩ a σ (Ty.ref (F (xs.getD i.toNat dd))).pr :=
  y_indexAddr ht he hx hy h0 (by omega) hc (fun j hj => flat_get hF dd h1 j hj) (hF _)
theorem fold_set : ∀ (vs : List Value) (o : Nat) (cur : Array Value), o + vs.length ≤ cur.size → ((vs.zipIdx o).foldl (fun (q : Array Value) (p : Value × Nat) => q.setIfInBounds p.2 p.1) cur).size = cur.size ∧
      (∀ j, j < vs.length → ((vs.zipIdx o).foldl (fun (q : Array Value) (p : Value × Nat) => q.setIfInBounds p.2 p.1) cur)[o + j]? = vs[j]?) ∧ ∀ i, i < o → ((vs.zipIdx o).foldl (fun (q : Array Value) (p : Value × Nat) => q.setIfInBounds p.2 p.1) cur)[i]? = cur[i]?
  | [], o, cur, _ => ⟨rfl, fun j hj => by simp at hj, fun i _ => rfl⟩
  | v :: vs, o, cur, h => by
    simp only [List.length_cons] at h
    obtain ⟨k1, k2, k3⟩ := fold_set vs (o + 1) (cur.setIfInBounds o v) (by simp; omega)
    simp only [List.zipIdx_cons, List.foldl_cons]
    refine ⟨by rw [k1]; simp, fun j hj => ?_, fun i hi => ?_⟩
    · cases j with
      | zero =>
        have := k3 o (by omega)
        rw [Array.getElem?_setIfInBounds_self_of_lt (by omega)] at this
        simpa using this
      | succ j =>
        have := k2 j (by simpa using hj)
        rw [show o + (j + 1) = o + 1 + j by omega, this]; simp
    · rw [k3 i (by omega), Array.getElem?_setIfInBounds_ne (by omega)]
theorem fold_whole {cs z : Array Value} (h : z.size = cs.size) : (cs.zipIdx.foldl (fun (q : Array Value) (p : Value × Nat) => q.setIfInBounds p.2 p.1) z) = cs := by
  rw [← Array.foldl_toList, Array.toList_zipIdx]
  obtain ⟨k1, k2, _⟩ := fold_set cs.toList 0 z (by simp [h])
  refine Array.ext (by rw [k1, h]) fun j h1 h2 => ?_
  have := k2 j (by simpa using h2)
  rw [Nat.zero_add] at this
  simp only [Array.getElem?_toList] at this
  rw [Array.getElem?_eq_getElem h1, Array.getElem?_eq_getElem h2] at this
  exact Option.some.inj this
theorem y_build1c {c : Nat} {x : Operand} {t e : TypeId} {ts : List Ty} {z : Value} {b : Nat} (ht : P.underlying t = some (.slice e)) (he : Info P e z c b) (hz : z.cells.size = c) (hc : 0 < c) (hc2 : c ≤ 16777216) (hl : ts.length = c) (hx : At (.agg ts) σ a x) :
    Yld P ⟨d, .buildSlice t 1 #[(0, x)], ty, pos, af, g⟩ a σ (Ty.sl c 1 ts).pr := by
  obtain ⟨cs, e1, hcs, hcl⟩ := hx
  have hsz : cs.size = c := by omega
  intro K Q hk
  have hr : (execOp a.eval ⟨d, .buildSlice t 1 #[(0, x)], ty, pos, af, g⟩).run P σ.w = .ok (.value (.slice (some ⟨σ.w.heap.size, 0, none⟩) 1 1)) (σ.w.alloc (.cells cs e)) := by
    simp only [execOp, List.map_toArray, List.map_cons, List.map_nil, e1]
    have hw : ∀ q : Array Value, q.size = c → cs.zipIdx.foldl (fun (q : Array Value) (p : Value × Nat) => q.setIfInBounds p.2 p.1) q = cs := fun q hq => fold_whole (by omega)
    have h1 : ¬ c > 16777216 := by omega
    have h2 : ¬ c = 0 := by omega
    simp [Instr.buildSlice, run_underlying ht, he.size, he.zero, Instr.fill, Value.cells, hsz, h2, newRow, newObj, Sem.run, Sem.run_bind, show ¬ 16777216 < c by omega]
    generalize hq : Array.map _ (Array.range c) = q
    have hqs : q.size = c := by rw [← hq]; simp
    have h5 := hw q hqs
    simp only [Array.size_zipIdx] at h5
    first | rw [h5] | (rw [hsz] at h5; rw [h5])
  unfold Oper.wp
  rw [hr]
  refine hk _ (σ.seal (.cells cs e)) (Stp.seal _ _) ⟨_, 1, σ.w.heap.size, 0, rfl, ⟨Nat.le_refl _, by decide⟩, by omega, .inr ⟨rfl, by simp [GW.seal]⟩, fun j V hj => ?_⟩
  have hj2 : j < cs.size := by rw [hsz, ← hl]; exact (List.getElem?_eq_some_iff.1 hj).1
  refine ⟨cs[j], ?_, V.up (Stp.seal _ _).le0 (hcl j V _ hj (by simp [hj2]))⟩
  show World.cell? (σ.w.alloc _) _ = _
  simp only [World.cell?, heap_alloc_new]
  simp [hj2]
theorem one_flat {α : Type} {F : α → List Ty} {xs : List α} (h : ∀ x, ∀ U ∈ F x, One U) : ∀ U, U ∈ xs.flatMap F → One U := fun U hU => by
  obtain ⟨x, _, hx⟩ := List.mem_flatMap.1 hU; exact h x U hx
/-! ### Patterns -/
def patC (p : List Int × List Int × Bool) : List Ty := [Ty.lst Ty.int p.1, Ty.lst Ty.int p.2.1, Ty.bool p.2.2]
theorem patOne : ∀ x, ∀ U ∈ patC x, One U := fun x U hU => by
  simp only [patC, List.mem_cons, List.not_mem_nil, or_false] at hU
  rcases hU with rfl | rfl | rfl
  · exact one_sl
  · exact one_sl
  · exact one_val rfl
def PatsOk (ts : List ByteArray) (ps : List (List Int × List Int × Bool)) : Prop :=
  ∀ j, j < ps.length → (ps.getD j ([], [], false)).1 = List.map bellQ (frR (runsL (ts.getD j ByteArray.empty))) ∧ (ps.getD j ([], [], false)).2.1 = List.map bellQ (bkR (runsL (ts.getD j ByteArray.empty)))
theorem pats_nil (ts : List ByteArray) : PatsOk ts [] := fun j hj => by simp at hj
theorem pats_snoc {ts : List ByteArray} {ps : List (List Int × List Int × Bool)} {f b : List Int} {st : Bool} (h : PatsOk ts ps) (hf : f = List.map bellQ (frR (runsL (ts.getD ps.length ByteArray.empty)))) (hb : b = List.map bellQ (bkR (runsL (ts.getD ps.length ByteArray.empty)))) : PatsOk ts (ps ++ [(f, b, st)]) := fun j hj => by
  rw [List.length_append, List.length_singleton] at hj
  by_cases e : j = ps.length
  · subst e
    have : (ps ++ [(f, b, st)]).getD ps.length ([], [], false) = (f, b, st) := by simp
    rw [this]; exact ⟨hf, hb⟩
  · have : (ps ++ [(f, b, st)]).getD j ([], [], false) = ps.getD j ([], [], false) := by
      rw [List.getD_eq_getElem?_getD, List.getD_eq_getElem?_getD, List.getElem?_append_left (by omega)]
    rw [this]; exact h j (by omega)
def musT (ts : List ByteArray) (rows : List (List Int)) (j i : Nat) : List Int := (List.range ts.length).map fun k => ((cntL (ts.getD k ByteArray.empty) (rows.take (if k < i then j + 1 else j)) : Nat) : Int)
theorem musT_len (ts : List ByteArray) (rows : List (List Int)) (j i : Nat) : (musT ts rows j i).length = ts.length := by simp [musT]
theorem musT_get {ts : List ByteArray} {rows : List (List Int)} {j i k : Nat} (hk : k < ts.length) : (musT ts rows j i).getD k 0 = ((cntL (ts.getD k ByteArray.empty) (rows.take (if k < i then j + 1 else j)) : Nat) : Int) := by
  simp [musT, hk]
theorem musT_zero (ts : List ByteArray) (rows : List (List Int)) : musT ts rows 0 0 = List.replicate ts.length 0 := by
  refine list_ext (by rw [musT_len, List.length_replicate]) fun k hk => ?_
  rw [musT_len] at hk
  rw [musT_get hk]
  simp [cntL, hk]
theorem musT_next (ts : List ByteArray) (rows : List (List Int)) (j : Nat) : musT ts rows j ts.length = musT ts rows (j + 1) 0 := by
  refine list_ext (by rw [musT_len, musT_len]) fun k hk => ?_
  rw [musT_len] at hk
  rw [musT_get hk, musT_get hk, if_pos hk, if_neg (by omega)]
theorem musT_yes {ts : List ByteArray} {rows : List (List Int)} {j i : Nat} (hi : i < ts.length) (hj : j < rows.length) (h : likeT (ts.getD i ByteArray.empty) (rows.getD j []) = true) : (musT ts rows j i).set i ((musT ts rows j i).getD i 0 + 1) = musT ts rows j (i + 1) := by
  refine list_ext (by rw [List.length_set, musT_len, musT_len]) fun k hk => ?_
  rw [List.length_set, musT_len] at hk
  rw [musT_get hk, musT_get hi, List.getD_eq_getElem?_getD, List.getElem?_set]
  by_cases e : i = k
  · subst e
    rw [if_pos rfl, if_pos (by rw [musT_len]; exact hi), if_neg (by omega), if_pos (by omega), cnt_yes hj h]
    simp
  · rw [if_neg e, ← List.getD_eq_getElem?_getD, musT_get hk]
    by_cases h2 : k < i
    · rw [if_pos h2, if_pos (by omega)]
    · rw [if_neg h2, if_neg (by omega)]
theorem musT_no {ts : List ByteArray} {rows : List (List Int)} {j i : Nat} (hi : i < ts.length) (hj : j < rows.length) (h : likeT (ts.getD i ByteArray.empty) (rows.getD j []) = false) : musT ts rows j i = musT ts rows j (i + 1) := by
  refine list_ext (by rw [musT_len, musT_len]) fun k hk => ?_
  rw [musT_len] at hk
  rw [musT_get hk, musT_get hk]
  by_cases e : i = k
  · subst e; rw [if_neg (by omega), if_pos (by omega), cnt_no hj h]
  · by_cases h2 : k < i
    · rw [if_pos h2, if_pos (by omega)]
    · rw [if_neg h2, if_neg (by omega)]
theorem musT_all (ts : List ByteArray) (rows : List (List Int)) : musT ts rows rows.length 0 = musL ts rows := by
  refine list_ext (by rw [musT_len, musL_len]) fun k hk => ?_
  rw [musT_len] at hk
  rw [musT_get hk, if_neg (by omega), List.take_length]
  simp [musL, hk]
end Go.KL

/- Arrays as values: built of two parts, and what stands at a place. -/
namespace Go.KL
open Go.RowKit
variable {P : Program} {d : Option Tmp} {ty : TypeId} {pos : String} {af : Array Edge} {g : Option (Nat × Bool)} {a : Act} {σ : GW}
theorem y_arr2 {t e : TypeId} {z ze : Value} {c by_ be : Nat} {x y : Operand} {T U : Ty} (ht : P.underlying t = some (.array 2 e)) (he : Info P e ze 1 be) (hi : Info P t z c by_) (hz : z.cells.size = 2) (oT : One T) (oU : One U) (hx : At T σ a x) (hy : At U σ a y) :
    Yld P ⟨d, .build t #[(0, x), (1, y)], ty, pos, af, g⟩ a σ (Ty.agg [T, U]).pr := by
  have h1 := cells_of_one (oT _ _ hx)
  have h2 := cells_of_one (oU _ _ hy)
  obtain ⟨cs, hcs⟩ : ∃ cs, z.cells = cs := ⟨_, rfl⟩
  rw [hcs] at hz
  refine Yld.of_run (v := .agg ((cs.setIfInBounds 0 (a.eval x)).setIfInBounds 1 (a.eval y))) ?_ ⟨_, rfl, by simp [hz], fun j V u hV hu => ?_⟩
  · simp only [execOp, List.map_toArray, List.map_cons, List.map_nil]
    generalize a.eval x = v at h1 ⊢
    generalize a.eval y = v' at h2 ⊢
    have hne : cs ≠ #[] := by intro e'; subst e'; simp at hz
    simp [Instr.build, run_underlying ht, he.size, hi.zero, Instr.fill, h1, h2, hcs, hz, Sem.run_bind, hne]
  · match j, hV with
    | 0, hV =>
      simp at hV; subst hV
      have : u = a.eval x := by
        rw [Array.getElem?_setIfInBounds_ne (by decide), Array.getElem?_setIfInBounds_self_of_lt (by omega)] at hu
        exact (Option.some.inj hu).symm
      rw [this]; exact hx
    | 1, hV =>
      simp at hV; subst hV
      have : u = a.eval y := by
        rw [Array.getElem?_setIfInBounds_self_of_lt (by simp [hz])] at hu
        exact (Option.some.inj hu).symm
      rw [this]; exact hy
    | j + 2, hV => simp at hV
theorem y_arri {α : Type} {f : α → Ty} {xs : List α} (dd : α) {t e : TypeId} {td : TypeDesc} {n : Nat} {ze : Value} {be i : Nat} {k : IntKind} {x y : Operand} (ht : P.underlying t = some (.array n e)) (hte : P.underlying e = some td) (hd : td.isRow = false) (he : Info P e ze 1 be)
    (hx : At (Ty.agg (xs.map f)) σ a x) (hy : a.eval y = .int k i) (hi : i < xs.length) (hn : xs.length = n) :
    Yld P ⟨d, .index t x y, ty, pos, af, g⟩ a σ (f (xs.getD i dd)).pr := by
  obtain ⟨cs, e1, hl, hc⟩ := hx
  rw [List.length_map] at hl
  have hlt : i < cs.size := by omega
  refine Yld.of_run (v := cs[i]) ?_ (hc i _ _ (by simp [hi]) (by simp [hlt]))
  have hagg : (isAgg e).run P σ.w = .ok false σ.w := by
    unfold isAgg
    rw [Sem.run_bind, run_underlying hte σ.w]
    cases td <;> simp_all
  simp only [execOp, e1, hy]
  have h0 : (0 : Int) ≤ (i : Int) ∧ (i : Int) < (n : Int) := by omega
  simp [Instr.index, Sem.run_bind, asIntOf, run_underlying ht, h0, he.size, part, hagg, hlt, show i < n by omega]
/-! ### Bells that are told -/
def fixL (l : List Int) : Nat := l.countP fun b => decide (0 ≤ b)
theorem fixL_le (l : List Int) : fixL l ≤ l.length := List.countP_le_length
theorem fix_yes {l : List Int} {i : Nat} (hi : i < l.length) (h : 0 ≤ l.getD i 0) : fixL (l.take (i + 1)) = fixL (l.take i) + 1 := by
  rw [take_snoc l 0 i hi]; simp only [fixL, List.countP_append, List.countP_singleton, decide_eq_true h, if_true]
theorem fix_no {l : List Int} {i : Nat} (hi : i < l.length) (h : ¬ 0 ≤ l.getD i 0) : fixL (l.take (i + 1)) = fixL (l.take i) := by
  rw [take_snoc l 0 i hi]; simp only [fixL, List.countP_append, List.countP_singleton, decide_eq_false h]; rfl
def fix2 (f b : List Int) : Nat → Nat
  | 0 => 0
  | 1 => fixL f
  | _ => fixL f + fixL b
theorem fix2_succ {f b : List Int} {k : Nat} (hk : k < 2) : fix2 f b (k + 1) = fix2 f b k + fixL ([f, b].getD k []) := by
  match k, hk with
  | 0, _ => simp [fix2]
  | 1, _ => simp [fix2]
theorem fix2_le {f b : List Int} {k : Nat} : fix2 f b k ≤ fixL f + fixL b := by
  match k with
  | 0 => simp [fix2]
  | 1 => simp [fix2]
  | k + 2 => simp [fix2]
end Go.KL

/- How many rows are like a pattern: as many as there are ways to place the other bells. -/
namespace Go.KL
def mat : List Int → List Int → Bool
  | [], [] => true
  | x :: c, y :: r => (decide (x < 0) || decide (y = x)) && mat c r
  | _, _ => false
def sumN (f : Nat → Nat) : Nat → Nat
  | 0 => 0
  | a + 1 => sumN f a + f a
theorem count_mul (p : Nat → Bool) (b : Nat) : ∀ a : Nat, (List.range (a * b)).countP p = sumN (fun q => (List.range b).countP fun k => p (q * b + k)) a
  | 0 => by simp [sumN]
  | a + 1 => by
    rw [Nat.succ_mul, List.range_add, List.countP_append, count_mul p b a, List.countP_map]
    rfl
def freeL (c : List Int) : Nat := c.countP fun x => decide (x < 0)
def nWays (m : Nat) (left c : List Int) : Nat := (List.range (fct m)).countP fun k => mat c (atF m left k)
theorem nWays_succ (m : Nat) (left : List Int) (x : Int) (c : List Int) : nWays (m + 1) left (x :: c) = sumN (fun q => if x < 0 ∨ left.getD q 0 = x then nWays m (left.eraseIdx q) c else 0) (m + 1) := by
  unfold nWays
  rw [show fct (m + 1) = (m + 1) * fct m from rfl, count_mul]
  congr 1
  funext q
  have hp := fct_pos m
  have key : ∀ k, k ∈ List.range (fct m) → mat (x :: c) (atF (m + 1) left (q * fct m + k)) = ((decide (x < 0) || decide (left.getD q 0 = x)) && mat c (atF m (left.eraseIdx q) k)) := fun k hk => by
    have hk := List.mem_range.1 hk
    have e1 : (q * fct m + k) / fct m = q := by rw [Nat.mul_comm, Nat.mul_add_div hp, Nat.div_eq_of_lt hk, Nat.add_zero]
    have e2 : (q * fct m + k) % fct m = k := by rw [Nat.mul_comm, Nat.mul_add_mod, Nat.mod_eq_of_lt hk]
    rw [atF, e1, e2, mat]
  rw [List.countP_congr (q := fun k => (decide (x < 0) || decide (left.getD q 0 = x)) && mat c (atF m (left.eraseIdx q) k)) (fun k hk => by rw [key k hk])]
  by_cases h : x < 0 ∨ left.getD q 0 = x
  · rw [if_pos h]
    have : (decide (x < 0) || decide (left.getD q 0 = x)) = true := by simpa using h
    simp only [this, Bool.true_and]
  · rw [if_neg h]
    have : (decide (x < 0) || decide (left.getD q 0 = x)) = false := by simpa using h
    simp only [this, Bool.false_and]
    simp
theorem sumN_zero {f : Nat → Nat} : ∀ {a : Nat}, (∀ q, q < a → f q = 0) → sumN f a = 0
  | 0, _ => rfl
  | a + 1, h => by rw [sumN, sumN_zero (fun q hq => h q (by omega)), h a (by omega)]
theorem sumN_one {f : Nat → Nat} {q0 : Nat} : ∀ {a : Nat}, q0 < a → (∀ q, q < a → q ≠ q0 → f q = 0) → sumN f a = f q0
  | 0, h, _ => by omega
  | a + 1, h, hz => by
    rw [sumN]
    by_cases e : q0 = a
    · rw [← e, sumN_zero (fun q hq => hz q (by omega) (by omega)), Nat.zero_add]
    · rw [sumN_one (a := a) (by omega) (fun q hq hn => hz q (by omega) hn), hz a (by omega) (fun e' => e e'.symm), Nat.add_zero]
theorem sumN_if {p : Nat → Bool} {w : Nat} : ∀ a : Nat, sumN (fun q => if p q = true then w else 0) a = (List.range a).countP p * w
  | 0 => by simp [sumN]
  | a + 1 => by
    rw [sumN, sumN_if a, List.range_succ, List.countP_append, List.countP_singleton, Nat.add_mul]
    by_cases h : p a = true
    · simp [h]
    · simp [h]
theorem sumN_congr {f g : Nat → Nat} : ∀ {a : Nat}, (∀ q, q < a → f q = g q) → sumN f a = sumN g a
  | 0, _ => rfl
  | a + 1, h => by rw [sumN, sumN, sumN_congr (fun q hq => h q (by omega)), h a (by omega)]
theorem bells_count {left c : List Int} (hl : left.Nodup) (h0 : ∀ x ∈ left, 0 ≤ x) (hc : (c.filter fun x => decide (0 ≤ x)).Nodup) (hs : ∀ x ∈ c, 0 ≤ x → x ∈ left) : left.countP (fun x => decide (x ∈ c)) = c.countP fun x => decide (0 ≤ x) := by
  rw [List.countP_eq_length_filter, List.countP_eq_length_filter]
  refine List.Perm.length_eq ((List.perm_ext_iff_of_nodup (hl.sublist List.filter_sublist) hc).2 fun x => ?_)
  simp only [List.mem_filter, decide_eq_true_eq]
  exact ⟨fun h => ⟨h.2, h0 x h.1⟩, fun h => ⟨hs x h.1 h.2, h.1⟩⟩
theorem erase_facts {left : List Int} {q : Nat} (hq : q < left.length) (hl : left.Nodup) : (left.eraseIdx q).Nodup ∧ (left.eraseIdx q).length + 1 = left.length ∧ ∀ x, x ∈ left.eraseIdx q ↔ x ∈ left ∧ x ≠ left.getD q 0 := by
  have hp := eraseIdx_perm left q hq
  have hn := hp.nodup_iff.1 hl
  rw [List.nodup_cons] at hn
  refine ⟨hn.2, by rw [hp.length_eq, List.length_cons], fun x => ?_⟩
  rw [hp.mem_iff, List.mem_cons]
  constructor
  · intro h; exact ⟨.inr h, fun e => hn.1 (e ▸ h)⟩
  · rintro ⟨h | h, e⟩
    · exact absurd h e
    · exact h
theorem nWays_eq : ∀ (m : Nat) (left c : List Int), left.length = m → c.length = m → left.Nodup → (∀ x ∈ left, 0 ≤ x) → (c.filter fun x => decide (0 ≤ x)).Nodup →
    ((∀ x ∈ c, 0 ≤ x → x ∈ left) → nWays m left c = fct (freeL c)) ∧ (¬ (∀ x ∈ c, 0 ≤ x → x ∈ left) → nWays m left c = 0)
  | 0, left, c, h1, h2, _, _, _ => by
    have e1 := List.eq_nil_of_length_eq_zero h1
    have e2 := List.eq_nil_of_length_eq_zero h2
    subst e1; subst e2
    exact ⟨fun _ => rfl, fun h => absurd (fun x hx => by simp at hx) h⟩
  | m + 1, left, [], _, h2, _, _, _ => by simp at h2
  | m + 1, left, x :: c, h1, h2, hl, h0, hc => by
    have h2' : c.length = m := by simpa using h2
    have hc' : (c.filter fun x => decide (0 ≤ x)).Nodup := by
      rw [List.filter_cons] at hc
      split at hc
      · exact (List.nodup_cons.1 hc).2
      · exact hc
    have ih : ∀ q, q < m + 1 → ((∀ y ∈ c, 0 ≤ y → y ∈ left.eraseIdx q) → nWays m (left.eraseIdx q) c = fct (freeL c)) ∧ (¬ (∀ y ∈ c, 0 ≤ y → y ∈ left.eraseIdx q) → nWays m (left.eraseIdx q) c = 0) := fun q hq => by
      have he := erase_facts (q := q) (by omega) hl
      exact nWays_eq m _ c (by omega) h2' he.1 (fun y hy => h0 y ((he.2.2 y).1 hy).1) hc'
    rw [nWays_succ]
    by_cases hx : 0 ≤ x
    · have hf : freeL (x :: c) = freeL c := by unfold freeL; rw [List.countP_cons_of_neg (by simp; omega)]
      have hxc : x ∉ c := fun hm => by
        rw [List.filter_cons, if_pos (decide_eq_true hx)] at hc
        exact (List.nodup_cons.1 hc).1 (List.mem_filter.2 ⟨hm, decide_eq_true hx⟩)
      by_cases hm : x ∈ left
      · obtain ⟨q0, hq0, e0⟩ := List.getElem_of_mem hm
        have e0' : left.getD q0 0 = x := by simp [hq0, e0]
        rw [sumN_one (q0 := q0) (by omega) (fun q hq hn => by
          rw [if_neg]
          rintro (h | h)
          · omega
          · refine hn ?_
            rw [← idxOf_at hl (show q < left.length by omega), ← idxOf_at hl hq0, h, e0']), if_pos (.inr e0'), hf]
        have he := erase_facts hq0 hl
        have hiff : (∀ y ∈ c, 0 ≤ y → y ∈ left.eraseIdx q0) ↔ ∀ y ∈ x :: c, 0 ≤ y → y ∈ left := by
          constructor
          · intro h y hy hy0
            rcases List.mem_cons.1 hy with rfl | hy
            · exact hm
            · exact ((he.2.2 y).1 (h y hy hy0)).1
          · intro h y hy hy0
            exact (he.2.2 y).2 ⟨h y (List.mem_cons_of_mem _ hy) hy0, fun e => hxc (by rw [e0'] at e; exact e ▸ hy)⟩
        have := ih q0 (by omega)
        rw [hiff] at this
        exact this
      · rw [sumN_zero (fun q hq => by
          rw [if_neg]
          rintro (h | h)
          · omega
          · refine hm ?_
            rw [← h, show left.getD q 0 = left[q]'(by omega) by simp [show q < left.length by omega]]
            exact List.getElem_mem _)]
        exact ⟨fun h => absurd (h x (by simp) hx) hm, fun _ => rfl⟩
    · have hx' : x < 0 := by omega
      have hf : freeL (x :: c) = freeL c + 1 := by unfold freeL; rw [List.countP_cons_of_pos (by simp; omega)]
      have hall : (∀ y ∈ x :: c, 0 ≤ y → y ∈ left) ↔ ∀ y ∈ c, 0 ≤ y → y ∈ left := by
        constructor
        · intro h y hy; exact h y (List.mem_cons_of_mem _ hy)
        · intro h y hy hy0
          rcases List.mem_cons.1 hy with rfl | hy
          · omega
          · exact h y hy hy0
      rw [hall]
      constructor
      · intro hs
        rw [sumN_congr (g := fun q => if decide (left.getD q 0 ∉ c) = true then fct (freeL c) else 0) (fun q hq => by
          rw [if_pos (.inl hx')]
          have he := erase_facts (q := q) (by omega) hl
          by_cases hm : left.getD q 0 ∈ c
          · rw [if_neg (by simpa using hm)]
            refine (ih q hq).2 fun hh => ?_
            have h0q : 0 ≤ left.getD q 0 := h0 _ (mem_getD 0 (by omega))
            exact ((he.2.2 _).1 (hh _ hm h0q)).2 rfl
          · rw [if_pos (by simpa using hm)]
            exact (ih q hq).1 fun y hy hy0 => (he.2.2 y).2 ⟨hs y hy hy0, fun e => hm (e ▸ hy)⟩), sumN_if, hf]
        have hr : (List.range (m + 1)).countP (fun q => decide (left.getD q 0 ∉ c)) = left.countP fun y => decide (y ∉ c) := by
          rw [← h1]
          conv => rhs; rw [show left = (List.range left.length).map (fun q => left.getD q 0) from (List.ext_getElem (by simp) fun i h3 h4 => by simp [h3])]
          rw [List.countP_map]; rfl
        have hb := bells_count hl h0 hc' hs
        have hs1 : left.countP (fun y => decide (y ∈ c)) + left.countP (fun y => decide (y ∉ c)) = left.length := by
          have := List.length_eq_countP_add_countP (fun y => decide (y ∈ c)) (l := left)
          rw [this]; congr 1
          refine List.countP_congr fun y _ => ?_
          simp
        have hs2 : c.countP (fun y => decide (0 ≤ y)) + freeL c = c.length := by
          have := List.length_eq_countP_add_countP (fun y => decide (0 ≤ y)) (l := c)
          rw [this]; unfold freeL; congr 1
          refine List.countP_congr fun y _ => ?_
          simp
        rw [hr, show left.countP (fun y => decide (y ∉ c)) = freeL c + 1 by omega]; rfl
      · intro hs
        refine sumN_zero fun q hq => ?_
        rw [if_pos (.inl hx')]
        have he := erase_facts (q := q) (by omega) hl
        exact (ih q hq).2 fun hh => hs fun y hy hy0 => ((he.2.2 y).1 (hh y hy hy0)).1
/-! ### A pattern as one list -/
theorem mat_iff : ∀ {c r : List Int}, c.length = r.length → (mat c r = true ↔ ∀ i, i < c.length → c.getD i 0 < 0 ∨ r.getD i 0 = c.getD i 0)
  | [], [], _ => by simp [mat]
  | [], _ :: _, h => by simp at h
  | _ :: _, [], h => by simp at h
  | x :: c, y :: r, h => by
    have ih := mat_iff (c := c) (r := r) (by simpa using h)
    rw [mat, Bool.and_eq_true, ih, Bool.or_eq_true, decide_eq_true_eq, decide_eq_true_eq]
    constructor
    · rintro ⟨h1, h2⟩ i hi
      cases i with
      | zero => simpa using h1
      | succ i => simpa using h2 i (by simpa using hi)
    · intro hh
      refine ⟨by simpa using hh 0 (by simp), fun i hi => ?_⟩
      simpa using hh (i + 1) (by simpa using hi)
def padC (f b : List Int) (n : Nat) : List Int := f ++ (List.replicate (n - f.length - b.length) (-1) ++ b)
theorem padC_len {f b : List Int} {n : Nat} (h : f.length + b.length ≤ n) : (padC f b n).length = n := by
  unfold padC; rw [List.length_append, List.length_append, List.length_replicate]; omega
theorem padC_1 {f b : List Int} {n i : Nat} (hi : i < f.length) : (padC f b n).getD i 0 = f.getD i 0 := by
  unfold padC; rw [List.getD_eq_getElem?_getD, List.getD_eq_getElem?_getD, List.getElem?_append_left hi]
theorem padC_2 {f b : List Int} {n i : Nat} (h1 : f.length ≤ i) (h2 : i < n - b.length) : (padC f b n).getD i 0 = -1 := by
  unfold padC
  rw [List.getD_eq_getElem?_getD, List.getElem?_append_right h1, List.getElem?_append_left (by rw [List.length_replicate]; omega), List.getElem?_replicate, if_pos (by omega)]
  rfl
theorem padC_3 {f b : List Int} {n i : Nat} (h : f.length + b.length ≤ n) (hi : i < b.length) : (padC f b n).getD (n - b.length + i) 0 = b.getD i 0 := by
  unfold padC
  rw [List.getD_eq_getElem?_getD, List.getD_eq_getElem?_getD, List.getElem?_append_right (by omega), List.getElem?_append_right (by rw [List.length_replicate]; omega), List.length_replicate]
  congr 2
  omega
theorem like_mat {f b r : List Int} {n : Nat} (h : f.length + b.length ≤ n) (hr : r.length = n) : likeB f b r = mat (padC f b n) r := by
  have hl := padC_len h
  rw [Bool.eq_iff_iff, mat_iff (by omega), hl]
  constructor
  · intro hh i hi
    unfold likeB at hh
    rw [Bool.and_eq_true, List.all_eq_true, List.all_eq_true] at hh
    by_cases h1 : i < f.length
    · rw [padC_1 h1]; exact of_decide_eq_true (hh.1 i (List.mem_range.2 h1))
    · by_cases h2 : i < n - b.length
      · rw [padC_2 (by omega) h2]; exact .inl (by decide)
      · have := of_decide_eq_true (hh.2 (i - (n - b.length)) (List.mem_range.2 (by omega)))
        rw [hr, show n - b.length + (i - (n - b.length)) = i by omega] at this
        have e := padC_3 (f := f) (b := b) (n := n) (i := i - (n - b.length)) h (by omega)
        rw [show n - b.length + (i - (n - b.length)) = i by omega] at e
        rw [e]; exact this
  · intro hh
    refine like_yes (fun i hi => ?_) (fun i hi => ?_)
    · have := hh i (by omega); rw [padC_1 hi] at this; exact this
    · have := hh (n - b.length + i) (by omega); rw [padC_3 h hi] at this; rw [hr]; exact this
theorem pe_bells {n : Int} : ∀ (r xs : List Int), peF n xs r = 0 → (∀ c ∈ r, 0 ≤ signIdx c → signIdx c < n ∧ c ∉ xs) ∧ (r.filter fun c => decide (0 ≤ signIdx c)).Nodup
  | [], _, _ => ⟨fun c hc => by simp at hc, by simp⟩
  | x :: r, xs, h => by
    rw [peF] at h
    by_cases h0 : okStep n xs x = 0
    · rw [if_neg (by simp [h0])] at h
      obtain ⟨a, b⟩ := pe_bells r _ h
      have hx : 0 ≤ signIdx x → signIdx x < n ∧ x ∉ xs := fun hs => by
        unfold okStep at h0
        have h42 := ne_42 hs
        have h63 : x ≠ 63 := fun e => by rw [e, sign_63] at hs; omega
        rw [if_neg (by simp [h42]), if_neg h63] at h0
        split at h0
        · omega
        · split at h0
          · omega
          · rename_i h1 h2; exact ⟨by omega, h2⟩
      refine ⟨fun c hc hs => ?_, ?_⟩
      · rcases List.mem_cons.1 hc with rfl | hc
        · exact hx hs
        · have := a c hc hs
          exact ⟨this.1, fun hm => this.2 (List.mem_append_left _ hm)⟩
      · rw [List.filter_cons]
        split
        · rename_i hs
          rw [List.nodup_cons]
          refine ⟨fun hm => ?_, b⟩
          have hm := List.mem_filter.1 hm
          exact (a x hm.1 (by simpa using hs)).2 (by simp)
        · exact b
    · rw [if_pos h0] at h; exact absurd h h0
theorem frbk_filter {p : Int → Bool} (hp : p 42 = false) : ∀ l : List Int, (frR l ++ bkR l).filter p = l.filter p
  | [] => rfl
  | x :: l => by
    by_cases hx : x = 42
    · rw [frR, bkR, if_pos hx, if_pos hx, List.nil_append, List.filter_cons, hx, hp]; rfl
    · rw [frR, bkR, if_neg hx, if_neg hx, List.cons_append, List.filter_cons, List.filter_cons, frbk_filter hp l]
theorem bellQ_nonneg (c : Int) : 0 ≤ bellQ c ↔ 0 ≤ signIdx c := by
  by_cases h : c = 63
  · rw [h, bellQ_63, sign_63]
  · rw [bellQ_ne h]
theorem bellQ_eq {c : Int} (h : 0 ≤ signIdx c) : bellQ c = signIdx c := bellQ_ne fun e => by rw [e, sign_63] at h; omega
theorem padC_filter (f b : List Int) (n : Nat) : (padC f b n).filter (fun x => decide (0 ≤ x)) = (f ++ b).filter fun x => decide (0 ≤ x) := by
  unfold padC
  rw [List.filter_append, List.filter_append, List.filter_append, List.filter_replicate]
  simp
theorem nodup_map_on {f : Int → Int} : ∀ {l : List Int}, l.Nodup → (∀ x ∈ l, ∀ y ∈ l, f x = f y → x = y) → (l.map f).Nodup
  | [], _, _ => by simp
  | x :: l, h, hi => by
    rw [List.nodup_cons] at h
    rw [List.map_cons, List.nodup_cons]
    refine ⟨fun hm => ?_, nodup_map_on h.2 fun a ha b hb => hi a (List.mem_cons_of_mem _ ha) b (List.mem_cons_of_mem _ hb)⟩
    obtain ⟨y, hy, e⟩ := List.mem_map.1 hm
    have := hi x (by simp) y (List.mem_cons_of_mem _ hy) e.symm
    exact h.1 (this ▸ hy)
theorem pad_bells {n : Int} {l : List Int} (hp : peF n [] l = 0) (N : Nat) :
    ((padC (List.map bellQ (frR l)) (List.map bellQ (bkR l)) N).filter fun x => decide (0 ≤ x)).Nodup ∧ ∀ x ∈ padC (List.map bellQ (frR l)) (List.map bellQ (bkR l)) N, 0 ≤ x → x < n := by
  obtain ⟨ha, hb⟩ := pe_bells l [] hp
  have e1 : (padC (List.map bellQ (frR l)) (List.map bellQ (bkR l)) N).filter (fun x => decide (0 ≤ x)) = (l.filter fun c => decide (0 ≤ signIdx c)).map bellQ := by
    rw [padC_filter, ← List.map_append, List.filter_map]
    congr 1
    rw [← frbk_filter (p := fun c => decide (0 ≤ signIdx c)) (by rw [sign_42]; rfl) l]
    refine List.filter_congr fun c _ => ?_
    simp only [Function.comp, decide_eq_decide]; exact bellQ_nonneg c
  constructor
  · rw [e1]
    refine nodup_map_on hb fun x hx y hy e => ?_
    have hx := of_decide_eq_true (List.mem_filter.1 hx).2
    have hy := of_decide_eq_true (List.mem_filter.1 hy).2
    rw [bellQ_eq hx, bellQ_eq hy] at e
    exact sign_inj hx e
  · intro x hx h0
    have : x ∈ (l.filter fun c => decide (0 ≤ signIdx c)).map bellQ := by rw [← e1]; exact List.mem_filter.2 ⟨hx, decide_eq_true h0⟩
    obtain ⟨c, hc, e⟩ := List.mem_map.1 this
    have hc := List.mem_filter.1 hc
    have hs := of_decide_eq_true hc.2
    rw [← e, bellQ_eq hs]
    exact (ha c hc.1 hs).1
theorem rounds_mem {n : Nat} {x : Int} : x ∈ roundsL n ↔ 0 ≤ x ∧ x < n := by
  unfold roundsL
  simp only [List.mem_map, List.mem_range]
  constructor
  · rintro ⟨k, hk, rfl⟩; omega
  · rintro ⟨h0, h1⟩; exact ⟨x.toNat, by omega, by omega⟩
theorem rounds_nodup (n : Nat) : (roundsL n).Nodup := by
  have := rounds_lt n
  rw [List.nodup_iff_pairwise_ne]
  exact this.imp fun h => by omega
theorem like_count {n : Nat} {l : List Int} (h : patMay ((n : Nat) : Int) l = 0) :
    (List.range (fct n)).countP (fun k => likeB (List.map bellQ (frR l)) (List.map bellQ (bkR l)) (atL n k)) = fct (n - (fixL (List.map bellQ (frR l)) + fixL (List.map bellQ (bkR l)))) := by
  obtain ⟨_, hp, hlen, _⟩ := pat_facts h
  have hl : (List.map bellQ (frR l)).length + (List.map bellQ (bkR l)).length ≤ n := by rw [List.length_map, List.length_map]; omega
  obtain ⟨hn, hb⟩ := pad_bells hp n
  have hw := (nWays_eq n (roundsL n) (padC (List.map bellQ (frR l)) (List.map bellQ (bkR l)) n) (roundsL_len n) (padC_len hl) (rounds_nodup n) (fun x hx => (rounds_mem.1 hx).1) hn).1 (fun x hx h0 => rounds_mem.2 ⟨h0, hb x hx h0⟩)
  have e : (List.range (fct n)).countP (fun k => likeB (List.map bellQ (frR l)) (List.map bellQ (bkR l)) (atL n k)) = nWays n (roundsL n) (padC (List.map bellQ (frR l)) (List.map bellQ (bkR l)) n) := by
    unfold nWays
    refine List.countP_congr fun k _ => ?_
    rw [like_mat hl (at_len n k)]; rfl
  rw [e, hw]
  congr 1
  have h1 : (padC (List.map bellQ (frR l)) (List.map bellQ (bkR l)) n).countP (fun y => decide (0 ≤ y)) = fixL (List.map bellQ (frR l)) + fixL (List.map bellQ (bkR l)) := by
    rw [List.countP_eq_length_filter, padC_filter, ← List.countP_eq_length_filter, List.countP_append]; rfl
  have h2 : (padC (List.map bellQ (frR l)) (List.map bellQ (bkR l)) n).countP (fun y => decide (0 ≤ y)) + freeL (padC (List.map bellQ (frR l)) (List.map bellQ (bkR l)) n) = n := by
    have := List.length_eq_countP_add_countP (fun y => decide (0 ≤ y)) (l := padC (List.map bellQ (frR l)) (List.map bellQ (bkR l)) n)
    rw [padC_len hl] at this
    have h3 : (padC (List.map bellQ (frR l)) (List.map bellQ (bkR l)) n).countP (fun y => decide ¬decide (0 ≤ y) = true) = freeL (padC (List.map bellQ (frR l)) (List.map bellQ (bkR l)) n) := by
      unfold freeL
      refine List.countP_congr fun y _ => ?_
      simp
    omega
  omega
end Go.KL

/- Of all rows so many are like a pattern as there are ways to place the other bells. -/
namespace Go.KL
section
variable {P : Program} {d : Option Tmp} {ty : TypeId} {pos : String} {af : Array Edge} {g : Option (Nat × Bool)} {a : Act} {σ : GW}
theorem y_remI {t u : TypeId} {x y : Operand} {m : Int} {n : Nat} (hx : a.eval x = .int .i64 m) (hy : a.eval y = .int .i64 n) (hn : 0 < n) : Yld P ⟨d, .binOp .rem t x y u, ty, pos, af, g⟩ a σ (Ty.int (Int.tmod m n)).pr := by
  refine Yld.of_run (v := .int .i64 (Int.tmod m n)) ?_ rfl
  simp only [execOp, hx, hy]; simp [go_sem]; omega
end
theorem asc_runs {l : List UInt8} (h : ∀ b ∈ l, b.toNat < 128) : runsL (bsL l) = l.map fun b => ((b.toNat : Nat) : Int) := by
  have key : ∀ (f p : Nat), l.length ≤ f + p → runsF (bsL l) f p = (l.drop p).map fun b => ((b.toNat : Nat) : Int) := by
    intro f
    induction f with
    | zero => intro p hp; rw [List.drop_eq_nil_of_le (by omega)]; rfl
    | succ f ih =>
      intro p hp
      by_cases hpl : p < l.length
      · have hg := bsL_get hpl
        have hb := h l[p] (List.getElem_mem hpl)
        have hr := run1_lo (s := bsL l) (p := p) (by rw [hg]; exact hb)
        have hm : runM (bsL l) p = ((l[p].toNat : Nat) : Int) := by
          unfold runM
          rw [if_neg (by rw [hr.1, hg]; omega), hr.1, hg]
        rw [runsF_cons (by rw [bsL_size]; exact hpl) (by rw [bsL_size]; omega), hm, hr.2, Nat.add_sub_cancel, ih (p + 1) (by omega), List.drop_eq_getElem_cons hpl, List.map_cons]
      · rw [runsF_end (by rw [bsL_size]; omega), List.drop_eq_nil_of_le (by omega)]; rfl
  have := key (bsL l).size 0 (by rw [bsL_size]; omega)
  unfold runsL
  rw [this, List.drop_zero]
theorem pe_snoc {n : Int} : ∀ {l xs : List Int} {c : Int}, peF n xs l = 0 → okStep n (xs ++ l) c = 0 → peF n xs (l ++ [c]) = 0
  | [], xs, c, _, h2 => by
    rw [List.append_nil] at h2
    rw [List.nil_append, peF, if_neg (by rw [h2]; simp)]; rfl
  | d :: l, xs, c, h1, h2 => by
    rw [peF] at h1
    split at h1
    · rename_i e; exact absurd h1 e
    · rename_i e
      rw [List.cons_append, peF, if_neg e]
      exact pe_snoc h1 (by rw [List.append_assoc]; exact h2)
section
variable (raw r : List Int) (star : Nat)
def tmQ (k : Nat) : Bool := decide (Int.tmod (rawAt raw (k + 1)) 3 = 0)
def tmC (k : Nat) : UInt8 := if tmQ raw k = true then 63 else SIGNS.get! (r.getD k 0).toNat
def tmB : Nat → List UInt8
  | 0 => []
  | k + 1 => (tmB k ++ (if k = star then [42] else [])) ++ [tmC raw r k]
def tmF : Nat → Nat
  | 0 => 0
  | k + 1 => if tmQ raw k = true then tmF k + 1 else tmF k
def tmL (k : Nat) : List Int := (tmB raw r star k).map fun b => ((b.toNat : Nat) : Int)
end
section
variable {raw r : List Int} {star : Nat}
theorem tmF_le (k : Nat) : tmF raw k ≤ k := by
  induction k with
  | zero => exact Nat.le_refl _
  | succ k ih => rw [tmF]; split <;> omega
theorem tmC_sign (hr : IsRow r) {k : Nat} (hk : k < r.length) (h : tmQ raw k = false) : signIdx (((tmC raw r k).toNat : Nat) : Int) = r.getD k 0 ∧ (tmC raw r k).toNat < 128 := by
  unfold tmC
  rw [if_neg (by rw [h]; simp)]
  have h12 := hr.lt12 hk
  have hq : (r.getD k 0).toNat < 12 := by omega
  refine ⟨(sign_of hq).trans (by omega), signs_lt hq⟩
theorem tmL_succ (k : Nat) : tmL raw r star (k + 1) = (tmL raw r star k ++ (if k = star then [42] else [])) ++ [(((tmC raw r k).toNat : Nat) : Int)] := by
  unfold tmL
  rw [tmB, List.map_append, List.map_append]
  split <;> rfl
structure TmOk (n : Nat) (raw r : List Int) (star k : Nat) : Prop where
  pe : peF (n : Int) [] (tmL raw r star k) = 0
  hs : hasS (tmL raw r star k) = decide (star < k)
  sign : ∀ c ∈ tmL raw r star k, 0 ≤ signIdx c → ∃ j, j < k ∧ signIdx c = r.getD j 0
  len : (tmL raw r star k).length = k + (if star < k then 1 else 0)
  cnt : (tmL raw r star k).countP (fun c => decide (0 ≤ signIdx c)) + tmF raw k = k
  asc : ∀ b ∈ tmB raw r star k, b.toNat < 128
theorem tm_ok {n : Nat} (hr : IsRow r) (hn : r.length = n) : ∀ k, k ≤ n → TmOk n raw r star k
  | 0, _ => ⟨rfl, by simp [tmL, tmB, hasS], fun c hc => by simp [tmL, tmB] at hc, by simp [tmL, tmB], by simp [tmL, tmB, tmF], fun b hb => by simp [tmB] at hb⟩
  | k + 1, hk => by
    obtain ⟨h1, h2, h3, h4, h5, h6⟩ := tm_ok hr hn k (by omega)
    -- the star
    have hstar : ∃ X, X = tmL raw r star k ++ (if k = star then [42] else []) ∧ peF (n : Int) [] X = 0 ∧ hasS X = decide (star < k + 1) ∧ (∀ c ∈ X, 0 ≤ signIdx c → ∃ j, j < k ∧ signIdx c = r.getD j 0) ∧ X.length = k + (if star < k + 1 then 1 else 0) ∧ X.countP (fun c => decide (0 ≤ signIdx c)) + tmF raw k = k := by
      refine ⟨_, rfl, ?_⟩
      by_cases e : k = star
      · subst e
        rw [if_pos rfl]
        have hs0 : hasS (tmL raw r k k) = false := by rw [h2]; simp
        refine ⟨pe_snoc h1 ?_, ?_, fun c hc h0 => ?_, ?_, ?_⟩
        · rw [List.nil_append]; unfold okStep; rw [if_pos ⟨rfl, hs0⟩]
        · rw [hasS_snoc, hs0]; simp
        · rcases List.mem_append.1 hc with hc | hc
          · exact h3 c hc h0
          · rw [List.mem_singleton] at hc; subst hc; rw [sign_42] at h0; omega
        · rw [List.length_append, h4]; simp
        · rw [List.countP_append, List.countP_singleton, sign_42]; simpa using h5
      · rw [if_neg e, List.append_nil]
        have hlt : (star < k + 1) = (star < k) := by rw [eq_iff_iff]; omega
        exact ⟨h1, by rw [h2, decide_eq_decide]; omega, h3, by rw [h4]; simp only [hlt], h5⟩
    obtain ⟨X, hX, x1, x2, x3, x4, x5⟩ := hstar
    have hL : tmL raw r star (k + 1) = X ++ [(((tmC raw r k).toNat : Nat) : Int)] := by rw [tmL_succ, ← hX]
    have hkr : k < r.length := by omega
    by_cases hq : tmQ raw k = true
    · have hc : (((tmC raw r k).toNat : Nat) : Int) = 63 := by unfold tmC; rw [if_pos hq]; rfl
      rw [hc] at hL
      have h63 : signIdx 63 = -1 := sign_63
      refine ⟨?_, ?_, fun c hc2 h0 => ?_, ?_, ?_, fun b hb => ?_⟩
      · rw [hL]; exact pe_snoc x1 (by rw [List.nil_append]; exact ok_q rfl)
      · rw [hL, hasS_snoc, x2]; simp
      · rw [hL] at hc2
        rcases List.mem_append.1 hc2 with hc2 | hc2
        · obtain ⟨j, h7, h8⟩ := x3 c hc2 h0; exact ⟨j, by omega, h8⟩
        · rw [List.mem_singleton] at hc2; subst hc2; rw [h63] at h0; omega
      · rw [hL, List.length_append, x4, List.length_singleton]; omega
      · rw [hL, List.countP_append, List.countP_singleton, h63, tmF, if_pos hq]; simp; omega
      · rw [tmB] at hb
        rcases List.mem_append.1 hb with hb | hb
        · rcases List.mem_append.1 hb with hb | hb
          · exact h6 b hb
          · split at hb <;> simp at hb
            subst hb; decide
        · rw [List.mem_singleton] at hb; subst hb; unfold tmC; rw [if_pos hq]; decide
    · have hq : tmQ raw k = false := by simpa using hq
      obtain ⟨hs, hlt⟩ := tmC_sign (raw := raw) hr hkr hq
      have h12 := hr.lt12 hkr
      have hat := hr.at hkr
      have hne : (((tmC raw r k).toNat : Nat) : Int) ≠ 42 := fun e => by rw [e, sign_42] at hs; omega
      have hne2 : (((tmC raw r k).toNat : Nat) : Int) ≠ 63 := fun e => by rw [e, sign_63] at hs; omega
      have hnew : (((tmC raw r k).toNat : Nat) : Int) ∉ X := fun hm => by
        obtain ⟨j, h7, h8⟩ := x3 _ hm (by omega)
        rw [hs] at h8
        have hnd := hr.nodup
        rw [List.nodup_iff_pairwise_ne, List.pairwise_iff_getElem] at hnd
        have := hnd j k (by omega) hkr h7
        simp [hkr, show j < r.length by omega] at h8
        exact this h8.symm
      refine ⟨?_, ?_, fun c hc2 h0 => ?_, ?_, ?_, fun b hb => ?_⟩
      · rw [hL]
        refine pe_snoc x1 ?_
        rw [List.nil_append]
        unfold okStep
        rw [if_neg (fun e => hne e.1), if_neg hne2, if_neg (by omega), if_neg hnew]
      · rw [hL, hasS_snoc, x2, decide_eq_false hne, Bool.or_false]
      · rw [hL] at hc2
        rcases List.mem_append.1 hc2 with hc2 | hc2
        · obtain ⟨j, h7, h8⟩ := x3 c hc2 h0; exact ⟨j, by omega, h8⟩
        · rw [List.mem_singleton] at hc2; subst hc2; exact ⟨k, by omega, hs⟩
      · rw [hL, List.length_append, x4, List.length_singleton]; omega
      · rw [hL, List.countP_append, List.countP_singleton, hs, if_pos (decide_eq_true h12.1), tmF, if_neg (by rw [hq]; simp)]; omega
      · rw [tmB] at hb
        rcases List.mem_append.1 hb with hb | hb
        · rcases List.mem_append.1 hb with hb | hb
          · exact h6 b hb
          · split at hb <;> simp at hb
            subst hb; decide
        · rw [List.mem_singleton] at hb; subst hb; exact hlt
theorem tm_pat {n : Nat} (hr : IsRow r) (hn : r.length = n) : runsL (bsL (tmB raw r star n)) = tmL raw r star n ∧ patMay (n : Int) (tmL raw r star n) = 0 ∧
    n - (fixL (List.map bellQ (frR (tmL raw r star n))) + fixL (List.map bellQ (bkR (tmL raw r star n)))) = tmF raw n := by
  obtain ⟨h1, h2, h3, h4, h5, h6⟩ := tm_ok (raw := raw) (star := star) hr hn n (Nat.le_refl _)
  have hp := hr.pos
  have hle := hr.le
  refine ⟨asc_runs h6, patMay_ok (by omega) h1 ?_, ?_⟩
  · unfold starN
    rw [h2, h4]
    by_cases e : star < n
    · simp only [e, decide_true, if_true]; omega
    · simp only [e, decide_false, if_false]; simp
  · have e : fixL (List.map bellQ (frR (tmL raw r star n))) + fixL (List.map bellQ (bkR (tmL raw r star n))) = (tmL raw r star n).countP fun c => decide (0 ≤ signIdx c) := by
      unfold fixL
      rw [← List.countP_append, ← List.map_append, List.countP_map]
      have h7 := frbk_filter (p := fun c => decide (0 ≤ signIdx c)) (by rw [sign_42]; rfl) (tmL raw r star n)
      rw [List.countP_eq_length_filter, List.countP_eq_length_filter, ← h7]
      congr 1
      refine List.filter_congr fun c _ => ?_
      simp only [Function.comp, decide_eq_decide]; exact bellQ_nonneg c
    rw [e]; omega
def tmA (n k : Nat) : List (List Int) := (List.range k).map (atL n)
theorem tmA_len (n k : Nat) : (tmA n k).length = k := by simp [tmA]
theorem tmA_succ (n k : Nat) : tmA n (k + 1) = tmA n k ++ [atL n k] := by simp [tmA, List.range_succ]
theorem rows_zero {n : Int} : ∀ {rs : List (List Int)}, (∀ r ∈ rs, rowMay r = 0 ∧ ((r.length : Nat) : Int) = n) → rowsMay n rs = 0
  | [], _ => rfl
  | r :: rs, h => by
    have h0 := h r (by simp)
    rw [rowsMay, if_neg (by rw [h0.1]; simp), if_neg (by rw [h0.2]; simp)]
    exact rows_zero fun x hx => h x (by simp [hx])
theorem star_l : runsL (ByteArray.mk #[42]) = [42] := asc_runs (l := [42]) (by simp)
theorem star_pat {n : Nat} (h1 : 1 ≤ n) (h2 : n ≤ 12) : patMay (n : Int) [42] = 0 := by
  refine patMay_ok (by omega) rfl ?_
  unfold starN hasS
  simp
theorem tm_law {n : Nat} (hr : IsRow r) (hn : r.length = n) (h5 : n ≤ 5) (hat : ∀ k, k < fct n → IsRow (atL n k)) :
    musMay (n : Int) [bsL (tmB raw r star n), ByteArray.mk #[42]] (tmA n (fct n)) = 0 ∧
    musL [bsL (tmB raw r star n), ByteArray.mk #[42]] (tmA n (fct n)) = [((fct (tmF raw n) : Nat) : Int), ((fct n : Nat) : Int)] := by
  obtain ⟨h1, h2, h3⟩ := tm_pat (raw := raw) (star := star) hr hn
  have hp := hr.pos
  have hf := fct_mono (show n ≤ 5 by omega)
  have hf5 : fct 5 = 120 := rfl
  have hst := star_pat (n := n) (by omega) (by omega)
  constructor
  · unfold musMay
    rw [if_neg (by rw [tmA_len]; simp; omega)]
    have ht : texMay (n : Int) [bsL (tmB raw r star n), ByteArray.mk #[42]] = 0 := by
      rw [texMay, h1, if_neg (by rw [h2]; simp), texMay, star_l, if_neg (by rw [hst]; simp)]; rfl
    rw [if_neg (by rw [ht]; simp)]
    refine rows_zero fun x hx => ?_
    obtain ⟨k, hk, rfl⟩ := List.mem_map.1 hx
    exact ⟨rowMay_ok.2 (hat k (List.mem_range.1 hk)), by rw [at_len]⟩
  · have e1 : cntL (bsL (tmB raw r star n)) (tmA n (fct n)) = fct (tmF raw n) := by
      unfold cntL tmA
      rw [List.countP_map]
      have := like_count h2
      rw [h3] at this
      rw [← this]
      refine List.countP_congr fun k _ => ?_
      simp only [Function.comp, likeT, h1]
    have e2 : cntL (ByteArray.mk #[42]) (tmA n (fct n)) = fct n := by
      unfold cntL
      rw [List.countP_eq_length.2 (fun x _ => ?_), tmA_len]
      unfold likeT
      rw [star_l]; rfl
    unfold musL
    rw [List.map_cons, List.map_cons, List.map_nil, e1, e2]
theorem tm_yes {k : Nat} (h : Int.tmod (rawAt raw (k + 1)) 3 = 0) : tmF raw k + 1 = tmF raw (k + 1) := by rw [tmF, if_pos (by unfold tmQ; exact decide_eq_true h)]
theorem tm_no {k : Nat} (h : ¬ Int.tmod (rawAt raw (k + 1)) 3 = 0) : tmF raw k = tmF raw (k + 1) := by rw [tmF, if_neg (by unfold tmQ; rw [decide_eq_false h]; simp)]
theorem tmC_q {k : Nat} (h : Int.tmod (rawAt raw (k + 1)) 3 = 0) : tmC raw r k = 63 := by unfold tmC tmQ; rw [if_pos (decide_eq_true h)]
theorem tmC_s {k : Nat} (hr : IsRow r) (hk : k < r.length) (h : ¬ Int.tmod (rawAt raw (k + 1)) 3 = 0) : SIGNS.extract (r.getD k 0).toNat (r.getD k 0 + 1).toNat = bsL [tmC raw r k] := by
  unfold tmC tmQ
  rw [if_neg (by rw [decide_eq_false h]; simp)]
  have h12 := hr.lt12 hk
  have hq : (r.getD k 0).toNat < 12 := by omega
  rw [show (r.getD k 0 + 1).toNat = (r.getD k 0).toNat + 1 by omega]
  generalize (r.getD k 0).toNat = q at hq
  have : ∀ i : Fin 12, SIGNS.extract i.val (i.val + 1) = bsL [SIGNS.get! i.val] := by decide
  exact this ⟨q, hq⟩
theorem tm_star {k : Nat} (hk : ((k : Nat) : Int) = ((star : Nat) : Int)) : bsL (tmB raw r star k) ++ ByteArray.mk #[42] = bsL (tmB raw r star k ++ (if k = star then [42] else [])) := by
  rw [if_pos (by omega)]; exact bsL_cat _ _
theorem tm_none {k : Nat} (hk : ¬ ((k : Nat) : Int) = ((star : Nat) : Int)) : bsL (tmB raw r star k) = bsL (tmB raw r star k ++ (if k = star then [42] else [])) := by
  rw [if_neg (by omega), List.append_nil]
theorem tm_sq {k : Nat} (hk : ((k : Nat) : Int) = ((star : Nat) : Int)) (h : Int.tmod (rawAt raw (k + 1)) 3 = 0) : bsL (tmB raw r star k) ++ ByteArray.mk #[42] ++ ByteArray.mk #[63] = bsL (tmB raw r star (k + 1)) := by
  rw [tm_star hk, tmB, tmC_q h]; exact bsL_cat _ _
theorem tm_ss {k : Nat} (hr : IsRow r) (hkr : k < r.length) (hk : ((k : Nat) : Int) = ((star : Nat) : Int)) (h : ¬ Int.tmod (rawAt raw (k + 1)) 3 = 0) : bsL (tmB raw r star k) ++ ByteArray.mk #[42] ++ SIGNS.extract (r.getD k 0).toNat (r.getD k 0 + 1).toNat = bsL (tmB raw r star (k + 1)) := by
  rw [tm_star hk, tmB, tmC_s (raw := raw) hr hkr h]; exact bsL_cat _ _
theorem tm_nq {k : Nat} (hk : ¬ ((k : Nat) : Int) = ((star : Nat) : Int)) (h : Int.tmod (rawAt raw (k + 1)) 3 = 0) : bsL (tmB raw r star k) ++ ByteArray.mk #[63] = bsL (tmB raw r star (k + 1)) := by
  rw [tm_none hk, tmB, tmC_q h]; exact bsL_cat _ _
theorem tm_ns {k : Nat} (hr : IsRow r) (hkr : k < r.length) (hk : ¬ ((k : Nat) : Int) = ((star : Nat) : Int)) (h : ¬ Int.tmod (rawAt raw (k + 1)) 3 = 0) : bsL (tmB raw r star k) ++ SIGNS.extract (r.getD k 0).toNat (r.getD k 0 + 1).toNat = bsL (tmB raw r star (k + 1)) := by
  rw [tm_none hk, tmB, tmC_s (raw := raw) hr hkr h]; exact bsL_cat _ _
theorem tm_size {n : Nat} (hr : IsRow r) (hn : r.length = n) {k : Nat} (hk : k ≤ n) : (bsL (tmB raw r star k)).size ≤ k + 1 := by
  have h := (tm_ok (raw := raw) (star := star) hr hn k hk).len
  rw [bsL_size]
  have h2 : (tmL raw r star k).length = (tmB raw r star k).length := List.length_map ..
  rw [← h2, h]
  split <;> omega
end
end Go.KL

/- 'append' to a fresh empty row, in any order with what stands beside it. -/
namespace Go.KL
open Go.RowKit
variable {P : Program}

theorem own_append0 {σ : GW} {k : Nat} {t ty e : TypeId} {z : Value} {c by_ : Nat} {v src : Value} {n m : Nat} {ts us : List Ty} (hk : 2 ≤ k) (ht : P.underlying t = some (.slice e)) (he : Info P e z c by_) (hz : z.cells.size = c) (hc : 0 < c)
    (h : Own σ k e c v n ts) (hx : (Ty.sl c m us).has σ src) (h1 : ∀ U, U ∈ us → One U) (hlen : n + m ≤ 9223372036854775807) (hbytes : (n + m) * by_ ≤ 140737488355328) (hv0 : ∃ ad, v = .slice ad n 0) :
    ∃ v' τ, (Builtin.append_ #[t, t] ty #[v, src]).run P σ.w = .ok v' τ.w ∧ Stp 0 σ τ ∧ Own τ k e c v' (n + m) (ts ++ us) := by
  have h0 := h
  obtain ⟨vs, r1, r2, r3, r4⟩ := h
  obtain ⟨ad, cap0, b, o, rfl, hcap0, hl, hs, hcl⟩ := hx
  obtain ⟨i, hi, hi1, rfl, rfl⟩ := he.get
  obtain ⟨ws, w1, w2, w3⟩ := sl_news hcl
  have hone : ∀ u ∈ ws, u.oneCell' = true := fun u hu => by
    obtain ⟨j, hj⟩ := List.mem_iff_getElem?.1 hu
    obtain ⟨T, hT⟩ : ∃ T, us[j]? = some T := ⟨us[j]'(by rw [← w1]; exact (List.getElem?_eq_some_iff.1 hj).1), by simp⟩
    exact h1 T (List.mem_of_getElem? hT) σ u (w3 j T u hT hj)
  have hlw : ws.length = m * i.size := by rw [w1]; exact hl
  have hl' : (vs ++ ws).length = (ts ++ us).length := by simp [r2, w1]
  -- a new array
  have new : ∀ (old : Nat) (τw : World), old < n + m → τw = σ.w.drew.alloc (.cells (vs.toArray ++ ws.toArray ++ Builtin.zeroCells z.cells (grownCap σ.w (n + m) old e - (n + m))) e) →
      ∃ τ : GW, τ.w = τw ∧ Stp 0 σ τ ∧ Own τ k e i.size (.slice (some ⟨σ.w.heap.size, 0, none⟩) (n + m) (grownCap σ.w (n + m) old e)) (n + m) (ts ++ us) := by
    intro old τw _ hτ
    subst hτ
    have hge := grownCap_ge σ.w (n + m) old e
    have hcm : grownCap σ.w (n + m) old e ≤ maxLen := grownCap_le_maxLen σ.w (n + m) old e hlen
    have hstp : Stp 0 σ (σ.drew.mk' k (.cells (vs.toArray ++ ws.toArray ++ Builtin.zeroCells z.cells (grownCap σ.w (n + m) old e - (n + m))) e)) := (Stp.drew σ).trans (Stp.mk' σ.drew k _)
    refine ⟨_, rfl, hstp, Own.intro (us := vs ++ ws) (heap_alloc_new σ.w.drew _) (by show (if _ = _ then k else _) = k; rw [if_pos]; rfl) hge hcm ?_ ?_ hl' ?_⟩
    · simp only [Array.size_append, List.size_toArray, size_zeroCells, hz, r1.1, hlw, ← Nat.add_mul]
      congr 1; omega
    · simp only [Array.toList_append, List.append_assoc]
      rw [← List.append_assoc, show (n + m) * i.size = (vs ++ ws).length by rw [List.length_append, r1.1, hlw, Nat.add_mul]]
      exact List.take_left
    · exact typed_append r2 (fun j T u hT hu => T.up hstp.le0 (r3 j T u hT hu)) (fun j T u hT hu => T.up hstp.le0 (w3 j T u hT hu))
  rcases r1.2 with ⟨rfl, rfl⟩ | ⟨g, cap, cur, rfl, _, hg, hn, hm, hcs, htk⟩
  · have hvs : vs = [] := List.eq_nil_of_length_eq_zero (by rw [r1.1]; simp)
    by_cases hm0 : m = 0
    · subst hm0
      have hus : us = [] := List.eq_nil_of_length_eq_zero (by rw [hl]; simp)
      subst hus
      refine ⟨.slice none 0 0, σ, ?_, Stp.refl _ _, by simpa using h0⟩
      cases ad <;> simp [Builtin.append_, run_underlying ht, sizeOf, typeInfo, hi, Builtin.lenOf, Builtin.firstCells, loadCells, loadCellsFrom]
    · have hus : us ≠ [] := by
        intro e; subst e
        have : 0 < m * i.size := Nat.mul_pos (by omega) hc
        simp only [List.length_nil] at hl
        omega
      obtain ⟨rfl, hst⟩ := hs.resolve_left hus
      have hr := run_append_nil (P := P) σ.w t ty e i z ht hi hi1 ⟨b, o, none⟩ m cap0 ws hlw (fun j u hj => by rw [Addr.add_lit]; exact w2 j u hj) (by omega) (by omega) (by simp only [Nat.zero_add] at hbytes; omega)
      obtain ⟨τ, e1, e2, e3⟩ := new 0 _ (by omega) rfl
      simp only [Nat.zero_add] at e1 e3 ⊢
      exact ⟨_, τ, by rw [hr, e1, hvs]; simp, e2, e3⟩
  · have hlt : g < σ.w.heap.size := (Array.getElem?_eq_some_iff.1 hg).1
    have hgk := r4 g rfl
    by_cases hnone : ad = none
    · subst hnone
      have hus : us = [] := hs.resolve_right (fun h => by cases h.1)
      have hm0 : m = 0 := by
        subst hus
        rcases Nat.eq_zero_or_pos m with h | h
        · exact h
        · have : 0 < m * i.size := Nat.mul_pos h hc
          simp only [List.length_nil] at hl
          omega
      subst hm0; subst hus
      refine ⟨_, σ, ?_, Stp.refl _ _, by simpa using h0⟩
      simp [Builtin.append_, run_underlying ht, sizeOf, typeInfo, hi, Builtin.lenOf, Builtin.firstCells, hn, storeCells, loadCells]
    · obtain ⟨ad', rfl⟩ := Option.ne_none_iff_exists'.1 hnone
      have hnews : ∀ (j : Nat) (u : Value), ws[j]? = some u → σ.w.cell? (ad'.add j) = some u := fun j u hj => by
        rcases hs with rfl | ⟨he', _⟩
        · have : ws = [] := List.eq_nil_of_length_eq_zero w1
          subst this; simp at hj
        · cases he'; rw [Addr.add_lit]; exact w2 j u hj
      have hcap : cap = 0 := by
        obtain ⟨ad0, e0⟩ := hv0
        cases e0; rfl
      by_cases hroom : n + m ≤ cap
      · have hm0 : m = 0 := by omega
        have hn0 : n = 0 := by omega
        have hfit : n * i.size + ws.length ≤ cur.size := by rw [hlw, hcs, ← Nat.add_mul]; exact Nat.mul_le_mul_right _ hroom
        have hr := run_append_room (P := P) σ.w t ty e i ht hi g n cap cur hg ad' m cap0 ws hlw hnews hone hroom hfit
        have hc0 : cur.size = 0 := by rw [hcs, hcap, Nat.zero_mul]
        have hw0 : ws = [] := List.eq_nil_of_length_eq_zero (by rw [hlw, hm0, Nat.zero_mul])
        have hcur : (cur.toList.take (n * i.size) ++ ws ++ cur.toList.drop (n * i.size + ws.length)).toArray = cur := by
          have : cur = #[] := Array.eq_empty_of_size_eq_zero hc0
          subst this; subst hw0; simp
        rw [hcur] at hr
        have hstp : Stp 0 σ (σ.setRow g cur) := ⟨rfl, rfl, rfl, Nat.le_refl _, by simp [GW.setRow, World.setRow], fun b hb _ => by
          by_cases e : b = g
          · subst e; rw [hg]; exact setRow_heap σ.w b cur cur _ (0, 0) hg
          · exact setRow_other σ.w g b cur e, fun _ _ _ => rfl⟩
        refine ⟨_, _, hr, hstp, Own.intro (us := vs ++ ws) (setRow_heap σ.w g cur _ e (0, 0) hg) hgk hroom hm hcs ?_ hl' ?_⟩
        · rw [hw0, List.append_nil, hm0, Nat.add_zero]; exact htk
        · exact typed_append r2 (fun j T u hT hu => T.up hstp.le0 (r3 j T u hT hu)) (fun j T u hT hu => T.up hstp.le0 (w3 j T u hT hu))
      · have holds : ∀ (j : Nat) (u : Value), vs[j]? = some u → σ.w.cell? ((⟨g, 0, none⟩ : Addr).add j) = some u := r1.cells (g := g) rfl
        have hr := run_append_grow (P := P) σ.w t ty e i z ht hi hi1 ⟨g, 0, none⟩ n cap vs r1.1 holds ad' m cap0 ws hlw hnews (by omega) (by omega) (growslice_fits (by omega) hbytes)
        obtain ⟨τ, e1, e2, e3⟩ := new cap _ (by omega) rfl
        exact ⟨_, τ, by rw [hr, e1], e2, e3⟩


variable {d : Option Tmp} {ty : TypeId} {pos : String} {af : Array Edge} {g : Option (Nat × Bool)} {a : Act} {σ : GW}
def Pr.own0 (k : Nat) (e : TypeId) : Pr := ⟨fun σ v => Own σ k e 1 v 0 [] ∧ ∃ ad, v = .slice ad 0 0, fun hs h => ⟨h.1.keep hs (by decide) (.inl rfl), h.2⟩⟩
theorem y_lit00 {k : Nat} {t e : TypeId} {z : Value} {b : Nat} (ht : P.underlying t = some (.slice e)) (he : Info P e z 1 b) :
    Yld P ⟨d, .buildSlice t 0 #[], ty, pos, af, g⟩ a σ (Pr.own0 k e) := by
  intro K Q hk
  have hr : (execOp a.eval ⟨d, .buildSlice t 0 #[], ty, pos, af, g⟩).run P σ.w = .ok (.value (.slice (some ⟨σ.w.heap.size, 0, none⟩) 0 0)) (σ.w.alloc (.cells #[] e)) := by
    simp only [execOp, List.map_toArray, List.map_nil]
    simp [Instr.buildSlice, run_underlying ht, he.size, Instr.fill, newRow, newObj, Sem.run, Sem.run_bind, Array.range_zero']
  unfold Oper.wp
  rw [hr]
  exact hk _ (σ.mk' k (.cells #[] e)) (Stp.mk' σ k _) ⟨Own.intro (us := []) (heap_alloc_new σ.w _) (by show (if _ = _ then k else _) = k; rw [if_pos rfl]) (Nat.le_refl _) (Nat.zero_le _) rfl rfl rfl (fun j T u h => by simp at h), _, rfl⟩
theorem y_append0 {k : Nat} {t e : TypeId} {z : Value} {by_ : Nat} {x y : Operand} {m : Nat} {us : List Ty} (ht : P.underlying t = some (.slice e)) (he : Info P e z 1 by_) (hk : 2 ≤ k) (hz : z.cells.size = 1)
    (h : (Pr.own0 k e).has σ (a.eval x)) (hx : At (.sl 1 m us) σ a y) (h1 : ∀ U, U ∈ us → One U) (hlen : m ≤ 9223372036854775807) (hbytes : m * by_ ≤ 140737488355328) :
    Yld P ⟨d, .call ⟨.builtin .append, #[x, y], #[t, t]⟩, ty, pos, af, g⟩ a σ (Pr.own k e 1 m us) := by
  intro K Q hk'
  obtain ⟨v', τ, hr, hs, ho⟩ := own_append0 (ty := ty) hk ht he hz (by decide) h.1 hx h1 (by omega) (by rw [Nat.zero_add]; exact hbytes) h.2
  have hr' : (execOp a.eval ⟨d, .call ⟨.builtin .append, #[x, y], #[t, t]⟩, ty, pos, af, g⟩).run P σ.w = .ok (.value v') τ.w := by
    simp only [execOp, resolve, Sem.run_bind, Sem.run_pure, Result.andThen_ok, invoke, List.map_toArray, List.map_cons, List.map_nil, builtin, hr]
  unfold Oper.wp
  rw [hr']
  exact hk' v' τ hs (by rw [Nat.zero_add, List.nil_append] at ho; exact ho)
end Go.KL

/- Rows that share an array: 'append' leaves alone what is ahead. -/
namespace Go.KL
open Go.RowKit
variable {P : Program}

variable {d : Option Tmp} {ty : TypeId} {pos : String} {af : Array Edge} {g : Option (Nat × Bool)} {a : Act} {σ : GW}

end Go.KL

/- From a row's reading of its arguments to semantic types, and from a law's contract back to the row. -/
namespace Go.KL
open Go.ChangeShapes Go.WideShapes Go.ChangeAt Go.RowKit Go.Deep
variable {P : Program}

def GW.all (W : World) : GW := ⟨W, fun b => if b < W.heap.size then 1 else 0, fun b h => by
  by_cases hb : b < W.heap.size
  · exact hb
  · simp [hb] at h⟩

structure Bulk {H : Type} (B : DataW H → Nat) (BA : List (DataW H) → Nat) : Prop where
  one : ∀ d, 1 ≤ B d
  str : ∀ l, B (.lit (.string l)) = l.length + 1
  slice : ∀ es sp, B (.slice es sp) = BA es + BA sp + 1
  agg : ∀ ps, B (.agg ps) = BA ps + 1
  nil : BA [] = 0
  cons : ∀ d r, BA (d :: r) = B d + BA r

def Rd (P : Program) (t : TypeId) {α : Type} (cells : α → List Ty) (wf : α → Prop) (sz : α → Nat) (rc : α → Prop) : Prop :=
  ∀ (H : Type) (enc : TypeId × Value → H) (B : DataW H → Nat) (BA : List (DataW H) → Nat), Bulk B BA → ∀ (W : World) (fuel : Nat) (cs : List Value) (d : DataW H) (ps : List MemPlace),
    DataW.trod enc P W 0 (fun _ => true) true fuel t cs = some (d, ps) → ∃ x : α, wf x ∧ sz x ≤ B d ∧ ((d.weights P t).all (· ≤ reachBytes) = true → rc x) ∧ cs.length = (cells x).length ∧
      ∀ (j : Nat) (T : Ty) (u : Value), (cells x)[j]? = some T → cs[j]? = some u → T.has (GW.all W) u

theorem one_cell {T : Ty} {v : Value} {σ : GW} (h : T.has σ v) : ∀ (j : Nat) (U : Ty) (u : Value), [T][j]? = some U → [v][j]? = some u → U.has σ u := by
  intro j U u h1 h2
  match j with
  | 0 => simp at h1 h2; subst h1; subst h2; exact h
  | j + 1 => simp at h1

theorem rd_int {t : TypeId} {k : IntKind} (ht : P.underlying t = some (.int k)) : Rd P t (fun n : Int => [Ty.val (.int k n)]) (fun n => (Lit.int k n).wf = true) (fun _ => 1) (fun _ => True) := by
  intro H enc B BA hB W fuel cs d ps h
  obtain ⟨n, rfl, e, hw⟩ := DataW.trod_int ht h
  obtain ⟨rfl, rfl⟩ := Prod.mk.inj e
  exact ⟨n, hw, hB.one _, fun _ => trivial, rfl, one_cell rfl⟩
theorem BA_map {H : Type} {B : DataW H → Nat} {BA : List (DataW H) → Nat} (hB : Bulk B BA) {α : Type} (sz : α → Nat) : ∀ (xs : List α) (D : List (DataW H)), xs.length = D.length → (∀ (i : Nat) x d, xs[i]? = some x → D[i]? = some d → sz x ≤ B d) → (xs.map sz).sum ≤ BA D
  | [], [], _, _ => by simp
  | x :: xs, d :: D, hl, h => by
    rw [hB.cons, List.map_cons, List.sum_cons]
    have h0 := h 0 x d rfl rfl
    have := BA_map hB sz xs D (by simpa using hl) (fun i y e hy he => h (i + 1) y e (by simpa using hy) (by simpa using he))
    omega

theorem weightsAll_mem {H : Type} {e : TypeId} : ∀ {D : List (DataW H)} {d : DataW H}, d ∈ D → ∀ n, n ∈ d.weights P e → n ∈ DataW.weightsAll P e D
  | x :: D, d, h, n, hn => by
    simp only [DataW.weightsAll, List.mem_append]
    rcases List.mem_cons.1 h with rfl | h
    · exact .inl hn
    · exact .inr (weightsAll_mem h n hn)

theorem spot_none {w : World} {a : Addr} {v : Value} (h : w.cell? a = some v) : a.spot = none := by
  unfold World.cell? at h
  split at h
  · split at h
    · cases h
    · rename_i hs; simpa using hs
  · cases h

theorem rd_slice {t e c : TypeId} {α : Type} {cells : α → List Ty} {wf : α → Prop} {sz : α → Nat} {rc : α → Prop} (ht : P.underlying t = some (.slice e)) (hc : P.cellsOf e = c) (hc0 : 0 < c) (he : Rd P e cells wf sz rc) (hcl : ∀ x, wf x → (cells x).length = c) :
    Rd P t (fun xs : List α => [Ty.sl c xs.length (xs.flatMap cells)]) (fun xs => xs.length ≤ maxLen ∧ ∀ x ∈ xs, wf x) (fun xs => (xs.map sz).sum + 1) (fun xs => xs.length * P.bytesOf e ≤ reachBytes ∧ ∀ x ∈ xs, rc x) := by
  intro H enc B BA hB W fuel cs d ps h
  rcases open_slice ht h with ⟨rfl, e1⟩ | ⟨a, len, cap, m, n, D, Pl, rfl, _, hlen, hcap, hm, e1, hel⟩
  · obtain ⟨rfl, rfl⟩ := Prod.mk.inj e1
    exact ⟨[], ⟨Nat.zero_le _, fun x h => by cases h⟩, by simpa using hB.one _, fun _ => ⟨by simp, fun x h => by cases h⟩, rfl, one_cell ⟨none, 0, 0, 0, rfl, ⟨Nat.le_refl _, by decide⟩, by simp, .inl rfl, fun j T hj => by simp at hj⟩⟩
  · obtain ⟨rfl, rfl⟩ := Prod.mk.inj e1
    subst hc
    simp only [if_true] at hm
    subst hm
    have hx : ∀ i : Fin len, ∃ x : α, ∃ cs' : List Value, W.cells? 0 (a.add (i * P.cellsOf e)) (P.cellsOf e) = some cs' ∧ wf x ∧ sz x ≤ B (D i) ∧ (((D i).weights P e).all (· ≤ reachBytes) = true → rc x) ∧ cs'.length = (cells x).length ∧
        ∀ (j : Nat) (T : Ty) (u : Value), (cells x)[j]? = some T → cs'[j]? = some u → T.has (GW.all W) u := by
      intro i
      obtain ⟨cs', h1, h2⟩ := hel i (by omega)
      obtain ⟨x, hx⟩ := he H enc B BA hB W n cs' _ _ h2
      exact ⟨x, cs', h1, hx⟩
    let f : Fin len → α := fun i => Classical.choose (hx i)
    have hf : ∀ i : Fin len, ∃ cs' : List Value, W.cells? 0 (a.add (i * P.cellsOf e)) (P.cellsOf e) = some cs' ∧ wf (f i) ∧ sz (f i) ≤ B (D i) ∧ (((D i).weights P e).all (· ≤ reachBytes) = true → rc (f i)) ∧ cs'.length = (cells (f i)).length ∧
        ∀ (j : Nat) (T : Ty) (u : Value), (cells (f i))[j]? = some T → cs'[j]? = some u → T.has (GW.all W) u := fun i => Classical.choose_spec (hx i)
    have hlf : (List.ofFn f).length = len := by simp
    have hget : ∀ (i : Nat) (x : α), (List.ofFn f)[i]? = some x → ∃ hi : i < len, x = f ⟨i, hi⟩ := fun i x h => by
      have hi : i < len := by have := (List.getElem?_eq_some_iff.1 h).1; simpa using this
      refine ⟨hi, ?_⟩
      rw [List.getElem?_ofFn] at h
      simp [hi] at h
      exact h.symm
    have hmem : ∀ x ∈ List.ofFn f, ∃ i : Fin len, x = f i := fun x h => by
      obtain ⟨i, hi⟩ := List.mem_iff_getElem?.1 h
      obtain ⟨hi', rfl⟩ := hget i x hi
      exact ⟨⟨i, hi'⟩, rfl⟩
    have hwf : ∀ x ∈ List.ofFn f, wf x := fun x h => by
      obtain ⟨i, rfl⟩ := hmem x h
      obtain ⟨_, _, h1, _⟩ := hf i
      exact h1
    have hflat : ∀ (xs : List α), (∀ x ∈ xs, wf x) → (xs.flatMap cells).length = xs.length * P.cellsOf e := fun xs h => by
      induction xs with
      | nil => simp
      | cons x xs ih =>
        rw [List.flatMap_cons, List.length_append, hcl x (h x (by simp)), ih (fun y hy => h y (by simp [hy])), List.length_cons, Nat.succ_mul]; omega
    refine ⟨List.ofFn f, ⟨by rw [hlf]; omega, hwf⟩, ?_, fun hr => ⟨?_, fun x h => ?_⟩, rfl, one_cell ?_⟩
    · rw [hB.slice]
      have := BA_map hB sz (List.ofFn f) ((List.range len).map D) (by simp) (fun i x d hx hd => by
        obtain ⟨hi, rfl⟩ := hget i x hx
        obtain ⟨_, _, _, h2, _⟩ := hf ⟨i, hi⟩
        rw [List.getElem?_map, List.getElem?_range hi] at hd
        simp at hd; subst hd; exact h2)
      show (List.map sz (List.ofFn f)).sum + 1 ≤ _
      omega
    · rw [hlf]
      have : (((List.range len).map D).length + ((List.range (m - len)).map fun j => D (len + j)).length) * P.bytesOf e ≤ reachBytes := by
        have := List.all_eq_true.1 hr _ (by simp only [DataW.weights, ht]; exact List.mem_cons_self)
        simpa using this
      refine Nat.le_trans (Nat.mul_le_mul_right _ ?_) this
      simp
    · obtain ⟨i, rfl⟩ := hmem x h
      obtain ⟨_, _, _, _, h3, _⟩ := hf i
      refine h3 (List.all_eq_true.2 fun k hk => ?_)
      refine List.all_eq_true.1 hr k ?_
      simp only [DataW.weights, ht]
      refine List.mem_cons_of_mem _ (List.mem_append.2 (.inl (weightsAll_mem (D := List.map D (List.range len)) (d := D i.val) (List.mem_map.2 ⟨i.val, List.mem_range.2 i.2, rfl⟩) k hk)))
    · -- the cells
      by_cases h0 : len = 0
      · have e0 : List.ofFn f = [] := List.eq_nil_of_length_eq_zero (by rw [hlf, h0])
        rw [e0, h0]
        exact ⟨some a, m, 0, 0, rfl, ⟨Nat.zero_le _, hcap⟩, by simp, .inl rfl, fun j T hj => by simp at hj⟩
      · have hcell : ∀ (i : Fin len) (k : Nat) (T : Ty), (cells (f i))[k]? = some T → ∃ u, W.cell? ((a.add (i * P.cellsOf e)).add k) = some u ∧ T.has (GW.all W) u := fun i k T hT => by
          obtain ⟨cs', h1, h2, _, _, h5, h6⟩ := hf i
          have hk : k < cs'.length := by rw [h5]; exact (List.getElem?_eq_some_iff.1 hT).1
          refine ⟨cs'[k], ?_, h6 k T _ hT (by simp [hk])⟩
          have hkc : k < P.cellsOf e := by rw [← hcl _ h2, ← h5]; exact hk
          unfold World.cells? at h1
          rw [if_pos (Nat.zero_le _)] at h1
          have := mapM_some_get h1 k k (by rw [List.getElem?_range hkc])
          rw [this]; simp [hk]
        have hspot : a.spot = none := by
          obtain ⟨cs', h1, h2, _, _, h5, h6⟩ := hf ⟨0, by omega⟩
          have h7 : 0 < (cells (f ⟨0, by omega⟩)).length := by rw [hcl _ h2]; exact hc0
          obtain ⟨u, hu, _⟩ := hcell ⟨0, by omega⟩ 0 _ (List.getElem?_eq_getElem h7)
          simp [Addr.add] at hu
          exact spot_none hu
        obtain ⟨ab, ao, asp⟩ := a
        simp only at hspot
        subst hspot
        have hlt : ab < W.heap.size := by
          obtain ⟨cs', h1, h2, _, _, h5, h6⟩ := hf ⟨0, by omega⟩
          have h7 : 0 < (cells (f ⟨0, by omega⟩)).length := by rw [hcl _ h2]; exact hc0
          obtain ⟨u, hu, _⟩ := hcell ⟨0, by omega⟩ 0 _ (List.getElem?_eq_getElem h7)
          simp [Addr.add] at hu
          exact World.block_lt_of_cell? _ _ hu
        refine ⟨some ⟨ab, ao, none⟩, m, ab, ao, by rw [hlf], ⟨by omega, hcap⟩, hflat _ hwf, .inr ⟨rfl, by simp [GW.all, hlt]⟩, fun j T hj => ?_⟩
        -- cell j is cell j % c of element j / c
        have key : ∀ (xs : List α) (o : Nat), (∀ x ∈ xs, wf x) → (∀ (i : Nat) x, xs[i]? = some x → ∀ (k : Nat) (T : Ty), (cells x)[k]? = some T → ∃ u, W.cell? ⟨ab, o + i * P.cellsOf e + k, none⟩ = some u ∧ T.has (GW.all W) u) →
            ∀ (j : Nat) (T : Ty), (xs.flatMap cells)[j]? = some T → ∃ u, W.cell? ⟨ab, o + j, none⟩ = some u ∧ T.has (GW.all W) u := by
          intro xs
          induction xs with
          | nil => intro o _ _ j T hj; simp at hj
          | cons x xs ih =>
            intro o hw hc j T hj
            rw [List.flatMap_cons] at hj
            have hlx := hcl x (hw x (by simp))
            by_cases hjl : j < (cells x).length
            · rw [List.getElem?_append_left hjl] at hj
              have := hc 0 x rfl j T hj
              simpa using this
            · rw [List.getElem?_append_right (by omega)] at hj
              have := ih (o + P.cellsOf e) (fun y hy => hw y (by simp [hy])) (fun i y hy k T hT => by
                have := hc (i + 1) y (by simpa using hy) k T hT
                rw [Nat.succ_mul] at this
                rw [show o + P.cellsOf e + i * P.cellsOf e + k = o + (i * P.cellsOf e + P.cellsOf e) + k by omega]
                exact this) _ T hj
              rw [hlx] at this hjl
              rwa [show o + P.cellsOf e + (j - P.cellsOf e) = o + j by omega] at this
        refine key (List.ofFn f) ao hwf (fun i x hx k T hT => ?_) j T hj
        obtain ⟨hi, rfl⟩ := hget i x hx
        have := hcell ⟨i, hi⟩ k T hT
        simp only [Addr.add_lit] at this
        exact this

theorem Rd.conv {t : TypeId} {α β : Type} {cells : α → List Ty} {wf : α → Prop} {sz : α → Nat} {rc : α → Prop} {cells' : β → List Ty} {wf' : β → Prop} {sz' : β → Nat} {rc' : β → Prop} (h : Rd P t cells wf sz rc) (g : α → β)
    (hg : ∀ x, wf x → wf' (g x) ∧ sz' (g x) ≤ sz x ∧ (rc x → rc' (g x)) ∧ cells' (g x) = cells x) : Rd P t cells' wf' sz' rc' := by
  intro H enc B BA hB W fuel cs d ps ht
  obtain ⟨x, h1, h2, h3, h4, h5⟩ := h H enc B BA hB W fuel cs d ps ht
  obtain ⟨g1, g2, g3, g4⟩ := hg x h1
  exact ⟨g x, g1, Nat.le_trans g2 h2, fun h => g3 (h3 h), by rw [g4]; exact h4, by rw [g4]; exact h5⟩

theorem flatMap_one {α : Type} (f : α → Ty) (xs : List α) : xs.flatMap (fun x => [f x]) = xs.map f := by
  induction xs with
  | nil => rfl
  | cons x xs ih => simp [ih]

theorem rd_lst {t e : TypeId} {α : Type} {f : α → Ty} {wf : α → Prop} {sz : α → Nat} {rc : α → Prop} (ht : P.underlying t = some (.slice e)) (hc : P.cellsOf e = 1) (he : Rd P e (fun x => [f x]) wf sz rc) :
    Rd P t (fun xs : List α => [Ty.lst f xs]) (fun xs => xs.length ≤ maxLen ∧ ∀ x ∈ xs, wf x) (fun xs => (xs.map sz).sum + 1) (fun xs => xs.length * P.bytesOf e ≤ reachBytes ∧ ∀ x ∈ xs, rc x) :=
  (rd_slice ht hc (by decide) he (fun _ _ => rfl)).conv id fun x h => ⟨h, Nat.le_refl _, id, by simp [flatMap_one, Ty.lst]⟩

/-! ### Back to the row -/
theorem trodAll_stays {H : Type} {enc : TypeId × Value → H} (hl : laidOutB P = true) {W W' : World} (hb : Below W.heap.size W W') : ∀ {ts : List TypeId} {vs : List Value} {ds : List (DataW H)} {ps : List MemPlace},
    DataW.TrodAll enc P W 0 (fun _ => true) true ts vs ds ps → (ts.all fun t => P.readableRec t && decide (t < P.types.size)) = true → (∀ x ∈ ps, x.block < W.heap.size) → DataW.TrodAll enc P W' 0 (fun b => decide (b < W.heap.size)) true ts vs ds ps
  | [], [], [], ps, h, _, _ => h
  | t :: ts, v :: vs, d :: ds, ps, h, ha, hp => by
    obtain ⟨p, q, h1, h2, rfl⟩ := h
    simp only [List.all_cons, Bool.and_eq_true, decide_eq_true_eq] at ha
    exact ⟨p, q, Below.trod hl ha.1.1 ha.1.2 h1 hb (fun x hx => hp x (List.mem_append.2 (.inl hx))), trodAll_stays hl hb h2 ha.2 (fun x hx => hp x (List.mem_append.2 (.inr hx))), rfl⟩
  | [], [], _ :: _, _, h, _, _ => h.elim
  | [], _ :: _, _, _, h, _, _ => h.elim
  | _ :: _, [], _, _, h, _, _ => h.elim
  | _ :: _, _ :: _, [], _, h, _, _ => h.elim

theorem law_post {H : Type} {enc : TypeId × Value → H} {fn : Func} {f : FuncId} {s : ChangeSpec} {W : World} {args : Array Value} {ds gs : List (DataW H)} {before : List MemPlace} {tb : TypeId}
    (hres : fn.resultTypes = #[tb]) (hb : P.underlying tb = some .bool) (hl : laidOutB P = true) (hr : (fn.params.toList.all fun t => P.readableRec t && decide (t < P.types.size)) = true)
    (hW : DataW.Whole enc P fn.params.toList s.vars false W args.toList ds gs before) (hv : s.vars = []) (hs : s.fn H (ds ++ gs) = { results := [.lit (.bool true)], args := ds })
    (hc : FnC P f args (GW.all W) (Ty.bool true)) : Calls P f args W fun e W' => ∃ v, e = .returned v ∧ s.post enc P fn false true false false W args v W' := by
  refine Calls.mono hc ?_
  rintro e W' ⟨v, τ, rfl, hstp, rfl, hvv⟩
  have hbel : Below W.heap.size W τ.w := ⟨hstp.os, hstp.tape, hstp.output, hstp.size, fun k hk => hstp.blk k hk (.inl rfl)⟩
  have hW' := hW
  obtain ⟨p, q, hA, hV, rfl, _, _⟩ := hW
  have hq : q = [] := by
    rw [hv] at hV
    cases gs with
    | nil => exact hV
    | cons _ _ => exact hV.elim
  subst hq
  have hgs : gs = [] := by
    rw [hv] at hV
    cases gs with
    | nil => rfl
    | cons _ _ => exact hV.elim
  subst hgs
  have hvv' : v = .bool true := hvv
  subst hvv'
  refine ⟨_, rfl, ds, [], _, [], p, [], hW', ?_, ?_, ?_, hbel.frame _, fun h => by cases h⟩
  · rw [hs, hres]
    exact trodAll_mk1 (shut_bool hb true)
  · rw [hs]
    exact trodAll_stays hl hbel hA hr (fun x hx => hW'.lt x (List.mem_append.2 (.inl hx)))
  · rw [hs, hv]; rfl

theorem arg_one {H : Type} {enc : TypeId × Value → H} {B : DataW H → Nat} {BA : List (DataW H) → Nat} (hB : Bulk B BA) {W : World} {t : TypeId} {v : Value} {d : DataW H} {ps : List MemPlace} {α : Type} {T : α → Ty} {wf : α → Prop} {sz : α → Nat} {rc : α → Prop}
    (h : Rd P t (fun x => [T x]) wf sz rc) (hone : v.cells = #[v]) (ht : DataW.Trod enc P W 0 (fun _ => true) true t v d ps) : ∃ x : α, wf x ∧ sz x ≤ B d ∧ ((d.weights P t).all (· ≤ reachBytes) = true → rc x) ∧ (T x).has (GW.all W) v := by
  obtain ⟨fuel, hf⟩ := ht
  rw [hone] at hf
  obtain ⟨x, h1, h2, h3, _, h5⟩ := h H enc B BA hB W fuel _ d ps hf
  exact ⟨x, h1, h2, h3, h5 0 _ _ rfl rfl⟩
theorem one_slice {e : TypeId} {w : World} {r : Reach} {base : Nat} {t : TypeId} {v : Value} (ht : P.underlying t = some (.slice e)) (h : Value.okWide P w r base t v) : v.cells = #[v] := by
  obtain ⟨a, l, c, rfl⟩ := okWide_slice ht h; rfl
theorem one_int {k : IntKind} {w : World} {r : Reach} {base : Nat} {t : TypeId} {v : Value} (ht : P.underlying t = some (.int k)) (h : Value.okWide P w r base t v) : v.cells = #[v] := by
  obtain ⟨s, rfl⟩ := okWide_int ht h; rfl
theorem weightsEach_cons {H : Type} {t : TypeId} {ts : List TypeId} {d : DataW H} {ds : List (DataW H)} (h : (DataW.weightsEach P (t :: ts) (d :: ds)).all (· ≤ reachBytes) = true) : (d.weights P t).all (· ≤ reachBytes) = true ∧ (DataW.weightsEach P ts ds).all (· ≤ reachBytes) = true := by
  simpa [DataW.weightsEach, List.all_append] using h
theorem i64_bd {n : Int} (h : (Lit.int .i64 n).wf = true) : -9223372036854775808 ≤ n ∧ n ≤ 9223372036854775807 := by
  simp [Lit.wf, IntKind.min, IntKind.max, IntKind.signed, IntKind.bits] at h
  omega
end Go.KL

