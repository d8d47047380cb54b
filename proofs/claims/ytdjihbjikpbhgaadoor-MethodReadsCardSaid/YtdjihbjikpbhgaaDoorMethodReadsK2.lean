/- The place of a row among all of its bells, counted in two ways; the row at a place. -/
import Derived.Test.YtdjihbjikpbhgaaDoorMethodReadsK1
import Derived.Lib.Builder
import Derived.Lib.UnsafeStr
import Derived.Lib.SliceRun
import Derived.Lib.DecodeN
import Derived.Lib.AppendStr
import Derived.Laws.BitsLemmas
import Derived.Lib.IndexLaws
import Derived.Lib.SlTrimSet
import Derived.Lib.AtoiAll
import Derived.Laws.CopyRow
import Derived.Laws.Bits64b
import Derived.Lib.Overlaps
import Derived.Recover
import Derived.Below
import Derived.WideLaws
import Derived.Lib.AtoiErrMem
import Derived.ProofKit
import Derived.JoinedCond
import Derived.SizedLaws
import Derived.Deep.Slices
import Derived.Deep.CondSized
import Derived.Stop.LaidErr
import Derived.LaidSub
import Derived.Lay
import Derived.MakeChecks
import Derived.Deep.DeepHandedRow
namespace Go.KL
def fct : Nat → Nat
  | 0 => 1
  | n + 1 => (n + 1) * fct n
theorem fct_pos : ∀ n, 1 ≤ fct n
  | 0 => by decide
  | n + 1 => Nat.mul_pos (by omega) (fct_pos n)
theorem fct_le_succ (n : Nat) : fct n ≤ fct (n + 1) := by
  have := fct_pos n
  rw [fct, Nat.succ_mul]; omega
theorem fct_mono {m n : Nat} (h : m ≤ n) : fct m ≤ fct n := by
  induction h with
  | refl => exact Nat.le_refl _
  | step _ ih => exact Nat.le_trans ih (fct_le_succ _)
def lessN (b : Int) (r : List Int) : Nat := r.countP fun c => decide (c < b)
theorem lessN_le (b : Int) (r : List Int) : lessN b r ≤ r.length := List.countP_le_length
def rankL : List Int → Nat
  | [] => 0
  | b :: r => lessN b r * fct r.length + rankL r
theorem rankL_lt : ∀ r : List Int, rankL r < fct r.length
  | [] => by decide
  | b :: r => by
    have h1 := rankL_lt r
    have h2 : lessN b r * fct r.length ≤ r.length * fct r.length := Nat.mul_le_mul_right _ (lessN_le b r)
    rw [rankL, List.length_cons, fct, Nat.succ_mul]; omega
theorem lessN_perm {b : Int} {r s : List Int} (h : r.Perm s) : lessN b r = lessN b s := h.countP_eq _
theorem rankL_inj : ∀ (r s : List Int), r.Perm s → rankL r = rankL s → r = s
  | [], s, h, _ => by
    have := h.length_eq
    exact (List.eq_nil_of_length_eq_zero (by simpa using this.symm)).symm
  | b :: r, [], h, _ => by have := h.length_eq; simp at this
  | b :: r, c :: s, h, e => by
    have hl : r.length = s.length := by have := h.length_eq; simpa using this
    rw [rankL, rankL, hl] at e
    have h1 := rankL_lt r
    have h2 := rankL_lt s
    rw [hl] at h1
    have hp := fct_pos s.length
    have e1 : lessN b r = lessN c s := by
      have ha : (lessN b r * fct s.length + rankL r) / fct s.length = lessN b r := by rw [Nat.add_comm, Nat.add_mul_div_right _ _ hp, Nat.div_eq_of_lt h1, Nat.zero_add]
      have hb : (lessN c s * fct s.length + rankL s) / fct s.length = lessN c s := by rw [Nat.add_comm, Nat.add_mul_div_right _ _ hp, Nat.div_eq_of_lt h2, Nat.zero_add]
      rw [← ha, e, hb]
    have e2 : rankL r = rankL s := by rw [e1] at e; omega
    have hb : lessN b r = lessN b (b :: r) := by simp [lessN]
    have hc : lessN c s = lessN c (c :: s) := by simp [lessN]
    have e3 : lessN b (b :: r) = lessN c (b :: r) := by rw [← hb, e1, hc]; exact (lessN_perm h).symm
    have lt : ∀ (x y : Int) (l : List Int), x ∈ l → x < y → lessN x l < lessN y l := by
      intro x y l hx hxy
      unfold lessN
      induction l with
      | nil => cases hx
      | cons z l ih =>
        have mono : l.countP (fun c => decide (c < x)) ≤ l.countP (fun c => decide (c < y)) := List.countP_mono_left fun w _ hw => by simp at hw ⊢; omega
        rw [List.countP_cons, List.countP_cons]
        by_cases hz : z = x
        · subst hz
          simp [hxy]; omega
        · have := ih (by simpa [Ne.symm hz] using hx)
          by_cases h1 : z < x
          · have h2 : z < y := by omega
            simp [h1, h2]; omega
          · simp [h1]; split <;> omega
    have hbc : b = c := by
      rcases Int.lt_trichotomy b c with h3 | h3 | h3
      · have := lt b c (b :: r) (by simp) h3; omega
      · exact h3
      · have := lt c b (b :: r) (h.mem_iff.2 (by simp)) h3; omega
    subst hbc
    rw [rankL_inj r s (List.perm_cons b |>.1 h) e2]
theorem rank_row_inj {r s : List Int} (hr : IsRow r) (hs : IsRow s) (hl : r.length = s.length) (e : rankL r = rankL s) : r = s :=
  rankL_inj r s ((row_perm hr).trans (by rw [hl]; exact (row_perm hs).symm)) e
/-! ### The row at a place -/
end Go.KL

/- The signs of bells: where a rune stands among them. -/
namespace Go.KL
abbrev SIGNS : ByteArray := ByteArray.mk #[49, 50, 51, 52, 53, 54, 55, 56, 57, 48, 69, 84]
def signIdx (c : Int) : Int := if 0 ≤ c ∧ c < 128 then Lib.indexByte SIGNS.data.toList c.toNat.toUInt8 else -1

theorem ixb_no {l : List UInt8} {c : UInt8} (h : ∀ b ∈ l, b ≠ c) : Lib.indexByte l c = -1 := by
  induction l with
  | nil => rfl
  | cons b l ih =>
    rw [Lib.indexByte, if_neg (by simpa using h b (by simp)), ih fun x hx => h x (by simp [hx])]
    simp
theorem ixb_yes {c : UInt8} : ∀ {l : List UInt8} {i : Nat} (hi : i < l.length), l[i] = c → (∀ j (hj : j < i), l[j]'(by omega) ≠ c) → Lib.indexByte l c = i
  | b :: l, 0, hi, h, _ => by
    simp at h
    rw [Lib.indexByte, if_pos (by simpa using h)]; rfl
  | b :: l, i + 1, hi, h, hn => by
    have h0 : b ≠ c := hn 0 (by omega)
    have ih := ixb_yes (l := l) (i := i) (by simpa using hi) (by simpa using h) (fun j hj => by have := hn (j + 1) (by omega); simpa using this)
    rw [Lib.indexByte, if_neg (by simpa using h0), ih]
    rw [if_neg (by simp)]; omega
theorem get_list {s : ByteArray} {i : Nat} (h : i < s.size) : s.get! i = s.data.toList[i]'(by simpa using h) := by
  have h' : i < s.data.size := h
  simp only [ByteArray.get!]
  rw [getElem!_pos s.data i h']
  simp
theorem u8_eq {b c : UInt8} : ((b.toNat : Nat) : Int) = ((c.toNat : Nat) : Int) ↔ b = c := by
  rw [Int.natCast_inj]; exact UInt8.toNat_inj
theorem u8_of {c : Int} (h0 : 0 ≤ c) (h1 : c < 256) : ((c.toNat.toUInt8.toNat : Nat) : Int) = c := by
  have : c.toNat.toUInt8.toNat = c.toNat := by
    show (UInt8.ofNat c.toNat).toNat = _
    rw [UInt8.toNat_ofNat']; omega
  omega
theorem ixs_yes {s : ByteArray} {c : Int} {i : Nat} (h0 : 0 ≤ c) (h1 : c < 256) (hi : i < s.size) (h : (((s.get! i).toNat : Nat) : Int) = c) (hn : ∀ j, j < i → (((s.get! j).toNat : Nat) : Int) ≠ c) : Lib.indexByte s.data.toList c.toNat.toUInt8 = i := by
  have hc := u8_of h0 h1
  refine ixb_yes (by simpa using hi) ?_ (fun j hj => ?_)
  · rw [← get_list hi, ← u8_eq, hc]; exact h
  · have := hn j hj
    rw [← get_list (by omega), Ne, ← u8_eq, hc]; exact this
theorem ixs_no {s : ByteArray} {c : Int} (h0 : 0 ≤ c) (h1 : c < 256) (hn : ∀ j, j < s.size → (((s.get! j).toNat : Nat) : Int) ≠ c) : Lib.indexByte s.data.toList c.toNat.toUInt8 = -1 := by
  have hc := u8_of h0 h1
  refine ixb_no fun b hb => ?_
  obtain ⟨j, hj, rfl⟩ := List.getElem_of_mem hb
  have hj' : j < s.size := by simpa using hj
  have := hn j hj'
  rw [← get_list hj', Ne, ← u8_eq, hc]; exact this
theorem signs_lt {j : Nat} (h : j < 12) : (SIGNS.get! j).toNat < 128 := by
  have : ∀ j : Fin 12, (SIGNS.get! j).toNat < 128 := by decide
  exact this ⟨j, h⟩
theorem signs_run {p : Nat} (h : p < 12) : run1 SIGNS p < 128 ∧ stepTo SIGNS p = p + 1 := by
  have : ∀ j : Fin 12, run1 SIGNS j < 128 ∧ stepTo SIGNS j = j.val + 1 := by decide
  exact this ⟨p, h⟩
theorem signs_size : SIGNS.size = 12 := rfl
theorem signs_cut {l : Nat} {c : Int} (h0 : 128 ≤ c) (h1 : c < 256) : Lib.indexByte (SIGNS.extract l SIGNS.size).data.toList c.toNat.toUInt8 = -1 := by
  refine ixb_no fun b hb => ?_
  have hc := u8_of (c := c) (by omega) h1
  have hm : b ∈ SIGNS.data.toList := by
    simp only [ByteArray.data_extract, Array.toList_extract, List.extract_eq_take_drop] at hb
    exact List.mem_of_mem_drop (List.mem_of_mem_take hb)
  have hlt : b.toNat < 128 := by
    have : ∀ b ∈ SIGNS.data.toList, b.toNat < 128 := by decide
    exact this b hm
  intro e
  rw [← e] at hc; omega
theorem enc_facts {r : Int} (h : 128 ≤ r) (hv : Utf8.valid r = true) : 2 ≤ (Utf8.encode r).size ∧ (Utf8.encode r).size ≤ 4 ∧ 128 ≤ ((Utf8.encode r).get! ((Utf8.encode r).size - 1)).toNat ∧ ((Utf8.encode r).get! ((Utf8.encode r).size - 1)).toNat < 256 := by
  have hm : ∀ m : Nat, m % 64 < 64 := fun m => Nat.mod_lt _ (by decide)
  have hb : ∀ m : Nat, (UInt8.ofNat (0x80 + m % 64)).toNat = 128 + m % 64 := fun m => by rw [UInt8.toNat_ofNat']; have := hm m; omega
  unfold Utf8.encode
  simp only [hv, if_true]
  rw [if_neg (by omega)]
  split
  · refine ⟨Nat.le_of_ble_eq_true rfl, Nat.le_of_ble_eq_true rfl, ?_, ?_⟩
    · show 128 ≤ (UInt8.ofNat (0x80 + r.toNat % 64)).toNat
      rw [hb]; omega
    · show (UInt8.ofNat (0x80 + r.toNat % 64)).toNat < 256
      rw [hb]; have := hm r.toNat; omega
  · split
    · refine ⟨Nat.le_of_ble_eq_true rfl, Nat.le_of_ble_eq_true rfl, ?_, ?_⟩
      · show 128 ≤ (UInt8.ofNat (0x80 + r.toNat % 64)).toNat
        rw [hb]; omega
      · show (UInt8.ofNat (0x80 + r.toNat % 64)).toNat < 256
        rw [hb]; have := hm r.toNat; omega
    · refine ⟨Nat.le_of_ble_eq_true rfl, Nat.le_of_ble_eq_true rfl, ?_, ?_⟩
      · show 128 ≤ (UInt8.ofNat (0x80 + r.toNat % 64)).toNat
        rw [hb]; omega
      · show (UInt8.ofNat (0x80 + r.toNat % 64)).toNat < 256
        rw [hb]; have := hm r.toNat; omega
theorem signIdx_lo {c : Int} (h0 : 0 ≤ c) (h1 : c < 128) : signIdx c = Lib.indexByte SIGNS.data.toList c.toNat.toUInt8 := if_pos ⟨h0, h1⟩
theorem signIdx_hi {c : Int} (h : ¬ (0 ≤ c ∧ c < 128)) : signIdx c = -1 := if_neg h
theorem wrap_u8 {c : Int} (h0 : 0 ≤ c) (h1 : c < 256) : IntKind.u8.wrap c = c := by
  simp [IntKind.wrap, IntKind.bits, IntKind.signed]; omega
end Go.KL

/- What package strings' Builder meets: pointers held against each other, a row of bytes that becomes a string. -/
namespace Go.KL
open Go.RowKit
variable {P : Program} {d : Option Tmp} {ty : TypeId} {pos : String} {af : Array Edge} {g : Option (Nat × Bool)} {a : Act} {σ : GW}

abbrev Ty.byte (b : UInt8) : Ty := .val (.int .u8 ((b.toNat : Nat) : Int))
def bsL (l : List UInt8) : ByteArray := ⟨l.toArray⟩
def OwnPT (E : TypeId) (σ : GW) (k : Nat) (v : Value) (ts : List Ty) : Prop :=
  ∃ g cur, v = .pointer (some ⟨g, 0, none⟩) ∧ σ.st g = k ∧ σ.w.heap[g]? = some (.cells cur E (0, 0)) ∧ cur.size = ts.length ∧ ∀ (j : Nat) (T : Ty) (u : Value), ts[j]? = some T → cur[j]? = some u → T.has σ u
theorem OwnPT.toP {E : TypeId} {k : Nat} {v : Value} {ts : List Ty} (h : OwnPT E σ k v ts) : OwnP σ k v ts := by
  obtain ⟨g, cur, h1, h2, h3, h4, h5⟩ := h; exact ⟨g, E, cur, h1, h2, h3, h4, h5⟩
theorem OwnPT.keepL {E : TypeId} {L : List Nat} {k : Nat} {σ τ : GW} {v : Value} {ts : List Ty} (h : OwnPT E σ k v ts) (hs : StpL L σ τ) (h1 : 1 ∉ L) (hk : k ∉ L) : OwnPT E τ k v ts := by
  obtain ⟨g, cur, rfl, r2, r3, r4, r5⟩ := h
  have hg := (Array.getElem?_eq_some_iff.1 r3).1
  have hq : σ.st g ∉ L := by rw [r2]; exact hk
  exact ⟨g, cur, rfl, (hs.st g hg hq).trans r2, (hs.blk g hg hq).trans r3, r4, fun j T u hj hu => T.up (hs.le h1) (r5 j T u hj hu)⟩
theorem OwnPT.k0 {E : TypeId} {k : Nat} {σ τ : GW} {v : Value} {ts : List Ty} (h : OwnPT E σ k v ts) (hs : Stp 0 σ τ) : OwnPT E τ k v ts := h.keepL (L := []) hs.toL0 (by simp) (by simp)
theorem OwnPT.ren {E : TypeId} {k k' : Nat} {σ τ : GW} {v : Value} {ts : List Ty} (h : OwnPT E σ k v ts) (r : Ren k k' σ τ) : OwnPT E τ k' v ts := by
  obtain ⟨g, cur, rfl, r2, r3, r4, r5⟩ := h
  exact ⟨g, cur, rfl, r.st g r2, by rw [r.w]; exact r3, r4, fun j T u hj hu => T.up r.le (r5 j T u hj hu)⟩
theorem OwnPT.one {E : TypeId} {k : Nat} {v : Value} {ts : List Ty} (h : OwnPT E σ k v ts) : v.oneCell' = true := h.toP.one
end Go.KL
namespace Go.KL
end Go.KL

/- Cutting one out of a row that is owned: its two ends, joined in place, and the rest made zero. -/
namespace Go.KL
open Go.RowKit
variable {P : Program} {d : Option Tmp} {ty : TypeId} {pos : String} {af : Array Edge} {g : Option (Nat × Bool)} {a : Act} {σ : GW}
def preOf (v : Value) (i : Nat) : Value := match v with | .slice ad _ cap => .slice ad i cap | u => u
def sufOf (v : Value) (j : Nat) : Value := match v with | .slice ad n cap => sliced ad j n cap 1 | u => u
def tailOf (v : Value) (m h : Nat) : Value := match v with | .slice ad _ cap => sliced ad m h cap 1 | u => u
def capGe (v : Value) (n : Nat) : Prop := match v with | .slice _ _ cap => n ≤ cap | _ => False

theorem Own.form {k : Nat} {e : TypeId} {n : Nat} {v : Value} {ts : List Ty} (h : Own σ k e 1 v n ts) : ∃ ad cap, v = .slice ad n cap ∧ n ≤ cap ∧ cap ≤ 9223372036854775807 := by
  obtain ⟨us, r1, _⟩ := h
  rcases r1.2 with ⟨rfl, rfl⟩ | ⟨gg, cap, cur, rfl, _, _, hn, hm, _⟩
  · exact ⟨none, 0, rfl, Nat.le_refl _, by decide⟩
  · exact ⟨_, cap, rfl, hn, hm⟩
theorem Own.cap {k : Nat} {e : TypeId} {n : Nat} {v : Value} {ts : List Ty} (h : Own σ k e 1 v n ts) : capGe v n := by
  obtain ⟨ad, cap, rfl, hn, _⟩ := h.form; exact hn
section
variable {k : Nat} {x y y' y'' : Operand} {n : Nat} {ts : List Ty} {t e e' : TypeId} {z v : Value} {b : Nat} {ki kj kk : IntKind} (ht : P.underlying t = some (.slice e')) (he : Info P e' z 1 b) (ho : Own σ k e 1 v n ts) (hx : a.eval x = v)
include ht he ho hx
theorem y_pre {i : Nat} (hy : a.eval y = .int ki i) (hi : i ≤ n) : Yld P ⟨d, .slice t x none (some y) none, ty, pos, af, g⟩ a σ (Ty.val (preOf v i)).pr := by
  obtain ⟨ad, cap, rfl, hn, hm⟩ := ho.form
  refine Yld.of_run (v := sliced ad 0 i cap 1) ?_ ?_
  · have h1 := run_slice_h (P := P) σ.w t ad n cap (elem_of ht) ki (i : Int) (by omega) (by omega)
    rw [elem_eq ht, he.size] at h1
    simp only [execOp, hx, hy, Option.map_some, Option.map_none, Sem.run_bind, run_sliceAt_slice σ.w t _ _ _ _ (elem_of ht), h1, Result.andThen_ok, Sem.run_pure, Int.toNat_natCast]
  · show sliced ad 0 i cap 1 = preOf _ i
    unfold sliced preOf
    cases ad <;> simp [Addr.add_zero']
theorem y_suf {j : Nat} (hy : a.eval y = .int ki j) (hj : j ≤ n) : Yld P ⟨d, .slice t x (some y) none none, ty, pos, af, g⟩ a σ (Ty.val (sufOf v j)).pr := by
  obtain ⟨ad, cap, rfl, hn, hm⟩ := ho.form
  refine Yld.of_run (v := sliced ad j n cap 1) ?_ rfl
  have h1 := run_slice_l (P := P) σ.w t ad n cap (elem_of ht) ki (j : Int) (by omega) (by omega)
  rw [elem_eq ht, he.size] at h1
  simp only [execOp, hx, hy, Option.map_some, Option.map_none, Sem.run_bind, run_sliceAt_slice σ.w t _ _ _ _ (elem_of ht), h1, Result.andThen_ok, Sem.run_pure, Int.toNat_natCast]
end
theorem m_clr {k : Nat} {t e : TypeId} {z : Value} {by_ : Nat} {x : Operand} {m h : Nat} {v : Value} {ts : List Ty} (ht : P.underlying t = some (.slice e)) (he : Info P e z 1 by_) (hz : z.cells = #[z]) (hz1 : z.oneCell' = true) (hk : 2 ≤ k)
    (ho : Own σ k e 1 v m ts) (hx : a.eval x = tailOf v m h) (hm : m < h) (hh : capGe v h) :
    YldM k P ⟨d, .call ⟨.builtin .clear, #[x], #[t]⟩, ty, pos, af, g⟩ a σ (fun _ τ => Own τ k e 1 v m ts) := by
  obtain ⟨us, r1, r2, r3, r4⟩ := ho
  rcases r1.2 with ⟨rfl, h0⟩ | ⟨gg, cap, cur, rfl, _, hg, hn, hmm, hcs, htk⟩
  · have : h ≤ 0 := hh
    omega
  · have hh' : h ≤ cap := hh
    have hx' : a.eval x = .slice (some ⟨gg, m, none⟩) (h - m) (cap - m) := by
      rw [hx]
      show sliced (some ⟨gg, 0, none⟩) m h cap 1 = _
      unfold sliced
      rw [if_neg (by omega)]
      simp [Addr.add_lit]
    have hr := Lib.run_clear_slice (P := P) σ.w t e ty z ht he.zero hz hz1 gg m (h - m) (cap - m) (by omega) (fun q hq => by simp [World.cell?, hg, show m + q < cur.size by omega]) (fun q hq => by simp [World.frozen?, hg])
    intro K Q hK
    have hr' : (execOp a.eval ⟨d, .call ⟨.builtin .clear, #[x], #[t]⟩, ty, pos, af, g⟩).run P σ.w = .ok (.value (.tuple #[])) (σ.w.setCells gg m (List.replicate (h - m) z)) := by
      refine run_builtin1 hx' (fun cs => ?_)
      show (do pure (.value (← Builtin.clear_ #[t] ty #[.slice (some ⟨gg, m, none⟩) (h - m) (cap - m)])) : Sem Next).run P σ.w = _
      rw [Sem.run_bind, hr]; rfl
    unfold Oper.wp
    rw [hr']
    obtain ⟨cur', c1, c2, c3, c4, c5, c6⟩ := heap_setCells (b := gg) (e := e) (List.replicate (h - m) z) m σ.w cur hg (by simp; omega)
    have hstp : Stp k σ ⟨σ.w.setCells gg m (List.replicate (h - m) z), σ.st, fun b hb => by rw [c5]; exact σ.lt b hb⟩ :=
      ⟨World.os_setCells _ _ _ _, c6, World.output_setCells _ _ _ _, by (refine .inl ?_; show _ ≤ (World.setCells _ _ _ _).drawn; rw [drawn_setCells]; exact Nat.le_refl _), by rw [c5]; exact Nat.le_refl _, fun b hb hmk => World.heap_setCells_other _ _ _ _ hb (fun e0 => by
        have h4 := r4 gg rfl
        rw [← e0] at h4
        rcases hmk with h5 | h5
        · omega
        · exact h5 h4), fun _ _ _ => rfl⟩
    refine hK _ _ hstp (Own.intro (us := us) c1 (r4 gg rfl) hn hmm (by rw [c2, hcs]) ?_ r2 (fun q U u hU hu => U.up (hstp.le (by omega)) (r3 q U u hU hu)))
    rw [← htk]
    apply List.ext_getElem?
    intro q
    rw [List.getElem?_take, List.getElem?_take]
    by_cases hq : q < m * 1
    · rw [if_pos hq, if_pos hq]
      have := c4 q (by omega)
      simpa using this
    · rw [if_neg hq, if_neg hq]
theorem one_map {α : Type} {f : α → Ty} {xs : List α} (h : ∀ x, One (f x)) : ∀ U, U ∈ xs.map f → One U := fun U hU => by
  obtain ⟨x, _, rfl⟩ := List.mem_map.1 hU; exact h x
end Go.KL

/- All rows, each once: the way that is looked for; what rows may generate. -/
namespace Go.KL
/-! ### What may generate -/
def gensTo (n : Int) : List (List Int) → Int
  | [] => 0
  | g :: l => if rowMay g ≠ 0 then rowMay g else if ((g.length : Nat) : Int) ≠ n then 1 else gensTo n l
def gensMay (n : Int) (l : List (List Int)) : Int := if n < 1 ∨ 12 < n ∨ 8 < l.length then 1 else gensTo n l
theorem gensTo_ok {n : Int} : ∀ {l : List (List Int)}, gensTo n l = 0 → ∀ g ∈ l, IsRow g ∧ ((g.length : Nat) : Int) = n
  | [], _, g, hg => by cases hg
  | x :: l, h, g, hg => by
    rw [gensTo] at h
    split at h
    · contradiction
    · rename_i h1
      split at h
      · cases h
      · rename_i h2
        rcases List.mem_cons.1 hg with rfl | hg
        · exact ⟨rowMay_ok.1 (Classical.not_not.1 h1), Classical.not_not.1 h2⟩
        · exact gensTo_ok h g hg
theorem gensMay_ok {n : Int} {l : List (List Int)} (h : gensMay n l = 0) : (1 ≤ n ∧ n ≤ 12 ∧ l.length ≤ 8) ∧ ∀ k, k < l.length → IsRow (l.getD k []) ∧ (((l.getD k []).length : Nat) : Int) = n := by
  unfold gensMay at h
  split at h
  · cases h
  · rename_i hc
    refine ⟨by omega, fun k hk => gensTo_ok h _ ?_⟩
    simp [hk]

/-! ### The order of a row, taken again and again -/
/-! ### The way -/
structure Tour (n : Nat) (cs : List (List Int)) (rows : List (List Int)) (path : List Int) (r : List Int) : Prop where
  len : rows.length = path.length + 1
  row : ∀ x ∈ rows, IsRow x ∧ x.length = n
  nd : rows.Nodup
  last : rows.getD (rows.length - 1) [] = r
  csr : ∀ k, k < cs.length → IsRow (cs.getD k []) ∧ (cs.getD k []).length = n
  nn : 1 ≤ n ∧ n ≤ 4
  cl : cs.length ≤ 8
theorem Tour.rr {n : Nat} {cs rows : List (List Int)} {path r : List Int} (h : Tour n cs rows path r) : IsRow r ∧ r.length = n := by
  refine h.row r ?_
  have hl : rows.length - 1 < rows.length := by have := h.len; omega
  rw [← h.last]
  have e : rows.getD (rows.length - 1) [] = rows[rows.length - 1] := by simp [hl]
  rw [e]; exact List.getElem_mem hl
theorem Tour.x {n : Nat} {cs rows : List (List Int)} {path r : List Int} (h : Tour n cs rows path r) {k : Nat} (hk : k < cs.length) : IsRow (byL r (cs.getD k [])) ∧ (byL r (cs.getD k [])).length = n := by
  have h1 := h.rr
  have h2 := h.csr k hk
  exact ⟨byL_row h1.1 h2.1 (by omega), by rw [byL_len]; exact h2.2⟩
theorem rows_le {n : Nat} {rows : List (List Int)} (h : ∀ x ∈ rows, IsRow x ∧ x.length = n) (hn : rows.Nodup) : rows.length ≤ fct n := by
  have := nodup_len (fct n) (rows.map fun x => ((rankL x : Nat) : Int)) (by
    refine List.pairwise_map.2 (hn.imp_of_mem ?_)
    intro a b ha hb hab e
    refine hab (rank_row_inj (h a ha).1 (h b hb).1 (by rw [(h a ha).2, (h b hb).2]) (by omega))) (fun x hx => by
    obtain ⟨y, hy, rfl⟩ := List.mem_map.1 hx
    have := rankL_lt y
    rw [(h y hy).2] at this
    omega)
  simpa using this
theorem Tour.next {n : Nat} {cs rows : List (List Int)} {path r : List Int} (h : Tour n cs rows path r) {k : Nat} (hk : k < cs.length) (hx : byL r (cs.getD k []) ∉ rows) : Tour n cs (rows ++ [byL r (cs.getD k [])]) (path ++ [(k : Int)]) (byL r (cs.getD k [])) := by
  refine ⟨by simp [h.len], fun x hxm => ?_, ?_, by simp, h.csr, h.nn, h.cl⟩
  · rcases List.mem_append.1 hxm with hm | hm
    · exact h.row x hm
    · simp at hm; subst hm; exact h.x hk
  · refine List.nodup_append.2 ⟨h.nd, by simp, fun a ha b hb => ?_⟩
    simp at hb; subst hb
    rintro rfl; exact hx ha
theorem Tour.full {n : Nat} {cs rows : List (List Int)} {path r : List Int} (h : Tour n cs rows path r) {x : List Int} (hx : IsRow x ∧ x.length = n) (hn : x ∉ rows) : path.length + 1 < fct n := by
  have := rows_le (n := n) (rows := rows ++ [x]) (fun y hy => by
    rcases List.mem_append.1 hy with hm | hm
    · exact h.row y hm
    · simp at hm; subst hm; exact hx) (List.nodup_append.2 ⟨h.nd, by simp, fun a ha b hb => by simp at hb; subst hb; rintro rfl; exact hn ha⟩)
  simp at this
  have := h.len
  omega
theorem Tour.lt {n : Nat} {cs rows : List (List Int)} {path r : List Int} (h : Tour n cs rows path r) : path.length < fct n ∧ fct n ≤ 24 := by
  have h1 := rows_le h.row h.nd
  have h2 := h.len
  have h3 : fct n ≤ fct 4 := fct_mono h.nn.2
  have h4 : fct 4 = 24 := by decide
  omega
def SeenT (n : Nat) (rows : List (List Int)) (f : Int → Option Int) : Prop := ∀ x, IsRow x → x.length = n → (f ((rankL x : Nat) : Int)).getD 0 = if x ∈ rows then 1 else 0
theorem SeenT.put {n : Nat} {rows : List (List Int)} {f : Int → Option Int} (h : SeenT n rows f) {x : List Int} (hx : IsRow x ∧ x.length = n) : SeenT n (rows ++ [x]) (fun p => if p = ((rankL x : Nat) : Int) then some 1 else f p) := by
  intro y hy hl
  by_cases e : y = x
  · subst e; simp
  · have hne : rankL y ≠ rankL x := fun hh => e (rank_row_inj hy hx.1 (by omega) hh)
    simp only [Int.natCast_inj, if_neg hne]
    rw [h y hy hl]
    simp [e]
theorem SeenT.drop {n : Nat} {rows : List (List Int)} {f : Int → Option Int} {x : List Int} (h : SeenT n (rows ++ [x]) f) (hx : IsRow x ∧ x.length = n) (hn : x ∉ rows) : SeenT n rows (fun p => if p = ((rankL x : Nat) : Int) then some 0 else f p) := by
  intro y hy hl
  by_cases e : y = x
  · subst e; simp [hn]
  · have hne : rankL y ≠ rankL x := fun hh => e (rank_row_inj hy hx.1 (by omega) hh)
    simp only [Int.natCast_inj, if_neg hne]
    rw [h y hy hl]
    simp [e]
end Go.KL
namespace Go.KL
section
variable {F : List (List Int) → List Int → Option (List Int)} {cs : List (List Int)} {N : Nat} {rows : List (List Int)} {path r : List Int} {k : Nat} (hl : rows.getD (rows.length - 1) [] = r)
include hl
end
theorem Tour.start {n : Int} {cs : List (List Int)} (h : ¬ (n < 1 ∨ 4 < n ∨ 8 < cs.length)) (h2 : ¬ gensMay n cs ≠ 0) : Tour n.toNat cs [roundsL n.toNat] [] (roundsL n.toNat) := by
  have hg := gensMay_ok (Classical.not_not.1 h2)
  refine ⟨rfl, fun x hx => ?_, by simp, rfl, fun k hk => ⟨(hg.2 k hk).1, by have := (hg.2 k hk).2; omega⟩, ⟨by omega, by omega⟩, by omega⟩
  simp at hx; subst hx
  exact ⟨roundsL_row (by omega) (by omega), roundsL_len _⟩
end Go.KL
namespace Go.KL
end Go.KL

/- All rows, each once: what is found rings, and nothing ahead of it does. -/
namespace Go.KL
def belowL : List Int → List Int → Bool
  | [], b => decide (0 < b.length)
  | _ :: _, [] => false
  | x :: a, y :: b => if x = y then belowL a b else decide (x < y)
def SeenB (n : Nat) (vis : List (List Int)) (f : Int → Option Bool) : Prop := ∀ x, IsRow x → x.length = n → (f ((rankL x : Nat) : Int)).getD false = decide (x ∈ vis)
theorem SeenB.put {n : Nat} {vis : List (List Int)} {f : Int → Option Bool} (h : SeenB n vis f) {x : List Int} (hx : IsRow x) (hl : x.length = n) : SeenB n (vis ++ [x]) (fun p => if p = ((rankL x : Nat) : Int) then some true else f p) := by
  intro y hy hly
  by_cases e : y = x
  · subst e; simp
  · have hne : rankL y ≠ rankL x := fun hh => e (rank_row_inj hy hx (by omega) hh)
    simp only [Int.natCast_inj, if_neg hne]
    rw [h y hy hly]
    simp [e]
end Go.KL

/- Rows read and written as text; the row at a place; the laws of rows. -/
namespace Go.KL
theorem run1_lo {s : ByteArray} {p : Nat} (hb : (s.get! p).toNat < 128) : run1 s p = (s.get! p).toNat ∧ wid s p = 1 := by
  unfold run1 wid Utf8.decode
  simp only [Nat.add_zero]
  rw [if_pos hb]
  exact ⟨rfl, rfl⟩
theorem run1_bd (s : ByteArray) (p : Nat) : run1 s p ≤ 1114111 := by
  unfold run1 Utf8.decode
  simp only
  have hm : ∀ m : Nat, m % 64 < 64 := fun m => Nat.mod_lt _ (by decide)
  have hv : ∀ c : Nat, Utf8.valid ((c : Nat) : Int) = true → c ≤ 1114111 := fun c h => by
    unfold Utf8.valid at h
    simp only [Bool.or_eq_true, Bool.and_eq_true, decide_eq_true_eq] at h
    omega
  repeat' split
  all_goals first
    | (show Utf8.runeError ≤ _; decide)
    | (rename_i h; simp only [Bool.and_eq_true] at h; exact hv _ h.2)
    | (have h1 := hm (s.get! (p + 1)).toNat
       have h2 : (s.get! (p + 0)).toNat % 32 < 32 := Nat.mod_lt _ (by decide)
       simp only []
       omega)
theorem bsL_size (l : List UInt8) : (bsL l).size = l.length := by simp [bsL, ByteArray.size]
theorem bsL_get {l : List UInt8} {j : Nat} (h : j < l.length) : (bsL l).get! j = l[j] := by
  rw [get_list (by rw [bsL_size]; exact h)]
  simp [bsL]
end Go.KL
namespace Go.KL
end Go.KL

/- Runes as the document reads them: -1 for a byte that is none. -/
namespace Go.KL
def runM (s : ByteArray) (p : Nat) : Int := if run1 s p = 65533 ∧ wid s p = 1 then -1 else run1 s p
def nB (b : Nat) : Nat := if 194 ≤ b ∧ b < 224 then 2 else if 224 ≤ b ∧ b < 240 then 3 else if 240 ≤ b ∧ b < 245 then 4 else 0
def cB (b : Nat) : Nat := if 194 ≤ b ∧ b < 224 then b - 192 else if 224 ≤ b ∧ b < 240 then b - 224 else if 240 ≤ b ∧ b < 245 then b - 240 else b
def lowB (b : Nat) : Nat := if 194 ≤ b ∧ b < 224 then 128 else if 224 ≤ b ∧ b < 240 then 2048 else if 240 ≤ b ∧ b < 245 then 65536 else 0
def accR (s : ByteArray) (c : Nat) : Nat → Nat
  | 0 => c
  | j + 1 => accR s c j * 64 + ((s.get! (j + 1)).toNat - 128)
theorem accR1 (s : ByteArray) (c : Nat) : accR s c 1 = c * 64 + ((s.get! 1).toNat - 128) := rfl
theorem accR2 (s : ByteArray) (c : Nat) : accR s c 2 = (c * 64 + ((s.get! 1).toNat - 128)) * 64 + ((s.get! 2).toNat - 128) := rfl
theorem accR3 (s : ByteArray) (c : Nat) : accR s c 3 = ((c * 64 + ((s.get! 1).toNat - 128)) * 64 + ((s.get! 2).toNat - 128)) * 64 + ((s.get! 3).toNat - 128) := rfl
def decP (s : ByteArray) (N : Nat) : Nat × Nat := Lib.decodeN N (s.get! 0).toNat (s.get! 1).toNat (s.get! 2).toNat (s.get! 3).toNat
theorem dec0 (s : ByteArray) : Utf8.decode s 0 = decP s s.size := by rw [Lib.decode_at]; rfl
theorem runM_of {s : ByteArray} {c n : Nat} (h : decP s s.size = (c, n)) (hn : n ≠ 1 ∨ c ≠ 65533) : runM s 0 = c ∧ wid s 0 = n := by
  unfold runM run1 wid
  rw [dec0, h]
  refine ⟨if_neg ?_, rfl⟩
  simp only; omega
theorem runM_no {s : ByteArray} (h : decP s s.size = (65533, 1)) : runM s 0 = -1 ∧ wid s 0 = 1 := by
  unfold runM run1 wid
  rw [dec0, h]
  exact ⟨if_pos ⟨rfl, rfl⟩, rfl⟩
theorem rn_low {s : ByteArray} (h : (s.get! 0).toNat < 128) : runM s 0 = (s.get! 0).toNat ∧ wid s 0 = 1 :=
  runM_of (by unfold decP Lib.decodeN; rw [if_pos h]) (by omega)
theorem nB_cases {b j : Nat} (h0 : nB b ≠ 0) (hj : j + 1 = nB b) : (j = 1 ∧ 194 ≤ b ∧ b < 224) ∨ (j = 2 ∧ 224 ≤ b ∧ b < 240) ∨ (j = 3 ∧ 240 ≤ b ∧ b < 245) := by
  unfold nB at hj h0
  by_cases h1 : 194 ≤ b ∧ b < 224
  · rw [if_pos h1] at hj; exact .inl ⟨by omega, h1⟩
  · rw [if_neg h1] at hj h0
    by_cases h2 : 224 ≤ b ∧ b < 240
    · rw [if_pos h2] at hj; exact .inr (.inl ⟨by omega, h2⟩)
    · rw [if_neg h2] at hj h0
      by_cases h3 : 240 ≤ b ∧ b < 245
      · rw [if_pos h3] at hj; exact .inr (.inr ⟨by omega, h3⟩)
      · rw [if_neg h3] at h0; omega
section
variable {s : ByteArray} (h128 : ¬ (s.get! 0).toNat < 128)
include h128 in
set_option maxRecDepth 100000 in
set_option maxHeartbeats 4000000 in
theorem rn_short (h : nB (s.get! 0).toNat = 0 ∨ s.size < nB (s.get! 0).toNat) (h1 : 1 ≤ s.size) : runM s 0 = -1 ∧ wid s 0 = 1 := by
  refine runM_no ?_
  have l1 := UInt8.toNat_lt (s.get! 1)
  have l2 := UInt8.toNat_lt (s.get! 2)
  have l3 := UInt8.toNat_lt (s.get! 3)
  have l0 := UInt8.toNat_lt (s.get! 0)
  unfold decP
  generalize (s.get! 0).toNat = b0 at *
  generalize (s.get! 1).toNat = b1 at *
  generalize (s.get! 2).toNat = b2 at *
  generalize (s.get! 3).toNat = b3 at *
  unfold nB at h
  unfold Lib.decodeN
  repeat' split
  all_goals first | rfl | (exfalso; split at h <;> (try split at h) <;> (try split at h) <;> omega)
set_option maxRecDepth 100000 in
set_option maxHeartbeats 4000000 in
theorem rn_cont {j : Nat} (hj : j + 1 < nB (s.get! 0).toNat) (h : (s.get! (j + 1)).toNat < 128 ∨ 192 ≤ (s.get! (j + 1)).toNat) : runM s 0 = -1 ∧ wid s 0 = 1 := by
  refine runM_no ?_
  have l1 := UInt8.toNat_lt (s.get! 1)
  have l2 := UInt8.toNat_lt (s.get! 2)
  have l3 := UInt8.toNat_lt (s.get! 3)
  have l0 := UInt8.toNat_lt (s.get! 0)
  have hj4 : j = 0 ∨ j = 1 ∨ j = 2 := by
    unfold nB at hj
    repeat' split at hj
    all_goals omega
  unfold decP
  rcases hj4 with rfl | rfl | rfl <;> simp only [Nat.zero_add, Nat.reduceAdd] at h hj <;> generalize (s.get! 0).toNat = b0 at * <;> generalize (s.get! 1).toNat = b1 at * <;> generalize (s.get! 2).toNat = b2 at * <;> generalize (s.get! 3).toNat = b3 at * <;> unfold nB at hj <;> unfold Lib.decodeN
  all_goals repeat' split
  all_goals first | rfl | (exfalso; split at hj <;> (try split at hj) <;> (try split at hj) <;> omega)
set_option maxRecDepth 2000 in
set_option maxHeartbeats 4000000 in
theorem rn_all (h0 : nB (s.get! 0).toNat ≠ 0) (hs : nB (s.get! 0).toNat ≤ s.size) {j : Nat} (hj : j + 1 = nB (s.get! 0).toNat) (hc : ∀ i, i < j → 128 ≤ (s.get! (i + 1)).toNat ∧ (s.get! (i + 1)).toNat < 192) :
    decP s s.size = if accR s (cB (s.get! 0).toNat) j < lowB (s.get! 0).toNat ∨ 1114111 < accR s (cB (s.get! 0).toNat) j ∨ (55296 ≤ accR s (cB (s.get! 0).toNat) j ∧ accR s (cB (s.get! 0).toNat) j < 57344) then (65533, 1) else (accR s (cB (s.get! 0).toNat) j, nB (s.get! 0).toNat) := by
  have l0 := UInt8.toNat_lt (s.get! 0)
  have hj4 := nB_cases h0 hj
  refine hj4.elim (fun ⟨e, q⟩ => ?_) (fun h => h.elim (fun ⟨e, q⟩ => ?_) (fun ⟨e, q⟩ => ?_))
  · rw [e]
    have c1 := hc 0 (by rw [e]; exact Nat.one_pos)
    rw [Nat.zero_add] at c1
    rw [accR1]
    unfold decP
    clear hc hj h0
    generalize (s.get! 0).toNat = b0 at *
    generalize (s.get! 1).toNat = b1 at *
    have e1 : nB b0 = 2 := by unfold nB; rw [if_pos q]
    have e2 : cB b0 = b0 - 192 := by unfold cB; rw [if_pos q]
    have e3 : lowB b0 = 128 := by unfold lowB; rw [if_pos q]
    rw [e1] at hs
    rw [e1, e2, e3]
    unfold Lib.decodeN
    repeat' split
    all_goals first | (exfalso; omega) | (apply Prod.ext <;> simp only <;> omega)
  · rw [e]
    have c1 := hc 0 (by omega)
    have c2 := hc 1 (by omega)
    simp only [Nat.zero_add, Nat.reduceAdd] at c1 c2
    rw [accR2]
    clear hc hj h0
    unfold decP
    generalize (s.get! 0).toNat = b0 at *
    generalize (s.get! 1).toNat = b1 at *
    generalize (s.get! 2).toNat = b2 at *
    have e1 : nB b0 = 3 := by unfold nB; rw [if_neg (by omega), if_pos q]
    have e2 : cB b0 = b0 - 224 := by unfold cB; rw [if_neg (by omega), if_pos q]
    have e3 : lowB b0 = 2048 := by unfold lowB; rw [if_neg (by omega), if_pos q]
    rw [e1] at hs
    rw [e1, e2, e3]
    unfold Lib.decodeN
    repeat' split
    all_goals first | (exfalso; omega) | (apply Prod.ext <;> simp only <;> omega)
  · rw [e]
    have c1 := hc 0 (by omega)
    have c2 := hc 1 (by omega)
    have c3 := hc 2 (by omega)
    simp only [Nat.zero_add, Nat.reduceAdd] at c1 c2 c3
    rw [accR3]
    clear hc hj h0
    unfold decP
    generalize (s.get! 0).toNat = b0 at *
    generalize (s.get! 1).toNat = b1 at *
    generalize (s.get! 2).toNat = b2 at *
    generalize (s.get! 3).toNat = b3 at *
    have e1 : nB b0 = 4 := by unfold nB; rw [if_neg (by omega), if_neg (by omega), if_pos q]
    have e2 : cB b0 = b0 - 240 := by unfold cB; rw [if_neg (by omega), if_neg (by omega), if_pos q]
    have e3 : lowB b0 = 65536 := by unfold lowB; rw [if_neg (by omega), if_neg (by omega), if_pos q]
    rw [e1] at hs
    rw [e1, e2, e3]
    unfold Lib.decodeN
    repeat' split
    all_goals first | (exfalso; omega) | (apply Prod.ext <;> simp only <;> omega)
end
theorem nb2 {b : Nat} (h : 194 ≤ b ∧ b < 224) : nB b = 2 ∧ cB b = b - 192 ∧ lowB b = 128 := by unfold nB cB lowB; rw [if_pos h, if_pos h, if_pos h]; exact ⟨rfl, rfl, rfl⟩
theorem nb3 {b : Nat} (h : 224 ≤ b ∧ b < 240) : nB b = 3 ∧ cB b = b - 224 ∧ lowB b = 2048 := by
  have h1 : ¬ (194 ≤ b ∧ b < 224) := by omega
  unfold nB cB lowB; rw [if_neg h1, if_neg h1, if_neg h1, if_pos h, if_pos h, if_pos h]; exact ⟨rfl, rfl, rfl⟩
theorem nb4 {b : Nat} (h : 240 ≤ b ∧ b < 245) : nB b = 4 ∧ cB b = b - 240 ∧ lowB b = 65536 := by
  have h1 : ¬ (194 ≤ b ∧ b < 224) := by omega
  have h2 : ¬ (224 ≤ b ∧ b < 240) := by omega
  unfold nB cB lowB; rw [if_neg h1, if_neg h1, if_neg h1, if_neg h2, if_neg h2, if_neg h2, if_pos h, if_pos h, if_pos h]; exact ⟨rfl, rfl, rfl⟩
theorem nb0 {b : Nat} (h1 : ¬ (194 ≤ b ∧ b < 224)) (h2 : ¬ (224 ≤ b ∧ b < 240)) (h3 : ¬ (240 ≤ b ∧ b < 245)) : nB b = 0 ∧ cB b = b ∧ lowB b = 0 := by
  unfold nB cB lowB; rw [if_neg h1, if_neg h1, if_neg h1, if_neg h2, if_neg h2, if_neg h2, if_neg h3, if_neg h3, if_neg h3]; exact ⟨rfl, rfl, rfl⟩
theorem nb_bd (b : Nat) : nB b ≤ 4 ∧ (nB b ≠ 0 → cB b ≤ 31) := by
  by_cases h1 : 194 ≤ b ∧ b < 224
  · have := nb2 h1; omega
  · by_cases h2 : 224 ≤ b ∧ b < 240
    · have := nb3 h2; omega
    · by_cases h3 : 240 ≤ b ∧ b < 245
      · have := nb4 h3; omega
      · have := nb0 h1 h2 h3; omega
theorem acc_bd {s : ByteArray} {c j : Nat} (hc : c ≤ 63) (h : ∀ i, i < j → 128 ≤ (s.get! (i + 1)).toNat ∧ (s.get! (i + 1)).toNat < 192) (hj : j ≤ 3) : accR s c j < 16777216 := by
  have h3 : j = 0 ∨ j = 1 ∨ j = 2 ∨ j = 3 := by omega
  rcases h3 with e | e | e | e
  · rw [e]; show c < _; omega
  · have h0 := h 0 (by omega)
    rw [e, accR1]; simp only [Nat.zero_add] at h0; omega
  · have h0 := h 0 (by omega); have h1 := h 1 (by omega)
    rw [e, accR2]; simp only [Nat.zero_add, Nat.reduceAdd] at h0 h1; omega
  · have h0 := h 0 (by omega); have h1 := h 1 (by omega); have h2 := h 2 (by omega)
    rw [e, accR3]; simp only [Nat.zero_add, Nat.reduceAdd] at h0 h1 h2; omega
theorem acc_snoc {s : ByteArray} {j : Nat} (h : ∀ i, i < j → 128 ≤ (s.get! (i + 1)).toNat ∧ (s.get! (i + 1)).toNat < 192) (h1 : 128 ≤ (s.get! (j + 1)).toNat) (h2 : (s.get! (j + 1)).toNat < 192) : ∀ i, i < j + 1 → 128 ≤ (s.get! (i + 1)).toNat ∧ (s.get! (i + 1)).toNat < 192 := by
  intro i hi
  by_cases e : i = j
  · rw [e]; exact ⟨h1, h2⟩
  · exact h i (by omega)
theorem rn_bad {s : ByteArray} (h0 : nB (s.get! 0).toNat ≠ 0) (hs : nB (s.get! 0).toNat ≤ s.size) {j : Nat} (hj : j + 1 = nB (s.get! 0).toNat) (hc : ∀ i, i < j → 128 ≤ (s.get! (i + 1)).toNat ∧ (s.get! (i + 1)).toNat < 192)
    (h : accR s (cB (s.get! 0).toNat) j < lowB (s.get! 0).toNat ∨ 1114111 < accR s (cB (s.get! 0).toNat) j ∨ (55296 ≤ accR s (cB (s.get! 0).toNat) j ∧ accR s (cB (s.get! 0).toNat) j < 57344)) : runM s 0 = -1 ∧ wid s 0 = 1 :=
  runM_no (by rw [rn_all h0 hs hj hc, if_pos h])
theorem rn_ok {s : ByteArray} (h0 : nB (s.get! 0).toNat ≠ 0) (hs : nB (s.get! 0).toNat ≤ s.size) {j : Nat} (hj : j + 1 = nB (s.get! 0).toNat) (hc : ∀ i, i < j → 128 ≤ (s.get! (i + 1)).toNat ∧ (s.get! (i + 1)).toNat < 192)
    (h : ¬ (accR s (cB (s.get! 0).toNat) j < lowB (s.get! 0).toNat ∨ 1114111 < accR s (cB (s.get! 0).toNat) j ∨ (55296 ≤ accR s (cB (s.get! 0).toNat) j ∧ accR s (cB (s.get! 0).toNat) j < 57344))) : runM s 0 = accR s (cB (s.get! 0).toNat) j ∧ wid s 0 = nB (s.get! 0).toNat :=
  runM_of (by rw [rn_all h0 hs hj hc, if_neg h]) (by have := nB_cases h0 hj; omega)
/-! ### All runes of a text -/
def runsF (s : ByteArray) : Nat → Nat → List Int
  | 0, _ => []
  | f + 1, p => if p < s.size then runM s p :: runsF s f (p + wid s p) else []
def runsL (s : ByteArray) : List Int := runsF s s.size 0
theorem runsF_end {s : ByteArray} {f p : Nat} (h : s.size ≤ p) : runsF s f p = [] := by cases f <;> simp [runsF, show ¬ p < s.size by omega]
theorem runsF_step {s : ByteArray} {f p : Nat} {xs zs : List Int} (h : xs ++ runsF s f p = zs) (hp : p < s.size) (hf : s.size ≤ f + p) : (xs ++ [runM s p]) ++ runsF s (f - 1) (p + wid s p) = zs := by
  obtain ⟨f, rfl⟩ : ∃ g, f = g + 1 := ⟨f - 1, by omega⟩
  rw [runsF, if_pos hp] at h
  rw [← h]; simp
theorem get_ext {s : ByteArray} {p i : Nat} : (s.extract p s.size).get! i = s.get! (p + i) := by
  have hsz : (s.extract p s.size).size = s.size - p := by rw [ByteArray.size_extract]; omega
  by_cases h : i < s.size - p
  · have h1 : i < (s.extract p s.size).size := by omega
    rw [get_list h1, get_list (s := s) (i := p + i) (by omega)]
    simp [ByteArray.data_extract]
  · have a1 : (s.extract p s.size).get! i = default := by
      show (s.extract p s.size).data[i]! = default
      rw [getElem!_neg]
      show ¬ i < (s.extract p s.size).size
      omega
    have a2 : s.get! (p + i) = default := by
      show s.data[p + i]! = default
      rw [getElem!_neg]
      show ¬ p + i < s.size
      omega
    rw [a1, a2]
theorem dec_ext (s : ByteArray) (p : Nat) : Utf8.decode (s.extract p s.size) 0 = Utf8.decode s p := by
  have hsz : (s.extract p s.size).size = s.size - p := by rw [ByteArray.size_extract]; omega
  rw [Lib.decode_at, Lib.decode_at, hsz, get_ext, get_ext, get_ext, get_ext]
  simp only [Nat.add_zero, Nat.zero_add, Nat.sub_zero]
theorem ext_run (s : ByteArray) (p : Nat) : runM (s.extract p s.size) 0 = runM s p ∧ wid (s.extract p s.size) 0 = wid s p := by
  unfold runM run1 wid; rw [dec_ext]; exact ⟨rfl, rfl⟩
theorem wid_in {s : ByteArray} {p : Nat} (h : p < s.size) : p + wid s p ≤ s.size := by
  have hw : wid s p ≤ s.size - p := by
    unfold wid
    rw [Lib.decode_at]
    unfold Lib.decodeN
    repeat' split
    all_goals (simp only; omega)
  omega
theorem ext_ext {s : ByteArray} {p n : Nat} (h : p + n ≤ s.size) : (s.extract p s.size).extract n (s.extract p s.size).size = s.extract (p + n) s.size := by
  rw [ByteArray.extract_extract, ByteArray.size_extract]
  congr 1
  omega
end Go.KL

/- What the law RowSays wants beside: cycles as the document finds them, text by signs. -/
namespace Go.KL
theorem lists_ext {a b : List (List Int)} (hl : a.length = b.length) (h : ∀ j, j < a.length → a.getD j [] = b.getD j []) : a = b := by
  refine List.ext_getElem hl fun j h1 h2 => ?_
  have := h j h1
  simpa [h1, h2] using this
theorem all_snocs {xs ys : List (List Int)} {k : Nat} (h : ∀ j, j < k → xs.getD j [] = ys.getD j []) (e : xs.getD k [] = ys.getD k []) : ∀ j, j < k + 1 → xs.getD j [] = ys.getD j [] := by
  intro j hj
  by_cases hjk : j = k
  · subst hjk; exact e
  · exact h j (by omega)
end Go.KL

/- Patterns of bells: the maths. -/
namespace Go.KL
theorem runsF_len (s : ByteArray) : ∀ (f p : Nat), (runsF s f p).length ≤ s.size - p
  | 0, p => by simp [runsF]
  | f + 1, p => by
    rw [runsF]
    split
    · have := runsF_len s f (p + wid s p)
      have := wid_pos s p
      rw [List.length_cons]; omega
    · simp
theorem runsL_len (s : ByteArray) : (runsL s).length ≤ s.size := runsF_len s s.size 0
theorem runsF_cons {s : ByteArray} {f p : Nat} (hp : p < s.size) (hf : s.size ≤ f + p) : runsF s f p = runM s p :: runsF s (f - 1) (p + wid s p) := by
  obtain ⟨f, rfl⟩ : ∃ g, f = g + 1 := ⟨f - 1, by omega⟩
  rw [runsF, if_pos hp]; rfl
/-! ### Signs -/
theorem run_m (s : ByteArray) (p : Nat) : runM s p = ((run1 s p : Nat) : Int) ∨ (runM s p = -1 ∧ run1 s p = 65533) := by
  unfold runM
  split
  · rename_i h; exact .inr ⟨rfl, h.1⟩
  · exact .inl rfl
/-! ### Ahead of the star and behind it -/
/-! ### What was seen -/
/-! ### Like a pattern -/
/-! ### Steps -/
/-! ### A pattern that may be -/
/-! ### The walks of Like and fits -/
end Go.KL

/- Results of which the first lies in a struct's variable. -/
namespace Go.KL
open Go.RowKit
variable {P : Program} {fn : Func} {σ0 σ : GW} {a : Act} {N d e f : Nat} {D : List Deferred} {L : List Nat} {R : Value → GW → Prop}
theorem run_cell {t k : Nat} {T : TypeId} {fs : Array Field} {z : Value} {by_ : Nat} {ts : List Ty} (hT : P.underlying T = some (.struct fs)) (he : Info P T z ts.length by_) (h : OwnP σ k (a.eval (.tmp t)) ts) :
    ∃ ad cur, a.tmps.getD t undef = .pointer (some ad) ∧ (loadVar T ad).run P σ.w = .ok (.agg cur) σ.w ∧ (Ty.agg ts).has σ (.agg cur) := by
  obtain ⟨gg, e', cur, e1, h2, h3, h4, h5⟩ := h
  have hl := run_loadVar (P := P) hT he (w := σ.w) (ad := ⟨gg, 0, none⟩) (us := cur.toList) (by simp [h4]) (fun j u hj => by
    rw [Addr.add_lit, Nat.zero_add]
    simp at hj
    simp [World.cell?, h3, hj])
  exact ⟨_, cur, e1, by simpa using hl, cur, rfl, h4, h5⟩
theorem retL2c {t k : Nat} {T : TypeId} {fs : Array Field} {z : Value} {by_ : Nat} {ts : List Ty} (hr : fn.results = #[.cell t T, .tmp e]) (ok : Ok N [] a) (hF : FromL L σ0 σ) (hT : P.underlying T = some (.struct fs)) (he : Info P T z ts.length by_) (h : OwnP σ k (a.eval (.tmp t)) ts)
    (hR : ∀ v, (Ty.agg ts).has σ v → R (.tuple #[v, a.eval (.tmp e)]) σ) : bodyPost P fn (RetL σ0 L R) .ret a σ.w := by
  obtain ⟨ad, cur, e2, hl, hv⟩ := run_cell hT he h
  refine bodyPost_ret (v := .tuple #[.agg cur, a.eval (.tmp e)]) ?_ ok.defers ⟨_, σ, rfl, hF, rfl, hR _ hv⟩
  have e3 : a.tmps[t]?.getD undef = .pointer (some ad) := by rw [← e2, Array.getD_eq_getD_getElem?]
  simp [results, hr, e3, asAddr, hl, Act.eval]
theorem nil_has {α : Type} {f : α → Ty} {xs : List α} {σ : GW} (e : xs = []) : (Ty.lst f xs).has σ (.slice none 0 0) := by subst e; exact sl_nil
end Go.KL

/- How many rows are like patterns. -/
namespace Go.KL
abbrev Ty.str (s : ByteArray) : Ty := Ty.val (.string s)
end Go.KL

/- Rows whose elements are structs of c cells. -/
namespace Go.KL
open Go.RowKit
variable {P : Program} {d : Option Tmp} {ty : TypeId} {pos : String} {af : Array Edge} {g : Option (Nat × Bool)} {a : Act} {σ : GW}
/-! ### Patterns -/
end Go.KL

/- Plain maths: calls and touches. -/
namespace Go.KL
abbrev BCall := Int × List (List Int)
/-! ### Which calls may be -/
abbrev D0 : BCall := (0, [])
theorem mem_getDD {α : Type} (d : α) {l : List α} {k : Nat} (h : k < l.length) : l.getD k d ∈ l := by
  rw [List.getD_eq_getElem?_getD, List.getElem?_eq_getElem h]; exact List.getElem_mem _
/-! ### The changes of a lead -/
/-! ### The rows of a touch -/
section
variable {nm : ByteArray} {n : Nat} {l : List (List Int)} {cs : List BCall} {leads : List Int}
end
/-! ### Which touches may be -/
end Go.KL

/- Closures over one variable; slices.Grow of nothing; cuts of rows of structs. -/
namespace Go.KL
open Go.RowKit
variable {P : Program} {d : Option Tmp} {ty : TypeId} {pos : String} {af : Array Edge} {g : Option (Nat × Bool)} {a : Act} {σ : GW}
/-! ### slices.Grow of nothing -/
/-! ### Cuts of rows of structs -/
/-! ### Signs of calls -/
theorem getD_fst (cs : List BCall) (j : Nat) : (cs.map (·.1)).getD j 0 = (cs.getD j D0).1 := by
  rw [List.getD_eq_getElem?_getD, List.getD_eq_getElem?_getD, List.getElem?_map]
  cases cs[j]? <;> rfl
theorem idxC_yes {cs : List BCall} {s : Int} {k : Nat} (hk : k < cs.length) (h : (cs.getD k D0).1 = s) (hno : ∀ j, j < k → (cs.getD j D0).1 ≠ s) : indexL (cs.map (·.1)) s = k :=
  indexL_yes (by rw [List.length_map]; exact hk) (by rw [getD_fst]; exact h.symm) (fun j hj => by rw [getD_fst]; exact hno j hj)
end Go.KL

/- Touches that are read. -/
namespace Go.KL
abbrev sgOf (cs : List BCall) : List Int := cs.map (·.1)
structure NumP where
  err : Int
  n : Int
  some : Bool
  rest : List Int
def numR : Int → Bool → List Int → NumP
  | n, b, [] => ⟨0, n, b, []⟩
  | n, b, c :: r => if 48 ≤ c ∧ c ≤ 57 then (if n * 10 + c - 48 = 0 ∨ 99 < n * 10 + c - 48 then ⟨12, 0, true, r⟩ else numR (n * 10 + c - 48) true r) else ⟨0, n, b, c :: r⟩
structure ItP where
  err : Int
  out : List Int
  rest : List Int
def repL (n : Nat) (one : List Int) : List Int := (List.replicate n one).flatten
def rpM (n : Int) (one r : List Int) : ItP := if 400 < n * one.length then ⟨3, [], []⟩ else ⟨0, repL n.toNat one, r⟩
def oneM (sg : List Int) (F : Nat → List Int → List Int → ItP) (deep : Nat) (r : List Int) : ItP :=
  if r.getD 0 0 = 40 then
    (if deep = 6 then ⟨13, [], []⟩ else if (F (deep + 1) [] (r.drop 1)).err ≠ 0 then ⟨(F (deep + 1) [] (r.drop 1)).err, [], []⟩
    else if (F (deep + 1) [] (r.drop 1)).rest = [] then ⟨5, [], []⟩ else if (F (deep + 1) [] (r.drop 1)).out = [] then ⟨4, [], []⟩
    else ⟨0, (F (deep + 1) [] (r.drop 1)).out, (F (deep + 1) [] (r.drop 1)).rest.drop 1⟩)
  else if r.getD 0 0 ∉ sg ∨ r.getD 0 0 < 0 then ⟨4, [], []⟩ else ⟨0, [indexL sg (r.getD 0 0)], r.drop 1⟩
def timesM (x : NumP) : Int := if x.some = true then x.n else 1
def itemM (sg : List Int) (F : Nat → List Int → List Int → ItP) (deep : Nat) (rest : List Int) : ItP :=
  if (numR 0 false rest).err ≠ 0 then ⟨12, [], []⟩ else if (numR 0 false rest).rest = [] then ⟨5, [], []⟩
  else if (oneM sg F deep (numR 0 false rest).rest).err ≠ 0 then ⟨(oneM sg F deep (numR 0 false rest).rest).err, [], []⟩
  else rpM (timesM (numR 0 false rest)) (oneM sg F deep (numR 0 false rest).rest).out (oneM sg F deep (numR 0 false rest).rest).rest
def itemsM (sg : List Int) : Nat → Nat → List Int → List Int → ItP
  | 0, _, out, rest => ⟨0, out, rest⟩
  | f + 1, deep, out, rest =>
    if rest = [] ∨ rest.getD 0 0 = 41 then ⟨0, out, rest⟩
    else if (itemM sg (itemsM sg f) deep rest).err ≠ 0 then ⟨(itemM sg (itemsM sg f) deep rest).err, [], []⟩
    else if 400 < (out ++ (itemM sg (itemsM sg f) deep rest).out).length then ⟨3, [], []⟩
    else itemsM sg f deep (out ++ (itemM sg (itemsM sg f) deep rest).out) (itemM sg (itemsM sg f) deep rest).rest
section
variable {sg : List Int}
/-! What is left is a tail. -/
theorem numR_tail : ∀ (r : List Int) (n : Int) (b : Bool), (numR n b r).err = 0 → ∃ k, k ≤ r.length ∧ (numR n b r).rest = r.drop k
  | [], n, b, _ => ⟨0, Nat.le_refl _, rfl⟩
  | c :: r, n, b, h => by
    rw [numR] at h ⊢
    split
    · split
      · rename_i h1 h2; rw [if_pos h1, if_pos h2] at h; cases h
      · rename_i h1 h2
        rw [if_pos h1, if_neg h2] at h
        obtain ⟨k, h3, h4⟩ := numR_tail r _ _ h
        exact ⟨k + 1, by rw [List.length_cons]; omega, by rw [h4, List.drop_succ_cons]⟩
    · exact ⟨0, Nat.zero_le _, rfl⟩
def Tail (a r : List Int) : Prop := ∃ k, k ≤ r.length ∧ a = r.drop k
theorem Tail.refl (r : List Int) : Tail r r := ⟨0, Nat.zero_le _, rfl⟩
theorem Tail.trans {a b c : List Int} (h : Tail a b) (k : Tail b c) : Tail a c := by
  obtain ⟨i, h1, rfl⟩ := h
  obtain ⟨j, h2, rfl⟩ := k
  rw [List.length_drop] at h1
  exact ⟨j + i, by omega, by rw [List.drop_drop]⟩
theorem Tail.drop1 {a r : List Int} (h : Tail a r) (hne : a ≠ []) : Tail (a.drop 1) r ∧ (a.drop 1).length < r.length := by
  obtain ⟨i, h1, rfl⟩ := h
  have hl : (r.drop i).length ≠ 0 := fun e => hne (List.eq_nil_of_length_eq_zero e)
  rw [List.length_drop] at hl
  rw [List.drop_drop]
  exact ⟨⟨i + 1, by omega, rfl⟩, by rw [List.length_drop]; omega⟩
theorem rpM_rest {n : Int} {one r : List Int} (h : (rpM n one r).err = 0) : (rpM n one r).rest = r ∧ (rpM n one r).out = repL n.toNat one ∧ ¬ 400 < n * one.length := by
  unfold rpM at h ⊢
  split at h
  · cases h
  · rename_i h2; rw [if_neg h2]; exact ⟨rfl, rfl, h2⟩
theorem oneM_tail {F : Nat → List Int → List Int → ItP} (hF : ∀ d o r, (F d o r).err = 0 → Tail (F d o r).rest r) {deep : Nat} {r : List Int} (hne : r ≠ []) (h : (oneM sg F deep r).err = 0) : Tail (oneM sg F deep r).rest r ∧ (oneM sg F deep r).rest.length < r.length := by
  obtain ⟨t1, t2⟩ := Tail.drop1 (Tail.refl r) hne
  unfold oneM at h ⊢
  split at h
  · rename_i h3
    rw [if_pos h3]
    split at h
    · cases h
    rename_i h4
    rw [if_neg h4]
    split at h
    · rename_i h5; exact absurd h h5
    rename_i h5
    rw [if_neg h5]
    have h5 := Classical.not_not.1 h5
    split at h
    · cases h
    rename_i h6
    rw [if_neg h6]
    split at h
    · cases h
    rename_i h7
    rw [if_neg h7]
    obtain ⟨t3, t4⟩ := Tail.drop1 (hF _ _ _ h5) h6
    exact ⟨t3.trans t1, by show ((F (deep + 1) [] (r.drop 1)).rest.drop 1).length < _; omega⟩
  · rename_i h3
    rw [if_neg h3]
    split at h
    · cases h
    rename_i h4
    rw [if_neg h4]
    exact ⟨t1, t2⟩
theorem itemM_tail {F : Nat → List Int → List Int → ItP} (hF : ∀ d o r, (F d o r).err = 0 → Tail (F d o r).rest r) {deep : Nat} {rest : List Int} (h : (itemM sg F deep rest).err = 0) : Tail (itemM sg F deep rest).rest rest ∧ (itemM sg F deep rest).rest.length < rest.length := by
  unfold itemM at h ⊢
  split at h
  · cases h
  rename_i h1
  rw [if_neg h1]
  have h1 := Classical.not_not.1 h1
  have ht : Tail (numR 0 false rest).rest rest := numR_tail rest 0 false h1
  split at h
  · cases h
  rename_i h2
  rw [if_neg h2]
  split at h
  · rename_i h3; exact absurd h h3
  rename_i h3
  rw [if_neg h3]
  have h3 := Classical.not_not.1 h3
  rw [(rpM_rest h).1]
  obtain ⟨t1, t2⟩ := oneM_tail hF h2 h3
  refine ⟨t1.trans ht, ?_⟩
  obtain ⟨k, hk, e⟩ := ht
  rw [e] at t2
  rw [List.length_drop] at t2
  rw [e]; omega
theorem itemsM_tail : ∀ (f deep : Nat) (out rest : List Int), (itemsM sg f deep out rest).err = 0 → Tail (itemsM sg f deep out rest).rest rest
  | 0, _, _, rest, _ => Tail.refl _
  | f + 1, deep, out, rest, h => by
    rw [itemsM] at h ⊢
    split at h
    · rename_i h1; rw [if_pos h1]; exact Tail.refl _
    rename_i h1
    rw [if_neg h1]
    split at h
    · rename_i h2; exact absurd h h2
    rename_i h2
    rw [if_neg h2]
    have h2 := Classical.not_not.1 h2
    split at h
    · cases h
    rename_i h3
    rw [if_neg h3]
    exact (itemsM_tail f deep _ _ h).trans (itemM_tail (fun d o r => itemsM_tail f d o r) h2).1
theorem itemM_tl {f deep : Nat} {rest : List Int} (h : (itemM sg (itemsM sg f) deep rest).err = 0) : Tail (itemM sg (itemsM sg f) deep rest).rest rest ∧ (itemM sg (itemsM sg f) deep rest).rest.length < rest.length := itemM_tail (fun d o r => itemsM_tail f d o r) h
/-! Fuel. -/
theorem oneM_congr {F G : Nat → List Int → List Int → ItP} {deep : Nat} {r : List Int} (h : F (deep + 1) [] (r.drop 1) = G (deep + 1) [] (r.drop 1)) : oneM sg F deep r = oneM sg G deep r := by unfold oneM; rw [h]
theorem itemM_congr {F G : Nat → List Int → List Int → ItP} {deep : Nat} {rest : List Int} (h : ∀ r, r.length < rest.length → F (deep + 1) [] r = G (deep + 1) [] r) : itemM sg F deep rest = itemM sg G deep rest := by
  by_cases h1 : (numR 0 false rest).err = 0
  · by_cases h2 : (numR 0 false rest).rest = []
    · unfold itemM; rw [if_neg (by rw [h1]; simp), if_pos h2, if_neg (by rw [h1]; simp), if_pos h2]
    · have ht : Tail (numR 0 false rest).rest rest := numR_tail rest 0 false h1
      have := (Tail.drop1 ht h2).2
      unfold itemM
      rw [oneM_congr (h _ this)]
  · unfold itemM; rw [if_pos h1, if_pos h1]
theorem itemsM_fuel : ∀ (f g deep : Nat) (out rest : List Int), rest.length < f → rest.length < g → itemsM sg f deep out rest = itemsM sg g deep out rest
  | 0, _, _, _, _, h, _ => absurd h (by omega)
  | _, 0, _, _, _, _, h => absurd h (by omega)
  | f + 1, g + 1, deep, out, rest, h1, h2 => by
    have e : itemM sg (itemsM sg f) deep rest = itemM sg (itemsM sg g) deep rest := itemM_congr fun r hr => itemsM_fuel f g (deep + 1) [] r (by omega) (by omega)
    rw [itemsM, itemsM, e]
    split
    · rfl
    split
    · rfl
    rename_i h3
    split
    · rfl
    have := (itemM_tl (f := g) (Classical.not_not.1 h3)).2
    exact itemsM_fuel f g deep _ _ (by omega) (by omega)
def parM (sg : List Int) (deep : Nat) (out rest : List Int) : ItP := itemsM sg (rest.length + 1) deep out rest
def itM (sg : List Int) (deep : Nat) (rest : List Int) : ItP := itemM sg (parM sg) deep rest
theorem itM_fuel (f deep : Nat) (rest : List Int) (h : rest.length ≤ f) : itemM sg (itemsM sg f) deep rest = itM sg deep rest := itemM_congr fun r hr => itemsM_fuel _ _ _ _ _ (by omega) (by omega)
theorem par_stop {deep : Nat} {out rest : List Int} (h : rest = [] ∨ rest.getD 0 0 = 41) : parM sg deep out rest = ⟨0, out, rest⟩ := by unfold parM; rw [itemsM, if_pos h]
theorem itM_tl {deep : Nat} {rest : List Int} (h : (itM sg deep rest).err = 0) : Tail (itM sg deep rest).rest rest ∧ (itM sg deep rest).rest.length < rest.length := itemM_tail (fun _ _ r h => itemsM_tail _ _ _ r h) h
theorem par_go {deep : Nat} {out rest : List Int} (h : ¬ (rest = [] ∨ rest.getD 0 0 = 41)) (h2 : (itM sg deep rest).err = 0) (h3 : ¬ 400 < (out ++ (itM sg deep rest).out).length) : parM sg deep (out ++ (itM sg deep rest).out) (itM sg deep rest).rest = parM sg deep out rest := by
  have ht := (itM_tl h2).2
  have e : parM sg deep out rest = itemsM sg rest.length deep (out ++ (itM sg deep rest).out) (itM sg deep rest).rest := by
    conv => lhs; unfold parM
    rw [itemsM, if_neg h, itM_fuel _ _ _ (Nat.le_refl _), if_neg (by rw [h2]; simp), if_neg h3]
  rw [e]
  exact itemsM_fuel _ _ _ _ _ (by omega) (by omega)
/-! What is told of errors. -/
/-! Step by step. -/
theorem it_rp {deep : Nat} {r s : List Int} {v : Int} {b : Bool} (h : numR 0 false r = ⟨0, v, b, s⟩) (hs : s ≠ []) (h2 : (oneM sg (parM sg) deep s).err = 0) : itM sg deep r = rpM (if b = true then v else 1) (oneM sg (parM sg) deep s).out (oneM sg (parM sg) deep s).rest := by
  unfold itM itemM; rw [h, if_neg (by simp), if_neg hs, if_neg (by rw [h2]; simp)]; rfl
theorem rp_ok {n : Int} {one r : List Int} (h : ¬ 400 < n * one.length) : rpM n one r = ⟨0, repL n.toNat one, r⟩ := by unfold rpM; rw [if_neg h]
theorem repL_succ (k : Nat) (one : List Int) : repL (k + 1) one = repL k one ++ one := by unfold repL; rw [List.replicate_succ', List.flatten_append]; simp
theorem one_sign {F : Nat → List Int → List Int → ItP} {deep : Nat} {s : List Int} (h : ¬ s.getD 0 0 = 40) (h2 : ¬ (s.getD 0 0 ∉ sg ∨ s.getD 0 0 < 0)) : oneM sg F deep s = ⟨0, [indexL sg (s.getD 0 0)], s.drop 1⟩ := by unfold oneM; rw [if_neg h, if_neg h2]
theorem sign_at {cs : List BCall} {c : Int} {k : Nat} (hk : k < cs.length) (hno : ∀ j, j < k → (cs.getD j D0).1 ≠ c) (h : (cs.getD k D0).1 = c) : c ∈ cs.map (·.1) ∧ indexL (cs.map (·.1)) c = k := by
  have e := idxC_yes hk h hno
  exact ⟨indexL_iff.1 (by rw [e]; omega), e⟩
theorem x_go {deep : Nat} {out r o s : List Int} {X : ItP} (hx : parM sg deep out r = X) (hne : ¬ (r = [] ∨ r.getD 0 0 = 41)) (h : itM sg deep r = ⟨0, o, s⟩) (h2 : ¬ 400 < (out ++ o).length) : parM sg deep (out ++ o) s = X := by
  have := par_go (sg := sg) (deep := deep) (out := out) hne (by rw [h]) (by rw [h]; exact h2)
  rw [h] at this
  rw [← hx, ← this]
end
/-! Runes of a text, as a loop over it gives them. -/
abbrev Ty.rune (n : Int) : Ty := .val (.int .i32 n)
theorem Tail.len {a r : List Int} (h : Tail a r) : a.length ≤ r.length := by
  obtain ⟨k, h1, rfl⟩ := h; rw [List.length_drop]; omega
section
variable {sg : List Int} {deep : Nat} {l s : List Int}
end
def ptM (sg : List Int) (s : ByteArray) : ItP :=
  if 4000 < s.size then ⟨3, [], []⟩ else if (parM sg 0 [] (runsL s)).err ≠ 0 then ⟨(parM sg 0 [] (runsL s)).err, [], []⟩
  else if (parM sg 0 [] (runsL s)).rest ≠ [] then ⟨4, [], []⟩ else if (parM sg 0 [] (runsL s)).out = [] then ⟨5, [], []⟩ else ⟨0, (parM sg 0 [] (runsL s)).out, []⟩
section
variable {sg : List Int} {s : ByteArray} {X : ItP}
theorem pt_ok (h : ¬ 4000 < s.size) (hX : X = parM sg 0 [] (runsL s)) (h1 : X.err = 0) (h2 : X.rest = []) (h3 : X.out ≠ []) : ptM sg s = ⟨0, X.out, []⟩ := by unfold ptM; rw [if_neg h, ← hX, if_neg (by rw [h1]; simp), if_neg (by rw [h2]; simp), if_neg h3]
end
end Go.KL

/- Arrays as values: built of two parts, and what stands at a place. -/
namespace Go.KL
open Go.RowKit
variable {P : Program} {d : Option Tmp} {ty : TypeId} {pos : String} {af : Array Edge} {g : Option (Nat × Bool)} {a : Act} {σ : GW}
/-! ### Bells that are told -/
end Go.KL

/- How many rows are like a pattern: as many as there are ways to place the other bells. -/
namespace Go.KL
/-! ### A pattern as one list -/
end Go.KL

/- Of all rows so many are like a pattern as there are ways to place the other bells. -/
namespace Go.KL
section
variable {P : Program} {d : Option Tmp} {ty : TypeId} {pos : String} {af : Array Edge} {g : Option (Nat × Bool)} {a : Act} {σ : GW}
end
theorem asc_runs {l : List UInt8} (h : ∀ b ∈ l, b.toNat < 128) : runsL (bsL l) = l.map fun b => ((b.toNat : Nat) : Int) := by
  have key : ∀ (f p : Nat), l.length ≤ f + p → runsF (bsL l) f p = (l.drop p).map fun b => ((b.toNat : Nat) : Int) := by
    intro f
    induction f with
    | zero => intro p hp; rw [List.drop_eq_nil_of_le (by omega)]; rfl
    | succ f ih =>
      intro p hp
      by_cases hpl : p < l.length
      · have hg := bsL_get hpl
        have hb := h l[p] (List.getElem_mem hpl)
        have hr := run1_lo (s := bsL l) (p := p) (by rw [hg]; exact hb)
        have hm : runM (bsL l) p = ((l[p].toNat : Nat) : Int) := by
          unfold runM
          rw [if_neg (by rw [hr.1, hg]; omega), hr.1, hg]
        rw [runsF_cons (by rw [bsL_size]; exact hpl) (by rw [bsL_size]; omega), hm, hr.2, Nat.add_sub_cancel, ih (p + 1) (by omega), List.drop_eq_getElem_cons hpl, List.map_cons]
      · rw [runsF_end (by rw [bsL_size]; omega), List.drop_eq_nil_of_le (by omega)]; rfl
  have := key (bsL l).size 0 (by rw [bsL_size]; omega)
  unfold runsL
  rw [this, List.drop_zero]
section
variable (raw r : List Int) (star : Nat)
end
section
variable {raw r : List Int} {star : Nat}
end
end Go.KL

/- Plain maths: is a touch true? -/
namespace Go.KL
end Go.KL
namespace Go.KL
theorem getD_takeD {α : Type} (d : α) {l : List α} {m k : Nat} (h : k < m) : (l.take m).getD k d = l.getD k d := by
  rw [List.getD_eq_getElem?_getD, List.getD_eq_getElem?_getD, List.getElem?_take_of_lt h]
end Go.KL

/- Plain maths: names by their runes. -/
namespace Go.KL
theorem run0_facts {s : ByteArray} (h1 : 1 ≤ s.size) : ((s.get! 0).toNat < 128 ∧ runM s 0 = (s.get! 0).toNat ∧ wid s 0 = 1) ∨ (runM s 0 ≠ 32 ∧ 128 ≤ (s.get! (wid s 0 - 1)).toNat) := by
  by_cases hb : (s.get! 0).toNat < 128
  · exact .inl ⟨hb, rn_low hb⟩
  · refine .inr ?_
    have bad : runM s 0 = -1 ∧ wid s 0 = 1 → runM s 0 ≠ 32 ∧ 128 ≤ (s.get! (wid s 0 - 1)).toNat := fun ⟨a, b⟩ => by rw [a, b]; exact ⟨by decide, by simpa using hb⟩
    by_cases h2 : nB (s.get! 0).toNat = 0 ∨ s.size < nB (s.get! 0).toNat
    · exact bad (rn_short hb h2 h1)
    · have h0 : nB (s.get! 0).toNat ≠ 0 := fun e => h2 (.inl e)
      have hs : nB (s.get! 0).toNat ≤ s.size := by omega
      obtain ⟨j, hj⟩ : ∃ j, j + 1 = nB (s.get! 0).toNat := ⟨nB (s.get! 0).toNat - 1, by omega⟩
      have hjc := nB_cases h0 hj
      by_cases hc : ∀ i, i < j → 128 ≤ (s.get! (i + 1)).toNat ∧ (s.get! (i + 1)).toNat < 192
      · by_cases hv : accR s (cB (s.get! 0).toNat) j < lowB (s.get! 0).toNat ∨ 1114111 < accR s (cB (s.get! 0).toNat) j ∨ (55296 ≤ accR s (cB (s.get! 0).toNat) j ∧ accR s (cB (s.get! 0).toNat) j < 57344)
        · exact bad (rn_bad h0 hs hj hc hv)
        · obtain ⟨a, b⟩ := rn_ok h0 hs hj hc hv
          have hlow : 128 ≤ lowB (s.get! 0).toNat := by
            rcases hjc with ⟨_, h⟩ | ⟨_, h⟩ | ⟨_, h⟩
            · rw [(nb2 h).2.2]; omega
            · rw [(nb3 h).2.2]; omega
            · rw [(nb4 h).2.2]; omega
          rw [a, b]
          refine ⟨by omega, ?_⟩
          have := hc (j - 1) (by omega)
          rw [show nB (s.get! 0).toNat - 1 = j - 1 + 1 by omega]; exact this.1
      · obtain ⟨i, hi⟩ := Classical.not_forall.1 hc
        obtain ⟨hi1, hi2⟩ := Classical.not_imp.1 hi
        exact bad (rn_cont (j := i) (by omega) (by omega))
theorem run_facts {s : ByteArray} {p : Nat} (h : p < s.size) : ((s.get! p).toNat < 128 ∧ runM s p = (s.get! p).toNat ∧ wid s p = 1) ∨ (runM s p ≠ 32 ∧ 128 ≤ (s.get! (p + (wid s p - 1))).toNat) := by
  have h0 := run0_facts (s := s.extract p s.size) (by rw [ByteArray.size_extract]; omega)
  rwa [(ext_run s p).1, (ext_run s p).2, get_ext, get_ext, Nat.add_zero] at h0
theorem letter_m (s : ByteArray) (p : Nat) : letterB (runM s p) = letterB ((run1 s p : Nat) : Int) := by
  rcases run_m s p with h | ⟨h1, h2⟩
  · rw [h]
  · rw [h1, h2]; rfl
theorem runs_all (s : ByteArray) : ∀ (f p : Nat), (runsF s f p).all letterB = (runesF s f p).all (fun (c : Nat) => letterB (c : Int)) ∧ (runsF s f p).length = (runesF s f p).length
  | 0, p => ⟨rfl, rfl⟩
  | f + 1, p => by
    rw [runsF, runesF]
    obtain ⟨h1, h2⟩ := runs_all s f (p + wid s p)
    split
    · exact ⟨by rw [List.all_cons, List.all_cons, h1, letter_m], by rw [List.length_cons, List.length_cons, h2]⟩
    · exact ⟨rfl, rfl⟩
theorem runs_last {s : ByteArray} : ∀ (f p : Nat), p < s.size → s.size ≤ f + p → ((runsF s f p).getD ((runsF s f p).length - 1) 0 = 32 ↔ (s.get! (s.size - 1)).toNat = 32)
  | 0, p, h1, h2 => by omega
  | f + 1, p, h1, h2 => by
    have hw := wid_pos s p
    have hi := wid_in h1
    rw [runsF, if_pos h1]
    by_cases e : p + wid s p < s.size
    · have ih := runs_last f (p + wid s p) e (by omega)
      have hne : 1 ≤ (runsF s f (p + wid s p)).length := by
        rw [runsF_cons e (by omega), List.length_cons]; omega
      rw [List.length_cons, Nat.add_sub_cancel]
      obtain ⟨m, hm⟩ : ∃ m, (runsF s f (p + wid s p)).length = m + 1 := ⟨_, (Nat.sub_add_cancel hne).symm⟩
      rw [hm, List.getD_cons_succ]
      rw [hm, Nat.add_sub_cancel] at ih
      exact ih
    · rw [runsF_end (by omega)]
      show runM s p = 32 ↔ _
      rcases run_facts h1 with ⟨_, h4, h5⟩ | ⟨h3, h4⟩
      · rw [h4, show s.size - 1 = p by omega]; omega
      · rw [show p + (wid s p - 1) = s.size - 1 by omega] at h4
        constructor
        · intro h; exact absurd h h3
        · intro h; omega
def nameI (l : List Int) : Bool := decide (1 ≤ l.length ∧ l.length ≤ 20 ∧ l.getD 0 0 ≠ 32 ∧ l.getD (l.length - 1) 0 ≠ 32) && l.all letterB
theorem name_eq (s : ByteArray) : nameI (runsL s) = nameL s := by
  obtain ⟨h1, h2⟩ := runs_all s s.size 0
  unfold nameI nameL runsL runesL
  rw [h1, ← h2, Bool.and_comm]
  congr 1
  by_cases hz : s.size = 0
  · rw [runsF_end (s := s) (f := s.size) (p := 0) (by omega)]
    simp
  · have hl := runs_last (s := s) s.size 0 (by omega) (by omega)
    have hf : (runsF s s.size 0).getD 0 0 = 32 ↔ (s.get! 0).toNat = 32 := by
      rw [runsF_cons (s := s) (f := s.size) (p := 0) (by omega) (by omega), List.getD_cons_zero]
      rcases run_facts (s := s) (p := 0) (by omega) with ⟨_, h4, _⟩ | ⟨h3, h4⟩
      · rw [h4]; omega
      · constructor
        · intro h; exact absurd h h3
        · intro h
          have := (rn_low (s := s) (by omega)).1
          rw [h] at this; exact absurd this h3
    rw [Bool.eq_iff_iff]
    simp only [Bool.and_eq_true, decide_eq_true_eq]
    constructor
    · rintro ⟨a, b, c, d⟩
      exact ⟨⟨⟨by omega, by omega⟩, fun h => c (hf.2 (by omega))⟩, fun h => d (hl.2 (by omega))⟩
    · rintro ⟨⟨⟨a, b⟩, c⟩, d⟩
      exact ⟨by omega, by omega, fun h => c (by have := hf.1 h; omega), fun h => d (by have := hl.1 h; omega)⟩
theorem name_bad {l : List Int} (h : l.length < 1 ∨ 20 < l.length ∨ l.getD 0 0 = 32 ∨ l.getD (l.length - 1) 0 = 32) : nameI l = false := by
  unfold nameI
  rw [decide_eq_false (by omega), Bool.false_and]
theorem name_let {l : List Int} {i : Nat} (hi : i < l.length) (h : letterB (l.getD i 0) = false) : nameI l = false := by
  unfold nameI
  rw [Bool.and_eq_false_iff]; right
  rw [List.all_eq_false]
  exact ⟨_, mem_getDD 0 hi, by rw [h]; exact Bool.false_ne_true⟩
theorem name_good {l : List Int} (h : ¬ (l.length < 1 ∨ 20 < l.length ∨ l.getD 0 0 = 32 ∨ l.getD (l.length - 1) 0 = 32)) (h2 : ∀ i, i < l.length → letterB (l.getD i 0) = true) : nameI l = true := by
  unfold nameI
  rw [decide_eq_true (by omega), Bool.true_and, List.all_eq_true]
  intro x hx
  obtain ⟨i, hi, rfl⟩ := List.getElem_of_mem hx
  have := h2 i hi
  rw [List.getD_eq_getElem?_getD, List.getElem?_eq_getElem hi] at this; exact this
end Go.KL

/- Literals of structs in rows of one's own. -/
namespace Go.KL
open Go.RowKit
variable {P : Program} {d : Option Tmp} {ty : TypeId} {pos : String} {af : Array Edge} {g : Option (Nat × Bool)} {a : Act} {σ : GW}
end Go.KL

/- Bytes of a text, appended; touches, printed. -/
namespace Go.KL
open Go.RowKit Go.Lib
variable {P : Program} {d : Option Tmp} {ty : TypeId} {pos : String} {af : Array Edge} {g : Option (Nat × Bool)} {a : Act} {σ : GW}
/-! Numbers, printed. -/
def decL (n : Nat) : List UInt8 := if n < 10 then [(48 + n).toUInt8] else [(48 + n / 10).toUInt8, (48 + n % 10).toUInt8]
def decB (n : Nat) : ByteArray := bsL (decL n)
/-! Touches, printed. -/
def pcB (cs : List BCall) (n : Nat) (x : Int) : ByteArray := (if 1 < n then decB n else ByteArray.empty) ++ Utf8.encode (cs.getD x.toNat D0).1
def prR (cs : List BCall) : Nat → List Int → ByteArray
  | _, [] => ByteArray.empty
  | n, x :: r => if (r ≠ [] ∧ r.getD 0 0 = x) ∧ n + 1 < 99 then prR cs (n + 1) r else pcB cs (n + 1) x ++ prR cs 0 r
section
variable {cs : List BCall} {s T : ByteArray} {l : List Int} {i n : Nat}
end
def ptE (cs : List BCall) (l : List Int) : Int := if l.length < 1 ∨ 400 < l.length then 1 else if ∀ k, k < l.length → 0 ≤ l.getD k 0 ∧ l.getD k 0 < (cs.length : Int) then 0 else 12
def ptT (cs : List BCall) (l : List Int) : ByteArray := if ptE cs l = 0 then prR cs 0 l else ByteArray.empty
theorem pt_good {cs : List BCall} {l : List Int} (h : ¬ (l.length < 1 ∨ 400 < l.length)) (hv : ∀ k, k < l.length → 0 ≤ l.getD k 0 ∧ l.getD k 0 < (cs.length : Int)) : ptE cs l = 0 ∧ ptT cs l = prR cs 0 l := by
  have : ptE cs l = 0 := by unfold ptE; rw [if_neg h, if_pos hv]
  exact ⟨this, by unfold ptT; rw [if_pos this]⟩
end Go.KL

/- Runes, written as bytes: bits of bytes, rows of three and four new bytes. -/
namespace Go.KL
open Go.RowKit Go.Lib
section
variable {P : Program} {d : Option Tmp} {ty : TypeId} {pos : String} {af : Array Edge} {g : Option (Nat × Bool)} {a : Act} {σ : GW}
end
def bt (e : Int) : UInt8 := e.toNat.toUInt8
theorem enc_1 {c : Int} (h0 : 0 ≤ c) (h1 : c ≤ 127) : (Utf8.encode c).data.toList = [bt c] := by
  have hv : Utf8.valid c = true := by simp [Utf8.valid]; omega
  unfold Utf8.encode
  simp only [hv, if_true]
  rw [if_pos (by omega)]
  rfl
end Go.KL

/- Structs that are built of structs; 'append' of what is owned. -/
namespace Go.KL
open Go.RowKit
variable {P : Program}
theorem own_appendw {σ : GW} {k : Nat} {t ty e : TypeId} {z : Value} {c by_ : Nat} {v src : Value} {n m : Nat} {ts us : List Ty} (hk : 2 ≤ k) (ht : P.underlying t = some (.slice e)) (he : Info P e z c by_) (hz : z.cells.size = c) (hc : 0 < c)
    (h : Own σ k e c v n ts) (hx : ∃ ad cap b o, src = .slice ad m cap ∧ us.length = m * c ∧ (us = [] ∨ ad = some (⟨b, o, none⟩ : Addr)) ∧ Cells σ b o us) (h1 : ∀ U, U ∈ us → One U) (hlen : n + m ≤ 9223372036854775807) (hbytes : (n + m) * by_ ≤ 140737488355328) :
    ∃ v' τ, (Builtin.append_ #[t, t] ty #[v, src]).run P σ.w = .ok v' τ.w ∧ Stp k σ τ ∧ Own τ k e c v' (n + m) (ts ++ us) := by
  have h0 := h
  obtain ⟨vs, r1, r2, r3, r4⟩ := h
  obtain ⟨ad, cap0, b, o, rfl, hl, hs, hcl⟩ := hx
  obtain ⟨i, hi, hi1, rfl, rfl⟩ := he.get
  obtain ⟨ws, w1, w2, w3⟩ := sl_news hcl
  have hone : ∀ u ∈ ws, u.oneCell' = true := fun u hu => by
    obtain ⟨j, hj⟩ := List.mem_iff_getElem?.1 hu
    obtain ⟨T, hT⟩ : ∃ T, us[j]? = some T := ⟨us[j]'(by rw [← w1]; exact (List.getElem?_eq_some_iff.1 hj).1), by simp⟩
    exact h1 T (List.mem_of_getElem? hT) σ u (w3 j T u hT hj)
  have hlw : ws.length = m * i.size := by rw [w1]; exact hl
  have hl' : (vs ++ ws).length = (ts ++ us).length := by simp [r2, w1]
  -- a new array
  have new : ∀ (old : Nat) (τw : World), old < n + m → τw = σ.w.drew.alloc (.cells (vs.toArray ++ ws.toArray ++ Builtin.zeroCells z.cells (grownCap σ.w (n + m) old e - (n + m))) e) →
      ∃ τ : GW, τ.w = τw ∧ Stp k σ τ ∧ Own τ k e i.size (.slice (some ⟨σ.w.heap.size, 0, none⟩) (n + m) (grownCap σ.w (n + m) old e)) (n + m) (ts ++ us) := by
    intro old τw _ hτ
    subst hτ
    have hge := grownCap_ge σ.w (n + m) old e
    have hcm : grownCap σ.w (n + m) old e ≤ maxLen := grownCap_le_maxLen σ.w (n + m) old e hlen
    have hstp : Stp 0 σ (σ.drew.mk' k (.cells (vs.toArray ++ ws.toArray ++ Builtin.zeroCells z.cells (grownCap σ.w (n + m) old e - (n + m))) e)) := (Stp.drew σ).trans (Stp.mk' σ.drew k _)
    refine ⟨_, rfl, hstp.of0, Own.intro (us := vs ++ ws) (heap_alloc_new σ.w.drew _) (by show (if _ = _ then k else _) = k; rw [if_pos]; rfl) hge hcm ?_ ?_ hl' ?_⟩
    · simp only [Array.size_append, List.size_toArray, size_zeroCells, hz, r1.1, hlw, ← Nat.add_mul]
      congr 1; omega
    · simp only [Array.toList_append, List.append_assoc]
      rw [← List.append_assoc, show (n + m) * i.size = (vs ++ ws).length by rw [List.length_append, r1.1, hlw, Nat.add_mul]]
      exact List.take_left
    · exact typed_append r2 (fun j T u hT hu => T.up hstp.le0 (r3 j T u hT hu)) (fun j T u hT hu => T.up hstp.le0 (w3 j T u hT hu))
  rcases r1.2 with ⟨rfl, rfl⟩ | ⟨g, cap, cur, rfl, _, hg, hn, hm, hcs, htk⟩
  · have hvs : vs = [] := List.eq_nil_of_length_eq_zero (by rw [r1.1]; simp)
    by_cases hm0 : m = 0
    · subst hm0
      have hus : us = [] := List.eq_nil_of_length_eq_zero (by rw [hl]; simp)
      subst hus
      refine ⟨.slice none 0 0, σ, ?_, Stp.refl _ _, by simpa using h0⟩
      cases ad <;> simp [Builtin.append_, run_underlying ht, sizeOf, typeInfo, hi, Builtin.lenOf, Builtin.firstCells, loadCells, loadCellsFrom]
    · have hus : us ≠ [] := by
        intro e; subst e
        have : 0 < m * i.size := Nat.mul_pos (by omega) hc
        simp only [List.length_nil] at hl
        omega
      obtain rfl := hs.resolve_left hus
      have hr := run_append_nil (P := P) σ.w t ty e i z ht hi hi1 ⟨b, o, none⟩ m cap0 ws hlw (fun j u hj => by rw [Addr.add_lit]; exact w2 j u hj) (by omega) (by omega) (by simp only [Nat.zero_add] at hbytes; omega)
      obtain ⟨τ, e1, e2, e3⟩ := new 0 _ (by omega) rfl
      simp only [Nat.zero_add] at e1 e3 ⊢
      exact ⟨_, τ, by rw [hr, e1, hvs]; simp, e2, e3⟩
  · have hlt : g < σ.w.heap.size := (Array.getElem?_eq_some_iff.1 hg).1
    have hgk := r4 g rfl
    by_cases hnone : ad = none
    · subst hnone
      have hus : us = [] := hs.resolve_right (fun h => by cases h)
      have hm0 : m = 0 := by
        subst hus
        rcases Nat.eq_zero_or_pos m with h | h
        · exact h
        · have : 0 < m * i.size := Nat.mul_pos h hc
          simp only [List.length_nil] at hl
          omega
      subst hm0; subst hus
      refine ⟨_, σ, ?_, Stp.refl _ _, by simpa using h0⟩
      simp [Builtin.append_, run_underlying ht, sizeOf, typeInfo, hi, Builtin.lenOf, Builtin.firstCells, hn, storeCells, loadCells]
    · obtain ⟨ad', rfl⟩ := Option.ne_none_iff_exists'.1 hnone
      have hnews : ∀ (j : Nat) (u : Value), ws[j]? = some u → σ.w.cell? (ad'.add j) = some u := fun j u hj => by
        rcases hs with rfl | he'
        · have : ws = [] := List.eq_nil_of_length_eq_zero w1
          subst this; simp at hj
        · cases he'; rw [Addr.add_lit]; exact w2 j u hj
      by_cases hroom : n + m ≤ cap
      · have hfit : n * i.size + ws.length ≤ cur.size := by rw [hlw, hcs, ← Nat.add_mul]; exact Nat.mul_le_mul_right _ hroom
        have hr := run_append_room (P := P) σ.w t ty e i ht hi g n cap cur hg ad' m cap0 ws hlw hnews hone hroom hfit
        have hstp : Stp k σ (σ.setRow g (cur.toList.take (n * i.size) ++ ws ++ cur.toList.drop (n * i.size + ws.length)).toArray) := Stp.setRow hgk (by omega)
        refine ⟨_, _, hr, hstp, Own.intro (us := vs ++ ws) (setRow_heap σ.w g cur _ e (0, 0) hg) hgk hroom hm ?_ ?_ hl' ?_⟩
        · simp only [List.size_toArray, List.length_append, List.length_take, List.length_drop, Array.length_toList]
          omega
        · rw [htk, show (n + m) * i.size = (vs ++ ws).length by rw [List.length_append, r1.1, hlw, Nat.add_mul]]
          exact List.take_left
        · exact typed_append r2 (fun j T u hT hu => T.up (hstp.le (by omega)) (r3 j T u hT hu)) (fun j T u hT hu => T.up (hstp.le (by omega)) (w3 j T u hT hu))
      · have holds : ∀ (j : Nat) (u : Value), vs[j]? = some u → σ.w.cell? ((⟨g, 0, none⟩ : Addr).add j) = some u := r1.cells (g := g) rfl
        have hr := run_append_grow (P := P) σ.w t ty e i z ht hi hi1 ⟨g, 0, none⟩ n cap vs r1.1 holds ad' m cap0 ws hlw hnews (by omega) (by omega) (growslice_fits (by omega) hbytes)
        obtain ⟨τ, e1, e2, e3⟩ := new cap _ (by omega) rfl
        exact ⟨_, τ, by rw [hr, e1], e2, e3⟩


theorem Own.src {σ : GW} {k : Nat} {e : TypeId} {c : Nat} {v : Value} {n : Nat} {ts : List Ty} (h : Own σ k e c v n ts) : ∃ ad cap b o, v = .slice ad n cap ∧ ts.length = n * c ∧ (ts = [] ∨ ad = some (⟨b, o, none⟩ : Addr)) ∧ Cells σ b o ts := by
  have hl := h.len
  obtain ⟨us, h1, h2, h3, h4⟩ := h
  rcases h1.2 with ⟨rfl, rfl⟩ | ⟨g, cap, cur, rfl, _⟩
  · have : ts = [] := List.eq_nil_of_length_eq_zero (by omega)
    subst this
    exact ⟨none, 0, 0, 0, rfl, by simp, .inl rfl, fun j T hj => by simp at hj⟩
  · refine ⟨_, cap, g, 0, rfl, hl, .inr rfl, fun j T hj => ?_⟩
    have hlt := (List.getElem?_eq_some_iff.1 hj).1
    have hu : us[j]? = some us[j] := by simp [show j < us.length by omega]
    refine ⟨us[j], ?_, h3 j T _ hj hu⟩
    have := h1.cells (g := g) rfl j _ hu
    rwa [Addr.add_lit] at this
variable {d : Option Tmp} {ty : TypeId} {pos : String} {af : Array Edge} {g : Option (Nat × Bool)} {a : Act} {σ : GW}
theorem m_appendo {k k2 : Nat} {t e : TypeId} {z : Value} {c by_ : Nat} {x y : Operand} {n m : Nat} {ts us : List Ty} (ht : P.underlying t = some (.slice e)) (he : Info P e z c by_) (hk : 2 ≤ k) (hz : z.cells.size = c) (hc : 0 < c)
    (h : Own σ k e c (a.eval x) n ts) (hx : Own σ k2 e c (a.eval y) m us) (h1 : ∀ U, U ∈ us → One U) (hlen : n + m ≤ 9223372036854775807) (hbytes : (n + m) * by_ ≤ 140737488355328) :
    YldM k P ⟨d, .call ⟨.builtin .append, #[x, y], #[t, t]⟩, ty, pos, af, g⟩ a σ (fun v τ => Own τ k e c v (n + m) (ts ++ us)) := by
  intro K Q hk'
  obtain ⟨v', τ, hr, hs, ho⟩ := own_appendw (ty := ty) hk ht he hz hc h hx.src h1 hlen hbytes
  have hr' : (execOp a.eval ⟨d, .call ⟨.builtin .append, #[x, y], #[t, t]⟩, ty, pos, af, g⟩).run P σ.w = .ok (.value v') τ.w := by
    simp only [execOp, resolve, Sem.run_bind, Sem.run_pure, Result.andThen_ok, invoke, List.map_toArray, List.map_cons, List.map_nil, builtin, hr]
  unfold Oper.wp
  rw [hr']
  exact hk' v' τ hs ho
theorem y_ownnil {k : Nat} {x y : Operand} {t u : TypeId} {e e' : TypeId} {c n : Nat} {ts : List Ty} {v : Value} (ht : P.underlying t = some (.slice e')) (h : Own σ k e c v n ts) (hn : 0 < n) (hx : a.eval x = v) (hy : a.eval y = .slice none 0 0) :
    Yld P ⟨d, .binOp .eql t x y u, ty, pos, af, g⟩ a σ (Ty.bool false).pr := by
  obtain ⟨gg, cap, rfl, _⟩ := h.at hn
  refine Yld.of_run (v := .bool false) ?_ rfl
  simp only [execOp, hx, hy]
  have h1 := Go.Lib.run_eql_slice_nil (P := P) σ.w t e' (some ⟨gg, 0, none⟩) n cap 0 0 ht
  simp [eqGuard, run_underlying ht, h1]
/-! ### Structs of structs -/
end Go.KL

/- Plain maths: touches that are searched. -/
namespace Go.KL
structure Qst where
  met : Nat
  found : List (List Int)
  full : Bool
section
variable (n : Nat) (l : List (List Int)) (cs : List BCall) (leads many : Nat)
end
section
variable {n : Nat} {l : List (List Int)} {cs : List BCall} {leads many : Nat}
/-! ### One lead more -/
/-! ### What was met -/
variable {nm : ByteArray}
/-! ### What is answered -/
end
end Go.KL
namespace Go.KL
section
variable {n : Nat} {l : List (List Int)} {cs : List BCall} {leads many f k : Nat} {path : List Int} {s0 s : Qst}
end
end Go.KL
namespace Go.KL
section
variable {n : Nat} {l : List (List Int)} {cs : List BCall} {leads many f k : Nat} {path : List Int} {s0 s : Qst} {nm : ByteArray}
end
end Go.KL

/- What a search finds: all, in order. -/
namespace Go.KL
section
variable {nm : ByteArray} {n : Nat} {l : List (List Int)} {cs : List BCall} {leads many : Nat}
end
theorem pair_getD {L : List (List Int)} {R : List Int → List Int → Prop} (h : L.Pairwise R) {i j : Nat} (hij : i < j) (hj : j < L.length) : R (L.getD i []) (L.getD j []) := by
  have := List.pairwise_iff_getElem.1 h i j (by omega) hj hij
  simpa [show i < L.length by omega, hj] using this
theorem behind {L : List (List Int)} (h : L.Pairwise fun a b => belowL a b = true) {m : Nat} (hm : 1 ≤ m) {g : List Int} (hg : g ∈ L) (hn : g ∉ L.take m) : (L.take m).length = m ∧ belowL ((L.take m).getD (m - 1) []) g = true := by
  have hg2 : g ∈ L.drop m := by
    rw [← List.take_append_drop m L, List.mem_append] at hg
    exact hg.resolve_left hn
  obtain ⟨j, hj, rfl⟩ := List.getElem_of_mem hg2
  rw [List.length_drop] at hj
  have hlen : (L.take m).length = m := by rw [List.length_take]; omega
  refine ⟨hlen, ?_⟩
  have := pair_getD h (i := m - 1) (j := m + j) (by omega) (by omega)
  rw [List.getElem_drop]
  rw [getD_takeD [] (by omega)]
  simpa [show m + j < L.length by omega] using this
/-! ### What is made of raw numbers -/
end Go.KL

/- Touches there and back: what is printed of leads is read as these. -/
namespace Go.KL
open Go.RowKit Go.Lib
structure Sgn (cs : List BCall) : Prop where
  lo : ∀ k, k < cs.length → 58 ≤ (cs.getD k D0).1 ∧ (cs.getD k D0).1 < 128
  un : ∀ j k, j < k → k < cs.length → (cs.getD j D0).1 ≠ (cs.getD k D0).1
def sgn (cs : List BCall) (x : Int) : Int := (cs.getD x.toNat D0).1
def pcL (cs : List BCall) (n : Nat) (x : Int) : List UInt8 := (if 1 < n then decL n else []) ++ [bt (sgn cs x)]
def prL (cs : List BCall) : Nat → List Int → List UInt8
  | _, [] => []
  | n, x :: r => if (r ≠ [] ∧ r.getD 0 0 = x) ∧ n + 1 < 99 then prL cs (n + 1) r else pcL cs (n + 1) x ++ prL cs 0 r
def rn (l : List UInt8) : List Int := l.map fun b => ((b.toNat : Nat) : Int)
theorem rn_app (a b : List UInt8) : rn (a ++ b) = rn a ++ rn b := List.map_append
theorem bsL_app (a b : List UInt8) : bsL (a ++ b) = bsL a ++ bsL b := by apply ByteArray.ext; simp [bsL]
theorem bt_toNat {c : Int} (h0 : 0 ≤ c) (h : c < 256) : (((bt c).toNat : Nat) : Int) = c := by
  unfold bt
  have : c.toNat.toUInt8.toNat = c.toNat := by simp; omega
  rw [this, Int.toNat_of_nonneg h0]
section
variable {cs : List BCall}
theorem prR_L (hs : Sgn cs) : ∀ (n : Nat) (l : List Int), (∀ k, k < l.length → 0 ≤ l.getD k 0 ∧ l.getD k 0 < (cs.length : Int)) → prR cs n l = bsL (prL cs n l)
  | _, [], _ => rfl
  | n, x :: r, h => by
    have hr : ∀ k, k < r.length → 0 ≤ r.getD k 0 ∧ r.getD k 0 < (cs.length : Int) := fun k hk => by
      have := h (k + 1) (by simp; omega)
      simpa using this
    have hx := h 0 (by simp)
    simp only [List.getD_cons_zero] at hx
    rw [prR, prL]
    split
    · exact prR_L hs (n + 1) r hr
    · have hl := hs.lo x.toNat (by omega)
      have e : Utf8.encode (cs.getD x.toNat D0).1 = bsL [bt (sgn cs x)] := by
        apply ByteArray.ext
        apply Array.ext'
        rw [enc_1 (by omega) (by omega)]
        rfl
      rw [prR_L hs 0 r hr, bsL_app]
      congr 1
      unfold pcB pcL
      rw [bsL_app, e]
      congr 1
      split
      · rfl
      · rfl
theorem decL_lo (n : Nat) (h : n < 100) : ∀ b ∈ decL n, b.toNat < 128 := by
  have : ∀ m : Fin 100, ∀ b ∈ decL m.val, b.toNat < 128 := by decide +kernel
  exact this ⟨n, h⟩
theorem pcL_lo (hs : Sgn cs) {n : Nat} {x : Int} (hn : n < 100) (hx : 0 ≤ x ∧ x < (cs.length : Int)) : ∀ b ∈ pcL cs n x, b.toNat < 128 := by
  intro b hb
  have hl := hs.lo x.toNat (by omega)
  unfold pcL at hb
  rcases List.mem_append.1 hb with h | h
  · split at h
    · exact decL_lo n hn b h
    · cases h
  · rw [List.mem_singleton.1 h]
    have := bt_toNat (c := sgn cs x) (by unfold sgn; omega) (by unfold sgn; omega)
    have h2 : sgn cs x < 128 := hl.2
    omega
theorem prL_lo (hs : Sgn cs) : ∀ (n : Nat) (l : List Int), n ≤ 98 → (∀ k, k < l.length → 0 ≤ l.getD k 0 ∧ l.getD k 0 < (cs.length : Int)) → ∀ b ∈ prL cs n l, b.toNat < 128
  | _, [], _, _ => fun b hb => by cases hb
  | n, x :: r, hn, h => by
    have hr : ∀ k, k < r.length → 0 ≤ r.getD k 0 ∧ r.getD k 0 < (cs.length : Int) := fun k hk => by
      have := h (k + 1) (by simp; omega)
      simpa using this
    have hx := h 0 (by simp)
    simp only [List.getD_cons_zero] at hx
    intro b hb
    rw [prL] at hb
    split at hb
    · exact prL_lo hs (n + 1) r (by omega) hr b hb
    · rcases List.mem_append.1 hb with h1 | h1
      · exact pcL_lo hs (by omega) hx b h1
      · exact prL_lo hs 0 r (by omega) hr b h1
theorem num_none {c : Int} {r : List Int} (h : ¬ (48 ≤ c ∧ c ≤ 57)) (n : Int) (b : Bool) : numR n b (c :: r) = ⟨0, n, b, c :: r⟩ := by rw [numR, if_neg h]
theorem num_dec {n : Nat} {c : Int} {r : List Int} (h1 : 1 ≤ n) (h : n < 100) (hc : ¬ (48 ≤ c ∧ c ≤ 57)) : numR 0 false (rn (decL n) ++ c :: r) = ⟨0, (n : Int), true, c :: r⟩ := by
  by_cases hn : n < 10
  · have e : rn (decL n) = [48 + (n : Int)] := by
      have : ∀ m : Fin 10, rn (decL m.val) = [48 + (m.val : Int)] := by decide +kernel
      exact this ⟨n, hn⟩
    rw [e, List.singleton_append, numR, if_pos (by omega), if_neg (by omega), num_none hc]
    congr 1; omega
  · have e : rn (decL n) = [48 + ((n / 10 : Nat) : Int), 48 + ((n % 10 : Nat) : Int)] := by
      have : ∀ m : Fin 100, ¬ m.val < 10 → rn (decL m.val) = [48 + ((m.val / 10 : Nat) : Int), 48 + ((m.val % 10 : Nat) : Int)] := by decide +kernel
      exact this ⟨n, h⟩ hn
    rw [e, List.cons_append, numR, if_pos (by omega), if_neg (by omega), List.singleton_append, numR, if_pos (by omega), if_neg (by omega), num_none hc]
    congr 1; omega
theorem sgn_at (hs : Sgn cs) {x : Int} (hx : 0 ≤ x ∧ x < (cs.length : Int)) : sgn cs x ∈ sgOf cs ∧ indexL (sgOf cs) (sgn cs x) = x := by
  have := sign_at (cs := cs) (c := sgn cs x) (k := x.toNat) (by omega) (fun j hj => hs.un j x.toNat hj (by omega)) rfl
  exact ⟨this.1, by rw [this.2]; omega⟩
theorem repL_single (n : Nat) (x : Int) : repL n [x] = List.replicate n x := by
  induction n with
  | zero => rfl
  | succ n ih => rw [repL_succ, ih, List.replicate_succ']
theorem it_piece (hs : Sgn cs) {deep n : Nat} {x : Int} {tl : List Int} (h1 : 1 ≤ n) (h : n < 100) (hx : 0 ≤ x ∧ x < (cs.length : Int)) :
    itM (sgOf cs) deep (rn (pcL cs n x) ++ tl) = ⟨0, List.replicate n x, tl⟩ := by
  have hl := hs.lo x.toNat (by omega)
  have hsg : 58 ≤ sgn cs x ∧ sgn cs x < 128 := hl
  have e : rn (pcL cs n x) ++ tl = rn (if 1 < n then decL n else []) ++ sgn cs x :: tl := by
    unfold pcL
    rw [rn_app, List.append_assoc]
    congr 1
    show (((bt (sgn cs x)).toNat : Nat) : Int) :: tl = _
    rw [bt_toNat (by omega) (by omega)]
  have hs1 := sgn_at hs hx
  have one : oneM (sgOf cs) (parM (sgOf cs)) deep (sgn cs x :: tl) = ⟨0, [x], tl⟩ := by
    have h40 : ¬ (sgn cs x :: tl).getD 0 0 = 40 := by show ¬ sgn cs x = 40; omega
    rw [one_sign h40 (by
      show ¬ (sgn cs x ∉ sgOf cs ∨ sgn cs x < 0)
      rintro (h_ | h_)
      · exact h_ hs1.1
      · omega)]
    show (⟨0, [indexL (sgOf cs) (sgn cs x)], tl⟩ : ItP) = _
    rw [hs1.2]
  rw [e]
  by_cases hn : 1 < n
  · rw [if_pos hn]
    have hnum := num_dec (n := n) (c := sgn cs x) (r := tl) h1 h (by omega)
    rw [it_rp hnum (by simp) (by rw [one]), one, if_pos rfl, rp_ok (by simp; omega), Int.toNat_natCast, repL_single]
  · rw [if_neg hn]
    have hn1 : n = 1 := by omega
    have hnum : numR 0 false (rn [] ++ sgn cs x :: tl) = ⟨0, 0, false, sgn cs x :: tl⟩ := num_none (by omega) 0 false
    rw [it_rp hnum (by simp) (by rw [one]), one, if_neg (by simp), rp_ok (by simp), hn1]
    rfl
theorem rn_piece_ne (hs : Sgn cs) {n : Nat} {x : Int} {tl : List Int} (h : n < 100) (hx : 0 ≤ x ∧ x < (cs.length : Int)) : ¬ (rn (pcL cs n x) ++ tl = [] ∨ (rn (pcL cs n x) ++ tl).getD 0 0 = 41) := by
  have hl := hs.lo x.toNat (by omega)
  have hsg : 58 ≤ sgn cs x ∧ sgn cs x < 128 := hl
  unfold pcL
  split
  · rename_i hn
    have hd : ∀ m : Fin 100, 1 < m.val → rn (decL m.val) ≠ [] ∧ (rn (decL m.val)).getD 0 0 ≠ 41 := by decide +kernel
    have h2 := hd ⟨n, h⟩ hn
    simp only at h2
    obtain ⟨c, r, e⟩ := List.exists_cons_of_ne_nil h2.1
    have h3 := h2.2
    rw [e] at h3
    rw [rn_app, e]
    rintro (h_ | h_)
    · simp at h_
    · exact h3 h_
  · rintro (h_ | h_)
    · simp [rn] at h_
    · have : (((bt (sgn cs x)).toNat : Nat) : Int) = 41 := h_
      rw [bt_toNat (by omega) (by omega)] at this
      omega
theorem par_print (hs : Sgn cs) {deep : Nat} {tl : List Int} : ∀ (l : List Int) (n : Nat) (out : List Int), n ≤ 98 → (0 < n → l ≠ []) → (∀ k, k < l.length → 0 ≤ l.getD k 0 ∧ l.getD k 0 < (cs.length : Int)) → out.length + n + l.length ≤ 400 →
    parM (sgOf cs) deep out (rn (prL cs n l) ++ tl) = parM (sgOf cs) deep (out ++ List.replicate n (l.getD 0 0) ++ l) tl
  | [], n, out, _, hn, _, _ => by
    have : n = 0 := by
      rcases Nat.eq_zero_or_pos n with h | h
      · exact h
      · exact absurd rfl (hn h)
    subst this
    simp [prL, rn]
  | x :: r, n, out, hn, _, h, hlen => by
    have hr : ∀ k, k < r.length → 0 ≤ r.getD k 0 ∧ r.getD k 0 < (cs.length : Int) := fun k hk => by
      have := h (k + 1) (by simp; omega)
      simpa using this
    have hx := h 0 (by simp)
    simp only [List.getD_cons_zero] at hx ⊢
    simp only [List.length_cons] at hlen
    rw [prL]
    split
    · rename_i hc
      rw [par_print hs r (n + 1) out (by omega) (fun _ => hc.1.1) hr (by omega), hc.1.2]
      congr 1
      rw [List.replicate_succ']
      simp
    · have hp := it_piece hs (deep := deep) (n := n + 1) (x := x) (tl := rn (prL cs 0 r) ++ tl) (by omega) (by omega) hx
      have hne := rn_piece_ne hs (n := n + 1) (x := x) (tl := rn (prL cs 0 r) ++ tl) (by omega) hx
      rw [rn_app, List.append_assoc]
      have hg := x_go (deep := deep) (out := out) rfl hne hp (by simp; omega)
      rw [← hg, par_print hs r 0 (out ++ List.replicate (n + 1) x) (by omega) (fun h => absurd h (by omega)) hr (by simp; omega)]
      congr 1
      rw [List.replicate_succ']
      simp
theorem prL_len (n : Nat) (l : List Int) : (prL cs n l).length ≤ 3 * l.length := by
  induction l generalizing n with
  | nil => simp [prL]
  | cons x r ih =>
    rw [prL]
    split
    · have := ih (n + 1); simp; omega
    · have h1 := ih 0
      have h2 : (pcL cs (n + 1) x).length ≤ 3 := by
        unfold pcL
        split
        · have : (decL (n + 1)).length ≤ 2 := by unfold decL; split <;> simp
          simp; omega
        · simp
      simp only [List.length_append, List.length_cons]; omega
theorem there {l : List Int} (hs : Sgn cs) (h1 : 1 ≤ l.length) (h2 : l.length ≤ 60) (hv : ∀ k, k < l.length → 0 ≤ l.getD k 0 ∧ l.getD k 0 < (cs.length : Int)) :
    (ptM (sgOf cs) (ptT cs l)).err = 0 ∧ (ptM (sgOf cs) (ptT cs l)).out = l := by
  have hg := pt_good (cs := cs) (l := l) (by omega) hv
  rw [hg.2, prR_L hs 0 l hv]
  have hL := asc_runs (prL_lo hs 0 l (by omega) hv)
  have hsz : ¬ 4000 < (bsL (prL cs 0 l)).size := by rw [bsL_size]; have := prL_len (cs := cs) 0 l; omega
  have hp : parM (sgOf cs) 0 [] (runsL (bsL (prL cs 0 l))) = ⟨0, l, []⟩ := by
    rw [hL]
    have := par_print hs (deep := 0) (tl := []) l 0 [] (by omega) (fun h => absurd h (by omega)) hv (by simp; omega)
    rw [List.append_nil] at this
    show parM _ _ _ (rn _) = _
    rw [this, par_stop (.inl rfl)]
    simp
  rw [pt_ok hsz hp.symm rfl rfl (by intro e; simp only at e; rw [e] at h1; simp at h1)]
  exact ⟨rfl, rfl⟩
end
end Go.KL

/- A text cut at each byte of a kind. -/
namespace Go.KL
open Go.Lib
def cutL (c : UInt8) : List UInt8 → List (List UInt8)
  | [] => [[]]
  | b :: r => if b = c then [] :: cutL c r else match cutL c r with | [] => [[b]] | p :: ps => (b :: p) :: ps
def addH (a : List UInt8) : List (List UInt8) → List (List UInt8)
  | [] => [a]
  | p :: ps => (a ++ p) :: ps
theorem cutL_ne {c : UInt8} : ∀ {l : List UInt8}, cutL c l ≠ []
  | [] => by simp [cutL]
  | b :: r => by
    unfold cutL
    split
    · simp
    · split <;> simp
theorem addH_nil {c : UInt8} {l : List UInt8} : addH [] (cutL c l) = cutL c l := by
  cases h : cutL c l with
  | nil => exact absurd h cutL_ne
  | cons p ps => rfl
theorem addH_yes {c : UInt8} {a r : List UInt8} : addH a (cutL c (c :: r)) = a :: cutL c r := by
  rw [cutL, if_pos rfl]; simp [addH]
theorem addH_no {b c : UInt8} {a r : List UInt8} (h : b ≠ c) : addH a (cutL c (b :: r)) = addH (a ++ [b]) (cutL c r) := by
  rw [cutL, if_neg h]
  cases e : cutL c r with
  | nil => exact absurd e cutL_ne
  | cons p ps => simp [addH]
theorem cut_none {c : UInt8} : ∀ {l : List UInt8}, indexByte l c = -1 → cutL c l = [l]
  | [], _ => rfl
  | b :: r, h => by
    unfold indexByte at h
    split at h
    · cases h
    · rename_i hb
      have hbc : b ≠ c := by simpa using hb
      split at h
      · rename_i h1
        have h1' : indexByte r c = -1 := by simpa using h1
        rw [cutL, if_neg hbc, cut_none h1']
      · have := indexByte_ge r c
        rename_i h1
        have h1' : ¬ indexByte r c = -1 := by simpa using h1
        omega
theorem cut_at {c : UInt8} : ∀ {l : List UInt8} {o : Nat}, indexByte l c = o → cutL c l = l.take o :: cutL c (l.drop (o + 1))
  | [], o, h => by simp [indexByte] at h
  | b :: r, o, h => by
    unfold indexByte at h
    split at h
    · rename_i hb
      have hbc : b = c := by simpa using hb
      have : o = 0 := by omega
      subst this
      rw [cutL, if_pos hbc]; rfl
    · rename_i hb
      have hbc : b ≠ c := by simpa using hb
      split at h
      · omega
      · have h2 := indexByte_ge r c
        rename_i h1
        have h1' : ¬ indexByte r c = -1 := by simpa using h1
        obtain ⟨k, rfl⟩ : ∃ k, o = k + 1 := ⟨o - 1, by omega⟩
        have h3 : indexByte r c = k := by omega
        rw [cutL, if_neg hbc, cut_at h3]
        simp
theorem ix_count {c : UInt8} : ∀ {l : List UInt8}, indexByte l c = -1 ↔ l.count c = 0
  | [] => by simp [indexByte]
  | b :: r => by
    have ih := ix_count (c := c) (l := r)
    have hg := indexByte_ge r c
    unfold indexByte
    rw [List.count_cons]
    by_cases hb : (b == c) = true
    · simp [hb]
    · simp only [hb]
      by_cases h1 : indexByte r c = -1
      · simp [h1, ih.1 h1]
      · have : ¬ r.count c = 0 := fun e => h1 (ih.2 e)
        simp [h1]
        omega
theorem count_at {c : UInt8} : ∀ {l : List UInt8} {o : Nat}, indexByte l c = o → l.count c = (l.drop (o + 1)).count c + 1 ∧ o < l.length
  | [], o, h => by simp [indexByte] at h
  | b :: r, o, h => by
    unfold indexByte at h
    split at h
    · rename_i hb
      have hbc : b = c := by simpa using hb
      have : o = 0 := by omega
      subst this
      subst hbc
      simp
    · rename_i hb
      have hbc : b ≠ c := by simpa using hb
      split at h
      · omega
      · have h2 := indexByte_ge r c
        rename_i h1
        have h1' : ¬ indexByte r c = -1 := by simpa using h1
        obtain ⟨k, rfl⟩ : ∃ k, o = k + 1 := ⟨o - 1, by omega⟩
        obtain ⟨h4, h5⟩ := count_at (l := r) (c := c) (o := k) (by omega)
        rw [List.count_cons_of_ne hbc]
        simp only [List.drop_succ_cons, List.length_cons]
        exact ⟨h4, by omega⟩
def cutT (c : UInt8) (s : ByteArray) : List ByteArray := (cutL c s.data.toList).map bsL
theorem bsL_data (s : ByteArray) : bsL s.data.toList = s := by apply ByteArray.ext; simp [bsL]
theorem data_bsL (l : List UInt8) : (bsL l).data.toList = l := by simp [bsL]
theorem ext_bsL (s : ByteArray) (i j : Nat) : s.extract i j = bsL ((s.data.toList.take j).drop i) := by
  apply ByteArray.ext
  apply Array.ext'
  simp [bsL, ByteArray.data_extract, List.extract_eq_take_drop, List.drop_take]
end Go.KL
namespace Go.KL
section
variable {P : Program} {d : Option Tmp} {ty : TypeId} {pos : String} {af : Array Edge} {g : Option (Nat × Bool)} {a : Act} {σ : GW}
theorem y_min {x y : Operand} {t : Array TypeId} {m n : Int} (hx : a.eval x = .int .i64 m) (hy : a.eval y = .int .i64 n) : Yld P ⟨d, .call ⟨.builtin .min, #[x, y], t⟩, ty, pos, af, g⟩ a σ (Ty.int (min m n)).pr := by
  refine Yld.of_run (v := .int .i64 (min m n)) ?_ rfl
  have hx' := hx
  have hy' := hy
  have hb : ∀ cs, (builtin .min t ty cs #[.int .i64 m, .int .i64 n]).run P σ.w = .ok (.value (.int .i64 (min m n))) σ.w := by
    intro cs
    simp only [builtin, Builtin.min_, List.foldlM, Builtin.min2]
    simp [go_sem]
    omega
  simp only [execOp, resolve, Sem.run_bind, Sem.run_pure, Result.andThen_ok, invoke, List.map_toArray, List.map_cons, List.map_nil, hx, hy]
  exact hb _
end
end Go.KL
namespace Go.KL
open Go.Lib
theorem ext_head {l : List UInt8} {m k : Nat} (h : k = m) : (bsL l).extract 0 k = bsL (l.take m) := by
  rw [h, ext_bsL, data_bsL, List.drop_zero]
theorem ext_tail {l : List UInt8} {m k : Nat} (h : k = m) : (bsL l).extract k (bsL l).size = bsL (l.drop m) := by
  rw [h, ext_bsL, data_bsL, bsL_size, List.take_length]
variable {ys T : List ByteArray} {l : List UInt8} {i m : Nat} {c : UInt8} {v : ByteArray}
theorem set_take (hi : i < ys.length) : (ys.set i v).take (i + 1) = ys.take i ++ [v] := by
  rw [List.take_add_one, List.getElem?_set_self hi]
  rw [List.take_set_of_le (Nat.le_refl i)]
  rfl
theorem sp_go (hq : ys.take i ++ (cutL c l).map bsL = T) (hm : indexByte l c = m) (hi : i < ys.length) (hv : v = bsL (l.take m)) : (ys.set i v).take (i + 1) ++ (cutL c (l.drop (m + 1))).map bsL = T := by
  rw [set_take hi, hv, ← hq, cut_at hm]
  simp
theorem sp_end (hq : ys.take i ++ (cutL c l).map bsL = T) (hc : l.count c = 0) (hi : i < ys.length) : (ys.set i (bsL l)).take (i + 1) = T := by
  rw [set_take hi, ← hq, cut_none (ix_count.2 hc)]
  rfl
end Go.KL
namespace Go.KL
variable {ys T : List ByteArray} {L : List UInt8} {i j : Nat} {s : ByteArray}
theorem ct_0 {c : UInt8} : [] ++ (addH ((s.data.toList.take 0).drop 0) (cutL c (s.data.toList.drop 0))).map bsL = cutT c s := by
  rw [List.take_zero, List.drop_zero, List.drop_zero, addH_nil]; rfl
theorem drop_b (hi : i < L.length) : L.drop i = L[i] :: L.drop (i + 1) := List.drop_eq_getElem_cons hi
theorem take_b (hi : i < L.length) (hj : j ≤ i) : (L.take (i + 1)).drop j = (L.take i).drop j ++ [L[i]] := by
  rw [List.take_add_one, List.getElem?_eq_getElem hi, List.drop_append_of_le_length (by rw [List.length_take]; omega)]
  rfl
theorem get_L {L : List UInt8} (hL : L = s.data.toList) (hi : i < L.length) : s.get! i = L[i] := by
  subst hL
  exact get_list (by simpa using hi)
end Go.KL
namespace Go.KL
variable {ys T : List ByteArray} {L : List UInt8} {i j : Nat} {s : ByteArray}
theorem ct_yes (hq : ys ++ (addH ((L.take i).drop j) (cutL 124 (L.drop i))).map bsL = T) (hc : (s.get! i).toNat = 124) (hi : i < L.length) (hL : L = s.data.toList) : (ys ++ [s.extract j i]) ++ (addH ((L.take (i + 1)).drop (i + 1)) (cutL 124 (L.drop (i + 1)))).map bsL = T := by
  have hb : L[i] = 124 := UInt8.toNat_inj.1 (by rw [← get_L hL hi, hc]; rfl)
  rw [drop_b hi, hb, addH_yes] at hq
  rw [List.drop_eq_nil_of_le (by rw [List.length_take]; omega), addH_nil, ext_bsL, ← hL, ← hq]
  simp
theorem ct_no (hq : ys ++ (addH ((L.take i).drop j) (cutL 124 (L.drop i))).map bsL = T) (hc : (s.get! i).toNat ≠ 124) (hj : j ≤ i) (hi : i < L.length) (hL : L = s.data.toList) : ys ++ (addH ((L.take (i + 1)).drop j) (cutL 124 (L.drop (i + 1)))).map bsL = T := by
  have hb : L[i] ≠ 124 := fun e => hc (by rw [get_L hL hi, e]; rfl)
  rw [drop_b hi, addH_no hb] at hq
  rw [take_b hi hj, hq]
theorem ct_end (hq : ys ++ (addH ((L.take i).drop j) (cutL 124 (L.drop i))).map bsL = T) (hi : i = L.length) (hL : L = s.data.toList) : ys ++ [s.extract j s.size] = T := by
  rw [hi, List.drop_length, List.take_length] at hq
  have hs : s.size = L.length := by rw [hL]; simp
  rw [ext_bsL, ← hL, hs, List.take_length, ← hq]
  simp [cutL, addH]
end Go.KL

/- Numbers of digits. -/
namespace Go.KL
def dgF (v : Int) : List UInt8 → Int
  | [] => v
  | b :: r => if b.toNat < 48 ∨ 57 < b.toNat then -1 else dgF (if 1000000000 < v * 10 + ((b.toNat : Int) - 48) then 1000000000 else v * 10 + ((b.toNat : Int) - 48)) r
def noNum (s : ByteArray) : Prop := s.size = 0 ∨ (1 < s.size ∧ (s.get! 0).toNat = 48)
instance (s : ByteArray) : Decidable (noNum s) := by unfold noNum; infer_instance
def digE (s : ByteArray) : Int := if noNum s then -1 else dgF 0 s.data.toList
variable {s : ByteArray} {i : Nat} {v T : Int} {L : List UInt8}
theorem dig_no (h : noNum s) : digE s = -1 := by unfold digE; rw [if_pos h]
theorem dig_0 (h : ¬ noNum s) (hL : L = s.data.toList) : dgF 0 (L.drop 0) = digE s := by unfold digE; rw [if_neg h, hL, List.drop_zero]
theorem dig_bad (h : dgF v (L.drop i) = T) (hL : L = s.data.toList) (hi : i < L.length) (hb : (s.get! i).toNat < 48 ∨ 57 < (s.get! i).toNat) : T = -1 := by
  rw [drop_b hi, dgF, if_pos (by rw [← get_L hL hi]; exact hb)] at h
  exact h.symm
theorem dig_go {w : Int} (h : dgF v (L.drop i) = T) (hL : L = s.data.toList) (hi : i < L.length) (hb : ¬ ((s.get! i).toNat < 48 ∨ 57 < (s.get! i).toNat)) (hw : w = if 1000000000 < v * 10 + (((s.get! i).toNat : Int) - 48) then 1000000000 else v * 10 + (((s.get! i).toNat : Int) - 48)) : dgF w (L.drop (i + 1)) = T := by
  rw [drop_b hi, dgF, ← get_L hL hi, if_neg hb, ← hw] at h
  exact h
theorem dig_end (h : dgF v (L.drop i) = T) (hi : ¬ i < L.length) : v = T := by
  rw [List.drop_eq_nil_of_le (by omega), dgF] at h
  exact h
end Go.KL
namespace Go.KL
variable {s : ByteArray}
theorem ba_size0 : s = (ByteArray.mk #[]) ↔ s.size = 0 := by
  constructor
  · rintro rfl; rfl
  · intro h
    apply ByteArray.ext
    exact Array.eq_empty_of_size_eq_zero h
theorem dn_iff : ((decide (s = (ByteArray.mk #[]))) || ((decide ((1 : Int) < (((ByteArray.size s) : Nat) : Int))) && (decide ((((s.get! ((0 : Int)).toNat).toNat : Nat) : Int) = (48 : Int))))) = true ↔ noNum s := by
  unfold noNum
  simp only [Bool.or_eq_true, Bool.and_eq_true, decide_eq_true_eq, ba_size0]
  rw [show ((0 : Int)).toNat = 0 from rfl]
  omega
theorem dn_c (h : ((decide (s = (ByteArray.mk #[]))) || ((decide ((1 : Int) < (((ByteArray.size s) : Nat) : Int))) && (decide ((((s.get! ((0 : Int)).toNat).toNat : Nat) : Int) = (48 : Int))))) = true) : noNum s := dn_iff.1 h
theorem dn_c0 (h : ((decide (s = (ByteArray.mk #[]))) || ((decide ((1 : Int) < (((ByteArray.size s) : Nat) : Int))) && (decide ((((s.get! ((0 : Int)).toNat).toNat : Nat) : Int) = (48 : Int))))) = false) : ¬ noNum s := fun e => by rw [dn_iff.2 e] at h; cases h
end Go.KL

/- Digits trimmed off; numbers read by the library and by the document. -/
namespace Go.KL
open Go.Lib
def isDig (b : UInt8) : Prop := 48 ≤ b.toNat ∧ b.toNat ≤ 57
theorem dropWhile_nil {α : Type} {p : α → Bool} : ∀ {l : List α}, l.dropWhile p = [] ↔ ∀ x ∈ l, p x = true
  | [] => by simp
  | x :: l => by
    rw [List.dropWhile_cons]
    by_cases h : p x = true
    · rw [if_pos h, dropWhile_nil]; simp [h]
    · rw [if_neg h]; simp [h]
theorem dropWhile_head {α : Type} {p : α → Bool} : ∀ {l : List α} {x : α} {r : List α}, l.dropWhile p = x :: r → p x = false
  | y :: l, x, r, h => by
    rw [List.dropWhile_cons] at h
    by_cases hy : p y = true
    · rw [if_pos hy] at h; exact dropWhile_head h
    · rw [if_neg hy] at h
      cases h
      simpa using hy
theorem trimS_nil {l cs : List UInt8} : trimS l cs = [] ↔ ∀ b ∈ l, cs.contains b = true := by
  unfold trimS trimLeftS trimRightS
  rw [dropWhile_nil]
  constructor
  · intro h
    cases e : l.reverse.dropWhile (cs.contains ·) with
    | nil =>
      intro b hb
      exact dropWhile_nil.1 e b (List.mem_reverse.2 hb)
    | cons x r =>
      have h1 := dropWhile_head e
      rw [e] at h
      have h2 := h x (by simp)
      rw [h1] at h2; cases h2
  · intro h
    have e : l.reverse.dropWhile (cs.contains ·) = [] := dropWhile_nil.2 fun b hb => h b (List.mem_reverse.1 hb)
    rw [e]
    intro x hx; simp at hx
theorem dig_mem (b : UInt8) : ([48, 49, 50, 51, 52, 53, 54, 55, 56, 57] : List UInt8).contains b = true ↔ isDig b := by
  have key : ∀ n, n < 256 → (([48, 49, 50, 51, 52, 53, 54, 55, 56, 57] : List UInt8).contains (UInt8.ofNat n) = true ↔ (48 ≤ n ∧ n ≤ 57)) := by decide +kernel
  have := key b.toNat (UInt8.toNat_lt b)
  rw [show UInt8.ofNat b.toNat = b by simp] at this
  exact this
/-! ### The number itself -/
def stN (a : Nat) (b : UInt8) : Nat := a * 10 + (b.toNat - 48)
def exN (a : Nat) (l : List UInt8) : Nat := l.foldl stN a
theorem exN_nil (a : Nat) : exN a [] = a := List.foldl_nil ..
theorem exN_cons (a : Nat) (b : UInt8) (r : List UInt8) : exN a (b :: r) = exN (stN a b) r := List.foldl_cons ..
theorem stN_eq (a : Nat) (b : UInt8) : stN a b = a * 10 + (b.toNat - 48) := rfl
theorem stN_le (a : Nat) (b : UInt8) : a ≤ stN a b := by unfold stN; omega
attribute [irreducible] exN stN
theorem exN_le (l : List UInt8) : ∀ a : Nat, a ≤ exN a l := by
  induction l with
  | nil => intro a; rw [exN_nil]; exact Nat.le_refl _
  | cons b r ih =>
    intro a
    rw [exN_cons]
    exact Nat.le_trans (stN_le a b) (ih (stN a b))
theorem parse_dig : ∀ (l : List UInt8) (a : Nat), (∀ b ∈ l, isDig b) → (parseUint10 a l = .ok (exN a l)) ∨ (parseUint10 a l = .range ∧ 18446744073709551616 ≤ exN a l)
  | [], a, _ => .inl (by rw [parseUint10, exN_nil])
  | b :: r, a, h => by
    have hb : 48 ≤ b.toNat ∧ b.toNat ≤ 57 := h b (by simp)
    have ih := parse_dig r (stN a b) (fun x hx => h x (by simp [hx]))
    have hle := exN_le r (stN a b)
    have hst := stN_eq a b
    rw [parseUint10, exN_cons, if_pos hb, ← hst]
    by_cases h1 : 1844674407370955162 ≤ a
    · rw [if_pos h1]
      exact .inr ⟨rfl, by omega⟩
    · rw [if_neg h1]
      by_cases h2 : 18446744073709551616 ≤ stN a b
      · rw [if_pos h2]
        exact .inr ⟨rfl, by omega⟩
      · rw [if_neg h2]
        exact ih
theorem dgF_ex : ∀ (l : List UInt8) (a : Nat), (∀ b ∈ l, isDig b) → dgF ((min a 1000000000 : Nat) : Int) l = ((min (exN a l) 1000000000 : Nat) : Int)
  | [], a, _ => by rw [exN_nil]; rfl
  | b :: r, a, h => by
    have hb := h b (by simp)
    have ih := dgF_ex r (stN a b) (fun x hx => h x (by simp [hx]))
    have hst := stN_eq a b
    unfold isDig at hb
    rw [dgF, exN_cons, if_neg (by omega), ← ih]
    congr 1
    split <;> omega
theorem atoi_dig {l : List UInt8} (hd : ∀ b ∈ l, isDig b) (hne : l ≠ []) : (∃ v : Nat, atoiAll l = .ok (v : Int) ∧ dgF 0 l = ((min v 1000000000 : Nat) : Int)) ∨ (atoiAll l = .range ∧ dgF 0 l = 1000000000) := by
  have hD := dgF_ex l 0 hd
  rw [show ((min 0 1000000000 : Nat) : Int) = 0 from rfl] at hD
  cases l with
  | nil => exact absurd rfl hne
  | cons c r =>
    have hc := hd c (by simp)
    unfold isDig at hc
    have e1 : (if c.toNat = 43 ∨ c.toNat = 45 then r else c :: r) = c :: r := if_neg (by omega)
    have hM : parseMag (c :: r) = parseUint10 0 (c :: r) := by unfold parseMag; rw [if_neg (by simp)]
    have hn : ¬ c.toNat = 45 := by omega
    rcases parse_dig (c :: r) 0 hd with h | ⟨h, h64⟩
    · by_cases hbig : 9223372036854775808 ≤ exN 0 (c :: r)
      · refine .inr ⟨?_, by rw [hD]; omega⟩
        simp only [atoiAll, e1, hM, h]
        rw [if_pos ⟨hn, hbig⟩]
      · refine .inl ⟨_, ?_, hD⟩
        simp only [atoiAll, e1, hM, h]
        rw [if_neg (fun e => hbig e.2), if_neg (fun e => hn e.1), if_neg hn]
    · refine .inr ⟨?_, by rw [hD]; omega⟩
      simp only [atoiAll, e1, hM, h]
theorem dgF_bad : ∀ (l : List UInt8) (v : Int), (∃ b ∈ l, ¬ isDig b) → dgF v l = -1
  | [], v, h => by obtain ⟨b, hb, _⟩ := h; cases hb
  | b :: r, v, h => by
    unfold dgF
    split
    · rfl
    · rename_i hb
      refine dgF_bad r _ ?_
      obtain ⟨x, hx, hn⟩ := h
      rcases List.mem_cons.1 hx with rfl | hx
      · exact absurd ⟨by omega, by omega⟩ hn
      · exact ⟨x, hx, hn⟩
end Go.KL

/- Changes as texts: what the reader does, sign by sign; that it is what the document's loop does. -/
namespace Go.KL
def incrB : List Int → Bool
  | [] => true
  | [_] => true
  | x :: y :: r => decide (x < y) && incrB (y :: r)
theorem incrB_iff : ∀ (l : List Int), incrB l = true ↔ ∀ k, k + 1 < l.length → l.getD k 0 < l.getD (k + 1) 0
  | [] => by simp [incrB]
  | [x] => by simp [incrB]
  | x :: y :: r => by
    rw [incrB, Bool.and_eq_true, decide_eq_true_eq, incrB_iff (y :: r)]
    constructor
    · rintro ⟨h1, h2⟩ k hk
      cases k with
      | zero => exact h1
      | succ k =>
        have := h2 k (by simp at hk ⊢; omega)
        simpa using this
    · intro h
      refine ⟨h 0 (by simp), fun k hk => ?_⟩
      have := h (k + 1) (by simp at hk ⊢; omega)
      simpa using this
theorem incrB_no {l : List Int} {k : Nat} (hk : k + 1 < l.length) (h : l.getD (k + 1) 0 ≤ l.getD k 0) : incrB l = false := by
  cases e : incrB l with
  | false => rfl
  | true => have := (incrB_iff l).1 e k hk; omega
def plFst (l : List Int) : List Int := if (l.getD 0 0).toNat % 2 = 0 then 1 :: l else l
def plLst (n : Int) (m : List Int) : List Int := if m.getD (m.length - 1) 0 < n ∧ (n - m.getD (m.length - 1) 0).toNat % 2 = 1 then m ++ [n] else m
def plIn (n : Int) (l : List Int) : List Int := plLst n (plFst l)
def plPutE (n : Int) (k : Nat) (l : List Int) : Int := if chgMay n l ≠ 0 then chgMay n l else if 200 < k + 1 then 3 else 0
def clE (n : Int) (blk : List (List Int)) (sm : List Int) : Int := if sm = [] then 0 else if incrB sm = false then 6 else plPutE n blk.length (plIn n sm)
def clB (n : Int) (blk : List (List Int)) (sm : List Int) : List (List Int) := if sm = [] then blk else blk ++ [plIn n sm]
def clD (sm : List Int) (d : Bool) : Bool := if sm = [] then d else true
def mirL (b : Bool) (l : List (List Int)) : List (List Int) := if b = true then l ++ (l.take (l.length - 1)).reverse else l
structure PSt where
  all : List (List Int)
  blk : List (List Int)
  mir : Bool
  sm : List Int
  dot : Bool
def enE (n : Int) (s : PSt) : Int := if clE n s.blk s.sm ≠ 0 then clE n s.blk s.sm else if clD s.sm s.dot = false then 5 else if 200 < (s.all ++ mirL s.mir (clB n s.blk s.sm)).length then 3 else 0
def enA (n : Int) (s : PSt) : List (List Int) := s.all ++ mirL s.mir (clB n s.blk s.sm)
def isX (c : Int) : Bool := decide (c = 120) || decide (c = 88) || decide (c = 45) || decide (c = 215)
def isA (f : Bool) (c : Int) : Bool := f && (decide (c = 38) || decide (c = 43))
def sgE (n : Int) (s : PSt) (f : Bool) (c : Int) : Int :=
  if isA f c = true then 0
  else if isX c = true then (if clE n s.blk s.sm ≠ 0 then clE n s.blk s.sm else plPutE n (clB n s.blk s.sm).length [])
  else if c = 46 then (if s.sm = [] ∧ s.dot = false then 4 else clE n s.blk s.sm)
  else if c = 44 then (if s.sm = [] ∧ s.dot = false then 4 else enE n s)
  else if signIdx c < 0 then (if clE n s.blk s.sm ≠ 0 then clE n s.blk s.sm else 4)
  else 0
def sgS (n : Int) (s : PSt) (f : Bool) (c : Int) : PSt :=
  if isA f c = true then { s with mir := decide (c = 38) }
  else if isX c = true then ⟨s.all, clB n s.blk s.sm ++ [[]], s.mir, [], true⟩
  else if c = 46 then ⟨s.all, clB n s.blk s.sm, s.mir, [], false⟩
  else if c = 44 then ⟨enA n s, [], false, [], false⟩
  else { s with sm := s.sm ++ [signIdx c + 1] }
def plF (n : Int) : List Int → PSt → Bool → Int × List (List Int)
  | [], s, _ => if enE n s ≠ 0 then (enE n s, []) else (0, enA n s)
  | c :: r, s, f => if sgE n s f c ≠ 0 then (sgE n s f c, []) else plF n r (sgS n s f c) (decide (c = 44))
structure QSt where
  all : List (List Int)
  blk : List (List Int)
  mir : Bool
  sm : List Int
  beg : Bool
  dot : Bool
def rfE (n : Int) (s : QSt) (c : Int) (last : Bool) : Int :=
  if 0 ≤ signIdx c then 0
  else if clE n s.blk s.sm ≠ 0 then clE n s.blk s.sm
  else if isA s.beg c = true then 0
  else if isX c = true then plPutE n (clB n s.blk s.sm).length []
  else if c = 46 then (if clB n s.blk s.sm = [] ∨ s.dot = true then 4 else 0)
  else if c = 44 then (if clB n s.blk s.sm = [] ∨ s.dot = true then (if last = true then 5 else 4) else if 200 < (s.all ++ mirL s.mir (clB n s.blk s.sm)).length then 3 else 0)
  else 4
def rfS (n : Int) (s : QSt) (c : Int) : QSt :=
  if 0 ≤ signIdx c then ⟨s.all, s.blk, s.mir, s.sm ++ [signIdx c + 1], false, false⟩
  else if isA s.beg c = true then ⟨s.all, clB n s.blk s.sm, decide (c = 38), [], false, s.dot⟩
  else if isX c = true then ⟨s.all, clB n s.blk s.sm ++ [[]], s.mir, [], false, false⟩
  else if c = 46 then ⟨s.all, clB n s.blk s.sm, s.mir, [], s.beg, true⟩
  else ⟨s.all ++ mirL s.mir (clB n s.blk s.sm), [], false, [], true, s.dot⟩
def rfF (n : Int) : List Int → QSt → Int × List (List Int)
  | [], s => (0, s.all)
  | c :: r, s => if rfE n s c r.isEmpty ≠ 0 then (rfE n s c r.isEmpty, []) else rfF n r (rfS n s c)
structure PInv (s : PSt) (f : Bool) (t : QSt) : Prop where
  all : t.all = s.all
  blk : t.blk = s.blk
  mir : t.mir = s.mir
  sm : t.sm = s.sm
  beg : t.beg = f
  b0 : f = true → s.sm = [] ∧ s.blk = [] ∧ s.dot = false ∧ t.dot = false
  d0 : s.sm = [] → (s.dot = true ↔ s.blk ≠ [] ∧ t.dot = false)
  d1 : s.sm ≠ [] → t.dot = false
theorem signIdx_spec {c : Int} (h : c = 38 ∨ c = 43 ∨ c = 44 ∨ c = 46 ∨ c = 120 ∨ c = 88 ∨ c = 45 ∨ c = 215) : signIdx c < 0 := by
  rcases h with rfl | rfl | rfl | rfl | rfl | rfl | rfl | rfl <;> decide +kernel
theorem isX_sign {c : Int} (h : isX c = true) : signIdx c < 0 := by
  simp only [isX, Bool.or_eq_true, decide_eq_true_eq] at h
  exact signIdx_spec (by omega)
theorem isA_sign {f : Bool} {c : Int} (h : isA f c = true) : signIdx c < 0 := by
  simp only [isA, Bool.and_eq_true, Bool.or_eq_true, decide_eq_true_eq] at h
  exact signIdx_spec (by omega)
theorem clB_ne {n : Int} {blk : List (List Int)} {sm : List Int} (h : sm ≠ []) : clB n blk sm ≠ [] := by unfold clB; rw [if_neg h]; simp
theorem dead_eq {s : PSt} {f : Bool} {t : QSt} {n : Int} (h : PInv s f t) : clD s.sm s.dot = false ↔ clB n s.blk s.sm = [] ∨ t.dot = true := by
  by_cases hs : s.sm = []
  · have := h.d0 hs
    unfold clD clB
    rw [if_pos hs, if_pos hs]
    constructor
    · intro hd
      by_cases hb : s.blk = []
      · exact .inl hb
      · refine .inr ?_
        cases ht : t.dot with
        | true => rfl
        | false => rw [(this.2 ⟨hb, ht⟩)] at hd; cases hd
    · intro hd
      cases ht : s.dot with
      | false => rfl
      | true =>
        have h2 := this.1 ht
        rcases hd with hd | hd
        · exact absurd hd h2.1
        · rw [h2.2] at hd; cases hd
  · have h1 := h.d1 hs
    have h2 := clB_ne (n := n) (blk := s.blk) hs
    unfold clD
    rw [if_neg hs, h1]
    simp [h2]
theorem clE_nil {n : Int} {blk : List (List Int)} : clE n blk [] = 0 := by unfold clE; rw [if_pos rfl]
theorem clB_nil {n : Int} {blk : List (List Int)} : clB n blk [] = blk := by unfold clB; rw [if_pos rfl]
theorem clD_snd {sm : List Int} {d : Bool} : clD sm d = false ↔ sm = [] ∧ d = false := by
  unfold clD
  split
  · rename_i h; simp [h]
  · rename_i h; simp [h]
theorem pl_step {n : Int} {s : PSt} {f : Bool} {t : QSt} (h : PInv s f t) (c : Int) : sgE n s f c = rfE n t c false ∧ (sgE n s f c = 0 → PInv (sgS n s f c) (decide (c = 44)) (rfS n t c)) := by
  obtain ⟨e1, e2, e3, e4, e5, hb0, hd0, hd1⟩ := h
  have hI : PInv s f t := ⟨e1, e2, e3, e4, e5, hb0, hd0, hd1⟩
  have hdead := dead_eq (n := n) hI
  by_cases hA : isA f c = true
  · have hsg := isA_sign hA
    have hf : f = true := by simp only [isA, Bool.and_eq_true] at hA; exact hA.1
    obtain ⟨h1, h2, h3, h4⟩ := hb0 hf
    have hc : c ≠ 44 := by
      simp only [isA, Bool.and_eq_true, Bool.or_eq_true, decide_eq_true_eq] at hA
      omega
    have hE : rfE n t c false = 0 := by
      unfold rfE
      rw [if_neg (by omega), e2, e4, h1, clE_nil, if_neg (by simp), e5, if_pos hA]
    have hE' : sgE n s f c = 0 := by unfold sgE; rw [if_pos hA]
    refine ⟨by rw [hE, hE'], fun _ => ?_⟩
    have hS : sgS n s f c = { s with mir := decide (c = 38) } := by unfold sgS; rw [if_pos hA]
    have hR : rfS n t c = ⟨t.all, clB n t.blk t.sm, decide (c = 38), [], false, t.dot⟩ := by unfold rfS; rw [if_neg (by omega), e5, if_pos hA]
    rw [hS, hR, e1, e2, e4, h1, clB_nil, decide_eq_false hc]
    exact ⟨rfl, rfl, rfl, rfl, rfl, fun h => by simp at h, fun _ => by simp only; rw [h2, h3, h4]; simp, fun h => absurd rfl h⟩
  · by_cases hX : isX c = true
    · have hsg := isX_sign hX
      have hc : c ≠ 44 := by
        simp only [isX, Bool.or_eq_true, decide_eq_true_eq] at hX
        omega
      have hE' : sgE n s f c = if clE n s.blk s.sm ≠ 0 then clE n s.blk s.sm else plPutE n (clB n s.blk s.sm).length [] := by unfold sgE; rw [if_neg hA, if_pos hX]
      have hE : rfE n t c false = if clE n s.blk s.sm ≠ 0 then clE n s.blk s.sm else plPutE n (clB n s.blk s.sm).length [] := by
        unfold rfE
        rw [if_neg (by omega), e2, e4, e5, if_neg hA, if_pos hX]
      refine ⟨by rw [hE, hE'], fun _ => ?_⟩
      have hS : sgS n s f c = ⟨s.all, clB n s.blk s.sm ++ [[]], s.mir, [], true⟩ := by unfold sgS; rw [if_neg hA, if_pos hX]
      have hR : rfS n t c = ⟨t.all, clB n t.blk t.sm ++ [[]], t.mir, [], false, false⟩ := by unfold rfS; rw [if_neg (by omega), e5, if_neg hA, if_pos hX]
      rw [hS, hR, e1, e2, e3, e4, decide_eq_false hc]
      exact ⟨rfl, rfl, rfl, rfl, rfl, fun h => by simp at h, fun _ => by simp, fun h => absurd rfl h⟩
    · by_cases h46 : c = 46
      · subst h46
        have hsg := signIdx_spec (c := 46) (by omega)
        have hE' : sgE n s f 46 = if s.sm = [] ∧ s.dot = false then 4 else clE n s.blk s.sm := by unfold sgE; rw [if_neg hA, if_neg hX, if_pos rfl]
        have hE : rfE n t 46 false = if clE n s.blk s.sm ≠ 0 then clE n s.blk s.sm else if clB n s.blk s.sm = [] ∨ t.dot = true then 4 else 0 := by
          unfold rfE
          rw [if_neg (by omega), e2, e4, e5, if_neg hA, if_neg hX, if_pos rfl]
        have key : sgE n s f 46 = rfE n t 46 false := by
          rw [hE, hE']
          by_cases hs : s.sm = [] ∧ s.dot = false
          · rw [if_pos hs, hs.1, clE_nil, if_neg (by simp), if_pos]
            have := hdead.1 (clD_snd.2 hs)
            rwa [hs.1] at this
          · rw [if_neg hs]
            have hno : ¬ (clB n s.blk s.sm = [] ∨ t.dot = true) := fun h => hs (clD_snd.1 (hdead.2 h))
            rw [if_neg hno]
            by_cases h0 : clE n s.blk s.sm ≠ 0
            · rw [if_pos h0]
            · rw [if_neg h0]; exact Classical.not_not.1 h0
        refine ⟨key, fun h0 => ?_⟩
        have hno : ¬ (clB n s.blk s.sm = [] ∨ t.dot = true) := fun h => by
          rw [hE', if_pos (clD_snd.1 (hdead.2 h))] at h0
          cases h0
        have hS : sgS n s f 46 = ⟨s.all, clB n s.blk s.sm, s.mir, [], false⟩ := by unfold sgS; rw [if_neg hA, if_neg hX, if_pos rfl]
        have hR : rfS n t 46 = ⟨t.all, clB n t.blk t.sm, t.mir, [], t.beg, true⟩ := by unfold rfS; rw [if_neg (by omega), e5, if_neg hA, if_neg hX, if_pos rfl, ← e5]
        have hf : f = false := by
          cases f with
          | false => rfl
          | true =>
            obtain ⟨h1, h2, _⟩ := hb0 rfl
            exact absurd (.inl (by rw [h1, clB_nil]; exact h2)) hno
        rw [hS, hR, e1, e2, e3, e4, e5, hf]
        exact ⟨rfl, rfl, rfl, rfl, rfl, fun h => by simp at h, fun _ => by simp, fun h => absurd rfl h⟩
      · by_cases h44 : c = 44
        · subst h44
          have hsg := signIdx_spec (c := 44) (by omega)
          have hE' : sgE n s f 44 = if s.sm = [] ∧ s.dot = false then 4 else enE n s := by unfold sgE; rw [if_neg hA, if_neg hX, if_neg (by decide), if_pos rfl]
          have hE : rfE n t 44 false = if clE n s.blk s.sm ≠ 0 then clE n s.blk s.sm else if clB n s.blk s.sm = [] ∨ t.dot = true then 4 else if 200 < (s.all ++ mirL s.mir (clB n s.blk s.sm)).length then 3 else 0 := by
            unfold rfE
            rw [if_neg (by omega), e1, e2, e3, e4, e5, if_neg hA, if_neg hX, if_neg (show ¬ (44 : Int) = 46 by decide), if_pos (rfl : (44 : Int) = 44)]
            simp only [Bool.false_eq_true, if_false]
          have key : sgE n s f 44 = rfE n t 44 false := by
            rw [hE, hE']
            by_cases hs : s.sm = [] ∧ s.dot = false
            · rw [if_pos hs, hs.1, clE_nil, if_neg (by simp), if_pos]
              have := hdead.1 (clD_snd.2 hs)
              rwa [hs.1] at this
            · rw [if_neg hs]
              have hno : ¬ (clB n s.blk s.sm = [] ∨ t.dot = true) := fun h => hs (clD_snd.1 (hdead.2 h))
              rw [if_neg hno]
              unfold enE
              by_cases h0 : clE n s.blk s.sm ≠ 0
              · rw [if_pos h0, if_pos h0]
              · rw [if_neg h0, if_neg h0, if_neg (fun h => hs (clD_snd.1 h))]
          refine ⟨key, fun h0 => ?_⟩
          have hno : ¬ (clB n s.blk s.sm = [] ∨ t.dot = true) := fun h => by
            rw [hE', if_pos (clD_snd.1 (hdead.2 h))] at h0
            cases h0
          have htd : t.dot = false := by
            cases e : t.dot with
            | false => rfl
            | true => exact absurd (.inr e) hno
          have hS : sgS n s f 44 = ⟨enA n s, [], false, [], false⟩ := by unfold sgS; rw [if_neg hA, if_neg hX, if_neg (by decide), if_pos rfl]
          have hR : rfS n t 44 = ⟨t.all ++ mirL t.mir (clB n t.blk t.sm), [], false, [], true, t.dot⟩ := by unfold rfS; rw [if_neg (by omega), e5, if_neg hA, if_neg hX, if_neg (by decide)]
          rw [hS, hR, e1, e2, e3, e4, htd]
          exact ⟨rfl, rfl, rfl, rfl, rfl, fun _ => ⟨rfl, rfl, rfl, rfl⟩, fun _ => by simp, fun h => absurd rfl h⟩
        · by_cases hsg : signIdx c < 0
          · have hE' : sgE n s f c = if clE n s.blk s.sm ≠ 0 then clE n s.blk s.sm else 4 := by unfold sgE; rw [if_neg hA, if_neg hX, if_neg h46, if_neg h44, if_pos hsg]
            have hE : rfE n t c false = if clE n s.blk s.sm ≠ 0 then clE n s.blk s.sm else 4 := by
              unfold rfE
              rw [if_neg (by omega), e2, e4, e5, if_neg hA, if_neg hX, if_neg h46, if_neg h44]
            refine ⟨by rw [hE, hE'], fun h0 => ?_⟩
            exfalso
            rw [hE'] at h0
            split at h0
            · rename_i h1; exact h1 h0
            · cases h0
          · have hE' : sgE n s f c = 0 := by unfold sgE; rw [if_neg hA, if_neg hX, if_neg h46, if_neg h44, if_neg hsg]
            have hE : rfE n t c false = 0 := by unfold rfE; rw [if_pos (by omega)]
            refine ⟨by rw [hE, hE'], fun _ => ?_⟩
            have hS : sgS n s f c = { s with sm := s.sm ++ [signIdx c + 1] } := by unfold sgS; rw [if_neg hA, if_neg hX, if_neg h46, if_neg h44]
            have hR : rfS n t c = ⟨t.all, t.blk, t.mir, t.sm ++ [signIdx c + 1], false, false⟩ := by unfold rfS; rw [if_pos (by omega)]
            rw [hS, hR, e1, e2, e3, e4, decide_eq_false h44]
            exact ⟨rfl, rfl, rfl, rfl, rfl, fun h => by simp at h, fun h => by simp at h, fun _ => rfl⟩
theorem pl_end {n : Int} {s : PSt} {f : Bool} {t : QSt} (h : PInv s f t) : enE n s = rfE n t 44 true ∧ (rfS n t 44).all = enA n s := by
  obtain ⟨e1, e2, e3, e4, e5, hb0, hd0, hd1⟩ := h
  have hdead := dead_eq (n := n) ⟨e1, e2, e3, e4, e5, hb0, hd0, hd1⟩
  have hsg := signIdx_spec (c := 44) (by omega)
  have hA : ¬ isA f 44 = true := fun h => by simp [isA] at h
  have hX : ¬ isX 44 = true := by decide
  constructor
  · have hE : rfE n t 44 true = if clE n s.blk s.sm ≠ 0 then clE n s.blk s.sm else if clB n s.blk s.sm = [] ∨ t.dot = true then 5 else if 200 < (s.all ++ mirL s.mir (clB n s.blk s.sm)).length then 3 else 0 := by
      unfold rfE
      rw [if_neg (by omega), e1, e2, e3, e4, e5, if_neg hA, if_neg hX, if_neg (show ¬ (44 : Int) = 46 by decide), if_pos (rfl : (44 : Int) = 44)]
      simp only [if_true]
    rw [hE]
    unfold enE
    by_cases h0 : clE n s.blk s.sm ≠ 0
    · rw [if_pos h0, if_pos h0]
    · rw [if_neg h0, if_neg h0]
      by_cases hd : clD s.sm s.dot = false
      · rw [if_pos hd, if_pos (hdead.1 hd)]
      · rw [if_neg hd, if_neg (fun h => hd (hdead.2 h))]
  · have hR : rfS n t 44 = ⟨t.all ++ mirL t.mir (clB n t.blk t.sm), [], false, [], true, t.dot⟩ := by unfold rfS; rw [if_neg (by omega), e5, if_neg hA, if_neg hX, if_neg (by decide)]
    rw [hR, e1, e2, e3, e4]
    rfl
theorem pl_sim {n : Int} : ∀ (r : List Int) (s : PSt) (f : Bool) (t : QSt), PInv s f t → plF n r s f = rfF n (r ++ [44]) t
  | [], s, f, t, h => by
    obtain ⟨h1, h2⟩ := pl_end (n := n) h
    rw [List.nil_append, plF, rfF, rfF, h1, h2]
    rfl
  | c :: r, s, f, t, h => by
    obtain ⟨h1, h2⟩ := pl_step (n := n) h c
    have he : (r ++ [44]).isEmpty = false := by cases r <;> rfl
    rw [List.cons_append, plF, rfF, he, ← h1]
    by_cases h0 : sgE n s f c ≠ 0
    · rw [if_pos h0, if_pos h0]
    · rw [if_neg h0, if_neg h0]
      exact pl_sim r _ _ _ (h2 (Classical.not_not.1 h0))
def ps0 : PSt := ⟨[], [], false, [], false⟩
def qs0 : QSt := ⟨[], [], false, [], true, false⟩
theorem pinv0 : PInv ps0 true qs0 := ⟨rfl, rfl, rfl, rfl, rfl, fun _ => ⟨rfl, rfl, rfl, rfl⟩, fun _ => by simp [ps0, qs0], fun h => absurd rfl h⟩
def plM (n : Int) (t : ByteArray) : Int × List (List Int) := if n < 1 ∨ 12 < n then (1, []) else if 4000 < t.size then (3, []) else plF n (runsL t) ps0 true
theorem plM_ref {n : Int} {t : ByteArray} (h1 : ¬ (n < 1 ∨ 12 < n)) (h2 : ¬ 4000 < t.size) : rfF n (runsL t ++ [44]) qs0 = plM n t := by
  unfold plM
  rw [if_neg h1, if_neg h2, pl_sim _ _ _ _ pinv0]
end Go.KL

/- 'copy' into a row that is owned; a row told several times. -/
namespace Go.KL
open Go.RowKit
variable {P : Program} {d : Option Tmp} {ty : TypeId} {pos : String} {af : Array Edge} {g : Option (Nat × Bool)} {a : Act} {σ : GW}
theorem own_copy {k : Nat} {t e : TypeId} {z : Value} {by_ : Nat} {v : Value} {n : Nat} {ts us : List Ty} {j sLen sCap : Nat} {ad : Addr} {cs : List Value} (hk : 2 ≤ k) (ht : P.underlying t = some (.slice e)) (he : Info P e z 1 by_) (ho : Own σ k e 1 v n ts) (hj : j < n)
    (hcs : cs.length = Nat.min sLen (n - j)) (hl : cs.length = us.length) (hsrc : ∀ q u, cs[q]? = some u → σ.w.cell? (ad.add q) = some u) (hT : ∀ (q : Nat) (T : Ty) (u : Value), us[q]? = some T → cs[q]? = some u → T.has σ u) (h1 : ∀ u ∈ cs, u.oneCell' = true) :
    ∃ τ : GW, (Builtin.copy_ #[t, t] ty #[sufOf v j, .slice (some ad) sLen sCap]).run P σ.w = .ok (goInt cs.length) τ.w ∧ Stp k σ τ ∧ Own τ k e 1 v n (ts.take j ++ us ++ ts.drop (j + us.length)) := by
  have hlen := ho.len
  obtain ⟨vs, r1, r2, r3, r4⟩ := ho
  rcases r1.2 with ⟨rfl, h0⟩ | ⟨gg, cap, cur, rfl, _, hg, hn, hmm, hcz, htk⟩
  · omega
  have hx : sufOf (.slice (some ⟨gg, 0, none⟩) n cap) j = .slice (some ⟨gg, j, none⟩) (n - j) (cap - j) := by
    show sliced (some ⟨gg, 0, none⟩) j n cap 1 = _
    unfold sliced
    rw [if_neg (by omega)]
    simp [Addr.add_lit]
  have hmin : cs.length ≤ n - j := by rw [hcs]; exact Nat.min_le_right _ _
  have hr := run_copy_row (P := P) σ.w t t ty e gg j (n - j) (cap - j) ad sLen sCap cur e cs ht (by obtain ⟨i, hi, _, hi2, _⟩ := he.get; rw [hi]; simp [hi2]) hg hcs hsrc (by omega) h1
  rw [hx]
  refine ⟨σ.setRow gg (cur.toList.take j ++ cs ++ cur.toList.drop (j + cs.length)).toArray, hr, Stp.setRow (r4 gg rfl) (by omega), ?_⟩
  have hstp : Stp k σ (σ.setRow gg (cur.toList.take j ++ cs ++ cur.toList.drop (j + cs.length)).toArray) := Stp.setRow (r4 gg rfl) (by omega)
  have hle := hstp.le (by omega)
  have hvs : vs = cur.toList.take n := by rw [← htk, Nat.mul_one]
  have hcl : cur.toList.length = cap := by rw [Array.length_toList, hcz, Nat.mul_one]
  refine Own.intro (us := vs.take j ++ cs ++ vs.drop (j + cs.length)) (setRow_heap σ.w gg cur _ e (0, 0) hg) (r4 gg rfl) hn hmm ?_ ?_ ?_ ?_
  · simp only [List.size_toArray, List.length_append, List.length_take, List.length_drop]; omega
  · rw [hvs, Nat.mul_one]
    apply List.ext_getElem?
    intro q
    simp only [List.getElem?_append, List.getElem?_take, List.getElem?_drop, List.length_append, List.length_take, List.length_drop, hcl, Nat.min_eq_left (show j ≤ cap by omega), Nat.min_eq_left (show j ≤ min n cap by omega)]
    repeat' split
    all_goals first | rfl | (exfalso; omega) | (congr 1; omega) | (rw [List.getElem?_eq_none (by simp only [Array.length_toList, hcz]; omega)])
  · simp only [List.length_append, List.length_take, List.length_drop]; omega
  · have hvT : ∀ (q : Nat) (T : Ty) (u : Value), ts[q]? = some T → vs[q]? = some u → T.has (σ.setRow gg (cur.toList.take j ++ cs ++ cur.toList.drop (j + cs.length)).toArray) u := fun q T u h1 h2 => T.up hle (r3 q T u h1 h2)
    refine typed_append (by simp only [List.length_append, List.length_take]; omega) (typed_append (by simp only [List.length_take]; omega) ?_ (fun q T u h1 h2 => T.up hle (hT q T u h1 h2))) ?_
    · intro q T u h1 h2
      rw [List.getElem?_take] at h1 h2
      split at h1
      · rename_i hq; rw [if_pos hq] at h2; exact hvT q T u h1 h2
      · cases h1
    · intro q T u h1 h2
      rw [List.getElem?_drop] at h1 h2
      rw [← hl] at h1
      exact hvT _ T u h1 h2
def Pr.cpd (k : Nat) (e : TypeId) (n : Nat) (w : Value) (m : Nat) (ts : List Ty) : Pr := ⟨fun σ v => v = .int .i64 (m : Int) ∧ Own σ k e 1 w n ts, fun hs h => ⟨h.1, h.2.keep hs (by decide) (.inl rfl)⟩⟩
def SlForm (v : Value) (n : Nat) : Prop := ∃ ad cap, v = .slice ad n cap ∧ n ≤ cap ∧ cap ≤ 9223372036854775807
section
variable {x y : Operand} {n : Nat} {t e' : TypeId} {z v : Value} {b : Nat} {ki : IntKind} (ht : P.underlying t = some (.slice e')) (he : Info P e' z 1 b) (ho : SlForm v n) (hx : a.eval x = v)
include ht he ho hx
theorem y_preF {i : Nat} (hy : a.eval y = .int ki i) (hi : i ≤ n) : Yld P ⟨d, .slice t x none (some y) none, ty, pos, af, g⟩ a σ (Ty.val (preOf v i)).pr := by
  obtain ⟨ad, cap, rfl, hn, hm⟩ := ho
  refine Yld.of_run (v := sliced ad 0 i cap 1) ?_ ?_
  · have h1 := run_slice_h (P := P) σ.w t ad n cap (elem_of ht) ki (i : Int) (by omega) (by omega)
    rw [elem_eq ht, he.size] at h1
    simp only [execOp, hx, hy, Option.map_some, Option.map_none, Sem.run_bind, run_sliceAt_slice σ.w t _ _ _ _ (elem_of ht), h1, Result.andThen_ok, Sem.run_pure, Int.toNat_natCast]
  · show sliced ad 0 i cap 1 = preOf _ i
    unfold sliced preOf
    cases ad <;> simp [Addr.add_zero']
theorem y_sufF {j : Nat} (hy : a.eval y = .int ki j) (hj : j ≤ n) : Yld P ⟨d, .slice t x (some y) none none, ty, pos, af, g⟩ a σ (Ty.val (sufOf v j)).pr := by
  obtain ⟨ad, cap, rfl, hn, hm⟩ := ho
  refine Yld.of_run (v := sliced ad j n cap 1) ?_ rfl
  have h1 := run_slice_l (P := P) σ.w t ad n cap (elem_of ht) ki (j : Int) (by omega) (by omega)
  rw [elem_eq ht, he.size] at h1
  simp only [execOp, hx, hy, Option.map_some, Option.map_none, Sem.run_bind, run_sliceAt_slice σ.w t _ _ _ _ (elem_of ht), h1, Result.andThen_ok, Sem.run_pure, Int.toNat_natCast]
end
theorem Own.suf0 {k : Nat} {e : TypeId} {n : Nat} {v : Value} {ts : List Ty} (h : Own σ k e 1 v n ts) (hn : 0 < n) : sufOf v 0 = v := by
  obtain ⟨g, cap, rfl, _, _⟩ := h.at hn
  have hc : n ≤ cap := h.cap
  show sliced (some ⟨g, 0, none⟩) 0 n cap 1 = _
  unfold sliced
  rw [if_neg (by omega)]
  simp [Addr.add_zero']
/-! Some arithmetic of 64 bits without a sign. -/
/-! A row told several times. -/
end Go.KL

/- One put into a row that is owned (slices.Insert), and doubles taken out (slices.Compact): cuts beyond the length, copies within a row and from row to row. -/
namespace Go.KL
open Go.RowKit
variable {P : Program} {d : Option Tmp} {ty : TypeId} {pos : String} {af : Array Edge} {g : Option (Nat × Bool)} {a : Act} {σ : GW}
def capOf (v : Value) : Nat := match v with | .slice _ _ cap => cap | _ => 0
def Ty.any : Ty := ⟨fun _ _ => True, fun _ h => h⟩
theorem y_capO {k : Nat} {x : Operand} {n : Nat} {ts : List Ty} {t e e' : TypeId} {v : Value} (ht : P.underlying t = some (.slice e')) (ho : Own σ k e 1 v n ts) (hx : a.eval x = v) : Yld P ⟨d, .call ⟨.builtin .cap, #[x], #[t]⟩, ty, pos, af, g⟩ a σ (Ty.nat (capOf v)).pr := by
  obtain ⟨ad, cap, rfl, hn, hm⟩ := ho.form
  refine Yld.of_run (v := .int .i64 cap) ?_ rfl
  simp only [execOp, resolve, Sem.run_bind, Sem.run_pure, Result.andThen_ok, invoke, List.map_toArray, List.map_cons, List.map_nil, hx]
  simp [builtin, Builtin.cap_, run_underlying ht, goInt]
theorem Own.ext {k : Nat} {e : TypeId} {n h : Nat} {v : Value} {ts : List Ty} (ho : Own σ k e 1 v n ts) (hn0 : 0 < n) (hnh : n ≤ h) (hh : h ≤ capOf v) : Own σ k e 1 (preOf v h) h (ts ++ List.replicate (h - n) Ty.any) := by
  have hlen := ho.len
  obtain ⟨vs, r1, r2, r3, r4⟩ := ho
  rcases r1.2 with ⟨rfl, h0⟩ | ⟨gg, cap, cur, rfl, _, hg, hn, hmm, hcz, htk⟩
  · omega
  have hh' : h ≤ cap := hh
  refine Own.intro (us := cur.toList.take h) hg (r4 gg rfl) hh' hmm hcz (by rw [Nat.mul_one]) ?_ ?_
  · rw [List.length_take, Array.length_toList, hcz, List.length_append, List.length_replicate]; omega
  · intro j T u hT hu
    rw [List.getElem?_take] at hu
    split at hu
    · by_cases hj : j < ts.length
      · rw [List.getElem?_append_left hj] at hT
        refine r3 j T u hT ?_
        rw [← htk, Nat.mul_one, List.getElem?_take, if_pos (by omega)]; exact hu
      · rw [List.getElem?_append_right (by omega), List.getElem?_replicate] at hT
        split at hT
        · cases hT; trivial
        · cases hT
    · cases hu
theorem y_preX {k : Nat} {x y : Operand} {n h : Nat} {ts : List Ty} {t e e' : TypeId} {z v : Value} {b : Nat} {ki : IntKind} (ht : P.underlying t = some (.slice e')) (he : Info P e' z 1 b) (ho : Own σ k e 1 v n ts) (hx : a.eval x = v) (hy : a.eval y = .int ki h) (hh : h ≤ capOf v) :
    Yld P ⟨d, .slice t x none (some y) none, ty, pos, af, g⟩ a σ (Ty.val (preOf v h)).pr := by
  obtain ⟨ad, cap, rfl, hn, hm⟩ := ho.form
  have hh' : h ≤ cap := hh
  refine Yld.of_run (v := sliced ad 0 h cap 1) ?_ ?_
  · have h1 := run_slice_h (P := P) σ.w t ad n cap (elem_of ht) ki (h : Int) (by omega) (by omega)
    rw [elem_eq ht, he.size] at h1
    simp only [execOp, hx, hy, Option.map_some, Option.map_none, Sem.run_bind, run_sliceAt_slice σ.w t _ _ _ _ (elem_of ht), h1, Result.andThen_ok, Sem.run_pure, Int.toNat_natCast]
  · show sliced ad 0 h cap 1 = preOf _ h
    unfold sliced preOf
    cases ad <;> simp [Addr.add_zero']
theorem SlForm.pre {v : Value} {n h : Nat} (hv : SlForm v n) (hh : h ≤ capOf v) : SlForm (preOf v h) h := by
  obtain ⟨ad, cap, rfl, _, hm⟩ := hv
  exact ⟨ad, cap, rfl, hh, hm⟩
theorem m_appn0 {k kx : Nat} {t u e ex : TypeId} {z : Value} {by_ : Nat} {x y : Operand} {n nx : Nat} {ki : IntKind} {T : Ty} {v : Value} {tx : List Ty} (ht : P.underlying t = some (.slice e)) (hu : P.underlying u = some (.int ki)) (he : Info P e z 1 by_) (hz : z.cells = #[z]) (hT : ∀ σ, T.has σ z)
    (ho : Own σ kx ex 1 v nx tx) (hx : a.eval x = preOf v 0) (hy : a.eval y = .int .i64 ((n : Nat) : Int)) (hn : capOf v < n) (hlen : n ≤ 9223372036854775807) (hb : n * by_ ≤ 140737488355328) :
    YldM k P ⟨d, .call ⟨.builtin .append, #[x, y], #[t, u]⟩, ty, pos, af, g⟩ a σ (fun v τ => Own τ k e 1 v n (List.replicate n T)) := by
  intro K Q hk'
  obtain ⟨i, hi, hi1, hi2, rfl⟩ := he.get
  obtain ⟨ad, cap, rfl, hnc, hm⟩ := ho.form
  have hx' : a.eval x = .slice ad 0 cap := hx
  have hn' : cap < n := hn
  have hcap : grownCap σ.w n cap e ≥ n := grownCap_ge σ.w n cap e
  have hcm : grownCap σ.w n cap e ≤ maxLen := grownCap_le_maxLen σ.w n cap e hlen
  have hr : (Builtin.append_ #[t, u] ty #[.slice ad 0 cap, .int .i64 ((n : Nat) : Int)]).run P σ.w = .ok (.slice (some ⟨σ.w.heap.size, 0, none⟩) n (grownCap σ.w n cap e)) (σ.w.drew.alloc (.cells (Builtin.zeroCells z.cells n ++ Builtin.zeroCells z.cells (grownCap σ.w n cap e - n)) e)) := by
    have h0 : n ≠ 0 := by omega
    have hw : IntKind.i64.wrap ((n : Nat) : Int) = n := w64 (by omega) (by omega)
    have h1 : ¬ ((n : Nat) : Int) < 0 := by omega
    have h2 : ¬ (281474976710656 < ((n : Nat) : Int) * (i.bytes : Int)) := by
      have h3 : ((n * i.bytes : Nat) : Int) ≤ 281474976710656 := by omega
      rw [Int.natCast_mul] at h3; omega
    have h48 := growslice_fits (need := n) (old := cap) (bytes := i.bytes) (by omega) (by omega)
    have h63 : ¬ (9223372036854775807 < (n : Int)) := by omega
    have hnc2 : ¬ n ≤ cap := by omega
    have hf : (Builtin.firstCells 1 0 (.slice ad 0 cap)).run P σ.w.drew = .ok #[] σ.w.drew := by
      cases ad with
      | none => exact run_firstCells_none ..
      | some b => exact run_firstCells_some (P := P) σ.w.drew 1 0 b 0 cap [] rfl (by simp)
    have h48' : ¬ (281474976710656 < Builtin.nextslicecap n cap * i.bytes) := by omega
    simp [Builtin.append_, run_underlying ht, run_underlying hu, sizeOf, typeInfo, zeroValue, hi, hi1, hi2, asInt, asIntOf, hw, h1, h2, h0, h48', h63, hnc2, Question.forced, newRow, grownCap, hf]
  have hr' : (execOp a.eval ⟨d, .call ⟨.builtin .append, #[x, y], #[t, u]⟩, ty, pos, af, g⟩).run P σ.w = .ok (.value (.slice (some ⟨σ.w.heap.size, 0, none⟩) n (grownCap σ.w n cap e))) (σ.w.drew.alloc (.cells (Builtin.zeroCells z.cells n ++ Builtin.zeroCells z.cells (grownCap σ.w n cap e - n)) e)) := by
    simp only [execOp, resolve, Sem.run_bind, Sem.run_pure, Result.andThen_ok, invoke, List.map_toArray, List.map_cons, List.map_nil, builtin, hx', hy, hr]
  unfold Oper.wp
  rw [hr']
  have hstp : Stp 0 σ (σ.drew.mk' k (.cells (Builtin.zeroCells z.cells n ++ Builtin.zeroCells z.cells (grownCap σ.w n cap e - n)) e)) := (Stp.drew σ).trans (Stp.mk' σ.drew k _)
  have hzl : (Builtin.zeroCells z.cells n).toList = List.replicate n z := by
    rw [hz]; unfold Builtin.zeroCells
    refine List.ext_getElem (by simp) fun j h1 h2 => ?_
    simp [Nat.mod_one]
  refine hk' _ _ hstp.of0 (Own.intro (us := List.replicate n z) (heap_alloc_new σ.w.drew _) (by show (if _ = _ then k else _) = k; rw [if_pos]; rfl) hcap hcm ?_ ?_ (by simp) ?_)
  · simp only [Array.size_append, size_zeroCells, hz]; simp; omega
  · simp only [Array.toList_append, hzl]
    rw [List.take_append_of_le_length (by simp)]; simp
  · intro j U u hU hu
    simp only [List.getElem?_replicate] at hU hu
    split at hU
    · cases hU; rw [if_pos (by assumption)] at hu; cases hu; exact hT _
    · cases hU
end Go.KL
namespace Go.KL
open Go.RowKit
variable {P : Program} {d : Option Tmp} {ty : TypeId} {pos : String} {af : Array Edge} {g : Option (Nat × Bool)} {a : Act} {σ : GW}
theorem sufOf_some (gg n cap j : Nat) : sufOf (.slice (some ⟨gg, 0, none⟩) n cap) j = if j < cap then .slice (some ⟨gg, j, none⟩) (n - j) (cap - j) else sufOf (.slice (some ⟨gg, 0, none⟩) n cap) j := by
  by_cases h : j < cap
  · rw [if_pos h]
    show sliced (some ⟨gg, 0, none⟩) j n cap 1 = _
    unfold sliced
    rw [if_neg (by omega)]
    simp [Addr.add_lit]
  · rw [if_neg h]
theorem sufOf_at {gg n cap j : Nat} (h : j < cap) : sufOf (.slice (some ⟨gg, 0, none⟩) n cap) j = .slice (some ⟨gg, j, none⟩) (n - j) (cap - j) := by rw [sufOf_some, if_pos h]
theorem m_copyO {k k2 : Nat} {t e : TypeId} {z : Value} {by_ : Nat} {x y : Operand} {w w2 : Value} {n n2 i j : Nat} {ts us : List Ty} (ht : P.underlying t = some (.slice e)) (he : Info P e z 1 by_) (hk : 2 ≤ k) (ho : Own σ k e 1 w n ts) (ho2 : Own σ k2 e 1 w2 n2 us) (hx : a.eval x = sufOf w j) (hy : a.eval y = sufOf w2 i) (h1 : ∀ U, U ∈ us → One U) (hi : i < n2) (hj : j < n) (hmn : j + (n2 - i) ≤ n) :
    YldM k P ⟨d, .call ⟨.builtin .copy, #[x, y], #[t, t]⟩, ty, pos, af, g⟩ a σ (fun v τ => Pr.has (Pr.cpd k e n w (n2 - i) (ts.take j ++ us.drop i ++ ts.drop (j + (n2 - i)))) τ v) := by
  have hlen2 := ho2.len
  obtain ⟨vs, r1, r2, r3, r4⟩ := ho2
  rcases r1.2 with ⟨rfl, h0⟩ | ⟨gg, cap, cur, rfl, _, hg, hn, hmm, hcz, htk⟩
  · omega
  have hy' : a.eval y = .slice (some ⟨gg, i, none⟩) (n2 - i) (cap - i) := by rw [hy]; exact sufOf_at (by omega)
  have hone : ∀ u ∈ vs.drop i, u.oneCell' = true := fun u hu => by
    obtain ⟨q, hq⟩ := List.mem_iff_getElem?.1 (List.mem_of_mem_drop hu)
    obtain ⟨T, hT⟩ : ∃ T, us[q]? = some T := ⟨us[q]'(by rw [← r2]; exact (List.getElem?_eq_some_iff.1 hq).1), by simp⟩
    exact h1 T (List.mem_of_getElem? hT) _ u (r3 q T u hT hq)
  have hvl : (vs.drop i).length = n2 - i := by rw [List.length_drop]; omega
  have hul : (us.drop i).length = n2 - i := by rw [List.length_drop]; omega
  obtain ⟨τ, hr, hst, hown⟩ := own_copy (ty := ty) (j := j) (sLen := n2 - i) (sCap := cap - i) (ad := ⟨gg, i, none⟩) (cs := vs.drop i) (us := us.drop i) hk ht he ho hj (by rw [hvl]; exact (Nat.min_eq_left (by omega)).symm) (by rw [hvl, hul]) (fun q u hq => by
      rw [List.getElem?_drop] at hq
      have := r1.cells (g := gg) rfl (i + q) u hq
      rw [Addr.add_lit] at this ⊢
      simpa using this) (fun q T u h2 h3 => by
      rw [List.getElem?_drop] at h2 h3
      exact r3 _ T u h2 h3) hone
  rw [← hx, ← hy'] at hr
  have hr' : (execOp a.eval ⟨d, .call ⟨.builtin .copy, #[x, y], #[t, t]⟩, ty, pos, af, g⟩).run P σ.w = .ok (.value (goInt (vs.drop i).length)) τ.w := by
    simp only [execOp, resolve, Sem.run_bind, Sem.run_pure, Result.andThen_ok, invoke, List.map_toArray, List.map_cons, List.map_nil, builtin, hr]
  intro K Q hK
  unfold Oper.wp
  rw [hr']
  refine hK _ τ hst ⟨by rw [hvl]; rfl, ?_⟩
  rw [hul] at hown
  exact hown
theorem m_copyX {k : Nat} {t e : TypeId} {z : Value} {by_ : Nat} {x y : Operand} {v : Value} {n : Nat} {ts : List Ty} (ht : P.underlying t = some (.slice e)) (he : Info P e z 1 by_) (hk : 2 ≤ k) (ho : Own σ k e 1 v n ts) (hn0 : 0 < n) (hc : n + 1 ≤ capOf v) (hx : a.eval x = sufOf (preOf v (n + 1)) 1) (hy : a.eval y = sufOf (preOf v (n + 1)) 0) (h1 : ∀ U, U ∈ ts → One U) :
    YldM k P ⟨d, .call ⟨.builtin .copy, #[x, y], #[t, t]⟩, ty, pos, af, g⟩ a σ (fun r τ => Pr.has (Pr.cpd k e (n + 1) (preOf v (n + 1)) n (ts.take 1 ++ ts)) τ r) := by
  have hlen := ho.len
  have he2 := ho.ext hn0 (Nat.le_succ n) hc
  obtain ⟨gg, cap, rfl, _, _⟩ := ho.at hn0
  have hc' : n + 1 ≤ cap := hc
  have hp : preOf (.slice (some ⟨gg, 0, none⟩) n cap) (n + 1) = .slice (some ⟨gg, 0, none⟩) (n + 1) cap := rfl
  obtain ⟨vs, r1, r2, r3, r4⟩ := ho
  have hy' : a.eval y = .slice (some ⟨gg, 0, none⟩) (n + 1) cap := by rw [hy, hp]; exact he2.suf0 (by omega)
  have hone : ∀ u ∈ vs, u.oneCell' = true := fun u hu => by
    obtain ⟨q, hq⟩ := List.mem_iff_getElem?.1 hu
    obtain ⟨T, hT⟩ : ∃ T, ts[q]? = some T := ⟨ts[q]'(by rw [← r2]; exact (List.getElem?_eq_some_iff.1 hq).1), by simp⟩
    exact h1 T (List.mem_of_getElem? hT) _ u (r3 q T u hT hq)
  have hvl : vs.length = n := by omega
  have htl : ts.length = n := by omega
  obtain ⟨τ, hr, hst, hown⟩ := own_copy (ty := ty) (j := 1) (sLen := n + 1) (sCap := cap) (ad := ⟨gg, 0, none⟩) (cs := vs) (us := ts) hk ht he he2 (by omega) (by rw [hvl]; exact (Nat.min_eq_right (by omega)).symm) (by rw [hvl, htl]) (fun q u hq => by
      have := r1.cells (g := gg) rfl q u hq
      rwa [Addr.add_lit] at this ⊢) r3 hone
  rw [← hx, ← hy'] at hr
  have hr' : (execOp a.eval ⟨d, .call ⟨.builtin .copy, #[x, y], #[t, t]⟩, ty, pos, af, g⟩).run P σ.w = .ok (.value (goInt vs.length)) τ.w := by
    simp only [execOp, resolve, Sem.run_bind, Sem.run_pure, Result.andThen_ok, invoke, List.map_toArray, List.map_cons, List.map_nil, builtin, hr]
  intro K Q hK
  unfold Oper.wp
  rw [hr']
  refine hK _ τ hst ⟨by rw [hvl]; rfl, ?_⟩
  have e3 : (ts ++ List.replicate (n + 1 - n) Ty.any).take 1 ++ ts ++ (ts ++ List.replicate (n + 1 - n) Ty.any).drop (1 + ts.length) = ts.take 1 ++ ts := by
    rw [List.take_append_of_le_length (by omega), List.drop_eq_nil_of_le (by simp; omega), List.append_nil]
  rw [e3] at hown
  exact hown
theorem y_ovl {f : FuncId} {fn : Func} {k k2 : Nat} {t e tr : TypeId} {z : Value} {by_ : Nat} {x y : Operand} {v w : Value} {n n2 h j : Nat} {ts us : List Ty} (ht : P.underlying t = some (.slice e)) (he : Info P e z 1 by_) (ho : Own σ k e 1 v n ts) (ho2 : Own σ k2 e 1 w n2 us) (hkk : k ≠ k2) (hn : 0 < n) (hn2 : 0 < n2) (hx : a.eval x = v) (hy : a.eval y = sufOf (preOf w h) j) (hj : j < capOf w)
    (hr : ∀ args w', (callFunc f args).run P w' = (((Extern.SlicesOverlaps.overlaps #[t, t] #[tr]) args).run P w').andThen fun v w' => .ok (.value v) w') (hf : P.funcs[f]? = some fn) {tys : Array TypeId} :
    Yld P ⟨d, .call ⟨.value (.func f), #[x, y], tys⟩, ty, pos, af, g⟩ a σ (Ty.bool false).pr := by
  obtain ⟨us1, r1, _, _, r4⟩ := ho
  obtain ⟨us2, q1, _, _, q4⟩ := ho2
  rcases r1.2 with ⟨_, h0⟩ | ⟨gg, cap, cur, rfl, _, hg, hn', hmm, hcz, htk⟩
  · omega
  rcases q1.2 with ⟨_, h0⟩ | ⟨g2, cap2, cur2, rfl, _, hg2, hn2', hmm2, hcz2, htk2⟩
  · omega
  have hj' : j < cap2 := hj
  have hne : gg ≠ g2 := fun e => by
    have h1 := r4 gg rfl
    have h2 := q4 g2 rfl
    rw [e] at h1
    exact hkk (h1.symm.trans h2)
  have hy' : a.eval y = .slice (some ⟨g2, j, none⟩) (h - j) (cap2 - j) := by rw [hy]; exact sufOf_at (n := h) hj'
  have hrun := Lib.run_overlaps_apart (P := P) σ.w t tr e ht 1 (fun w => he.size w) ⟨gg, 0, none⟩ ⟨g2, j, none⟩ n cap (h - j) (cap2 - j) hne e e cur.size cur2.size (by simp [World.shape?, hg]) (by simp [World.shape?, hg2]) (by omega) (by simp [World.frozen?, hg]) (by simp [World.frozen?, hg])
  refine y_extern (R := Ty.bool false) #[.slice (some ⟨gg, 0, none⟩) n cap, .slice (some ⟨g2, j, none⟩) (h - j) (cap2 - j)] (by simp only [List.map_toArray, List.map_cons, List.map_nil, hx, hy']) ?_ rfl
  rw [hr, hrun]; rfl
theorem y_sufLen {x : Operand} {t e : TypeId} {v : Value} {n j : Nat} (ht : P.underlying t = some (.slice e)) (hv : SlForm v n) (hx : a.eval x = sufOf v j) : Yld P ⟨d, .call ⟨.builtin .len, #[x], #[t]⟩, ty, pos, af, g⟩ a σ (Ty.nat (n - j)).pr := by
  obtain ⟨ad, cap, rfl, _, _⟩ := hv
  obtain ⟨ad', cap', e1⟩ : ∃ ad' cap', sufOf (.slice ad n cap) j = .slice ad' (n - j) cap' := by
    show ∃ ad' cap', sliced ad j n cap 1 = _
    unfold sliced
    split <;> exact ⟨_, _, rfl⟩
  exact Yld.of_run (v := .int .i64 ((n - j : Nat) : Int)) (run_builtin1 (hx.trans e1) (fun cs => by simp [builtin, Builtin.len_, run_underlying ht, goInt])) rfl
theorem y_sufIdx {k : Nat} {x y : Operand} {n j i : Nat} {ts : List Ty} {t e : TypeId} {z v : Value} {b : Nat} {ki : IntKind} (ht : P.underlying t = some (.slice e)) (he : Info P e z 1 b) (h : Own σ k e 1 v n ts) (hx : a.eval x = sufOf v j) (hy : a.eval y = .int ki ((i : Nat) : Int)) (h1 : j + i < n) :
    Yld P ⟨d, .indexAddr t x y, ty, pos, af, g⟩ a σ (Ty.val (cellPtr v (j + i))).pr := by
  have hc := h.cap
  obtain ⟨gg, cap, rfl, _, _⟩ := h.at (by omega)
  have hc' : n ≤ cap := hc
  have hx' : a.eval x = .slice (some ⟨gg, j, none⟩) (n - j) (cap - j) := by rw [hx]; exact sufOf_at (by omega)
  refine Yld.of_run (v := .pointer (some ⟨gg, j + i, none⟩)) ?_ rfl
  have h2 : ((i : Nat) : Int) < ((n - j : Nat) : Int) := by omega
  simp only [execOp, hx', hy]
  have h3 : ¬ n ≤ i + j := by omega
  simp [Instr.indexAt, asIntOf, run_underlying ht, h2, h3, he.size, Addr.add_lit]
theorem Own.cutN {k : Nat} {e : TypeId} {n j : Nat} {v : Value} {ts : List Ty} (ho : Own σ k e 1 v n ts) (hn0 : 0 < n) (hj : j ≤ n) : Own σ k e 1 (preOf v j) j (ts.take j) := by
  have hlen := ho.len
  obtain ⟨vs, r1, r2, r3, r4⟩ := ho
  rcases r1.2 with ⟨rfl, h0⟩ | ⟨gg, cap, cur, rfl, _, hg, hn, hmm, hcz, htk⟩
  · omega
  refine Own.intro (us := cur.toList.take j) hg (r4 gg rfl) (by omega) hmm hcz (by rw [Nat.mul_one]) (by rw [List.length_take, List.length_take, Array.length_toList]; omega) ?_
  intro q T u hT hu
  rw [List.getElem?_take] at hT hu
  split at hT
  · rename_i hq
    rw [if_pos hq] at hu
    exact r3 q T u hT (by rw [← htk, Nat.mul_one, List.getElem?_take, if_pos (by omega)]; exact hu)
  · cases hT
theorem m_clrS {k : Nat} {t e : TypeId} {z : Value} {by_ : Nat} {x : Operand} {n j : Nat} {v : Value} {ts : List Ty} (ht : P.underlying t = some (.slice e)) (he : Info P e z 1 by_) (hz : z.cells = #[z]) (hz1 : z.oneCell' = true) (hk : 2 ≤ k) (ho : Own σ k e 1 v n ts) (hx : a.eval x = sufOf v j) (hj : j < n) :
    YldM k P ⟨d, .call ⟨.builtin .clear, #[x], #[t]⟩, ty, pos, af, g⟩ a σ (fun _ τ => Own τ k e 1 (preOf v j) j (ts.take j)) := by
  have hc := ho.cap
  have h2 := ho.cutN (j := j) (by omega) (by omega)
  obtain ⟨gg, cap, rfl, _, _⟩ := ho.at (by omega)
  exact m_clr (h := n) ht he hz hz1 hk h2 hx hj hc
theorem Own.retag {k k' : Nat} {e : TypeId} {c n : Nat} {v : Value} {ts : List Ty} (h : Own σ k e c v n ts) (hk : 2 ≤ k) (_hk' : 2 ≤ k') : ∃ τ : GW, τ.w = σ.w ∧ Stp k σ τ ∧ Own τ k' e c v n ts := by
  refine ⟨⟨σ.w, fun b => if σ.st b = k then k' else σ.st b, fun b hb => σ.lt b (fun e0 => ?_)⟩, rfl, ⟨rfl, rfl, rfl, Dr.refl _, Nat.le_refl _, fun _ _ _ => rfl, fun b hb hm => ?_⟩, ?_⟩
  · simp only [e0] at hb
    rw [if_neg (by omega)] at hb
    exact hb rfl
  · rcases hm with h1 | h1
    · omega
    · show (if σ.st b = k then k' else σ.st b) = _
      rw [if_neg h1]
  · obtain ⟨us, r1, r2, r3, r4⟩ := h
    have hle : σ.Le ⟨σ.w, fun b => if σ.st b = k then k' else σ.st b, fun b hb => σ.lt b (fun e0 => by simp only [e0] at hb; rw [if_neg (by omega)] at hb; exact hb rfl)⟩ := ⟨fun b hb => by show (if σ.st b = k then k' else σ.st b) = _; rw [if_neg (by omega)]; exact hb, fun _ _ => rfl⟩
    exact ⟨us, r1, r2, fun j T u hj hu => T.up hle (r3 j T u hj hu), fun g hg => by show (if σ.st g = k then k' else σ.st g) = _; rw [if_pos (r4 g hg)]⟩
theorem ins_tail {xs : List Int} {c : Int} (h : 1 ≤ xs.length) : List.map Ty.int (List.take 0 (List.take 1 xs ++ xs) ++ List.drop 0 [c] ++ List.drop (0 + (1 - 0)) (List.take 1 xs ++ xs)) = List.map Ty.int (c :: xs) := by
  cases xs with
  | nil => simp at h
  | cons x r => simp
end Go.KL

/- A callee that answers with what is new, called with what is owned. -/
namespace Go.KL
open Go.RowKit
variable {P : Program}
variable {d : Option Tmp} {ty : TypeId} {pos : String} {af : Array Edge} {g : Option (Nat × Bool)} {a : Act} {σ : GW}
end Go.KL

/- Functions that may panic with one value: contracts, calls, returns; a function that defers one call. -/
namespace Go.KL
variable {P : Program}
def fltC (T : TypeId) (e : Int) : List PanicEntry := [{ v := .iface T (.int .i64 e), recovered := false }]
def FnP (P : Program) (f : FuncId) (args : Array Value) (σ : GW) (L : List Nat) (R : Value → GW → Prop) (E : List PanicEntry → Prop) : Prop :=
  Calls P f args σ.w fun e w' => ∃ τ, τ.w = w' ∧ StpL L σ τ ∧ ((∃ v, e = .returned v ∧ R v τ) ∨ (∃ c, e = .panicked c ∧ E c))
def RetP (σ : GW) (L : List Nat) (R : Value → GW → Prop) (E : List PanicEntry → Prop) (e : Ending) (w' : World) : Prop :=
  ∃ τ, τ.w = w' ∧ FromL L σ τ ∧ ((∃ v, e = .returned v ∧ R v τ) ∨ (∃ c, e = .panicked c ∧ E c))
theorem fn_introP {f : FuncId} {fn : Func} {c : Code} {N : Nat} {args : Array Value} {σ : GW} {L : List Nat} {R : Value → GW → Prop} {E : List PanicEntry → Prop} (hσ : Low L σ) (hf : P.funcs[f]? = some fn) (hb : fn.body = some c) (hn : fn.ntmps = N) (ha : args.size ≤ N)
    (h : ∀ a, FromL L σ σ → Ok N [] a → (∀ i v, args.toList[i]? = some v → a.eval (.tmp i) = v) → c.wp P (bodyPost P fn (RetP σ L R E)) a σ.w) : FnP P f args σ L R E := by
  refine Calls.mono (calls_of_wp hf hb (h _ ⟨StpL.refl _ _, hσ⟩ ⟨by simp; omega, rfl⟩ fun i v hi => ?_)) ?_
  · have hi' : args[i]? = some v := by simpa using hi
    have hlt : i < args.size := (Array.getElem?_eq_some_iff.1 hi').1
    simp [Act.eval, Array.getD_eq_getD_getElem?, Array.getElem?_append, hlt]
    simpa [hlt] using hi'
  · rintro e w' ⟨τ, rfl, hF, hv⟩
    exact ⟨τ, rfl, hF.stp, hv⟩
section
variable {fn : Func} {σ0 : GW} {L : List Nat} {R : Value → GW → Prop} {E : List PanicEntry → Prop} {a : Act} {w : World} {N : Nat}
theorem toP (h : bodyPost P fn (RetL σ0 L R) .ret a w) : bodyPost P fn (RetP σ0 L R E) .ret a w := by
  obtain ⟨hd, v, hr, u, τ, e1, hF, e2, hR⟩ := h
  exact ⟨hd, v, hr, τ, e1, hF, .inl ⟨u, e2, hR⟩⟩
theorem toPn (h : bodyPost P fn (RetL σ0 L R) .normal a w) : bodyPost P fn (RetP σ0 L R E) .normal a w := by
  obtain ⟨hd, v, hr, u, τ, e1, hF, e2, hR⟩ := h
  exact ⟨hd, v, hr, τ, e1, hF, .inl ⟨u, e2, hR⟩⟩
theorem panB {c : List PanicEntry} {τ : GW} (ok : Ok N [] a) (hF : FromL L σ0 τ) (he : E c) : a.defers = [] ∧ RetP σ0 L R E (.panicked c) τ.w := ⟨ok.defers, τ, rfl, hF, .inr ⟨c, rfl, he⟩⟩
end
def YldP (L : List Nat) (P : Program) (o : Oper) (a : Act) (σ : GW) (R : Value → GW → Prop) (E : List PanicEntry → Prop) : Prop :=
  ∀ (K : Act → World → Prop) (Q : Exit → Act → World → Prop), (∀ v τ, StpL L σ τ → R v τ → K (a.put o.dst v) τ.w) → (∀ c τ, StpL L σ τ → E c → Q (.panic c) a τ.w) → o.wp P a σ.w K Q
theorem tailP {L : List Nat} {N d : Nat} {D : List Deferred} {ops : Array Oper} {Q : Exit → Act → World → Prop} {o : Oper} {rest : List Oper} {a : Act} {σ : GW} {R : Value → GW → Prop} {E : List PanicEntry → Prop} (hg : o.guard = none) (hd : o.dst = some d) (hN : d < N) (ok : Ok N D a) (hy : YldP L P o a σ R E)
    (kp : ∀ c τ, StpL L σ τ → E c → Q (.panic c) a τ.w)
    (k : ∀ a' τ, StpL L σ τ → Ok N D a' → R (a'.eval (.tmp d)) τ → (∀ t, t ≠ d → a'.eval (.tmp t) = a.eval (.tmp t)) → wpList P ops Q rest a' τ.w) : wpList P ops Q (o :: rest) a σ.w := by
  refine wpList_plain hg fun K hK => hy K Q (fun v τ hs hr => hK _ _ ?_) kp
  rw [hd]
  exact k _ τ hs (ok.put _ _) (by rw [eval_put_same ok hN]; exact hr) fun t ht => eval_put_ne (by simpa using Ne.symm ht) v
variable {d : Option Tmp} {ty : TypeId} {pos : String} {af : Array Edge} {g : Option (Nat × Bool)} {a : Act} {σ : GW}
theorem y_callP {f : FuncId} {fn : Func} {xs : Array Operand} {tys : Array TypeId} {R : Value → GW → Prop} {E : List PanicEntry → Prop} {L : List Nat} (l n : List (Nat × Nat)) (args : Array Value) (hL : l.map (·.2) = L) (h2 : ∀ x ∈ l, 2 ≤ x.1 ∧ 2 ≤ x.2)
    (hf : P.funcs[f]? = some fn) (hn : (fn.name == "runtime.NumGoroutine") = false) (hb : fn.body.isNone = false) (hargs : xs.map a.eval = args) (hc : FnP P f args (σ.lend l) L R E) :
    YldP (l.map (·.1)) P ⟨d, .call ⟨.value (.func f), xs, tys⟩, ty, pos, af, g⟩ a σ (fun v τ' => ∃ τ, R v τ ∧ Back n τ τ') E := by
  intro K Q hk hp
  have hr : (execOp a.eval ⟨d, .call ⟨.value (.func f), xs, tys⟩, ty, pos, af, g⟩).run P σ.w = .ok (.enter f args) σ.w := by
    have hn' : ¬ fn.name = "runtime.NumGoroutine" := by simpa using hn
    have hb' : ¬ fn.body = none := by intro e; simp [e] at hb
    simp only [execOp, resolve, hargs]
    simp [Act.eval, Deferred.ofValue, invoke, callFunc, hf, hn', hb', program, Sem.run, Sem.run_bind]
  unfold Oper.wp
  rw [hr]
  refine Calls.mono (show Calls P f args σ.w _ from hc) ?_
  rintro e w' ⟨τ, rfl, hs, hv⟩
  obtain ⟨h1, h3⟩ := took_spec (n := n) (fun x hx => by rw [← hL]; exact List.mem_map.2 ⟨x, hx, rfl⟩) h2 (fun x hx => by
    rw [← hL] at hx
    obtain ⟨y, hy, rfl⟩ := List.mem_map.1 hx
    exact (h2 y hy).2) hs
  rcases hv with ⟨v, rfl, hv⟩ | ⟨c, rfl, he⟩
  · exact hk v (σ.took l n τ hs.size) h1 ⟨τ, hv, h3⟩
  · exact hp c (σ.took l n τ hs.size) h1 he
end Go.KL
namespace Go.KL
variable {P : Program} {d : Option Tmp} {ty : TypeId} {pos : String} {af : Array Edge} {g : Option (Nat × Bool)} {a : Act} {σ : GW}
theorem fltTo {T : TypeId} {e e' : Int} {c : List PanicEntry} (h : e' ≠ 0 → e = e') (he : c = fltC T e' ∧ e' ≠ 0) : c = fltC T e ∧ e ≠ 0 := by
  rw [h he.2]; exact he
theorem y_mkif {x : Operand} {t : TypeId} {v : Value} {td : TypeDesc} (ht : P.underlying t = some td) (hn : (match td with | .interface _ => false | _ => true) = true) (hx : a.eval x = v) : Yld P ⟨d, .makeInterface t x, ty, pos, af, g⟩ a σ (Ty.val (.iface t v)).pr := by
  refine Yld.of_run (v := .iface t v) ?_ rfl
  simp only [execOp, hx]
  cases td <;> simp_all [Instr.makeInterface, Sem.run_bind, run_underlying ht]
theorem tail_pan {ops : Array Oper} {Q : Exit → Act → World → Prop} {rest : List Oper} {x : Operand} {t : TypeId} {v : Value} (hx : a.eval x = .iface t v) (h : Q (.panic [{ v := .iface t v, recovered := false }]) a σ.w) : wpList P ops Q (⟨d, .panic x, ty, pos, af, none⟩ :: rest) a σ.w := by
  refine wpList_plain rfl fun K hK => ?_
  have hr : (execOp a.eval ⟨d, .panic x, ty, pos, af, none⟩).run P σ.w = .halt (.panic (.iface t v)) σ.w := by
    simp only [execOp, hx]
    simp [Instr.panic, goPanic, Sem.run, Sem.run_bind]
  unfold Oper.wp
  rw [hr]
  exact h
theorem wanted_at {N : Nat} {D : List Deferred} {ops : Array Oper} {o : Oper} {j s : Nat} {want c : Bool} (ok : Ok N D a) (hg : o.guard = some (j, want)) (hd : dstOf ops j = some s) (hN : s < N) (h : At (.bool c) σ a (.tmp s)) : Region.wanted o (yielded ops a.tmps) = (c == want) := by
  simp only [Region.wanted, hg, yielded_at ok hd hN h]
  cases c <;> cases want <;> rfl
theorem tailSkip {N : Nat} {D : List Deferred} {ops : Array Oper} {Q : Exit → Act → World → Prop} {o : Oper} {rest : List Oper} {j s e : Nat} {want c : Bool} (ok : Ok N D a) (hg : o.guard = some (j, want)) (hd : dstOf ops j = some s) (hN : s < N) (h : At (.bool c) σ a (.tmp s)) (hc : (c == want) = false) (he : o.dst = some e) (heN : e < N)
    (k : ∀ a', Ok N D a' → At (Ty.val undef) σ a' (.tmp e) → (∀ t, t ≠ e → a'.eval (.tmp t) = a.eval (.tmp t)) → wpList P ops Q rest a' σ.w) : wpList P ops Q (o :: rest) a σ.w := by
  refine wpList_step fun K hK => ?_
  rw [wanted_at ok hg hd hN h, hc, if_neg (by simp), he]
  exact hK _ _ (k _ (ok.put _ _) (eval_put_same ok heN _) fun t ht => eval_put_ne (by simpa using Ne.symm ht) _)
theorem tailDo {L : List Nat} {N : Nat} {D : List Deferred} {ops : Array Oper} {Q : Exit → Act → World → Prop} {o : Oper} {rest : List Oper} {R : Value → GW → Prop} {j s e : Nat} {want c : Bool} (ok : Ok N D a) (hg : o.guard = some (j, want)) (hd : dstOf ops j = some s) (hN : s < N) (h : At (.bool c) σ a (.tmp s)) (hc : (c == want) = true) (he : o.dst = some e) (heN : e < N) (hy : YldL L P o a σ R)
    (k : ∀ a' τ, StpL L σ τ → Ok N D a' → R (a'.eval (.tmp e)) τ → (∀ t, t ≠ e → a'.eval (.tmp t) = a.eval (.tmp t)) → wpList P ops Q rest a' τ.w) : wpList P ops Q (o :: rest) a σ.w := by
  refine wpList_step fun K hK => ?_
  rw [wanted_at ok hg hd hN h, hc, if_pos rfl]
  refine hy K Q fun v τ hs hr => hK _ _ ?_
  rw [he]
  exact k _ τ hs (ok.put _ _) (by rw [eval_put_same ok heN]; exact hr) fun t ht => eval_put_ne (by simpa using Ne.symm ht) v
theorem y_pickT {c x y : Operand} {T : Ty} (hc : At (.bool true) σ a c) (hx : At T σ a x) : Yld P ⟨d, .pick c x y, ty, pos, af, g⟩ a σ T.pr := by
  refine Yld.of_run (v := a.eval x) ?_ hx
  have h1 : a.eval c = .bool true := hc
  simp only [execOp, h1]; simp [go_sem]
theorem y_pickF {c x y : Operand} {T : Ty} (hc : At (.bool false) σ a c) (hy : At T σ a y) : Yld P ⟨d, .pick c x y, ty, pos, af, g⟩ a σ T.pr := by
  refine Yld.of_run (v := a.eval y) ?_ hy
  have h1 : a.eval c = .bool false := hc
  simp only [execOp, h1]; simp [go_sem]
def Ty.nilb {α : Type} (xs : List α) : Ty := ⟨fun _ u => ∃ b, u = .bool b ∧ (b = true → xs = []), fun _ h => h⟩
theorem cond_nb {α : Type} {xs : List α} {c : Operand} {x y : Code} {Q : Exit → Act → World → Prop} (h : At (Ty.nilb xs) σ a c) (ht : xs = [] → x.wp P Q a σ.w) (hf : y.wp P Q a σ.w) : (Code.cond c x y).wp P Q a σ.w := by
  obtain ⟨b, e, hb⟩ := h
  exact wp_cond_split (t := b) e (fun h => ht (hb h)) (fun _ => hf)
theorem y_slnb {α : Type} {f : α → Ty} {xs : List α} {x y : Operand} {t u : TypeId} {e' : TypeId} (ht : P.underlying t = some (.slice e')) (h : At (.lst f xs) σ a x) (hy : a.eval y = .slice none 0 0) :
    Yld P ⟨d, .binOp .eql t x y u, ty, pos, af, g⟩ a σ (Ty.nilb xs).pr := by
  obtain ⟨ad, cap, b, o, e1, _, _, hs, _⟩ := h
  have h1 := Go.Lib.run_eql_slice_nil (P := P) σ.w t e' ad xs.length cap 0 0 ht
  refine Yld.of_run (v := .bool ad.isNone) ?_ ⟨_, rfl, fun hb => ?_⟩
  · simp only [execOp, e1, hy]
    cases ad <;> simp_all [eqGuard, run_underlying ht]
  · rcases hs with hs | ⟨rfl, _⟩
    · simpa using hs
    · cases hb
end Go.KL

/- Sorted, without doubles: what the reader of changes asks of places. -/
namespace Go.KL
def sortB : List Int → Bool
  | [] => true
  | [_] => true
  | x :: y :: r => decide (x ≤ y) && sortB (y :: r)
def dupB : List Int → Bool
  | [] => false
  | [_] => false
  | x :: y :: r => decide (x = y) || dupB (y :: r)
theorem sortB_iff : ∀ (l : List Int), sortB l = true ↔ ∀ k, k + 1 < l.length → l.getD k 0 ≤ l.getD (k + 1) 0
  | [] => by simp [sortB]
  | [x] => by simp [sortB]
  | x :: y :: r => by
    rw [sortB, Bool.and_eq_true, decide_eq_true_eq, sortB_iff (y :: r)]
    constructor
    · rintro ⟨h1, h2⟩ k hk
      cases k with
      | zero => exact h1
      | succ k =>
        have := h2 k (by simp at hk ⊢; omega)
        simpa using this
    · intro h
      refine ⟨h 0 (by simp), fun k hk => ?_⟩
      have := h (k + 1) (by simp at hk ⊢; omega)
      simpa using this
theorem sortB_no {l : List Int} {k : Nat} (hk : k + 1 < l.length) (h : l.getD (k + 1) 0 < l.getD k 0) : sortB l = false := by
  cases e : sortB l with
  | false => rfl
  | true => have := (sortB_iff l).1 e k hk; omega
theorem dupB_iff : ∀ (l : List Int), dupB l = false ↔ ∀ k, k + 1 < l.length → l.getD k 0 ≠ l.getD (k + 1) 0
  | [] => by simp [dupB]
  | [x] => by simp [dupB]
  | x :: y :: r => by
    rw [dupB, Bool.or_eq_false_iff, decide_eq_false_iff_not, dupB_iff (y :: r)]
    constructor
    · rintro ⟨h1, h2⟩ k hk
      cases k with
      | zero => exact h1
      | succ k =>
        have := h2 k (by simp at hk ⊢; omega)
        simpa using this
    · intro h
      refine ⟨h 0 (by simp), fun k hk => ?_⟩
      have := h (k + 1) (by simp at hk ⊢; omega)
      simpa using this
theorem dupB_yes {l : List Int} {k : Nat} (hk : k + 1 < l.length) (h : l.getD k 0 = l.getD (k + 1) 0) : dupB l = true := by
  cases e : dupB l with
  | true => rfl
  | false => exact absurd h ((dupB_iff l).1 e k hk)
theorem incr_sd (l : List Int) : incrB l = (sortB l && !dupB l) := by
  rw [Bool.eq_iff_iff, incrB_iff, Bool.and_eq_true, sortB_iff, Bool.not_eq_true', dupB_iff]
  constructor
  · intro h
    exact ⟨fun k hk => by have := h k hk; omega, fun k hk => by have := h k hk; omega⟩
  · rintro ⟨h1, h2⟩ k hk
    have := h1 k hk
    have := h2 k hk
    omega
theorem putE_1 {n : Int} {k : Nat} {l : List Int} (h : chgMay n l ≠ 0) : plPutE n k l = chgMay n l := by unfold plPutE; rw [if_pos h]
theorem putE_2 {n : Int} {k : Nat} {l : List Int} (h : ¬ chgMay n l ≠ 0) (h2 : 200 < k + 1) : plPutE n k l = 3 := by unfold plPutE; rw [if_neg h, if_pos h2]
theorem putE_0 {n : Int} {k : Nat} {l : List Int} (h : ¬ chgMay n l ≠ 0) (h2 : ¬ 200 < k + 1) : plPutE n k l = 0 := by unfold plPutE; rw [if_neg h, if_neg h2]
section
variable {n : Int} {sm L : List Int} {blk : List (List Int)}
theorem clE_6 (h : sm ≠ []) (h2 : incrB sm = false) : clE n blk sm = 6 := by unfold clE; rw [if_neg h, if_pos h2]
theorem clE_put (h : sm ≠ []) (h2 : incrB sm = true) (hL : plIn n sm = L) : clE n blk sm = plPutE n blk.length L := by unfold clE; rw [if_neg h, if_neg (by rw [h2]; simp), hL]
theorem clB_put (h : sm ≠ []) (hL : plIn n sm = L) : clB n blk sm = blk ++ [L] := by unfold clB; rw [if_neg h, hL]
theorem clD_ne {d : Bool} (h : sm ≠ []) : clD sm d = true := by unfold clD; rw [if_neg h]
theorem plFst_1 {x : Int} (h : (((x.toNat % 2 : Nat)) : Int) = 0) (hx : x = sm.getD 0 0 := by rfl) : plFst sm = [(1 : Int)] ++ sm := by
  unfold plFst; rw [if_pos (by rw [← hx]; omega)]; rfl
theorem plFst_0 {x : Int} (h : ¬ (((x.toNat % 2 : Nat)) : Int) = 0) (hx : x = sm.getD 0 0 := by rfl) : plFst sm = sm := by
  unfold plFst; rw [if_neg (by rw [← hx]; omega)]
theorem plIn_1 {m : List Int} (hf : plFst sm = m) (h1 : m.getD (m.length - 1) 0 < n) (h2 : (n - m.getD (m.length - 1) 0).toNat % 2 = 1) : plIn n sm = m ++ [n] := by
  unfold plIn plLst; rw [hf, if_pos ⟨h1, h2⟩]
theorem plIn_0 {m : List Int} (hf : plFst sm = m) (h : ¬ (m.getD (m.length - 1) 0 < n ∧ (n - m.getD (m.length - 1) 0).toNat % 2 = 1)) : plIn n sm = m := by
  unfold plIn plLst; rw [hf, if_neg h]
end
theorem ins_last {ql : List Int} {c : Int} (h : 1 ≤ ql.length) : ([c] ++ ql).getD (([c] ++ ql).length - 1) 0 = ql.getD (ql.length - 1) 0 := by
  rw [List.length_append, List.length_singleton, show 1 + ql.length - 1 = ql.length - 1 + 1 by omega, List.singleton_append, List.getD_cons_succ]
end Go.KL
namespace Go.KL
section
variable {n : Int} {all blk B : List (List Int)} {mir d : Bool} {ql : List Int} {k : Nat}
theorem enE_1 (h : clE n blk ql ≠ 0) : enE n ⟨all, blk, mir, ql, d⟩ = clE n blk ql := by unfold enE; rw [if_pos h]
theorem enE_2 (h : clE n blk ql = 0) (hd : clD ql d = false) : enE n ⟨all, blk, mir, ql, d⟩ = 5 := by unfold enE; rw [if_neg (by rw [h]; simp), if_pos hd]
theorem enE_3 (h : clE n blk ql = 0) (hd : clD ql d = true) (h2 : 200 < (all ++ mirL mir (clB n blk ql)).length) : enE n ⟨all, blk, mir, ql, d⟩ = 3 := by unfold enE; rw [if_neg (by rw [h]; simp), if_neg (by rw [hd]; simp), if_pos h2]
theorem enE_0 (h : clE n blk ql = 0) (hd : clD ql d = true) (h2 : ¬ 200 < (all ++ mirL mir (clB n blk ql)).length) : enE n ⟨all, blk, mir, ql, d⟩ = 0 := by unfold enE; rw [if_neg (by rw [h]; simp), if_neg (by rw [hd]; simp), if_neg h2]
def mirP (B : List (List Int)) (k : Nat) : List (List Int) := (B.take (B.length - 1)).reverse.take k
theorem mirP_0 : mirP B 0 = [] := rfl
theorem mirP_len (h : k + 1 ≤ B.length) : (mirP B k).length = k := by
  unfold mirP
  rw [List.length_take, List.length_reverse, List.length_take]; omega
theorem mirP_succ (h : k + 2 ≤ B.length) : mirP B (k + 1) = mirP B k ++ [B.getD (B.length - 2 - k) []] := by
  unfold mirP
  have hl : k < ((B.take (B.length - 1)).reverse).length := by rw [List.length_reverse, List.length_take]; omega
  rw [List.take_add_one, List.getElem?_eq_getElem hl]
  congr 1
  simp only [Option.toList_some, List.getElem_reverse, List.length_take]
  have h2 : min (B.length - 1) B.length - 1 - k = B.length - 2 - k := by omega
  simp only [h2]
  rw [List.getElem_take, List.getD_eq_getElem?_getD, List.getElem?_eq_getElem (by omega)]
  rfl
theorem mir_el {i : Int} (h : k + 2 ≤ B.length) (hi : i = ((B.length : Nat) : Int) - 2 - ((k : Nat) : Int)) : (B ++ mirP B k).getD i.toNat [] = B.getD (B.length - 2 - k) [] := by
  subst hi
  rw [List.getD_eq_getElem?_getD, List.getD_eq_getElem?_getD, List.getElem?_append_left (by omega)]
  congr 2; omega
theorem mirL_all (h : B.length ≤ k + 1) : B ++ mirP B k = mirL true B := by
  unfold mirL mirP
  rw [if_pos rfl, List.take_of_length_le (by rw [List.length_reverse, List.length_take]; omega)]
theorem mirL_len : (mirL mir B).length ≤ 2 * B.length := by
  unfold mirL
  split
  · rw [List.length_append, List.length_reverse, List.length_take]; omega
  · omega
theorem plIn_len : (plIn n ql).length ≤ ql.length + 2 := by
  have h1 : (plFst ql).length ≤ ql.length + 1 := by unfold plFst; split <;> simp
  unfold plIn plLst
  split
  · rw [List.length_append, List.length_singleton]; omega
  · omega
theorem clB_el (h : ∀ x ∈ blk, x.length ≤ 20000) (hq : ql.length ≤ 10000) : ∀ x ∈ clB n blk ql, x.length ≤ 20000 := by
  unfold clB
  split
  · exact h
  · intro x hx
    rcases List.mem_append.1 hx with h1 | h1
    · exact h x h1
    · rw [List.mem_singleton.1 h1]
      have := plIn_len (n := n) (ql := ql); omega
theorem el_len {l : List (List Int)} {j : Nat} (h : ∀ x ∈ l, x.length ≤ 20000) : (l.getD j []).length ≤ 20000 := by
  by_cases hj : j < l.length
  · rw [List.getD_eq_getElem?_getD, List.getElem?_eq_getElem hj]
    exact h _ (List.getElem_mem hj)
  · rw [List.getD_eq_getElem?_getD, List.getElem?_eq_none (by omega)]; simp
theorem clB_len : (clB n blk ql).length ≤ blk.length + 1 := by
  unfold clB
  split
  · omega
  · simp
end
end Go.KL
namespace Go.KL
section
variable {n c : Int} {s : PSt} {f : Bool}
theorem sgE_A (hA : isA f c = true) : sgE n s f c = 0 := by unfold sgE; rw [if_pos hA]
theorem sgS_A (hA : isA f c = true) : sgS n s f c = { s with mir := decide (c = 38) } := by unfold sgS; rw [if_pos hA]
theorem sgE_X (hA : isA f c = false) (hX : isX c = true) : sgE n s f c = if clE n s.blk s.sm ≠ 0 then clE n s.blk s.sm else plPutE n (clB n s.blk s.sm).length [] := by unfold sgE; rw [if_neg (by rw [hA]; simp), if_pos hX]
theorem sgS_X (hA : isA f c = false) (hX : isX c = true) : sgS n s f c = ⟨s.all, clB n s.blk s.sm ++ [[]], s.mir, [], true⟩ := by unfold sgS; rw [if_neg (by rw [hA]; simp), if_pos hX]
theorem sgE_D (hA : isA f c = false) (hX : isX c = false) (h : c = 46) : sgE n s f c = if s.sm = [] ∧ s.dot = false then 4 else clE n s.blk s.sm := by unfold sgE; rw [if_neg (by rw [hA]; simp), if_neg (by rw [hX]; simp), if_pos h]
theorem sgS_D (hA : isA f c = false) (hX : isX c = false) (h : c = 46) : sgS n s f c = ⟨s.all, clB n s.blk s.sm, s.mir, [], false⟩ := by unfold sgS; rw [if_neg (by rw [hA]; simp), if_neg (by rw [hX]; simp), if_pos h]
theorem sgE_C (hA : isA f c = false) (hX : isX c = false) (h : c ≠ 46) (h2 : c = 44) : sgE n s f c = if s.sm = [] ∧ s.dot = false then 4 else enE n s := by unfold sgE; rw [if_neg (by rw [hA]; simp), if_neg (by rw [hX]; simp), if_neg h, if_pos h2]
theorem sgS_C (hA : isA f c = false) (hX : isX c = false) (h : c ≠ 46) (h2 : c = 44) : sgS n s f c = ⟨enA n s, [], false, [], false⟩ := by unfold sgS; rw [if_neg (by rw [hA]; simp), if_neg (by rw [hX]; simp), if_neg h, if_pos h2]
theorem sgE_N (hA : isA f c = false) (hX : isX c = false) (h : c ≠ 46) (h2 : c ≠ 44) (h3 : signIdx c < 0) : sgE n s f c = if clE n s.blk s.sm ≠ 0 then clE n s.blk s.sm else 4 := by unfold sgE; rw [if_neg (by rw [hA]; simp), if_neg (by rw [hX]; simp), if_neg h, if_neg h2, if_pos h3]
theorem sgE_S (hA : isA f c = false) (hX : isX c = false) (h : c ≠ 46) (h2 : c ≠ 44) (h3 : ¬ signIdx c < 0) : sgE n s f c = 0 := by unfold sgE; rw [if_neg (by rw [hA]; simp), if_neg (by rw [hX]; simp), if_neg h, if_neg h2, if_neg h3]
theorem sgS_S (hA : isA f c = false) (hX : isX c = false) (h : c ≠ 46) (h2 : c ≠ 44) : sgS n s f c = { s with sm := s.sm ++ [signIdx c + 1] } := by unfold sgS; rw [if_neg (by rw [hA]; simp), if_neg (by rw [hX]; simp), if_neg h, if_neg h2]
theorem isA_44 (h : isA f c = true) : c ≠ 44 := by
  simp only [isA, Bool.and_eq_true, Bool.or_eq_true, decide_eq_true_eq] at h
  omega
theorem isX_44 (h : isX c = true) : c ≠ 44 := by
  simp only [isX, Bool.or_eq_true, decide_eq_true_eq] at h
  omega
theorem ite_l {a b : Int} (h : a ≠ 0) : (if a ≠ 0 then a else b) = a := if_pos h
theorem ite_r {a b : Int} (h : a = 0) : (if a ≠ 0 then a else b) = b := if_neg (by rw [h]; simp)
theorem signIdx_bd (c : Int) : -1 ≤ signIdx c ∧ signIdx c ≤ 11 := by
  by_cases h : 0 ≤ c ∧ c < 128
  · have := (by decide +kernel : ∀ m : Fin 128, -1 ≤ signIdx ((m.val : Nat) : Int) ∧ signIdx ((m.val : Nat) : Int) ≤ 11) ⟨c.toNat, by omega⟩
    simp only at this
    rwa [Int.toNat_of_nonneg h.1] at this
  · rw [signIdx_hi h]; omega
end
end Go.KL

/- The reader's loop over a text: bounds, runs that are no characters. -/
namespace Go.KL
variable {n : Int} {st : PSt} {f : Bool} {c : Int}
theorem sgE_off (h : c = -1 ∨ c = 65533) : sgE n st f c = if clE n st.blk st.sm ≠ 0 then clE n st.blk st.sm else 4 := by
  have hA : isA f c = false := by rcases h with rfl | rfl <;> cases f <;> rfl
  have hX : isX c = false := by rcases h with rfl | rfl <;> rfl
  exact sgE_N hA hX (by omega) (by omega) (by rcases h with rfl | rfl <;> decide)
theorem sgE_run {s : ByteArray} {p : Nat} : sgE n st f (run1 s p : Nat) = sgE n st f (runM s p) := by
  unfold runM
  split
  · rename_i h
    rw [h.1, sgE_off (c := ((65533 : Nat) : Int)) (.inr rfl), sgE_off (.inl rfl)]
  · rfl
theorem run_eq {s : ByteArray} {p : Nat} (h : sgE n st f (run1 s p : Nat) = 0) : runM s p = (run1 s p : Nat) := by
  unfold runM
  split
  · rename_i h1
    rw [h1.1, sgE_off (c := ((65533 : Nat) : Int)) (.inr rfl)] at h
    split at h
    · exact absurd h (by assumption)
    · cases h
  · rfl
structure PB (s : PSt) (m : Nat) : Prop where
  all : s.all.length ≤ 200
  blk : s.blk.length ≤ 200
  el : ∀ x ∈ s.blk, x.length ≤ 20000
  sm : s.sm.length ≤ m
  v : ∀ k, k < s.sm.length → 1 ≤ s.sm.getD k 0 ∧ s.sm.getD k 0 ≤ 12
theorem pb0 : PB ps0 0 := ⟨by decide, by decide, (by intro x h; cases h), by decide, (by intro k h; cases h)⟩
theorem clB_200 (h : clE n st.blk st.sm = 0) (hb : st.blk.length ≤ 200) : (clB n st.blk st.sm).length ≤ 200 := by
  unfold clB
  split
  · exact hb
  · rename_i h1
    unfold clE at h
    rw [if_neg h1] at h
    split at h
    · cases h
    · unfold plPutE at h
      split at h
      · exact absurd h (by assumption)
      · split at h
        · cases h
        · rw [List.length_append, List.length_singleton]; omega
theorem pb_step {m : Nat} (hb : PB st m) (hm : m ≤ 10000) (h : sgE n st f c = 0) : PB (sgS n st f c) (m + 1) := by
  have hel := clB_el (n := n) hb.el (ql := st.sm) (Nat.le_trans hb.sm hm)
  have hsm := hb.sm
  have nov : ∀ k, k < ([] : List Int).length → 1 ≤ ([] : List Int).getD k 0 ∧ ([] : List Int).getD k 0 ≤ 12 := fun k h => absurd h (by simp)
  by_cases hA : isA f c = true
  · rw [sgS_A hA]
    exact ⟨hb.all, hb.blk, hb.el, Nat.le_succ_of_le hb.sm, hb.v⟩
  · have hA' : isA f c = false := by simpa using hA
    by_cases hX : isX c = true
    · rw [sgE_X hA' hX] at h
      rw [sgS_X hA' hX]
      have h0 : clE n st.blk st.sm = 0 := by
        apply Classical.byContradiction
        intro h1
        rw [if_pos h1] at h
        exact h1 h
      rw [if_neg (by rw [h0]; simp)] at h
      have h3 : (clB n st.blk st.sm).length + 1 ≤ 200 := by
        unfold plPutE at h
        split at h
        · exact absurd h (by assumption)
        · split at h
          · cases h
          · omega
      refine ⟨hb.all, by rw [List.length_append, List.length_singleton]; exact h3, fun x hx => ?_, Nat.zero_le _, nov⟩
      rcases List.mem_append.1 hx with hx | hx
      · exact hel x hx
      · rw [List.mem_singleton.1 hx]; exact Nat.zero_le _
    · have hX' : isX c = false := by simpa using hX
      by_cases h46 : c = 46
      · rw [sgE_D hA' hX' h46] at h
        rw [sgS_D hA' hX' h46]
        have h0 : clE n st.blk st.sm = 0 := by
          split at h
          · cases h
          · exact h
        exact ⟨hb.all, clB_200 h0 hb.blk, hel, Nat.zero_le _, nov⟩
      · by_cases h44 : c = 44
        · rw [sgE_C hA' hX' h46 h44] at h
          rw [sgS_C hA' hX' h46 h44]
          have h1 : enE n st = 0 := by
            split at h
            · cases h
            · exact h
          refine ⟨?_, Nat.zero_le _, (by intro x h; cases h), Nat.zero_le _, nov⟩
          unfold enE at h1
          split at h1
          · exact absurd h1 (by assumption)
          · split at h1
            · cases h1
            · split at h1
              · cases h1
              · show (enA n st).length ≤ 200
                unfold enA
                omega
        · rw [sgS_S hA' hX' h46 h44]
          have h5 : ¬ signIdx c < 0 := by
            intro h5
            rw [sgE_N hA' hX' h46 h44 h5] at h
            split at h
            · exact absurd h (by assumption)
            · cases h
          have h6 := signIdx_bd c
          refine ⟨hb.all, hb.blk, hb.el, ?_, fun k hk => ?_⟩
          · show (st.sm ++ [signIdx c + 1]).length ≤ m + 1
            rw [List.length_append, List.length_singleton]; omega
          · show 1 ≤ (st.sm ++ [signIdx c + 1]).getD k 0 ∧ (st.sm ++ [signIdx c + 1]).getD k 0 ≤ 12
            rw [List.getD_eq_getElem?_getD]
            by_cases hk2 : k < st.sm.length
            · rw [List.getElem?_append_left hk2, ← List.getD_eq_getElem?_getD]; exact hb.v k hk2
            · have hk3 : k < (st.sm ++ [signIdx c + 1]).length := hk
              rw [List.length_append, List.length_singleton] at hk3
              rw [List.getElem?_append_right (by omega), show k - st.sm.length = 0 by omega]
              simp only [List.getElem?_cons_zero, Option.getD_some]
              omega
theorem pb_wid {m w : Nat} (h : PB st (m + 1)) (hw : 1 ≤ w) : PB st (m + w) := ⟨h.all, h.blk, h.el, Nat.le_trans h.sm (by omega), h.v⟩
theorem runsF_cns {s : ByteArray} {g p : Nat} (hp : p < s.size) (hg : s.size ≤ g + p) : runsF s g p = runM s p :: runsF s (g - 1) (p + wid s p) := by
  have := runsF_step (s := s) (f := g) (p := p) (xs := []) rfl hp hg
  simpa using this.symm
theorem runsF_out {s : ByteArray} {g p : Nat} (hp : ¬ p < s.size) : runsF s g p = [] := by
  cases g with
  | zero => rfl
  | succ g => unfold runsF; rw [if_neg hp]
theorem pl_go {s : ByteArray} {g p : Nat} {X : Int × List (List Int)} (hX : plF n (runsF s g p) st f = X) (hp : p < s.size) (hg : s.size ≤ g + p) (h : sgE n st f (run1 s p : Nat) = 0) :
    plF n (runsF s (g - 1) (p + wid s p)) (sgS n st f (run1 s p : Nat)) (decide (((run1 s p : Nat) : Int) = 44)) = X := by
  rw [← hX, runsF_cns hp hg, plF, run_eq h, if_neg (by rw [h]; simp)]
theorem pl_bad {s : ByteArray} {g p : Nat} {X : Int × List (List Int)} (hX : plF n (runsF s g p) st f = X) (hp : p < s.size) (hg : s.size ≤ g + p) (h : sgE n st f (run1 s p : Nat) ≠ 0) :
    X = (sgE n st f (run1 s p : Nat), []) := by
  rw [← hX, runsF_cns hp hg, plF, ← sgE_run, if_pos h]
theorem pl_out {s : ByteArray} {g p : Nat} {X : Int × List (List Int)} (hX : plF n (runsF s g p) st f = X) (hp : ¬ p < s.size) : X = if enE n st ≠ 0 then (enE n st, []) else (0, enA n st) := by
  rw [← hX, runsF_out hp, plF]
theorem pl_bad2 {s : ByteArray} {g p : Nat} {X : Int × List (List Int)} (hX : plF n (runsF s g p) st f = X) (hp : ¬ p < s.size) (h : enE n st ≠ 0) : X = (enE n st, []) := by
  rw [pl_out hX hp, if_pos h]
theorem pl_end2 {s : ByteArray} {g p : Nat} {X : Int × List (List Int)} (hX : plF n (runsF s g p) st f = X) (hp : ¬ p < s.size) (h : enE n st = 0) : X = (0, enA n st) := by
  rw [pl_out hX hp, if_neg (by rw [h]; simp)]
theorem plM_1 {s : ByteArray} (h : n < 1 ∨ 12 < n) : plM n s = (1, []) := by unfold plM; rw [if_pos h]
theorem plM_3 {s : ByteArray} (h : ¬ (n < 1 ∨ 12 < n)) (h2 : 4000 < s.size) : plM n s = (3, []) := by unfold plM; rw [if_neg h, if_pos h2]
theorem plM_in {s : ByteArray} (h : ¬ (n < 1 ∨ 12 < n)) (h2 : ¬ 4000 < s.size) : plF n (runsF s s.size 0) ps0 true = plM n s := by unfold plM; rw [if_neg h, if_neg h2]; rfl
theorem bad_has {s : ByteArray} {e : Int} {σ : GW} (h : plM n s = (e, [])) : (Ty.tup2 (Ty.lst Ty.ints (plM n s).2) (Ty.int (plM n s).1)).has σ (.tuple #[.slice none 0 0, .int .i64 e]) := by
  rw [h]
  exact hasT2 sl_nil rfl
end Go.KL

/- The document's reader of places: what each branch answers. -/
namespace Go.KL
variable {n c : Int} {L xs : List Int} {last : Bool}
def edL (n : Int) (xs : List Int) : List Int := if incrB xs = false then [] else plIn n xs
def edE (n : Int) (xs : List Int) : Int := if incrB xs = false then 6 else chgMay n (plIn n xs)
theorem edL_6 (h : incrB xs = false) : edL n xs = [] := by unfold edL; rw [if_pos h]
theorem edE_6 (h : incrB xs = false) : edE n xs = 6 := by unfold edE; rw [if_pos h]
theorem edL_p {m : List Int} (h : incrB xs = true) (hL : plIn n xs = m) : edL n xs = m := by unfold edL; rw [if_neg (by rw [h]; simp), hL]
theorem edE_p {m : List Int} (h : incrB xs = true) (hL : plIn n xs = m) : edE n xs = chgMay n m := by unfold edE; rw [if_neg (by rw [h]; simp), hL]
variable {blk : List (List Int)}
theorem cl_ed (h : xs ≠ []) (h1 : edE n xs ≠ 0) : clE n blk xs = edE n xs := by
  unfold clE edE at *
  rw [if_neg h]
  split
  · rfl
  · rename_i h2
    rw [if_neg h2] at h1
    unfold plPutE
    rw [if_pos h1]
theorem cl_ed0 (h : xs ≠ []) (h1 : edE n xs = 0) : clE n blk xs = (if 200 < blk.length + 1 then 3 else 0) ∧ clB n blk xs = blk ++ [edL n xs] := by
  unfold edE at h1
  split at h1
  · cases h1
  · rename_i h2
    refine ⟨?_, ?_⟩
    · unfold clE
      rw [if_neg h, if_neg h2]
      unfold plPutE
      rw [if_neg (by rw [h1]; simp)]
    · unfold clB edL
      rw [if_neg h, if_neg h2]
variable {q : QSt}
theorem rfE_b (h : 0 ≤ signIdx c) : rfE n q c last = 0 := by unfold rfE; rw [if_pos h]
theorem rfS_b (h : 0 ≤ signIdx c) : rfS n q c = ⟨q.all, q.blk, q.mir, q.sm ++ [signIdx c + 1], false, false⟩ := by unfold rfS; rw [if_pos h]
theorem rfE_cl (h : ¬ 0 ≤ signIdx c) (h1 : clE n q.blk q.sm ≠ 0) : rfE n q c last = clE n q.blk q.sm := by unfold rfE; rw [if_neg h, if_pos h1]
section
variable (h : ¬ 0 ≤ signIdx c) (h1 : clE n q.blk q.sm = 0)
include h h1
theorem rfE_A (hA : isA q.beg c = true) : rfE n q c last = 0 := by unfold rfE; rw [if_neg h, if_neg (by rw [h1]; simp), if_pos hA]
theorem rfE_X (hA : isA q.beg c = false) (hX : isX c = true) : rfE n q c last = plPutE n (clB n q.blk q.sm).length [] := by unfold rfE; rw [if_neg h, if_neg (by rw [h1]; simp), if_neg (by rw [hA]; simp), if_pos hX]
theorem rfE_D (hA : isA q.beg c = false) (hX : isX c = false) (hc : c = 46) : rfE n q c last = if clB n q.blk q.sm = [] ∨ q.dot = true then 4 else 0 := by unfold rfE; rw [if_neg h, if_neg (by rw [h1]; simp), if_neg (by rw [hA]; simp), if_neg (by rw [hX]; simp), if_pos hc]
theorem rfE_C (hA : isA q.beg c = false) (hX : isX c = false) (h46 : ¬ c = 46) (hc : c = 44) : rfE n q c last = if clB n q.blk q.sm = [] ∨ q.dot = true then (if last = true then 5 else 4) else if 200 < (q.all ++ mirL q.mir (clB n q.blk q.sm)).length then 3 else 0 := by unfold rfE; rw [if_neg h, if_neg (by rw [h1]; simp), if_neg (by rw [hA]; simp), if_neg (by rw [hX]; simp), if_neg h46, if_pos hc]
theorem rfE_4 (hA : isA q.beg c = false) (hX : isX c = false) (h46 : ¬ c = 46) (h44 : ¬ c = 44) : rfE n q c last = 4 := by unfold rfE; rw [if_neg h, if_neg (by rw [h1]; simp), if_neg (by rw [hA]; simp), if_neg (by rw [hX]; simp), if_neg h46, if_neg h44]
end
section
variable (h : ¬ 0 ≤ signIdx c)
include h
theorem rfS_A (hA : isA q.beg c = true) : rfS n q c = ⟨q.all, clB n q.blk q.sm, decide (c = 38), [], false, q.dot⟩ := by unfold rfS; rw [if_neg h, if_pos hA]
theorem rfS_X (hA : isA q.beg c = false) (hX : isX c = true) : rfS n q c = ⟨q.all, clB n q.blk q.sm ++ [[]], q.mir, [], false, false⟩ := by unfold rfS; rw [if_neg h, if_neg (by rw [hA]; simp), if_pos hX]
theorem rfS_D (hA : isA q.beg c = false) (hX : isX c = false) (hc : c = 46) : rfS n q c = ⟨q.all, clB n q.blk q.sm, q.mir, [], q.beg, true⟩ := by unfold rfS; rw [if_neg h, if_neg (by rw [hA]; simp), if_neg (by rw [hX]; simp), if_pos hc]
theorem rfS_C (hA : isA q.beg c = false) (hX : isX c = false) (h46 : ¬ c = 46) : rfS n q c = ⟨q.all ++ mirL q.mir (clB n q.blk q.sm), [], false, [], true, q.dot⟩ := by unfold rfS; rw [if_neg h, if_neg (by rw [hA]; simp), if_neg (by rw [hX]; simp), if_neg h46]
end
/-! ### The loop -/
variable {k : Nat} {X : Int × List (List Int)}
theorem drop_c {L : List Int} {k : Nat} (hk : k < L.length) : L.drop k = L.getD k 0 :: L.drop (k + 1) := by
  rw [List.drop_eq_getElem_cons hk]
  congr 1
  simp [List.getD_eq_getElem?_getD, hk]
theorem last_c {L : List Int} {k : Nat} (hk : k < L.length) : (L.drop (k + 1)).isEmpty = decide (k + 1 = L.length) := by
  rw [Bool.eq_iff_iff]
  simp
  omega
theorem rf_bad {e : Int} (hX : rfF n (L.drop k) q = X) (hk : k < L.length) (h : rfE n q (L.getD k 0) (decide (k + 1 = L.length)) = e) (he : e ≠ 0) : X = (e, []) := by
  rw [← hX, drop_c hk, rfF, last_c hk, h, if_pos he]
theorem rf_go {q' : QSt} (hX : rfF n (L.drop k) q = X) (hk : k < L.length) (h : rfE n q (L.getD k 0) (decide (k + 1 = L.length)) = 0) (hS : rfS n q (L.getD k 0) = q') : rfF n (L.drop (k + 1)) q' = X := by
  rw [← hX, drop_c hk, rfF, last_c hk, h, if_neg (by simp), hS]
theorem rf_end (hX : rfF n (L.drop k) q = X) (hk : ¬ k < L.length) : X = (0, q.all) := by
  rw [← hX, List.drop_eq_nil_of_le (by omega), rfF]
theorem rf_0 {s : ByteArray} (h1 : ¬ (n < 1 ∨ 12 < n)) (h2 : ¬ 4000 < s.size) : rfF n ((runsL s ++ [44]).drop 0) qs0 = plM n s := by rw [List.drop_zero]; exact plM_ref h1 h2
theorem sv_app {m : List Int} {v : Int} (h : ∀ k, k < m.length → 1 ≤ m.getD k 0 ∧ m.getD k 0 ≤ 12) (hv : 1 ≤ v ∧ v ≤ 12) : ∀ k, k < (m ++ [v]).length → 1 ≤ (m ++ [v]).getD k 0 ∧ (m ++ [v]).getD k 0 ≤ 12 := by
  intro k hk
  rw [List.length_append, List.length_singleton] at hk
  rw [List.getD_eq_getElem?_getD]
  by_cases hk2 : k < m.length
  · rw [List.getElem?_append_left hk2, ← List.getD_eq_getElem?_getD]; exact h k hk2
  · rw [List.getElem?_append_right (by omega), show k - m.length = 0 by omega]
    simpa using hv
end Go.KL
namespace Go.KL
theorem el_ix {B : List (List Int)} {k : Nat} {i : Int} (h : k + 2 ≤ B.length) (hi : i = ((B.length : Nat) : Int) - 2 - ((k : Nat) : Int)) : B.getD i.toNat [] = B.getD (B.length - 2 - k) [] := by
  rw [show i.toNat = B.length - 2 - k by omega]
theorem mir_all {all B : List (List Int)} {mir : Bool} {k : Nat} (h0 : mir = false → k = 0) (h1 : mir = true → B.length ≤ k + 1) : all ++ B ++ mirP B k = all ++ mirL mir B := by
  rw [List.append_assoc]
  cases mir with
  | false => rw [h0 rfl, mirP_0, List.append_nil]; rfl
  | true => rw [mirL_all (h1 rfl)]
end Go.KL

/- A method's line, read. -/
namespace Go.KL
def pcs (s : ByteArray) (k : Nat) : ByteArray := (cutT 124 s).getD k ByteArray.empty
def rdE (s : ByteArray) : Int :=
  if 4000 < s.size then 3 else if (cutT 124 s).length < 3 then 5 else if 3 < (cutT 124 s).length then 4 else if nameL (pcs s 0) = false then 7
  else if digE (pcs s 1) < 0 then 4 else if digE (pcs s 1) < 2 ∨ 12 < digE (pcs s 1) then 1 else (plM (digE (pcs s 1)) (pcs s 2)).1
variable {s : ByteArray}
theorem rd_3 (h : 4000 < s.size) : rdE s = 3 := by unfold rdE; rw [if_pos h]
theorem rd_5 (h : ¬ 4000 < s.size) (h1 : (cutT 124 s).length < 3) : rdE s = 5 := by unfold rdE; rw [if_neg h, if_pos h1]
theorem rd_4 (h : ¬ 4000 < s.size) (h1 : ¬ (cutT 124 s).length < 3) (h2 : 3 < (cutT 124 s).length) : rdE s = 4 := by unfold rdE; rw [if_neg h, if_neg h1, if_pos h2]
section
variable (h : ¬ 4000 < s.size) (h1 : ¬ (cutT 124 s).length < 3) (h2 : ¬ 3 < (cutT 124 s).length)
include h h1 h2
theorem rd_7 (h3 : nameL (pcs s 0) = false) : rdE s = 7 := by unfold rdE; rw [if_neg h, if_neg h1, if_neg h2, if_pos h3]
theorem rd_4b (h3 : nameL (pcs s 0) = true) (h4 : digE (pcs s 1) < 0) : rdE s = 4 := by unfold rdE; rw [if_neg h, if_neg h1, if_neg h2, if_neg (by rw [h3]; simp), if_pos h4]
theorem rd_1 (h3 : nameL (pcs s 0) = true) (h4 : ¬ digE (pcs s 1) < 0) (h5 : digE (pcs s 1) < 2 ∨ 12 < digE (pcs s 1)) : rdE s = 1 := by unfold rdE; rw [if_neg h, if_neg h1, if_neg h2, if_neg (by rw [h3]; simp), if_neg h4, if_pos h5]
theorem rd_p (h3 : nameL (pcs s 0) = true) (h4 : ¬ digE (pcs s 1) < 0) (h5 : ¬ (digE (pcs s 1) < 2 ∨ 12 < digE (pcs s 1))) : rdE s = (plM (digE (pcs s 1)) (pcs s 2)).1 := by unfold rdE; rw [if_neg h, if_neg h1, if_neg h2, if_neg (by rw [h3]; simp), if_neg h4, if_neg h5]
end
end Go.KL
namespace Go.KL
variable {s : ByteArray}
theorem cutp_len {c : UInt8} : ∀ {l : List UInt8}, ∀ p ∈ cutL c l, p.length ≤ l.length
  | [], p, h => by simp [cutL] at h; simp [h]
  | b :: r, p, h => by
    unfold cutL at h
    split at h
    · rcases List.mem_cons.1 h with rfl | h
      · simp
      · exact Nat.le_succ_of_le (cutp_len p h)
    · split at h
      · simp at h; simp [h]
      · rename_i q qs e
        have ih : ∀ p ∈ cutL c r, p.length ≤ r.length := fun p hp => cutp_len p hp
        rw [e] at ih
        rcases List.mem_cons.1 h with rfl | h
        · have := ih q (by simp); simp only [List.length_cons]; omega
        · have := ih p (by simp [h]); simp only [List.length_cons]; omega
theorem pcs_le (k : Nat) : (pcs s k).size ≤ s.size := by
  unfold pcs cutT
  rw [List.getD_eq_getElem?_getD, List.getElem?_map]
  cases e : (cutL 124 s.data.toList)[k]? with
  | none => exact Nat.zero_le _
  | some p =>
    have := cutp_len p (List.mem_of_getElem? e)
    show (bsL p).size ≤ s.size
    rw [bsL_size]
    have h2 : s.data.toList.length = s.size := by simp
    omega
end Go.KL

/- Contracts of the shelf, as contracts here. -/
namespace Go.KL
variable {P : Program}
def GW.grow (σ : GW) (w' : World) (h : σ.w.heap.size ≤ w'.heap.size) : GW := ⟨w', fun b => if b < σ.w.heap.size then σ.st b else 0, fun b hb => by
  by_cases hlt : b < σ.w.heap.size
  · omega
  · simp [hlt] at hb⟩
theorem GW.grow_stp {σ : GW} {w' : World} (h : RowKit.Below σ.w.heap.size σ.w w') : Stp 0 σ (σ.grow w' h.size) :=
  ⟨h.os, h.tape, h.output, .inr trivial, h.size, fun b hb _ => h.block b hb, fun b hb _ => by simp [GW.grow, hb]⟩
theorem fnc_below {f : FuncId} {args : Array Value} {σ : GW} {R : Ty} {v : Value} (h : Calls P f args σ.w fun e w' => e = .returned v ∧ RowKit.Below σ.w.heap.size σ.w w') (hR : ∀ τ, R.has τ v) : FnC P f args σ R := by
  refine Calls.mono h ?_
  rintro e w' ⟨rfl, hb⟩
  exact ⟨v, σ.grow w' hb.size, rfl, GW.grow_stp hb, rfl, hR _⟩
end Go.KL

/- A global that is there; errors held against nil; numbers read by the library. -/
namespace Go.KL
variable {P : Program}
def Glb (G : Nat) (σ : GW) : Prop := σ.st G = 1 ∧ ∃ ev, σ.w.cell? ⟨G, 0, none⟩ = some ev ∧ (ev = .nilIface ∨ ∃ te pe, ev = .iface te pe)
theorem Glb.up {G : Nat} {σ τ : GW} (h : σ.Le τ) (k : Glb G σ) : Glb G τ := by
  obtain ⟨h1, ev, h2, h3⟩ := k
  exact ⟨h.st G h1, ev, by rw [World.cell?_of_block (w := σ.w) (h.blk G h1)]; exact h2, h3⟩
theorem Glb.fl {G : Nat} {L : List Nat} {σ τ : GW} (h : FromL L σ τ) (hL : L.all (2 ≤ ·) = true) (k : Glb G σ) : Glb G τ := by
  have k1 := k.1
  have hn : σ.st G ∉ L := fun hm => by
    have := List.all_eq_true.1 hL _ hm
    rw [k1] at this
    simp at this
  have hlt := σ.lt G (by omega)
  obtain ⟨_, ev, h2, h3⟩ := k
  exact ⟨(h.stp.st G hlt hn).trans k1, ev, by rw [World.cell?_of_block (w := σ.w) (h.stp.blk G hlt hn)]; exact h2, h3⟩
def isNilV : Value → Bool
  | .nilIface => true
  | _ => false
def ErrV (ev : Value) : Prop := ev = .nilIface ∨ ∃ te pe, ev = .iface te pe
section
variable {σ : GW} {a : Act} {d : Option Tmp} {ty : TypeId} {pos : String} {af : Array Edge} {g : Option (Nat × Bool)}
theorem y_neqnil {t u : TypeId} {x : Operand} {ev : Value} (ht : P.underlying t = some (.interface (P.methodsAt t))) (hx : a.eval x = ev) (h : ErrV ev) :
    Yld P ⟨d, .binOp .neq t x (.const .nilIface) u, ty, pos, af, g⟩ a σ (Ty.bool (!isNilV ev)).pr := by
  rcases h with rfl | ⟨te, pe, rfl⟩
  · exact Yld.of_run (v := .bool false) (by simp only [execOp, hx]; simp [go_sem, eqGuard, Act.eval, run_neq_nil_nil σ.w t ht]) rfl
  · exact Yld.of_run (v := .bool true) (by simp only [execOp, hx]; simp [go_sem, eqGuard, Act.eval, run_neq_held_nil σ.w t te pe ht]) rfl
end
def AtR (s : ByteArray) (n : Int) (ev : Value) : Prop := ErrV ev ∧ ((isNilV ev = true ∧ 0 ≤ n ∧ n ≤ 9223372036854775807 ∧ dgF 0 s.data.toList = min n 1000000000) ∨ (isNilV ev = false ∧ dgF 0 s.data.toList = 1000000000))
theorem fnl_below {f : FuncId} {args : Array Value} {σ : GW} {R : Value → GW → Prop} (h : Calls P f args σ.w fun e w' => ∃ v, e = .returned v ∧ RowKit.Below σ.w.heap.size σ.w w' ∧ ∀ τ, R v τ) : FnL P f args σ [] R := by
  refine Calls.mono h ?_
  rintro e w' ⟨v, rfl, hb, hR⟩
  exact ⟨v, σ.grow w' hb.size, rfl, (GW.grow_stp hb).toL0, rfl, hR _⟩
theorem atr_of {f : FuncId} {s : ByteArray} {σ : GW} {ti : TypeId} {te : TypeId} {G : Nat} (hd : ∀ b ∈ s.data.toList, isDig b) (hne : s.data.toList ≠ []) (hg : Glb G σ)
    (hok : ∀ v, Lib.atoiAll s.data.toList = .ok v → Calls P f #[.string s] σ.w fun e w' => e = .returned (.tuple #[.int .i64 v, .nilIface]) ∧ (w' = σ.w ∨ ∃ t, w' = Lib.bytesWorld σ.w ti t))
    (hbd : ∀ v, Lib.atoiAll s.data.toList = .ok v → v ≤ 9223372036854775807)
    (hra : Lib.atoiAll s.data.toList = .range → ∀ ev, σ.w.cell? ⟨G, 0, none⟩ = some ev → (ev = .nilIface ∨ ∃ te pe, ev = .iface te pe) → Calls P f #[.string s] σ.w fun e w' => ∃ sat N, e = .returned (.tuple #[.int .i64 sat, .iface te (.pointer (some ⟨N, 0, none⟩))]) ∧ RowKit.Below σ.w.heap.size σ.w w') :
    FnL P f #[.string s] σ [] (fun v τ => ∃ (n : Int) (ev : Value), (Ty.has (.tup2 (.int n) (.val ev)) τ v) ∧ AtR s n ev) := by
  refine fnl_below ?_
  rcases atoi_dig hd hne with ⟨v, h1, h2⟩ | ⟨h1, h2⟩
  · refine (hok v h1).mono ?_
    rintro e w' ⟨rfl, hw⟩
    refine ⟨_, rfl, ?_, fun τ => ⟨v, .nilIface, ⟨_, _, rfl, rfl, rfl⟩, .inl rfl, .inl ⟨rfl, by omega, hbd _ h1, by rw [h2]; omega⟩⟩⟩
    rcases hw with rfl | ⟨t, rfl⟩
    · exact RowKit.Below.refl _ _
    · exact Lib.bytesWorld_below _ _ _
  · obtain ⟨_, ev, hv, hev⟩ := hg
    refine (hra h1 ev hv hev).mono ?_
    rintro e w' ⟨sat, N, rfl, hb⟩
    exact ⟨_, rfl, hb, fun τ => ⟨sat, _, ⟨_, _, rfl, rfl, rfl⟩, .inr ⟨_, _, rfl⟩, .inr ⟨rfl, h2⟩⟩⟩
end Go.KL

/- A method's line, read by the program. -/
namespace Go.KL
open Go.Lib
def trN (s : ByteArray) : ByteArray := bsL (trimS s.data.toList (ByteArray.data (ByteArray.mk #[48, 49, 50, 51, 52, 53, 54, 55, 56, 57])).toList)
theorem trN_nil {s : ByteArray} : trN s = ByteArray.mk #[] ↔ ∀ b ∈ s.data.toList, isDig b := by
  have e : trN s = ByteArray.mk #[] ↔ trimS s.data.toList [48, 49, 50, 51, 52, 53, 54, 55, 56, 57] = [] := by
    constructor
    · intro h
      have h2 := congrArg (fun x => x.data.toList) h
      simpa [trN, bsL] using h2
    · intro h
      show bsL _ = _
      rw [show (ByteArray.data (ByteArray.mk #[48, 49, 50, 51, 52, 53, 54, 55, 56, 57])).toList = [48, 49, 50, 51, 52, 53, 54, 55, 56, 57] from rfl, h]; rfl
  rw [e, trimS_nil]
  exact ⟨fun h b hb => (dig_mem b).1 (h b hb), fun h b hb => (dig_mem b).2 (h b hb)⟩
theorem size_nil {s : ByteArray} : s = ByteArray.mk #[] ↔ s.size = 0 := by
  constructor
  · rintro rfl; rfl
  · intro h
    cases s with
    | mk d => congr 1; exact Array.eq_empty_of_size_eq_zero h
def badN (s : ByteArray) : Prop := s.size = 0 ∨ trN s ≠ ByteArray.mk #[] ∨ (1 < s.size ∧ (s.get! 0).toNat = 48)
theorem digE_neg {s : ByteArray} (h : badN s) : digE s < 0 := by
  unfold digE
  by_cases hn : noNum s
  · rw [if_pos hn]; decide
  · rw [if_neg hn]
    have h2 : trN s ≠ ByteArray.mk #[] := by
      rcases h with h | h | h
      · exact absurd (.inl h) hn
      · exact h
      · exact absurd (.inr h) hn
    have h3 : ∃ b ∈ s.data.toList, ¬ isDig b := by
      apply Classical.byContradiction
      intro hc
      refine h2 (trN_nil.2 fun b hb => ?_)
      apply Classical.byContradiction
      intro hd
      exact hc ⟨b, hb, hd⟩
    rw [dgF_bad _ _ h3]; decide
theorem dig_ok {s : ByteArray} (h : ¬ badN s) : (∀ b ∈ s.data.toList, isDig b) ∧ s.data.toList ≠ [] ∧ digE s = dgF 0 s.data.toList := by
  unfold badN at h
  have h1 : ¬ s.size = 0 := fun e => h (.inl e)
  refine ⟨trN_nil.1 (Classical.byContradiction fun e => h (.inr (.inl e))), fun e => h1 ?_, ?_⟩
  · have : s.data.toList.length = s.size := by simp
    rw [← this, e]; rfl
  · unfold digE
    rw [if_neg]
    rintro (e | e)
    · exact h1 e
    · exact h (.inr (.inr e))
theorem digE_nn {s : ByteArray} (h : ¬ badN s) : 0 ≤ digE s := by
  obtain ⟨h1, h2, h3⟩ := dig_ok h
  have hD := dgF_ex s.data.toList 0 h1
  rw [show ((min 0 1000000000 : Nat) : Int) = 0 from rfl] at hD
  rw [h3, hD]; omega
theorem bad_iff {s : ByteArray} : (((decide (s = (ByteArray.mk #[]))) || (!(decide (trN s = (ByteArray.mk #[]))))) || ((decide ((1 : Int) < (((ByteArray.size s) : Nat) : Int))) && (decide ((((s.get! ((0 : Int)).toNat).toNat : Nat) : Int) = (48 : Int))))) = true ↔ badN s := by
  unfold badN
  simp only [Bool.or_eq_true, Bool.and_eq_true, Bool.not_eq_true', decide_eq_true_eq, decide_eq_false_iff_not]
  rw [size_nil]
  have e : ((0 : Int)).toNat = 0 := rfl
  rw [e]
  constructor
  · rintro ((h | h) | ⟨h1, h2⟩)
    · exact .inl h
    · exact .inr (.inl h)
    · exact .inr (.inr ⟨by omega, by omega⟩)
  · rintro (h | h | ⟨h1, h2⟩)
    · exact .inl (.inl h)
    · exact .inl (.inr h)
    · exact .inr ⟨by omega, by omega⟩
theorem bad_c {s : ByteArray} {b : Bool} (h : b = true) (e : b = (((decide (s = (ByteArray.mk #[]))) || (!(decide (trN s = (ByteArray.mk #[]))))) || ((decide ((1 : Int) < (((ByteArray.size s) : Nat) : Int))) && (decide ((((s.get! ((0 : Int)).toNat).toNat : Nat) : Int) = (48 : Int)))))) : badN s := bad_iff.1 (e ▸ h)
theorem bad_c0 {s : ByteArray} {b : Bool} (h : b = false) (e : b = (((decide (s = (ByteArray.mk #[]))) || (!(decide (trN s = (ByteArray.mk #[]))))) || ((decide ((1 : Int) < (((ByteArray.size s) : Nat) : Int))) && (decide ((((s.get! ((0 : Int)).toNat).toNat : Nat) : Int) = (48 : Int)))))) : ¬ badN s := fun k => by
  have := bad_iff.2 k
  rw [← e, h] at this; cases this
theorem at_c {n : Int} {ev : Value} (h : (((!(isNilV ev)) || (decide (n < (2 : Int)))) || (decide ((12 : Int) < n))) = true) : isNilV ev = false ∨ n < 2 ∨ 12 < n := by
  simp only [Bool.or_eq_true, Bool.not_eq_true', decide_eq_true_eq] at h
  rcases h with (h | h) | h
  · exact .inl h
  · exact .inr (.inl h)
  · exact .inr (.inr h)
theorem at_c0 {n : Int} {ev : Value} (h : (((!(isNilV ev)) || (decide (n < (2 : Int)))) || (decide ((12 : Int) < n))) = false) : isNilV ev = true ∧ 2 ≤ n ∧ n ≤ 12 := by
  simp only [Bool.or_eq_false_iff, Bool.not_eq_false', decide_eq_false_iff_not] at h
  exact ⟨h.1.1, by omega, by omega⟩
theorem at_bad {s : ByteArray} {n : Int} {ev : Value} (h : ¬ badN s) (k : AtR s n ev) (c : isNilV ev = false ∨ n < 2 ∨ 12 < n) : ¬ digE s < 0 ∧ (digE s < 2 ∨ 12 < digE s) := by
  have hn := digE_nn h
  obtain ⟨_, _, h3⟩ := dig_ok h
  refine ⟨by omega, ?_⟩
  rw [h3]
  obtain ⟨_, ⟨k1, k2, k3, k4⟩ | ⟨k1, k2⟩⟩ := k
  · rcases c with c | c
    · rw [c] at k1; cases k1
    · rw [k4]; omega
  · rw [k2]; omega
theorem at_good {s : ByteArray} {n : Int} {ev : Value} (h : ¬ badN s) (k : AtR s n ev) (c : isNilV ev = true) (c2 : 2 ≤ n) (c3 : n ≤ 12) : n = digE s := by
  obtain ⟨_, _, h3⟩ := dig_ok h
  rw [h3]
  obtain ⟨_, ⟨k1, k2, k3, k4⟩ | ⟨k1, k2⟩⟩ := k
  · rw [k4]; omega
  · rw [c] at k1; cases k1
end Go.KL

/- From a row's reading of its arguments to semantic types, and from a law's contract back to the row. -/
namespace Go.KL
open Go.ChangeShapes Go.WideShapes Go.ChangeAt Go.RowKit Go.Deep
variable {P : Program}

def GW.all (W : World) : GW := ⟨W, fun b => if b < W.heap.size then 1 else 0, fun b h => by
  by_cases hb : b < W.heap.size
  · exact hb
  · simp [hb] at h⟩

structure Bulk {H : Type} (B : DataW H → Nat) (BA : List (DataW H) → Nat) : Prop where
  one : ∀ d, 1 ≤ B d
  str : ∀ l, B (.lit (.string l)) = l.length + 1
  slice : ∀ es sp, B (.slice es sp) = BA es + BA sp + 1
  agg : ∀ ps, B (.agg ps) = BA ps + 1
  nil : BA [] = 0
  cons : ∀ d r, BA (d :: r) = B d + BA r

def Rd (P : Program) (t : TypeId) {α : Type} (cells : α → List Ty) (wf : α → Prop) (sz : α → Nat) (rc : α → Prop) : Prop :=
  ∀ (H : Type) (enc : TypeId × Value → H) (B : DataW H → Nat) (BA : List (DataW H) → Nat), Bulk B BA → ∀ (W : World) (fuel : Nat) (cs : List Value) (d : DataW H) (ps : List MemPlace),
    DataW.trod enc P W 0 (fun _ => true) true fuel t cs = some (d, ps) → ∃ x : α, wf x ∧ sz x ≤ B d ∧ ((d.weights P t).all (· ≤ reachBytes) = true → rc x) ∧ cs.length = (cells x).length ∧
      ∀ (j : Nat) (T : Ty) (u : Value), (cells x)[j]? = some T → cs[j]? = some u → T.has (GW.all W) u

theorem one_cell {T : Ty} {v : Value} {σ : GW} (h : T.has σ v) : ∀ (j : Nat) (U : Ty) (u : Value), [T][j]? = some U → [v][j]? = some u → U.has σ u := by
  intro j U u h1 h2
  match j with
  | 0 => simp at h1 h2; subst h1; subst h2; exact h
  | j + 1 => simp at h1

theorem rd_str {t : TypeId} (ht : P.underlying t = some .string) : Rd P t (fun s : ByteArray => [Ty.val (.string s)]) (fun s => s.size ≤ maxLen) (fun s => s.size + 1) (fun s => s.size ≤ reachBytes) := by
  intro H enc B BA hB W fuel cs d ps h
  obtain ⟨s, rfl, e, hw⟩ := DataW.trod_string ht h
  obtain ⟨rfl, rfl⟩ := Prod.mk.inj e
  refine ⟨s, hw, by rw [hB.str]; simp, fun h => ?_, rfl, one_cell rfl⟩
  simpa [DataW.weights] using h

theorem Rd.conv {t : TypeId} {α β : Type} {cells : α → List Ty} {wf : α → Prop} {sz : α → Nat} {rc : α → Prop} {cells' : β → List Ty} {wf' : β → Prop} {sz' : β → Nat} {rc' : β → Prop} (h : Rd P t cells wf sz rc) (g : α → β)
    (hg : ∀ x, wf x → wf' (g x) ∧ sz' (g x) ≤ sz x ∧ (rc x → rc' (g x)) ∧ cells' (g x) = cells x) : Rd P t cells' wf' sz' rc' := by
  intro H enc B BA hB W fuel cs d ps ht
  obtain ⟨x, h1, h2, h3, h4, h5⟩ := h H enc B BA hB W fuel cs d ps ht
  obtain ⟨g1, g2, g3, g4⟩ := hg x h1
  exact ⟨g x, g1, Nat.le_trans g2 h2, fun h => g3 (h3 h), by rw [g4]; exact h4, by rw [g4]; exact h5⟩

/-! ### Back to the row -/
theorem trodAll_stays {H : Type} {enc : TypeId × Value → H} (hl : laidOutB P = true) {W W' : World} (hb : Below W.heap.size W W') : ∀ {ts : List TypeId} {vs : List Value} {ds : List (DataW H)} {ps : List MemPlace},
    DataW.TrodAll enc P W 0 (fun _ => true) true ts vs ds ps → (ts.all fun t => P.readableRec t && decide (t < P.types.size)) = true → (∀ x ∈ ps, x.block < W.heap.size) → DataW.TrodAll enc P W' 0 (fun b => decide (b < W.heap.size)) true ts vs ds ps
  | [], [], [], ps, h, _, _ => h
  | t :: ts, v :: vs, d :: ds, ps, h, ha, hp => by
    obtain ⟨p, q, h1, h2, rfl⟩ := h
    simp only [List.all_cons, Bool.and_eq_true, decide_eq_true_eq] at ha
    exact ⟨p, q, Below.trod hl ha.1.1 ha.1.2 h1 hb (fun x hx => hp x (List.mem_append.2 (.inl hx))), trodAll_stays hl hb h2 ha.2 (fun x hx => hp x (List.mem_append.2 (.inr hx))), rfl⟩
  | [], [], _ :: _, _, h, _, _ => h.elim
  | [], _ :: _, _, _, h, _, _ => h.elim
  | _ :: _, [], _, _, h, _, _ => h.elim
  | _ :: _, _ :: _, [], _, h, _, _ => h.elim

theorem law_post {H : Type} {enc : TypeId × Value → H} {fn : Func} {f : FuncId} {s : ChangeSpec} {W : World} {args : Array Value} {ds gs : List (DataW H)} {before : List MemPlace} {tb : TypeId}
    (hres : fn.resultTypes = #[tb]) (hb : P.underlying tb = some .bool) (hl : laidOutB P = true) (hr : (fn.params.toList.all fun t => P.readableRec t && decide (t < P.types.size)) = true)
    (hW : DataW.Whole enc P fn.params.toList s.vars false W args.toList ds gs before) (hv : s.vars = []) (hs : s.fn H (ds ++ gs) = { results := [.lit (.bool true)], args := ds })
    (hc : FnC P f args (GW.all W) (Ty.bool true)) : Calls P f args W fun e W' => ∃ v, e = .returned v ∧ s.post enc P fn false true false false W args v W' := by
  refine Calls.mono hc ?_
  rintro e W' ⟨v, τ, rfl, hstp, rfl, hvv⟩
  have hbel : Below W.heap.size W τ.w := ⟨hstp.os, hstp.tape, hstp.output, hstp.size, fun k hk => hstp.blk k hk (.inl rfl)⟩
  have hW' := hW
  obtain ⟨p, q, hA, hV, rfl, _, _⟩ := hW
  have hq : q = [] := by
    rw [hv] at hV
    cases gs with
    | nil => exact hV
    | cons _ _ => exact hV.elim
  subst hq
  have hgs : gs = [] := by
    rw [hv] at hV
    cases gs with
    | nil => rfl
    | cons _ _ => exact hV.elim
  subst hgs
  have hvv' : v = .bool true := hvv
  subst hvv'
  refine ⟨_, rfl, ds, [], _, [], p, [], hW', ?_, ?_, ?_, hbel.frame _, fun h => by cases h⟩
  · rw [hs, hres]
    exact trodAll_mk1 (shut_bool hb true)
  · rw [hs]
    exact trodAll_stays hl hbel hA hr (fun x hx => hW'.lt x (List.mem_append.2 (.inl hx)))
  · rw [hs, hv]; rfl

theorem arg_one {H : Type} {enc : TypeId × Value → H} {B : DataW H → Nat} {BA : List (DataW H) → Nat} (hB : Bulk B BA) {W : World} {t : TypeId} {v : Value} {d : DataW H} {ps : List MemPlace} {α : Type} {T : α → Ty} {wf : α → Prop} {sz : α → Nat} {rc : α → Prop}
    (h : Rd P t (fun x => [T x]) wf sz rc) (hone : v.cells = #[v]) (ht : DataW.Trod enc P W 0 (fun _ => true) true t v d ps) : ∃ x : α, wf x ∧ sz x ≤ B d ∧ ((d.weights P t).all (· ≤ reachBytes) = true → rc x) ∧ (T x).has (GW.all W) v := by
  obtain ⟨fuel, hf⟩ := ht
  rw [hone] at hf
  obtain ⟨x, h1, h2, h3, _, h5⟩ := h H enc B BA hB W fuel _ d ps hf
  exact ⟨x, h1, h2, h3, h5 0 _ _ rfl rfl⟩
theorem one_string {w : World} {r : Reach} {base : Nat} {t : TypeId} {v : Value} (ht : P.underlying t = some .string) (h : Value.okWide P w r base t v) : v.cells = #[v] := by
  obtain ⟨s, rfl⟩ := okWide_string ht h; rfl
theorem weightsEach_cons {H : Type} {t : TypeId} {ts : List TypeId} {d : DataW H} {ds : List (DataW H)} (h : (DataW.weightsEach P (t :: ts) (d :: ds)).all (· ≤ reachBytes) = true) : (d.weights P t).all (· ≤ reachBytes) = true ∧ (DataW.weightsEach P ts ds).all (· ≤ reachBytes) = true := by
  simpa [DataW.weightsEach, List.all_append] using h
end Go.KL

/- A listed global, as a row's cell says: it is there. -/
namespace Go.KL
open Go.RowKit
variable {P : Program}
theorem glb_laid {laid : List (String × DataW Unit)} {n nm : String} {text : List UInt8} {W : World} {g : Nat} {ti tp te ts : TypeId} {ms : Array (String × TypeId)} {f : Field}
    (h : laidMetH P laid W) (hl : (laid.filter fun x => x.2.handleName?.isNone).filter (fun x => x.1 == n) = [(n, .iface nm (.ptr (.agg [.lit (.string text)])))])
    (hg : P.globalNamed n = some g) (ht : (P.globals[g]?).map (·.type) = some ti) (hi : P.underlying ti = some (.interface ms)) (hrow : ∀ u, P.typeName? 3 u = some nm → u = tp)
    (hp : P.underlying tp = some (.pointer te)) (he : P.underlying te = some (.struct #[f])) (hft : f.type = ts) (hfo : f.offset = 0) (hs : P.underlying ts = some .string) (hc : P.cellsOf te = 1) (hcs : P.cellsOf ts = 1) :
    Glb g (GW.all W) := by
  have h1 := (laidMetH_iff.1 h).1.filter (fun x => x.1 == n)
  rw [hl] at h1
  obtain ⟨a, s, hv, _⟩ := laid_sentinel h1 hg ht hi hrow hp he hft hfo hs hc hcs
  have hcell : W.cell? ⟨g, 0, none⟩ = some (.iface tp (.pointer (some a))) := by simpa using World.var?_cell hg hv 0
  have hlt : g < W.heap.size := by
    unfold World.cell? at hcell
    by_cases hx : g < W.heap.size
    · exact hx
    · rw [Array.getElem?_eq_none (show W.heap.size ≤ g by omega)] at hcell
      cases hcell
  exact ⟨by simp [GW.all, hlt], _, hcell, .inr ⟨_, _, rfl⟩⟩
theorem laidH_all {os : Os} {laid : List (String × DataW Unit)} (args : Array Value) (hn : (laid.all fun x => x.2.handleName?.isNone) = true)
    (hf : (World.holding P os ⟨#[], #[], []⟩).layFits P laid [] = true) (hi : (World.holding P os ⟨#[], #[], []⟩).layIfaces P laid (World.laidAll P os laid) = true) :
    laidMetH P laid ((World.laidAll P os laid).forCall (fun _ _ => 0) ⟨#[], args, []⟩).memory := by
  rw [MakeChecks.laidMetH_plain _ _ _ hn]; exact laidMet_laidAll _ hf hi
theorem witness_row_sh {H : Type} {enc : TypeId × Value → H} {C : Checked} {os : Os} {f : FuncId} {fn : Func} {s : OpenSpec} {conds : List PathCond} {apart : Bool} {laid : List (String × DataW Unit)} (w0 : World) (args : Array Value) (hos : w0.os = os)
    (hsh : (w0.forCall (fun _ _ => 0) ⟨#[], args, []⟩).Shaped C.prog)
    (hok : Input.okWideB C.prog (w0.forCall (fun _ _ => 0) ⟨#[], args, []⟩) f ⟨#[], args, []⟩ = true)
    (hrow : s.preRow enc C.prog fn conds apart laid (w0.forCall (fun _ _ => 0) ⟨#[], args, []⟩).memory args) :
    ∃ (w : World) (tape : Tape) (i : Input), w.os = os ∧ (w.forCall tape i).Shaped C.prog ∧ i.vars = [] ∧ Input.okWide C.prog (w.forCall tape i) .any w.heap.size f i ∧
      s.preRow enc C.prog fn conds apart laid (w.forCall tape i).memory i.args ∧ ({} : Assume).holds C.prog (lone (Frame.enter C.prog f i.args .normal) [] (w.forCall tape i)) :=
  ⟨w0, fun _ _ => 0, ⟨#[], args, []⟩, hos, hsh, (Input.okWide_of_okWideB (base := 0) hok).1, (Input.okWide_of_okWideB hok).2, hrow, by
    simp only [Assume.holds]
    exact ⟨by simp, by simp, fun _ => Modest.zero, by simp, by simp⟩⟩
end Go.KL

/- Rows that share an array: 'append' leaves alone what is ahead. -/
namespace Go.KL
open Go.RowKit
variable {P : Program}

variable {d : Option Tmp} {ty : TypeId} {pos : String} {af : Array Edge} {g : Option (Nat × Bool)} {a : Act} {σ : GW}

end Go.KL

/- 'append' to a fresh empty row, in any order with what stands beside it. -/
namespace Go.KL
open Go.RowKit
variable {P : Program}

variable {d : Option Tmp} {ty : TypeId} {pos : String} {af : Array Edge} {g : Option (Nat × Bool)} {a : Act} {σ : GW}
end Go.KL

/- Functions that defer one call of a closure over two variables. -/
namespace Go.KL
open Go.RowKit
variable {P : Program}
def dfr (f : FuncId) (p q : Value) : Deferred := { target := .fn (.func f) #[p, q], args := #[] }
theorem fn_introD {f : FuncId} {fn : Func} {c : Code} {N : Nat} {args : Array Value} {σ : GW} {R : Ty} (hf : P.funcs[f]? = some fn) (hb : fn.body = some c) (hn : fn.ntmps = N) (ha : args.size ≤ N)
    (h : ∀ σ0 a, σ.Le σ0 → FromL [] σ0 σ0 → Ok N [] a → (∀ i v, args.toList[i]? = some v → a.eval (.tmp i) = v) → c.wp P (bodyPostD P fn (RetL σ0 [] (fun v τ => R.has τ v))) a σ0.w) : FnC P f args σ R := by
  refine FnL.toC (Calls.mono (calls_of_wp_defers hf hb (h σ.hush _ σ.le_hush ⟨StpL.refl _ _, Low.hush σ⟩ ⟨by simp; omega, rfl⟩ fun i v hi => ?_)) ?_)
  · have hi' : args[i]? = some v := by simpa using hi
    have hlt : i < args.size := (Array.getElem?_eq_some_iff.1 hi').1
    simp [Act.eval, Array.getD_eq_getD_getElem?, Array.getElem?_append, hlt]
    simpa [hlt] using hi'
  · rintro e w' ⟨v, τ, rfl, hF, rfl, hv⟩
    exact ⟨v, τ, rfl, hF.stp, rfl, hv⟩
theorem run_cell1 {σ : GW} {a : Act} {t k : Nat} {T : TypeId} {dd : TypeDesc} {U : Ty} {v : Value} (hT : P.underlying T = some dd) (hd : dd.isRow = false) (e : a.eval (.tmp t) = v) (h : OwnP σ k v [U]) :
    ∃ ad u, a.tmps.getD t undef = .pointer (some ad) ∧ (loadVar T ad).run P σ.w = .ok u σ.w ∧ U.has σ u := by
  obtain ⟨gg, e', cur, e1, h2, h3, h4, h5⟩ := h
  have hlt : 0 < cur.size := by rw [h4]; exact Nat.one_pos
  refine ⟨⟨gg, 0, none⟩, cur[0], by rw [← e1, ← e]; rfl, ?_, h5 0 U _ rfl (by simp [hlt])⟩
  have hagg : (isAgg T).run P σ.w = .ok false σ.w := by
    unfold isAgg
    rw [Sem.run_bind, run_underlying hT σ.w]
    cases dd <;> simp_all
  have hc : σ.w.cell? ⟨gg, 0, none⟩ = some cur[0] := by simp [World.cell?, h3, hlt]
  simp [loadVar, Sem.run_bind, hagg, load, Sem.run, hc]
section
variable {fn : Func} {σ0 σ : GW} {a : Act} {N t u k l : Nat} {f : FuncId} {L : List Nat} {R : Value → GW → Prop} {T1 T2 : TypeId} {d1 d2 : TypeDesc} {U1 U2 : Ty} {p q : Value}
structure Res2 (P : Program) (fn : Func) (t u : Nat) (T1 T2 : TypeId) : Prop where
  res : fn.results = #[.cell t T1, .cell u T2]
  u1 : ∃ d, P.underlying T1 = some d ∧ d.isRow = false
  u2 : ∃ d, P.underlying T2 = some d ∧ d.isRow = false
theorem res2_run (hr : Res2 P fn t u T1 T2) (h1 : OwnP σ k p [U1]) (h2 : OwnP σ l q [U2]) (e1 : a.eval (.tmp t) = p) (e2 : a.eval (.tmp u) = q) :
    ∃ x y, (results fn a.tmps).run P σ.w = .ok (.tuple #[x, y]) σ.w ∧ U1.has σ x ∧ U2.has σ y := by
  obtain ⟨d1, hd1, hd1'⟩ := hr.u1
  obtain ⟨d2, hd2, hd2'⟩ := hr.u2
  obtain ⟨ad1, x, e3, l1, x1⟩ := run_cell1 hd1 hd1' e1 h1
  obtain ⟨ad2, y, e4, l2, x2⟩ := run_cell1 hd2 hd2' e2 h2
  refine ⟨x, y, ?_, x1, x2⟩
  have e5 : a.tmps[t]?.getD undef = .pointer (some ad1) := by rw [← e3, Array.getD_eq_getD_getElem?]
  have e6 : a.tmps[u]?.getD undef = .pointer (some ad2) := by rw [← e4, Array.getD_eq_getD_getElem?]
  simp [results, hr.res, e5, e6, asAddr, l1, l2]
theorem retD0 (hr : Res2 P fn t u T1 T2) (ok : Ok N [] a) (hF : FromL L σ0 σ) (h1 : OwnP σ k p [U1]) (h2 : OwnP σ l q [U2]) (e1 : a.eval (.tmp t) = p) (e2 : a.eval (.tmp u) = q)
    (hR : ∀ x y, U1.has σ x → U2.has σ y → R (.tuple #[x, y]) σ) : bodyPostD P fn (RetL σ0 L R) .ret a σ.w := by
  obtain ⟨x, y, h3, x1, x2⟩ := res2_run hr h1 h2 e1 e2
  show Leaves P fn a.tmps _ a.defers .returning σ.w
  rw [ok.defers]
  exact ⟨_, h3, _, σ, rfl, hF, rfl, hR _ _ x1 x2⟩
structure Catch (P : Program) (f : FuncId) (T : TypeId) : Prop where
  run : ∀ (p q : Value) (w : World), (invoke (.fn (.func f) #[p, q]) #[]).run P w = .ok (.enter f #[p, q]) w
  idle : ∀ (p q : Addr) (w : World), CallsD P f #[.pointer (some p), .pointer (some q)] .returning w fun e u' w' => e = .returned (.tuple #[]) ∧ u' = .returning ∧ w' = w
  hit : ∀ (p q : Value) (k l : Nat) (U1 U2 : Ty) (e : Int) (σ : GW), 2 ≤ k → 2 ≤ l → k ≠ l → OwnP σ k p [U1] → OwnP σ l q [U2] →
    CallsD P f #[p, q] (.panicking (fltC T e)) σ.w fun x u' w' => x = .returned (.tuple #[]) ∧ u' = .panicking [{ v := .iface T (.int .i64 e), recovered := true }] ∧ ∃ τ : GW, τ.w = w' ∧ StpL [k, l] σ τ ∧ OwnP τ k p [Ty.val (.slice none 0 0)] ∧ OwnP τ l q [Ty.int e]
theorem retD (hr : Res2 P fn t u T1 T2) {T : TypeId} (hI : Catch P f T) (ok : Ok N [dfr f p q] a) (hF : FromL L σ0 σ) (h1 : OwnP σ k p [U1]) (h2 : OwnP σ l q [U2]) (e1 : a.eval (.tmp t) = p) (e2 : a.eval (.tmp u) = q)
    (hR : ∀ x y, U1.has σ x → U2.has σ y → R (.tuple #[x, y]) σ) : bodyPostD P fn (RetL σ0 L R) .ret a σ.w := by
  obtain ⟨x, y, h3, x1, x2⟩ := res2_run hr h1 h2 e1 e2
  obtain ⟨g1, _, _, rfl, _⟩ := h1
  obtain ⟨g2, _, _, rfl, _⟩ := h2
  show Leaves P fn a.tmps _ a.defers .returning σ.w
  rw [ok.defers]
  refine leaves_cons (f := f) (by simp) (hI.run _ _ _) ?_
  refine (hI.idle ⟨g1, 0, none⟩ ⟨g2, 0, none⟩ _).mono ?_
  rintro e u' w'' ⟨rfl, rfl, rfl⟩
  exact ⟨_, h3, _, σ, rfl, hF, rfl, hR _ _ x1 x2⟩
theorem panD {T : TypeId} {e : Int} {c : List PanicEntry} (hr : Res2 P fn t u T1 T2) (hH : Catch P f T) (hk : 2 ≤ k) (hl : 2 ≤ l) (hkl : k ≠ l) (ok : Ok N [dfr f p q] a) (hF : FromL L σ0 σ) (h1 : OwnP σ k p [U1]) (h2 : OwnP σ l q [U2]) (e1 : a.eval (.tmp t) = p) (e2 : a.eval (.tmp u) = q)
    (he : c = fltC T e ∧ e ≠ 0) (hR : e ≠ 0 → ∀ τ, R (.tuple #[.slice none 0 0, .int .i64 e]) τ) : bodyPostD P fn (RetL σ0 L R) (.panic c) a σ.w := by
  show Leaves P fn a.tmps _ a.defers (.panicking c) σ.w
  rw [ok.defers, he.1]
  refine leaves_cons (f := f) (by simp) (hH.run _ _ _) ?_
  refine (hH.hit p q k l U1 U2 e σ hk hl hkl h1 h2).mono ?_
  rintro x u' w'' ⟨rfl, rfl, τ, rfl, hs, g1, g2⟩
  obtain ⟨x, y, h3, rfl, rfl⟩ := res2_run hr g1 g2 e1 e2
  exact ⟨_, h3, _, τ, rfl, hF.stepL hs (by rintro m hm; simp only [List.mem_cons, List.not_mem_nil, or_false] at hm; omega), rfl, hR he.2 _⟩
end
theorem wpS_op {ops : Array Oper} {Q : Exit → Act → List Frame → World → Prop} {o : Oper} {i : Nat} {rest : List Nat} {a : Act} {cs : List Frame} {w : World} (ho : ops[i]? = some o) (hg : o.guard = none)
    (h : o.wp P a w (fun a' w' => wpOpsS P ops Q rest a' cs w') (fun e a' w' => Q e a' cs w')) : wpOpsS P ops Q (i :: rest) a cs w := by
  simp only [wpOpsS, ho]
  rw [if_pos (by simp [Region.wanted, hg])]
  unfold Oper.wp at h
  split
  · rename_i hr
    rw [hr] at h
    exact h.elim
  · exact h
section
variable {d : Option Tmp} {ty : TypeId} {pos : String} {af : Array Edge} {g : Option (Nat × Bool)} {a : Act} {σ : GW}
theorem y_clo2 {f : FuncId} {x y : Operand} {p q : Value} (hx : a.eval x = p) (hy : a.eval y = q) : Yld P ⟨d, .makeFunc (.func f) #[] #[x, y], ty, pos, af, g⟩ a σ (Ty.val (.func (.func f) #[] #[p, q])).pr := by
  refine Yld.of_run (v := .func (.func f) #[] #[p, q]) ?_ rfl
  simp only [execOp]
  simp [Instr.makeFunc, Sem.run, hx, hy]
theorem tailDefer {N : Nat} {D : List Deferred} {ops : Array Oper} {Q : Exit → Act → World → Prop} {rest : List Oper} {x : Operand} {f : FuncId} {p q : Value} {tys : Array TypeId} (ok : Ok N D a) (hx : a.eval x = .func (.func f) #[] #[p, q])
    (k : ∀ a', Ok N (dfr f p q :: D) a' → (∀ t, a'.eval (.tmp t) = a.eval (.tmp t)) → wpList P ops Q rest a' σ.w) : wpList P ops Q (⟨none, .defer ⟨.value x, #[], tys⟩, ty, pos, af, none⟩ :: rest) a σ.w := by
  refine wpList_plain rfl fun K hK => ?_
  have hr : (execOp a.eval ⟨none, .defer ⟨.value x, #[], tys⟩, ty, pos, af, none⟩).run P σ.w = .ok (.defer (dfr f p q)) σ.w := by
    simp only [execOp, resolve]
    simp [hx, Deferred.ofValue, dfr, Sem.run, Sem.run_bind]
  unfold Oper.wp
  rw [hr]
  exact hK _ _ (k { a with defers := dfr f p q :: a.defers } ⟨ok.size, by show _ :: a.defers = _; rw [ok.defers]⟩ fun t => rfl)
end
end Go.KL

/- Places, printed, read back as they were. -/
namespace Go.KL
/-! ### A change that may be is whole -/
/-! ### The runes of a text of places -/
end Go.KL

/- Places, printed: the loops. -/
namespace Go.KL
variable {l : List (List Int)} {out ov T R : List UInt8} {i j : Nat} {x : List Int}
/-! ### Which may be -/
variable {n w : Int}
end Go.KL

