/- The signs of bells: where a rune stands among them. -/
import Derived.Test.YtlhnpkaohfoicaaKlText
import Derived.Test.YtlhnpkaohfoicaaKlRank
namespace Go.KL
abbrev SIGNS : ByteArray := ByteArray.mk #[49, 50, 51, 52, 53, 54, 55, 56, 57, 48, 69, 84]
def signIdx (c : Int) : Int := if 0 ≤ c ∧ c < 128 then Lib.indexByte SIGNS.data.toList c.toNat.toUInt8 else -1

theorem ixb_no {l : List UInt8} {c : UInt8} (h : ∀ b ∈ l, b ≠ c) : Lib.indexByte l c = -1 := by
  induction l with
  | nil => rfl
  | cons b l ih =>
    rw [Lib.indexByte, if_neg (by simpa using h b (by simp)), ih fun x hx => h x (by simp [hx])]
    simp
theorem ixb_yes {c : UInt8} : ∀ {l : List UInt8} {i : Nat} (hi : i < l.length), l[i] = c → (∀ j (hj : j < i), l[j]'(by omega) ≠ c) → Lib.indexByte l c = i
  | b :: l, 0, hi, h, _ => by
    simp at h
    rw [Lib.indexByte, if_pos (by simpa using h)]; rfl
  | b :: l, i + 1, hi, h, hn => by
    have h0 : b ≠ c := hn 0 (by omega)
    have ih := ixb_yes (l := l) (i := i) (by simpa using hi) (by simpa using h) (fun j hj => by have := hn (j + 1) (by omega); simpa using this)
    rw [Lib.indexByte, if_neg (by simpa using h0), ih]
    rw [if_neg (by simp)]; omega
theorem get_list {s : ByteArray} {i : Nat} (h : i < s.size) : s.get! i = s.data.toList[i]'(by simpa using h) := by
  have h' : i < s.data.size := h
  simp only [ByteArray.get!]
  rw [getElem!_pos s.data i h']
  simp
theorem u8_eq {b c : UInt8} : ((b.toNat : Nat) : Int) = ((c.toNat : Nat) : Int) ↔ b = c := by
  rw [Int.natCast_inj]; exact UInt8.toNat_inj
theorem u8_of {c : Int} (h0 : 0 ≤ c) (h1 : c < 256) : ((c.toNat.toUInt8.toNat : Nat) : Int) = c := by
  have : c.toNat.toUInt8.toNat = c.toNat := by
    show (UInt8.ofNat c.toNat).toNat = _
    rw [UInt8.toNat_ofNat']; omega
  omega
/-- A loop over a string's bytes that looks for one. -/
theorem ixs_yes {s : ByteArray} {c : Int} {i : Nat} (h0 : 0 ≤ c) (h1 : c < 256) (hi : i < s.size) (h : (((s.get! i).toNat : Nat) : Int) = c) (hn : ∀ j, j < i → (((s.get! j).toNat : Nat) : Int) ≠ c) : Lib.indexByte s.data.toList c.toNat.toUInt8 = i := by
  have hc := u8_of h0 h1
  refine ixb_yes (by simpa using hi) ?_ (fun j hj => ?_)
  · rw [← get_list hi, ← u8_eq, hc]; exact h
  · have := hn j hj
    rw [← get_list (by omega), Ne, ← u8_eq, hc]; exact this
theorem ixs_no {s : ByteArray} {c : Int} (h0 : 0 ≤ c) (h1 : c < 256) (hn : ∀ j, j < s.size → (((s.get! j).toNat : Nat) : Int) ≠ c) : Lib.indexByte s.data.toList c.toNat.toUInt8 = -1 := by
  have hc := u8_of h0 h1
  refine ixb_no fun b hb => ?_
  obtain ⟨j, hj, rfl⟩ := List.getElem_of_mem hb
  have hj' : j < s.size := by simpa using hj
  have := hn j hj'
  rw [← get_list hj', Ne, ← u8_eq, hc]; exact this
theorem signs_lt {j : Nat} (h : j < 12) : (SIGNS.get! j).toNat < 128 := by
  have : ∀ j : Fin 12, (SIGNS.get! j).toNat < 128 := by decide
  exact this ⟨j, h⟩
theorem signs_run {p : Nat} (h : p < 12) : run1 SIGNS p < 128 ∧ stepTo SIGNS p = p + 1 := by
  have : ∀ j : Fin 12, run1 SIGNS j < 128 ∧ stepTo SIGNS j = j.val + 1 := by decide
  exact this ⟨p, h⟩
theorem signs_size : SIGNS.size = 12 := rfl
/-- In what is cut off the signs there is no byte from 128 on. -/
theorem signs_cut {l : Nat} {c : Int} (h0 : 128 ≤ c) (h1 : c < 256) : Lib.indexByte (SIGNS.extract l SIGNS.size).data.toList c.toNat.toUInt8 = -1 := by
  refine ixb_no fun b hb => ?_
  have hc := u8_of (c := c) (by omega) h1
  have hm : b ∈ SIGNS.data.toList := by
    simp only [ByteArray.data_extract, Array.toList_extract, List.extract_eq_take_drop] at hb
    exact List.mem_of_mem_drop (List.mem_of_mem_take hb)
  have hlt : b.toNat < 128 := by
    have : ∀ b ∈ SIGNS.data.toList, b.toNat < 128 := by decide
    exact this b hm
  intro e
  rw [← e] at hc; omega
theorem enc_facts {r : Int} (h : 128 ≤ r) (hv : Utf8.valid r = true) : 2 ≤ (Utf8.encode r).size ∧ (Utf8.encode r).size ≤ 4 ∧ 128 ≤ ((Utf8.encode r).get! ((Utf8.encode r).size - 1)).toNat ∧ ((Utf8.encode r).get! ((Utf8.encode r).size - 1)).toNat < 256 := by
  have hm : ∀ m : Nat, m % 64 < 64 := fun m => Nat.mod_lt _ (by decide)
  have hb : ∀ m : Nat, (UInt8.ofNat (0x80 + m % 64)).toNat = 128 + m % 64 := fun m => by rw [UInt8.toNat_ofNat']; have := hm m; omega
  unfold Utf8.encode
  simp only [hv, if_true]
  rw [if_neg (by omega)]
  split
  · refine ⟨Nat.le_of_ble_eq_true rfl, Nat.le_of_ble_eq_true rfl, ?_, ?_⟩
    · show 128 ≤ (UInt8.ofNat (0x80 + r.toNat % 64)).toNat
      rw [hb]; omega
    · show (UInt8.ofNat (0x80 + r.toNat % 64)).toNat < 256
      rw [hb]; have := hm r.toNat; omega
  · split
    · refine ⟨Nat.le_of_ble_eq_true rfl, Nat.le_of_ble_eq_true rfl, ?_, ?_⟩
      · show 128 ≤ (UInt8.ofNat (0x80 + r.toNat % 64)).toNat
        rw [hb]; omega
      · show (UInt8.ofNat (0x80 + r.toNat % 64)).toNat < 256
        rw [hb]; have := hm r.toNat; omega
    · refine ⟨Nat.le_of_ble_eq_true rfl, Nat.le_of_ble_eq_true rfl, ?_, ?_⟩
      · show 128 ≤ (UInt8.ofNat (0x80 + r.toNat % 64)).toNat
        rw [hb]; omega
      · show (UInt8.ofNat (0x80 + r.toNat % 64)).toNat < 256
        rw [hb]; have := hm r.toNat; omega
theorem signIdx_lo {c : Int} (h0 : 0 ≤ c) (h1 : c < 128) : signIdx c = Lib.indexByte SIGNS.data.toList c.toNat.toUInt8 := if_pos ⟨h0, h1⟩
theorem signIdx_hi {c : Int} (h : ¬ (0 ≤ c ∧ c < 128)) : signIdx c = -1 := if_neg h
theorem wrap_u8 {c : Int} (h0 : 0 ≤ c) (h1 : c < 256) : IntKind.u8.wrap c = c := by
  simp [IntKind.wrap, IntKind.bits, IntKind.signed]; omega
end Go.KL
