/- The signs of bells: where a rune stands among them. -/
import Derived.Test.YtbilebfnanlgfaaKlText
import Derived.Test.YtbilebfnanlgfaaKlRank
namespace Go.KL
theorem get_list {s : ByteArray} {i : Nat} (h : i < s.size) : s.get! i = s.data.toList[i]'(by simpa using h) := by
  have h' : i < s.data.size := h
  simp only [ByteArray.get!]
  rw [getElem!_pos s.data i h']
  simp
end Go.KL
