/- How many rows are like patterns. -/
import Derived.Test.YtlhnpkaohfoicaaKlMusic
import Derived.Test.YtlhnpkaohfoicaaKlRet
namespace Go.KL
abbrev Ty.str (s : ByteArray) : Ty := Ty.val (.string s)
def texMay (n : Int) : List ByteArray → Int
  | [] => 0
  | t :: ts => if patMay n (runsL t) ≠ 0 then patMay n (runsL t) else texMay n ts
def rowsMay (n : Int) : List (List Int) → Int
  | [] => 0
  | r :: rs => if rowMay r ≠ 0 then rowMay r else if ((r.length : Nat) : Int) ≠ n then 1 else rowsMay n rs
def musMay (n : Int) (ts : List ByteArray) (rows : List (List Int)) : Int :=
  if 50 < ts.length ∨ 20001 < rows.length then 3 else if texMay n ts ≠ 0 then texMay n ts else rowsMay n rows
def likeT (t : ByteArray) (r : List Int) : Bool := likeB (List.map bellQ (frR (runsL t))) (List.map bellQ (bkR (runsL t))) r
def cntL (t : ByteArray) (rows : List (List Int)) : Nat := rows.countP (likeT t)
def musL (ts : List ByteArray) (rows : List (List Int)) : List Int := ts.map fun t => ((cntL t rows : Nat) : Int)
theorem musL_len (ts : List ByteArray) (rows : List (List Int)) : (musL ts rows).length = ts.length := List.length_map ..
theorem drop_cons {α : Type} (l : List α) (d : α) {i : Nat} (hi : i < l.length) : l.drop i = l.getD i d :: l.drop (i + 1) := by
  rw [List.drop_eq_getElem_cons hi]; simp [hi]
theorem musL_succ (ts : List ByteArray) (rows : List (List Int)) {i : Nat} (hi : i < ts.length) : musL (ts.take (i + 1)) rows = musL (ts.take i) rows ++ [((cntL (ts.getD i ByteArray.empty) rows : Nat) : Int)] := by
  rw [take_snoc ts ByteArray.empty i hi]; simp [musL]
theorem cnt_yes {t : ByteArray} {rows : List (List Int)} {j : Nat} (hj : j < rows.length) (h : likeT t (rows.getD j []) = true) : cntL t (rows.take (j + 1)) = cntL t (rows.take j) + 1 := by
  rw [take_snoc rows [] j hj]; simp only [cntL, List.countP_append, List.countP_singleton, h, if_true]
theorem cnt_no {t : ByteArray} {rows : List (List Int)} {j : Nat} (hj : j < rows.length) (h : likeT t (rows.getD j []) = false) : cntL t (rows.take (j + 1)) = cntL t (rows.take j) := by
  rw [take_snoc rows [] j hj]; simp only [cntL, List.countP_append, List.countP_singleton, h]; rfl
theorem cntL_le (t : ByteArray) (rows : List (List Int)) : cntL t rows ≤ rows.length := List.countP_le_length
theorem tex_stop {n : Int} {ts z : List ByteArray} {t : ByteArray} (h : texMay n (t :: ts) = texMay n z) (h2 : patMay n (runsL t) ≠ 0) : texMay n z = patMay n (runsL t) := by rw [← h, texMay, if_pos h2]
theorem tex_go {n : Int} {ts z : List ByteArray} {t : ByteArray} (h : texMay n (t :: ts) = texMay n z) (h2 : ¬ patMay n (runsL t) ≠ 0) : texMay n ts = texMay n z := by rw [← h, texMay, if_neg h2]
theorem rows_stop {n : Int} {rs z : List (List Int)} {r : List Int} (h : rowsMay n (r :: rs) = rowsMay n z) (h2 : rowMay r ≠ 0) : rowsMay n z = rowMay r := by rw [← h, rowsMay, if_pos h2]
theorem rows_len {n : Int} {rs z : List (List Int)} {r : List Int} (h : rowsMay n (r :: rs) = rowsMay n z) (h2 : ¬ rowMay r ≠ 0) (h3 : ((r.length : Nat) : Int) ≠ n) : rowsMay n z = 1 := by rw [← h, rowsMay, if_neg h2, if_pos h3]
theorem rows_go {n : Int} {rs z : List (List Int)} {r : List Int} (h : rowsMay n (r :: rs) = rowsMay n z) (h2 : ¬ rowMay r ≠ 0) (h3 : ¬ ((r.length : Nat) : Int) ≠ n) : rowsMay n rs = rowsMay n z := by rw [← h, rowsMay, if_neg h2, if_neg h3]
theorem tex_all {n : Int} : ∀ {ts : List ByteArray}, texMay n ts = 0 → ∀ t ∈ ts, patMay n (runsL t) = 0
  | [], _, t, h => by simp at h
  | x :: ts, h, t, ht => by
    rw [texMay] at h
    split at h
    · rename_i h1; exact absurd h h1
    · rename_i h1
      rcases List.mem_cons.1 ht with rfl | ht
      · exact Classical.not_not.1 h1
      · exact tex_all h t ht
theorem rows_all {n : Int} : ∀ {rs : List (List Int)}, rowsMay n rs = 0 → ∀ r ∈ rs, IsRow r ∧ ((r.length : Nat) : Int) = n
  | [], _, r, h => by simp at h
  | x :: rs, h, r, hr => by
    rw [rowsMay] at h
    split at h
    · rename_i h1; exact absurd h h1
    · rename_i h1
      split at h
      · omega
      · rename_i h2
        rcases List.mem_cons.1 hr with rfl | hr
        · exact ⟨rowMay_ok.1 (Classical.not_not.1 h1), Classical.not_not.1 h2⟩
        · exact rows_all h r hr
theorem mem_getD {α : Type} {l : List α} {i : Nat} (d : α) (hi : i < l.length) : l.getD i d ∈ l := by
  rw [show l.getD i d = l[i] by simp [hi]]; exact List.getElem_mem hi
theorem mus_lim {n : Int} {ts : List ByteArray} {rows : List (List Int)} (h : 50 < ts.length ∨ 20001 < rows.length) : musMay n ts rows = 3 := if_pos h
theorem mus_tex {n : Int} {ts : List ByteArray} {rows : List (List Int)} (h : ¬ (50 < ts.length ∨ 20001 < rows.length)) (h2 : texMay n ts ≠ 0) : musMay n ts rows = texMay n ts := by unfold musMay; rw [if_neg h, if_pos h2]
theorem mus_rows {n : Int} {ts : List ByteArray} {rows : List (List Int)} (h : ¬ (50 < ts.length ∨ 20001 < rows.length)) (h2 : texMay n ts = 0) : musMay n ts rows = rowsMay n rows := by unfold musMay; rw [if_neg h, if_neg (by omega)]
/-- What Like wants. -/
theorem like_wants {n : Int} {t : ByteArray} {r : List Int} (h : patMay n (runsL t) = 0) (hl : ((r.length : Nat) : Int) = n) :
    (frR (runsL t)).length ≤ r.length ∧ (bkR (runsL t)).length ≤ r.length := by
  have := (pat_facts h).2.2.1
  omega
end Go.KL
