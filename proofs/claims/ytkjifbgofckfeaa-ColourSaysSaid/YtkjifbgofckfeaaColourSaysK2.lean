/- The place of a row among all of its bells, counted in two ways; the row at a place. -/
import Derived.Test.YtkjifbgofckfeaaColourSaysK1
import Derived.Lib.Builder
import Derived.Lib.UnsafeStr
import Derived.Lib.SliceRun
import Derived.Lib.DecodeN
import Derived.ArgAppend
import Derived.Recover
import Derived.Laws.Pointers
import Derived.Maps.RangeRun
namespace Go.KL
def fct:Nat → Nat
  | 0=>1
  | n + 1=>(n + 1) * fct n
theorem fct_pos:∀ n,1 ≤ fct n
  | 0=>by decide
  | n + 1=>Nat.mul_pos (by omega) (fct_pos n)
theorem fct_le_succ (n:Nat):fct n ≤ fct (n + 1):=by
  have:=fct_pos n
  rw [fct,Nat.succ_mul];omega
theorem fct_mono {m n:Nat} (h:m ≤ n):fct m ≤ fct n:=by
  induction h with
  | refl=>exact Nat.le_refl _
  | step _ ih=>exact Nat.le_trans ih (fct_le_succ _)
theorem fct_12:fct 12 = 479001600:=by decide
theorem fct_le12 {n:Nat} (h:n ≤ 12):fct n ≤ 479001600:=by rw [← fct_12];exact fct_mono h
def lessN (b:Int) (r:List Int):Nat:=r.countP fun c=>decide (c < b)
theorem lessN_le (b:Int) (r:List Int):lessN b r ≤ r.length:=List.countP_le_length
def rankL:List Int → Nat
  | []=>0
  | b :: r=>lessN b r * fct r.length + rankL r
theorem rankL_lt:∀ r:List Int,rankL r < fct r.length
  | []=>by decide
  | b :: r=>by
    have h1:=rankL_lt r
    have h2:lessN b r * fct r.length ≤ r.length * fct r.length:=Nat.mul_le_mul_right _ (lessN_le b r)
    rw [rankL,List.length_cons,fct,Nat.succ_mul];omega
theorem rank_step {r:List Int} {i:Nat} (h:i < r.length):rankL (r.drop i) = lessN (r.getD i 0) (r.drop (i + 1)) * fct (r.length - i - 1) + rankL (r.drop (i + 1)):=by
  rw [List.drop_eq_getElem_cons h,rankL]
  have e:r[i] = r.getD i 0:=by simp [h]
  rw [e,List.length_drop,Nat.sub_add_eq]
theorem lessN_snoc (b:Int) (r:List Int) (j:Nat) (h:j < r.length):lessN b (r.take (j + 1)) = lessN b (r.take j) + (if r.getD j 0 < b then 1 else 0):=by
  unfold lessN
  rw [take_snoc r 0 j h,List.countP_append]
  simp
theorem lessN_rounds {n:Nat} (b:Nat) (hb:b ≤ n):lessN b (roundsL n) = b:=by
  unfold lessN roundsL
  rw [List.countP_map]
  have:(List.range n).countP ((fun c:Int=>decide (c < (b:Int))) ∘ fun (i:Nat)=>(i:Int)) = (List.range n).countP (fun i=>decide (i < b)):=List.countP_congr fun i _=>by simp
  rw [this]
  clear this
  induction n with
  | zero=>simp;omega
  | succ n ih =>
    rw [List.range_succ,List.countP_append]
    by_cases h:b ≤ n
    · rw [ih h];simp;omega
    · have:b = n + 1:=by omega
      subst this
      have e:(List.range n).countP (fun i=>decide (i < n + 1)) = n:=by
        rw [List.countP_eq_length.2 (fun x hx=>by have:=List.mem_range.1 hx;simp;omega)];simp
      rw [e];simp
theorem lessN_perm {b:Int} {r s:List Int} (h:r.Perm s):lessN b r = lessN b s:=h.countP_eq _
theorem lessN_row {r:List Int} (hr:IsRow r) {i:Nat} (hi:i < r.length):((lessN (r.getD i 0) r:Nat):Int) = r.getD i 0:=by
  have hb:=hr.at hi
  obtain ⟨b,hb'⟩:∃ b:Nat,r.getD i 0 = (b:Int):=⟨(r.getD i 0).toNat,by omega⟩
  rw [hb',lessN_perm (row_perm hr),lessN_rounds b (by omega)]
theorem lessN_split (b:Int) (r:List Int) (i:Nat):lessN b r = lessN b (r.take i) + lessN b (r.drop i):=by
  unfold lessN;rw [← List.countP_append,List.take_append_drop]
theorem less_after {r:List Int} (hr:IsRow r) {i:Nat} (hi:i < r.length):r.getD i 0 - ((lessN (r.getD i 0) (r.take i):Nat):Int) = ((lessN (r.getD i 0) (r.drop (i + 1)):Nat):Int):=by
  have h1:=lessN_row hr hi
  have h2:=lessN_split (r.getD i 0) r i
  have h3:lessN (r.getD i 0) (r.drop i) = lessN (r.getD i 0) (r.drop (i + 1)):=by
    rw [List.drop_eq_getElem_cons hi]
    unfold lessN
    rw [List.countP_cons]
    have e:r[i] = r.getD i 0:=by simp [hi]
    rw [e];simp
  omega
theorem rank_step' {r:List Int} {i k:Nat} (h:i < r.length) (hk:k + rankL (r.drop i) = rankL r):(k + lessN (r.getD i 0) (r.drop (i + 1)) * fct (r.length - 1 - i)) + rankL (r.drop (i + 1)) = rankL r:=by
  rw [rank_step h] at hk
  rw [show r.length - 1 - i = r.length - i - 1 by omega];omega
theorem rankL_inj:∀ (r s:List Int),r.Perm s → rankL r = rankL s → r = s
  | [],s,h,_=>by
    have:=h.length_eq
    exact (List.eq_nil_of_length_eq_zero (by simpa using this.symm)).symm
  | b :: r,[],h,_=>by have:=h.length_eq;simp at this
  | b :: r, c :: s,h,e=>by
    have hl:r.length = s.length:=by have:=h.length_eq;simpa using this
    rw [rankL,rankL,hl] at e
    have h1:=rankL_lt r
    have h2:=rankL_lt s
    rw [hl] at h1
    have hp:=fct_pos s.length
    have e1:lessN b r = lessN c s:=by
      have ha:(lessN b r * fct s.length + rankL r) / fct s.length = lessN b r:=by rw [Nat.add_comm,Nat.add_mul_div_right _ _ hp,Nat.div_eq_of_lt h1,Nat.zero_add]
      have hb:(lessN c s * fct s.length + rankL s) / fct s.length = lessN c s:=by rw [Nat.add_comm,Nat.add_mul_div_right _ _ hp,Nat.div_eq_of_lt h2,Nat.zero_add]
      rw [← ha,e,hb]
    have e2:rankL r = rankL s:=by rw [e1] at e;omega
    have hb:lessN b r = lessN b (b :: r):=by simp [lessN]
    have hc:lessN c s = lessN c (c :: s):=by simp [lessN]
    have e3:lessN b (b :: r) = lessN c (b :: r):=by rw [← hb,e1,hc];exact (lessN_perm h).symm
    have lt : ∀ (x y:Int) (l:List Int),x ∈ l → x < y → lessN x l < lessN y l:=by
      intro x y l hx hxy
      unfold lessN
      induction l with
      | nil=>cases hx
      | cons z l ih =>
        have mono:l.countP (fun c=>decide (c < x)) ≤ l.countP (fun c=>decide (c < y)):=List.countP_mono_left fun w _ hw=>by simp at hw ⊢;omega
        rw [List.countP_cons,List.countP_cons]
        by_cases hz:z = x
        · subst hz
          simp [hxy];omega
        · have:=ih (by simpa [Ne.symm hz] using hx)
          by_cases h1:z < x
          · have h2:z < y:=by omega
            simp [h1,h2];omega
          · simp [h1];split <;> omega
    have hbc:b = c:=by
      rcases Int.lt_trichotomy b c with h3 | h3 | h3
      · have:=lt b c (b :: r) (by simp) h3;omega
      · exact h3
      · have:=lt c b (b :: r) (h.mem_iff.2 (by simp)) h3;omega
    subst hbc
    rw [rankL_inj r s (List.perm_cons b |>.1 h) e2]
theorem rank_row_inj {r s:List Int} (hr:IsRow r) (hs:IsRow s) (hl:r.length = s.length) (e:rankL r = rankL s):r = s :=
  rankL_inj r s ((row_perm hr).trans (by rw [hl];exact (row_perm hs).symm)) e
theorem lessN_zero_of {b:Int} {l:List Int} (h:∀ x ∈ l,b ≤ x):lessN b l = 0:=by
  unfold lessN
  rw [List.countP_eq_zero]
  intro x hx
  have:=h x hx
  simp;omega
theorem rank_sorted:∀ (l:List Int),l.Pairwise (· ≤ ·) → rankL l = 0
  | [],_=>rfl
  | b :: l,h=>by
    rw [List.pairwise_cons] at h
    rw [rankL,lessN_zero_of (fun x hx=>h.1 x hx),rank_sorted l h.2];simp
theorem roundsL_sorted (n:Nat):(roundsL n).Pairwise (· ≤ ·):=by
  unfold roundsL
  rw [List.pairwise_map]
  exact List.pairwise_le_range.imp (by intro a b h;omega)
theorem rank_rounds (n:Nat):rankL (roundsL n) = 0:=rank_sorted _ (roundsL_sorted n)
theorem rank_zero_iff {r:List Int} (hr:IsRow r):rankL r = 0 ↔ r = roundsL r.length:=by
  constructor
  · intro h
    exact rankL_inj _ _ (row_perm hr) (by rw [h,rank_rounds])
  · intro h;rw [h];exact rank_rounds _
def atF:Nat → List Int → Nat → List Int
  | 0,_,_=>[]
  | m + 1,left,k=>left.getD (k / fct m) 0 :: atF m (left.eraseIdx (k / fct m)) (k % fct m)
def atL (n k:Nat):List Int:=atF n (roundsL n) k
theorem atF_len:∀ (m:Nat) (left:List Int) (k:Nat),(atF m left k).length = m
  | 0,_,_=>rfl
  | m + 1,left,k=>by simp [atF,atF_len m]
theorem div_fct {m k:Nat} (h:k < fct (m + 1)):k / fct m < m + 1:=by
  rw [Nat.div_lt_iff_lt_mul (fct_pos m)]
  exact h
theorem eraseIdx_perm:∀ (l:List Int) (i:Nat),i < l.length → l.Perm (l.getD i 0 :: l.eraseIdx i)
  | x :: l,0,_=>by simp
  | x :: l,i + 1,h=>by
    have:=eraseIdx_perm l i (by simpa using h)
    simp only [List.eraseIdx_cons_succ,List.getD_cons_succ]
    exact (List.Perm.cons x this).trans (List.Perm.swap _ _ _)
  | [],_,h=>by simp at h
theorem atF_perm:∀ (m:Nat) (left:List Int) (k:Nat),left.length = m → k < fct m → (atF m left k).Perm left
  | 0,left,k,h,_=>by rw [List.eq_nil_of_length_eq_zero h];simp [atF]
  | m + 1,left,k,h,hk=>by
    have hd:=div_fct hk
    rw [atF]
    refine (List.Perm.cons _ (atF_perm m _ _ ?_ (Nat.mod_lt _ (fct_pos m)))).trans (eraseIdx_perm left _ (by omega)).symm
    rw [List.length_eraseIdx,if_pos (by omega)];omega
theorem lessN_sorted:∀ (l:List Int) (i:Nat),l.Pairwise (· < ·) → i < l.length → lessN (l.getD i 0) (l.eraseIdx i) = i
  | [],i,_,h=>by simp at h
  | x :: l,0,hp,_=>by
    rw [List.pairwise_cons] at hp
    simp only [List.eraseIdx_cons_zero,List.getD_cons_zero]
    exact lessN_zero_of fun y hy=>by have:=hp.1 y hy;omega
  | x :: l,i + 1,hp,h=>by
    rw [List.pairwise_cons] at hp
    have hi:i < l.length:=by simpa using h
    have ih:=lessN_sorted l i hp.2 hi
    simp only [List.eraseIdx_cons_succ,List.getD_cons_succ]
    have hm:x < l.getD i 0:=hp.1 _ (by rw [← gd l i hi];exact List.getElem_mem hi)
    unfold lessN at ih ⊢
    rw [List.countP_cons,ih,if_pos (decide_eq_true hm)]
theorem atF_rank:∀ (m:Nat) (left:List Int) (k:Nat),left.length = m → k < fct m → left.Pairwise (· < ·) → rankL (atF m left k) = k
  | 0,left,k,h,hk,_=>by simp [fct] at hk;simp [atF,rankL,hk]
  | m + 1,left,k,h,hk,hp=>by
    have hd:=div_fct hk
    have hl:(left.eraseIdx (k / fct m)).length = m:=by rw [List.length_eraseIdx,if_pos (by omega)];omega
    have hm:=Nat.mod_lt k (fct_pos m)
    rw [atF,rankL,atF_len,lessN_perm (atF_perm m _ _ hl hm),lessN_sorted left _ hp (by omega),atF_rank m _ _ hl hm (hp.sublist (List.eraseIdx_sublist _ _))]
    rw [Nat.mul_comm]
    exact Nat.div_add_mod k (fct m)
theorem rounds_lt (n:Nat):(roundsL n).Pairwise (· < ·):=by
  unfold roundsL
  rw [List.pairwise_map]
  exact List.pairwise_lt_range.imp (by intro a b h;omega)
theorem at_rank {n k:Nat} (hk:k < fct n):rankL (atL n k) = k:=atF_rank n _ k (roundsL_len n) hk (rounds_lt n)
theorem at_len (n k:Nat):(atL n k).length = n:=atF_len _ _ _
theorem row_of_perm {r:List Int} {n:Nat} (h:r.Perm (roundsL n)) (h1:1 ≤ n) (h2:n ≤ 12):IsRow r:=by
  have hl:r.length = n:=by rw [h.length_eq,roundsL_len]
  refine rowMay_ok.1 (rowMay_of (by omega) (by omega) ?_ ?_)
  · exact h.nodup_iff.2 ((rounds_lt n).imp (fun h=>by omega))
  · intro x hx
    have:=h.mem_iff.1 hx
    simp only [roundsL,List.mem_map,List.mem_range] at this
    obtain ⟨i,hi,rfl⟩:=this
    omega
theorem at_row {n k:Nat} (h1:1 ≤ n) (h2:n ≤ 12) (hk:k < fct n):IsRow (atL n k):=row_of_perm (atF_perm n _ _ (roundsL_len n) hk) h1 h2
theorem rank_at {r:List Int} (hr:IsRow r):atL r.length (rankL r) = r :=
  rank_row_inj (at_row hr.pos hr.le (rankL_lt r)) hr (at_len _ _) (at_rank (rankL_lt r))
end Go.KL
namespace Go.KL
end Go.KL
namespace Go.KL
open Go.RowKit
variable {P:Program} {d:Option Tmp} {ty:TypeId} {pos:String} {af:Array Edge} {g:Option (Nat × Bool)} {a:Act} {σ:GW}
abbrev Ty.byte (b:UInt8):Ty:=.val (.int .u8 ((b.toNat:Nat):Int))
end Go.KL
namespace Go.KL
end Go.KL
namespace Go.KL
open Go.RowKit
variable {P:Program} {d:Option Tmp} {ty:TypeId} {pos:String} {af:Array Edge} {g:Option (Nat × Bool)} {a:Act} {σ:GW}
def preOf (v:Value) (i:Nat):Value:=match v with | .slice ad _ cap=>.slice ad i cap | u=>u
section
variable {k:Nat} {x y y' y'':Operand} {n:Nat} {ts:List Ty} {t e e':TypeId} {z v:Value} {b:Nat} {ki kj kk:IntKind} (ht:P.underlying t = some (.slice e')) (he:Info P e' z 1 b) (ho:Own σ k e 1 v n ts) (hx:a.eval x = v)
include ht he ho hx
end
theorem one_map {α:Type} {f:α → Ty} {xs:List α} (h:∀ x,One (f x)):∀ U,U ∈ xs.map f → One U:=fun U hU=>by
  obtain ⟨x,_,rfl⟩:=List.mem_map.1 hU;exact h x
end Go.KL
namespace Go.KL
theorem rank_mul {r:List Int} {i k:Nat} (h12:r.length ≤ 12) (h:i < r.length) (hk:k + rankL (r.drop i) = rankL r) :
    lessN (r.getD i 0) (r.drop (i + 1)) * fct (r.length - 1 - i) ≤ 479001600∧((lessN (r.getD i 0) (r.drop (i + 1)):Nat):Int) * ((fct (r.length - 1 - i):Nat):Int) ≤ 479001600∧0 ≤ ((lessN (r.getD i 0) (r.drop (i + 1)):Nat):Int) * ((fct (r.length - 1 - i):Nat):Int):=by
  have h1:=rank_step' h hk
  have h3:=rankL_lt r
  have h4:=fct_le12 h12
  rw [← Int.natCast_mul]
  omega
theorem fct_small {n:Nat} (h:n < 2):fct n = 1:=by
  match n,h with
  | 0,_=>rfl
  | 1,_=>rfl
theorem fct_rec {n:Nat} (h:¬ n < 2):n * fct (n - 1) = fct n:=by
  obtain ⟨q,rfl⟩:∃ q,n = q + 1:=⟨n - 1,by omega⟩
  rfl
theorem rank_le12 {r:List Int} (h:r.length ≤ 12):rankL r < 479001600:=Nat.lt_of_lt_of_le (rankL_lt r) (fct_le12 h)
def gensTo (n:Int):List (List Int) → Int
  | []=>0
  | g :: l=>if rowMay g ≠ 0 then rowMay g else if ((g.length:Nat):Int) ≠ n then 1 else gensTo n l
def gensMay (n:Int) (l:List (List Int)):Int:=if n < 1 ∨ 12 < n ∨ 8 < l.length then 1 else gensTo n l
theorem gens_step {n e:Int} {l:List (List Int)} {k:Nat} (h:gensTo n (l.drop k) = e) (hk:k < l.length) (h1:¬ rowMay (l.getD k []) ≠ 0) (h2:¬ (((l.getD k []).length:Nat):Int) ≠ n):gensTo n (l.drop (k + 1)) = e:=by
  rw [drop_cons0 hk,gensTo,if_neg h1,if_neg h2] at h;exact h
theorem gens_row {n e:Int} {l:List (List Int)} {k:Nat} (h:gensTo n (l.drop k) = e) (hk:k < l.length) (h1:rowMay (l.getD k []) ≠ 0):rowMay (l.getD k []) = e:=by
  rw [drop_cons0 hk,gensTo,if_pos h1] at h;exact h
theorem gens_cnt {n e:Int} {l:List (List Int)} {k:Nat} (h:gensTo n (l.drop k) = e) (hk:k < l.length) (h1:¬ rowMay (l.getD k []) ≠ 0) (h2:(((l.getD k []).length:Nat):Int) ≠ n):1 = e:=by
  rw [drop_cons0 hk,gensTo,if_neg h1,if_pos h2] at h;exact h
theorem gens_end {n e:Int} {l:List (List Int)} {k:Nat} (h:gensTo n (l.drop k) = e) (hk:l.length ≤ k):0 = e:=by
  rw [List.drop_eq_nil_of_le hk] at h;exact h
theorem gensMay_no {n:Int} {l:List (List Int)} (h:n < 1 ∨ 12 < n ∨ 8 < l.length):gensMay n l = 1:=if_pos h
theorem gensMay_to {n:Int} {l:List (List Int)} (h:¬ (n < 1 ∨ 12 < n ∨ 8 < l.length)):gensTo n (l.drop 0) = gensMay n l:=by
  unfold gensMay;rw [if_neg h];rfl
theorem gensTo_ok {n:Int}:∀ {l:List (List Int)},gensTo n l = 0 → ∀ g ∈ l,IsRow g∧((g.length:Nat):Int) = n
  | [],_,g,hg=>by cases hg
  | x :: l,h,g,hg=>by
    rw [gensTo] at h
    split at h
    · contradiction
    · rename_i h1
      split at h
      · cases h
      · rename_i h2
        rcases List.mem_cons.1 hg with rfl | hg
        · exact ⟨rowMay_ok.1 (Classical.not_not.1 h1),Classical.not_not.1 h2⟩
        · exact gensTo_ok h g hg
theorem gensMay_ok {n:Int} {l:List (List Int)} (h:gensMay n l = 0):(1 ≤ n∧n ≤ 12∧l.length ≤ 8)∧∀ k,k < l.length → IsRow (l.getD k [])∧(((l.getD k []).length:Nat):Int) = n:=by
  unfold gensMay at h
  split at h
  · cases h
  · rename_i hc
    refine ⟨by omega,fun k hk=>gensTo_ok h _ ?_⟩
    simp [hk]
end Go.KL
namespace Go.KL
section
variable {F:List (List Int) → List Int → Option (List Int)} {cs:List (List Int)} {N:Nat} {rows:List (List Int)} {path r:List Int} {k:Nat} (hl:rows.getD (rows.length - 1) [] = r)
include hl
end
end Go.KL
namespace Go.KL
end Go.KL
namespace Go.KL
def belowL:List Int → List Int → Bool
  | [],b=>decide (0 < b.length)
  | _ :: _,[]=>false
  | x :: a,y :: b=>if x = y then belowL a b else decide (x < y)
theorem below_step {a b:List Int} {i:Nat} {z:Bool} (h:belowL (a.drop i) (b.drop i) = z) (h1:i < a.length) (h2:i < b.length) (e:¬ a.getD i 0 ≠ b.getD i 0):belowL (a.drop (i + 1)) (b.drop (i + 1)) = z:=by
  rw [List.drop_eq_getElem_cons h1,List.drop_eq_getElem_cons h2,belowL,if_pos (by simpa [h1,h2] using e)] at h
  exact h
theorem below_ne {a b:List Int} {i:Nat} {z:Bool} (h:belowL (a.drop i) (b.drop i) = z) (h1:i < a.length) (h2:i < b.length) (e:a.getD i 0 ≠ b.getD i 0):decide (a.getD i 0 < b.getD i 0) = z:=by
  rw [List.drop_eq_getElem_cons h1,List.drop_eq_getElem_cons h2,belowL,if_neg (by simpa [h1,h2] using e)] at h
  simpa [h1,h2] using h
theorem below_end {a b:List Int} {i:Nat} {z:Bool} (h:belowL (a.drop i) (b.drop i) = z) (hi:i ≤ a.length) (hj:i ≤ b.length) (hc:¬ (i < a.length∧i < b.length)):decide (((a.length:Nat):Int) < ((b.length:Nat):Int)) = z:=by
  by_cases h1:i < a.length
  · have h2:i = b.length:=by omega
    subst h2
    rw [List.drop_eq_getElem_cons h1,List.drop_length,belowL] at h
    rw [← h,decide_eq_false (by omega)]
  · have h2:i = a.length:=by omega
    subst h2
    rw [List.drop_length,belowL,List.length_drop] at h
    rw [← h,decide_eq_decide];omega
theorem below_irr:∀ a:List Int,belowL a a = false
  | []=>rfl
  | x :: a=>by rw [belowL,if_pos rfl];exact below_irr a
def SeenB (n:Nat) (vis:List (List Int)) (f:Int → Option Bool):Prop:=∀ x,IsRow x → x.length = n → (f ((rankL x:Nat):Int)).getD false = decide (x ∈ vis)
theorem SeenB.put {n:Nat} {vis:List (List Int)} {f:Int → Option Bool} (h:SeenB n vis f) {x:List Int} (hx:IsRow x) (hl:x.length = n):SeenB n (vis ++ [x]) (fun p=>if p = ((rankL x:Nat):Int) then some true else f p):=by
  intro y hy hly
  by_cases e:y = x
  · subst e;simp
  · have hne:rankL y ≠ rankL x:=fun hh=>e (rank_row_inj hy hx (by omega) hh)
    simp only [Int.natCast_inj,if_neg hne]
    rw [h y hy hly]
    simp [e]
end Go.KL
namespace Go.KL
theorem undo_row {r:List Int} (h:IsRow r):IsRow (undoL r)∧byL r (undoL r) = roundsL r.length:=by
  have hget:∀ b,b < r.length → (undoL r).getD b 0 = ((r.idxOf (b:Int):Nat):Int):=fun b hb=>undoL_get hb
  have hidx:∀ b,b < r.length → r.idxOf (b:Int) < r.length:=fun b hb=>List.idxOf_lt_length_of_mem (h.mem hb)
  have hat:∀ b,b < r.length → r.getD (r.idxOf (b:Int)) 0 = (b:Int):=fun b hb=>by
    have hlt:=hidx b hb
    rw [List.getD_eq_getElem?_getD,List.getElem?_eq_getElem hlt,Option.getD_some]
    exact List.getElem_idxOf hlt
  have hl:=undoL_len r
  have hby:byL r (undoL r) = roundsL r.length:=by
    refine list_ext (by rw [byL_len,hl,roundsL_len]) (fun j hj=>?_)
    rw [byL_len,hl] at hj
    rw [byL_get _ _ _ (by rw [hl];exact hj),hget j hj,roundsL_get hj,Int.toNat_natCast,hat j hj]
  refine ⟨?_,hby⟩
  refine rowMay_ok.1 (rowMay_of (by rw [hl];exact h.pos) (by rw [hl];exact h.le) ?_ ?_)
  · rw [List.nodup_iff_pairwise_ne,List.pairwise_iff_getElem]
    intro i j hi hj hij e
    rw [hl] at hi hj
    have e1:(undoL r).getD i 0 = (undoL r).getD j 0:=by simpa [hl,hi,hj] using e
    rw [hget i hi,hget j hj] at e1
    have:=hat i hi
    rw [Int.natCast_inj.1 e1,hat j hj] at this
    omega
  · intro x hx
    obtain ⟨i,hi,rfl⟩:=List.getElem_of_mem hx
    rw [hl] at hi
    have e1:(undoL r)[i] = (undoL r).getD i 0:=by simp [hl,hi]
    rw [e1,hget i hi,hl]
    have:=hidx i hi
    omega
end Go.KL
namespace Go.KL
end Go.KL
namespace Go.KL
section
variable {s:ByteArray} (h128:¬ (s.get! 0).toNat < 128)
include h128 in
end
end Go.KL
namespace Go.KL
theorem lists_ext {a b:List (List Int)} (hl:a.length = b.length) (h:∀ j,j < a.length → a.getD j [] = b.getD j []):a = b:=by
  refine List.ext_getElem hl fun j h1 h2=>?_
  have:=h j h1
  simpa [h1,h2] using this
theorem all_snocs {xs ys:List (List Int)} {k:Nat} (h:∀ j,j < k → xs.getD j [] = ys.getD j []) (e:xs.getD k [] = ys.getD k []):∀ j,j < k + 1 → xs.getD j [] = ys.getD j []:=by
  intro j hj
  by_cases hjk:j = k
  · subst hjk;exact e
  · exact h j (by omega)
def lessB (r:List Int) (b m:Nat):Bool:=(List.range m).all fun x=>decide (b ≤ itr r b x)
theorem lessB_one (r:List Int) (b:Nat):lessB r b 1 = true:=by simp [lessB,itr]
theorem lessB_succ {r:List Int} {b m:Nat} (h:¬ itr r b m = b):lessB r b (m + 1) = (lessB r b m && decide (((b:Nat):Int) < ((itr r b m:Nat):Int))):=by
  have e:decide (b ≤ itr r b m) = decide (((b:Nat):Int) < ((itr r b m:Nat):Int)):=by rw [decide_eq_decide];omega
  unfold lessB
  rw [List.range_succ,List.all_append]
  simp only [List.all_cons,List.all_nil,Bool.and_true]
  rw [e]
theorem lessB_per (r:List Int) (b:Nat):lessB r b (per r b) = least r b:=rfl
theorem cr_go {r:List Int} (h:IsRow r) {b m:Nat} (hb:b < r.length) (hm:m + 1 ≤ per r b) (c:¬ itr r b (m + 1) = b):m + 1 + 1 ≤ per r b:=by
  have hp:=per_spec h hb
  refine Classical.byContradiction fun hn=>c ?_
  rw [show m + 1 = per r b by omega];exact hp.2.2.1
theorem cr_end {r:List Int} (h:IsRow r) {b m:Nat} (hb:b < r.length) (hm:m + 1 ≤ per r b) (c:itr r b (m + 1) = b):m + 1 = per r b:=by
  have hp:=per_spec h hb
  refine Classical.byContradiction fun hn=>?_
  exact hp.2.2.2 (m + 1) (by omega) (by omega) c
theorem orbTo_per (r:List Int) (b:Nat):orbTo r b (per r b) = orb r b:=rfl
theorem orbTo_one (r:List Int) (b:Nat):orbTo r b 1 = [((b:Nat):Int)]:=by simp [orbTo,itr]
end Go.KL
namespace Go.KL
end Go.KL
namespace Go.KL
open Go.RowKit
variable {P:Program} {fn:Func} {σ0 σ:GW} {a:Act} {N d e f:Nat} {D:List Deferred} {L:List Nat} {R:Value → GW → Prop}
theorem nil_has {α:Type} {f:α → Ty} {xs:List α} {σ:GW} (e:xs = []):(Ty.lst f xs).has σ (.slice none 0 0):=by subst e;exact sl_nil
end Go.KL
namespace Go.KL
abbrev Ty.str (s:ByteArray):Ty:=Ty.val (.string s)
end Go.KL
namespace Go.KL
open Go.RowKit
variable {P:Program} {d:Option Tmp} {ty:TypeId} {pos:String} {af:Array Edge} {g:Option (Nat × Bool)} {a:Act} {σ:GW}
abbrev Ty.lstc {α:Type} (c:Nat) (F:α → List Ty) (xs:List α):Ty:=Ty.sl c xs.length (xs.flatMap F)
theorem flat_get {α:Type} {c:Nat} {F:α → List Ty} (hF:∀ x,(F x).length = c) (dd:α):∀ {xs:List α} {i:Nat},i < xs.length → ∀ j,j < c → (xs.flatMap F)[i * c + j]? = (F (xs.getD i dd))[j]?
  | [],i,h,_,_=>by simp at h
  | x :: xs,0,_,j,hj=>by
    rw [List.flatMap_cons,Nat.zero_mul,Nat.zero_add,List.getElem?_append_left (by rw [hF];exact hj)]
    simp
  | x :: xs,i + 1,h,j,hj=>by
    rw [List.flatMap_cons,List.getElem?_append_right (by rw [hF,Nat.succ_mul];omega),hF,show (i + 1) * c + j - c = i * c + j by rw [Nat.succ_mul];omega,flat_get hF dd (by simpa using h) j hj]
    simp
theorem y_indexc {α:Type} {c:Nat} {F:α → List Ty} {xs:List α} (dd:α) {x y:Operand} {t e:TypeId} {z:Value} {b:Nat} {k:IntKind} {i:Int} (ht:P.underlying t = some (.slice e)) (he:Info P e z c b)
    (hx:At (Ty.lstc c F xs) σ a x) (hy:a.eval y = .int k i) (h0:0 ≤ i) (h1:i.toNat < xs.length) (hc:0 < c) (hF:∀ x,(F x).length = c) :
    Yld P ⟨d,.indexAddr t x y,ty,pos,af,g⟩ a σ (Ty.ref (F (xs.getD i.toNat dd))).pr :=
  y_indexAddr ht he hx hy h0 (by omega) hc (fun j hj=>flat_get hF dd h1 j hj) (hF _)
theorem fold_set:∀ (vs:List Value) (o:Nat) (cur:Array Value),o + vs.length ≤ cur.size → ((vs.zipIdx o).foldl (fun (q:Array Value) (p:Value × Nat)=>q.setIfInBounds p.2 p.1) cur).size = cur.size ∧
      (∀ j,j < vs.length → ((vs.zipIdx o).foldl (fun (q:Array Value) (p:Value × Nat)=>q.setIfInBounds p.2 p.1) cur)[o + j]? = vs[j]?)∧∀ i,i < o → ((vs.zipIdx o).foldl (fun (q:Array Value) (p:Value × Nat)=>q.setIfInBounds p.2 p.1) cur)[i]? = cur[i]?
  | [],o,cur,_=>⟨rfl,fun j hj=>by simp at hj,fun i _=>rfl⟩
  | v :: vs,o,cur,h=>by
    simp only [List.length_cons] at h
    obtain ⟨k1,k2,k3⟩:=fold_set vs (o + 1) (cur.setIfInBounds o v) (by simp;omega)
    simp only [List.zipIdx_cons,List.foldl_cons]
    refine ⟨by rw [k1];simp,fun j hj=>?_,fun i hi=>?_⟩
    · cases j with
      | zero =>
        have:=k3 o (by omega)
        rw [Array.getElem?_setIfInBounds_self_of_lt (by omega)] at this
        simpa using this
      | succ j =>
        have:=k2 j (by simpa using hj)
        rw [show o + (j + 1) = o + 1 + j by omega,this];simp
    · rw [k3 i (by omega),Array.getElem?_setIfInBounds_ne (by omega)]
theorem fold_whole {cs z:Array Value} (h:z.size = cs.size):(cs.zipIdx.foldl (fun (q:Array Value) (p:Value × Nat)=>q.setIfInBounds p.2 p.1) z) = cs:=by
  rw [← Array.foldl_toList,Array.toList_zipIdx]
  obtain ⟨k1,k2,_⟩:=fold_set cs.toList 0 z (by simp [h])
  refine Array.ext (by rw [k1,h]) fun j h1 h2=>?_
  have:=k2 j (by simpa using h2)
  rw [Nat.zero_add] at this
  simp only [Array.getElem?_toList] at this
  rw [Array.getElem?_eq_getElem h1,Array.getElem?_eq_getElem h2] at this
  exact Option.some.inj this
theorem y_build1c {c:Nat} {x:Operand} {t e:TypeId} {ts:List Ty} {z:Value} {b:Nat} (ht:P.underlying t = some (.slice e)) (he:Info P e z c b) (hz:z.cells.size = c) (hc:0 < c) (hc2:c ≤ 16777216) (hl:ts.length = c) (hx:At (.agg ts) σ a x) :
    Yld P ⟨d,.buildSlice t 1 #[(0,x)],ty,pos,af,g⟩ a σ (Ty.sl c 1 ts).pr:=by
  obtain ⟨cs,e1,hcs,hcl⟩:=hx
  have hsz:cs.size = c:=by omega
  intro K Q hk
  have hr:(execOp a.eval ⟨d,.buildSlice t 1 #[(0,x)],ty,pos,af,g⟩).run P σ.w = .ok (.value (.slice (some ⟨σ.w.heap.size,0,none⟩) 1 1)) (σ.w.alloc (.cells cs e)):=by
    simp only [execOp,List.map_toArray,List.map_cons,List.map_nil,e1]
    have hw:∀ q:Array Value,q.size = c → cs.zipIdx.foldl (fun (q:Array Value) (p:Value × Nat)=>q.setIfInBounds p.2 p.1) q = cs:=fun q hq=>fold_whole (by omega)
    have h1:¬ c > 16777216:=by omega
    have h2:¬ c = 0:=by omega
    simp [Instr.buildSlice,run_underlying ht,he.size,he.zero,Instr.fill,Value.cells,hsz,h2,newRow,newObj,Sem.run,Sem.run_bind,show ¬ 16777216 < c by omega]
    generalize hq:Array.map _ (Array.range c) = q
    have hqs:q.size = c:=by rw [← hq];simp
    have h5:=hw q hqs
    simp only [Array.size_zipIdx] at h5
    first | rw [h5] | (rw [hsz] at h5;rw [h5])
  unfold Oper.wp
  rw [hr]
  refine hk _ (σ.seal (.cells cs e)) (Stp.seal _ _) ⟨_,1,σ.w.heap.size,0,rfl,⟨Nat.le_refl _,by decide⟩,by omega,.inr ⟨rfl,by simp [GW.seal]⟩,fun j V hj=>?_⟩
  have hj2:j < cs.size:=by rw [hsz,← hl];exact (List.getElem?_eq_some_iff.1 hj).1
  refine ⟨cs[j],?_,V.up (Stp.seal _ _).le0 (hcl j V _ hj (by simp [hj2]))⟩
  show World.cell? (σ.w.alloc _) _ = _
  simp only [World.cell?,heap_alloc_new]
  simp [hj2]
theorem one_flat {α:Type} {F:α → List Ty} {xs:List α} (h:∀ x,∀ U ∈ F x,One U):∀ U,U ∈ xs.flatMap F → One U:=fun U hU=>by
  obtain ⟨x,_,hx⟩:=List.mem_flatMap.1 hU;exact h x U hx
end Go.KL
namespace Go.KL
abbrev BCall:=Int × List (List Int)
theorem drop_consD {α:Type} (d:α) {l:List α} {k:Nat} (h:k < l.length):l.drop k = l.getD k d :: l.drop (k + 1):=by
  rw [List.drop_eq_getElem_cons h];simp [h]
section
variable {nm:ByteArray} {n:Nat} {l:List (List Int)} {cs:List BCall} {leads:List Int}
end
end Go.KL
namespace Go.KL
open Go.RowKit
variable {P:Program} {d:Option Tmp} {ty:TypeId} {pos:String} {af:Array Edge} {g:Option (Nat × Bool)} {a:Act} {σ:GW}
def Ty.clo (f:FuncId) (ts:List Ty):Ty:=⟨fun σ v=>∃ p,v = .func (.func f) #[] #[p]∧(Ty.ref ts).has σ p,fun h ⟨p,e,hp⟩=>⟨p,e,Ty.up _ h hp⟩⟩
theorem flat_take {α:Type} {c:Nat} {F:α → List Ty} (hF:∀ x,(F x).length = c):∀ (xs:List α) (h:Nat),(xs.flatMap F).take (h * c) = (xs.take h).flatMap F
  | [],h=>by simp
  | x :: xs,0=>by simp
  | x :: xs,h + 1=>by
    rw [List.flatMap_cons,List.take_succ_cons,List.flatMap_cons,List.take_append,hF,← flat_take hF xs h,List.take_of_length_le (by rw [hF,Nat.succ_mul];omega),Nat.succ_mul,Nat.add_sub_cancel]
end Go.KL
namespace Go.KL
end Go.KL
namespace Go.KL
end Go.KL
namespace Go.KL
end Go.KL
namespace Go.KL
open Go.RowKit
variable {P:Program} {d:Option Tmp} {ty:TypeId} {pos:String} {af:Array Edge} {g:Option (Nat × Bool)} {a:Act} {σ:GW}
theorem y_lit1c {k c:Nat} {x:Operand} {t e:TypeId} {ts:List Ty} {z:Value} {b:Nat} (ht:P.underlying t = some (.slice e)) (he:Info P e z c b) (hz:z.cells.size = c) (hc:0 < c) (hc2:c ≤ 16777216) (hl:ts.length = c) (hx:At (.agg ts) σ a x) :
    Yld P ⟨d,.buildSlice t 1 #[(0,x)],ty,pos,af,g⟩ a σ (Pr.own k e c 1 ts):=by
  obtain ⟨cs,e1,hcs,hcl⟩:=hx
  have hsz:cs.size = c:=by omega
  intro K Q hk
  have hr:(execOp a.eval ⟨d,.buildSlice t 1 #[(0,x)],ty,pos,af,g⟩).run P σ.w = .ok (.value (.slice (some ⟨σ.w.heap.size,0,none⟩) 1 1)) (σ.w.alloc (.cells cs e)):=by
    simp only [execOp,List.map_toArray,List.map_cons,List.map_nil,e1]
    have hw:∀ q:Array Value,q.size = c → cs.zipIdx.foldl (fun (q:Array Value) (p:Value × Nat)=>q.setIfInBounds p.2 p.1) q = cs:=fun q hq=>fold_whole (by omega)
    have h1:¬ c > 16777216:=by omega
    have h2:¬ c = 0:=by omega
    simp [Instr.buildSlice,run_underlying ht,he.size,he.zero,Instr.fill,Value.cells,hsz,h2,newRow,newObj,Sem.run,Sem.run_bind,show ¬ 16777216 < c by omega]
    generalize hq:Array.map _ (Array.range c) = q
    have hqs:q.size = c:=by rw [← hq];simp
    have h5:=hw q hqs
    simp only [Array.size_zipIdx] at h5
    first | rw [h5] | (rw [hsz] at h5;rw [h5])
  unfold Oper.wp
  rw [hr]
  refine hk _ (σ.mk' k (.cells cs e)) (Stp.mk' σ k _) (Own.intro (us:=cs.toList) (heap_alloc_new σ.w _) (by show (if _ = _ then k else _) = k;rw [if_pos rfl]) (Nat.le_refl _) (by decide) (by omega) ?_ (by simpa using hcs) ?_)
  · rw [List.take_of_length_le (by simp;omega)]
  · intro j U u hU hu
    exact U.up (Stp.mk' σ k _).le0 (hcl j U u hU (by simpa using hu))
end Go.KL
namespace Go.KL
open Go.RowKit
variable {P:Program}
theorem own_appendw {σ:GW} {k:Nat} {t ty e:TypeId} {z:Value} {c by_:Nat} {v src:Value} {n m:Nat} {ts us:List Ty} (hk:2 ≤ k) (ht:P.underlying t = some (.slice e)) (he:Info P e z c by_) (hz:z.cells.size = c) (hc:0 < c)
    (h:Own σ k e c v n ts) (hx:∃ ad cap b o,src = .slice ad m cap∧us.length = m * c∧(us = [] ∨ ad = some (⟨b,o,none⟩:Addr))∧Cells σ b o us) (h1:∀ U,U ∈ us → One U) (hlen:n + m ≤ 9223372036854775807) (hbytes:(n + m) * by_ ≤ 140737488355328) :
    ∃ v' τ,(Builtin.append_ #[t,t] ty #[v,src]).run P σ.w = .ok v' τ.w∧Stp k σ τ∧Own τ k e c v' (n + m) (ts ++ us):=by
  have h0:=h
  obtain ⟨vs,r1,r2,r3,r4⟩:=h
  obtain ⟨ad,cap0,b,o,rfl,hl,hs,hcl⟩:=hx
  obtain ⟨i,hi,hi1,rfl,rfl⟩:=he.get
  obtain ⟨ws,w1,w2,w3⟩:=sl_news hcl
  have hone:∀ u ∈ ws,u.oneCell' = true:=fun u hu=>by
    obtain ⟨j,hj⟩:=List.mem_iff_getElem?.1 hu
    obtain ⟨T,hT⟩:∃ T,us[j]? = some T:=⟨us[j]'(by rw [← w1];exact (List.getElem?_eq_some_iff.1 hj).1),by simp⟩
    exact h1 T (List.mem_of_getElem? hT) σ u (w3 j T u hT hj)
  have hlw:ws.length = m * i.size:=by rw [w1];exact hl
  have hl':(vs ++ ws).length = (ts ++ us).length:=by simp [r2,w1]
  have new:∀ (old:Nat) (τw:World),old < n + m → τw = σ.w.drew.alloc (.cells (vs.toArray ++ ws.toArray ++ Builtin.zeroCells z.cells (grownCap σ.w (n + m) old e - (n + m))) e) →
      ∃ τ:GW,τ.w = τw∧Stp k σ τ∧Own τ k e i.size (.slice (some ⟨σ.w.heap.size,0,none⟩) (n + m) (grownCap σ.w (n + m) old e)) (n + m) (ts ++ us):=by
    intro old τw _ hτ
    subst hτ
    have hge:=grownCap_ge σ.w (n + m) old e
    have hcm:grownCap σ.w (n + m) old e ≤ maxLen:=grownCap_le_maxLen σ.w (n + m) old e hlen
    have hstp:Stp 0 σ (σ.drew.mk' k (.cells (vs.toArray ++ ws.toArray ++ Builtin.zeroCells z.cells (grownCap σ.w (n + m) old e - (n + m))) e)):=(Stp.drew σ).trans (Stp.mk' σ.drew k _)
    refine ⟨_,rfl,hstp.of0,Own.intro (us:=vs ++ ws) (heap_alloc_new σ.w.drew _) (by show (if _ = _ then k else _) = k;rw [if_pos];rfl) hge hcm ?_ ?_ hl' ?_⟩
    · simp only [Array.size_append,List.size_toArray,size_zeroCells,hz,r1.1,hlw,← Nat.add_mul]
      congr 1;omega
    · simp only [Array.toList_append,List.append_assoc]
      rw [← List.append_assoc,show (n + m) * i.size = (vs ++ ws).length by rw [List.length_append,r1.1,hlw,Nat.add_mul]]
      exact List.take_left
    · exact typed_append r2 (fun j T u hT hu=>T.up hstp.le0 (r3 j T u hT hu)) (fun j T u hT hu=>T.up hstp.le0 (w3 j T u hT hu))
  rcases r1.2 with ⟨rfl,rfl⟩ | ⟨g,cap,cur,rfl,_,hg,hn,hm,hcs,htk⟩
  · have hvs:vs = []:=List.eq_nil_of_length_eq_zero (by rw [r1.1];simp)
    by_cases hm0:m = 0
    · subst hm0
      have hus:us = []:=List.eq_nil_of_length_eq_zero (by rw [hl];simp)
      subst hus
      refine ⟨.slice none 0 0,σ,?_,Stp.refl _ _,by simpa using h0⟩
      cases ad <;> simp [Builtin.append_,run_underlying ht,sizeOf,typeInfo,hi,Builtin.lenOf,Builtin.firstCells,loadCells,loadCellsFrom]
    · have hus:us ≠ []:=by
        intro e;subst e
        have:0 < m * i.size:=Nat.mul_pos (by omega) hc
        simp only [List.length_nil] at hl
        omega
      obtain rfl:=hs.resolve_left hus
      have hr:=run_append_nil (P:=P) σ.w t ty e i z ht hi hi1 ⟨b,o,none⟩ m cap0 ws hlw (fun j u hj=>by rw [Addr.add_lit];exact w2 j u hj) (by omega) (by omega) (by simp only [Nat.zero_add] at hbytes;omega)
      obtain ⟨τ,e1,e2,e3⟩:=new 0 _ (by omega) rfl
      simp only [Nat.zero_add] at e1 e3 ⊢
      exact ⟨_,τ,by rw [hr,e1,hvs];simp,e2,e3⟩
  · have hlt:g < σ.w.heap.size:=(Array.getElem?_eq_some_iff.1 hg).1
    have hgk:=r4 g rfl
    by_cases hnone:ad = none
    · subst hnone
      have hus:us = []:=hs.resolve_right (fun h=>by cases h)
      have hm0:m = 0:=by
        subst hus
        rcases Nat.eq_zero_or_pos m with h | h
        · exact h
        · have:0 < m * i.size:=Nat.mul_pos h hc
          simp only [List.length_nil] at hl
          omega
      subst hm0;subst hus
      refine ⟨_,σ,?_,Stp.refl _ _,by simpa using h0⟩
      simp [Builtin.append_,run_underlying ht,sizeOf,typeInfo,hi,Builtin.lenOf,Builtin.firstCells,hn,storeCells,loadCells]
    · obtain ⟨ad',rfl⟩:=Option.ne_none_iff_exists'.1 hnone
      have hnews:∀ (j:Nat) (u:Value),ws[j]? = some u → σ.w.cell? (ad'.add j) = some u:=fun j u hj=>by
        rcases hs with rfl | he'
        · have:ws = []:=List.eq_nil_of_length_eq_zero w1
          subst this;simp at hj
        · cases he';rw [Addr.add_lit];exact w2 j u hj
      by_cases hroom:n + m ≤ cap
      · have hfit:n * i.size + ws.length ≤ cur.size:=by rw [hlw,hcs,← Nat.add_mul];exact Nat.mul_le_mul_right _ hroom
        have hr:=run_append_room (P:=P) σ.w t ty e i ht hi g n cap cur hg ad' m cap0 ws hlw hnews hone hroom hfit
        have hstp:Stp k σ (σ.setRow g (cur.toList.take (n * i.size) ++ ws ++ cur.toList.drop (n * i.size + ws.length)).toArray):=Stp.setRow hgk (by omega)
        refine ⟨_,_,hr,hstp,Own.intro (us:=vs ++ ws) (setRow_heap σ.w g cur _ e (0,0) hg) hgk hroom hm ?_ ?_ hl' ?_⟩
        · simp only [List.size_toArray,List.length_append,List.length_take,List.length_drop,Array.length_toList]
          omega
        · rw [htk,show (n + m) * i.size = (vs ++ ws).length by rw [List.length_append,r1.1,hlw,Nat.add_mul]]
          exact List.take_left
        · exact typed_append r2 (fun j T u hT hu=>T.up (hstp.le (by omega)) (r3 j T u hT hu)) (fun j T u hT hu=>T.up (hstp.le (by omega)) (w3 j T u hT hu))
      · have holds:∀ (j:Nat) (u:Value),vs[j]? = some u → σ.w.cell? ((⟨g,0,none⟩:Addr).add j) = some u:=r1.cells (g:=g) rfl
        have hr:=run_append_grow (P:=P) σ.w t ty e i z ht hi hi1 ⟨g,0,none⟩ n cap vs r1.1 holds ad' m cap0 ws hlw hnews (by omega) (by omega) (growslice_fits (by omega) hbytes)
        obtain ⟨τ,e1,e2,e3⟩:=new cap _ (by omega) rfl
        exact ⟨_,τ,by rw [hr,e1],e2,e3⟩
theorem Own.src {σ:GW} {k:Nat} {e:TypeId} {c:Nat} {v:Value} {n:Nat} {ts:List Ty} (h:Own σ k e c v n ts):∃ ad cap b o,v = .slice ad n cap∧ts.length = n * c∧(ts = [] ∨ ad = some (⟨b,o,none⟩:Addr))∧Cells σ b o ts:=by
  have hl:=h.len
  obtain ⟨us,h1,h2,h3,h4⟩:=h
  rcases h1.2 with ⟨rfl,rfl⟩ | ⟨g,cap,cur,rfl,_⟩
  · have:ts = []:=List.eq_nil_of_length_eq_zero (by omega)
    subst this
    exact ⟨none,0,0,0,rfl,by simp,.inl rfl,fun j T hj=>by simp at hj⟩
  · refine ⟨_,cap,g,0,rfl,hl,.inr rfl,fun j T hj=>?_⟩
    have hlt:=(List.getElem?_eq_some_iff.1 hj).1
    have hu:us[j]? = some us[j]:=by simp [show j < us.length by omega]
    refine ⟨us[j],?_,h3 j T _ hj hu⟩
    have:=h1.cells (g:=g) rfl j _ hu
    rwa [Addr.add_lit] at this
variable {d:Option Tmp} {ty:TypeId} {pos:String} {af:Array Edge} {g:Option (Nat × Bool)} {a:Act} {σ:GW}
theorem m_appendo {k k2:Nat} {t e:TypeId} {z:Value} {c by_:Nat} {x y:Operand} {n m:Nat} {ts us:List Ty} (ht:P.underlying t = some (.slice e)) (he:Info P e z c by_) (hk:2 ≤ k) (hz:z.cells.size = c) (hc:0 < c)
    (h:Own σ k e c (a.eval x) n ts) (hx:Own σ k2 e c (a.eval y) m us) (h1:∀ U,U ∈ us → One U) (hlen:n + m ≤ 9223372036854775807) (hbytes:(n + m) * by_ ≤ 140737488355328) :
    YldM k P ⟨d,.call ⟨.builtin .append,#[x,y],#[t,t]⟩,ty,pos,af,g⟩ a σ (fun v τ=>Own τ k e c v (n + m) (ts ++ us)):=by
  intro K Q hk'
  obtain ⟨v',τ,hr,hs,ho⟩:=own_appendw (ty:=ty) hk ht he hz hc h hx.src h1 hlen hbytes
  have hr':(execOp a.eval ⟨d,.call ⟨.builtin .append,#[x,y],#[t,t]⟩,ty,pos,af,g⟩).run P σ.w = .ok (.value v') τ.w:=by
    simp only [execOp,resolve,Sem.run_bind,Sem.run_pure,Result.andThen_ok,invoke,List.map_toArray,List.map_cons,List.map_nil,builtin,hr]
  unfold Oper.wp
  rw [hr']
  exact hk' v' τ hs ho
theorem y_ownnil {k:Nat} {x y:Operand} {t u:TypeId} {e e':TypeId} {c n:Nat} {ts:List Ty} {v:Value} (ht:P.underlying t = some (.slice e')) (h:Own σ k e c v n ts) (hn:0 < n) (hx:a.eval x = v) (hy:a.eval y = .slice none 0 0) :
    Yld P ⟨d,.binOp .eql t x y u,ty,pos,af,g⟩ a σ (Ty.bool false).pr:=by
  obtain ⟨gg,cap,rfl,_⟩:=h.at hn
  refine Yld.of_run (v:=.bool false) ?_ rfl
  simp only [execOp,hx,hy]
  have h1:=Go.Lib.run_eql_slice_nil (P:=P) σ.w t e' (some ⟨gg,0,none⟩) n cap 0 0 ht
  simp [eqGuard,run_underlying ht,h1]
end Go.KL
namespace Go.KL
structure Qst where
  met:Nat
  found:List (List Int)
  full:Bool
section
variable (n:Nat) (l:List (List Int)) (cs:List BCall) (leads many:Nat)
end
section
variable {n:Nat} {l:List (List Int)} {cs:List BCall} {leads many:Nat}
variable {nm:ByteArray}
end
end Go.KL
namespace Go.KL
section
variable {n:Nat} {l:List (List Int)} {cs:List BCall} {leads many f k:Nat} {path:List Int} {s0 s:Qst}
end
end Go.KL
namespace Go.KL
section
variable {n:Nat} {l:List (List Int)} {cs:List BCall} {leads many f k:Nat} {path:List Int} {s0 s:Qst} {nm:ByteArray}
end
end Go.KL
namespace Go.KL
theorem below_trans:∀ {a b c:List Int},belowL a b = true → belowL b c = true → belowL a c = true
  | [],b,[],h1,h2=>by cases b <;> simp [belowL] at h1 h2
  | [],_,_ :: _,_,_=>by simp [belowL]
  | x :: a,[],_,h1,_=>by simp [belowL] at h1
  | x :: a,y :: b,[],_,h2=>by simp [belowL] at h2
  | x :: a,y :: b,z :: c,h1,h2=>by
    rw [belowL] at h1 h2 ⊢
    by_cases e1:x = y
    · subst e1
      rw [if_pos rfl] at h1
      by_cases e2:x = z
      · rw [if_pos e2] at h2 ⊢;exact below_trans h1 h2
      · rw [if_neg e2] at h2 ⊢;exact h2
    · rw [if_neg e1,decide_eq_true_eq] at h1
      by_cases e2:y = z
      · subst e2;rw [if_neg e1,decide_eq_true_eq];exact h1
      · rw [if_neg e2,decide_eq_true_eq] at h2
        rw [if_neg (by omega),decide_eq_true_eq];omega
theorem below_tri:∀ {a b:List Int},a ≠ b → belowL a b = true ∨ belowL b a = true
  | [],[],h=>absurd rfl h
  | [],_ :: _,_=>by simp [belowL]
  | _ :: _,[],_=>by simp [belowL]
  | x :: a,y :: b,h=>by
    rw [belowL,belowL]
    by_cases e:x = y
    · subst e
      rw [if_pos rfl,if_pos rfl]
      exact below_tri fun e=>h (by rw [e])
    · rw [if_neg e,if_neg (Ne.symm e),decide_eq_true_eq,decide_eq_true_eq];omega
theorem below_asym {a b:List Int} (h:belowL a b = true):belowL b a = false:=by
  cases e:belowL b a with
  | false=>rfl
  | true=>have:=below_trans h e;rw [below_irr] at this;cases this
def leL (a b:List Int):Bool:=!belowL b a
theorem leL_total (a b:List Int):(leL a b || leL b a) = true:=by
  unfold leL
  cases e:belowL b a with
  | false=>rfl
  | true=>rw [below_asym e];rfl
theorem leL_cases {a b:List Int} (h:leL a b = true):a = b ∨ belowL a b = true:=by
  by_cases e:a = b
  · exact .inl e
  · rcases below_tri e with h1 | h1
    · exact .inr h1
    · unfold leL at h;rw [h1] at h;cases h
theorem le_lt {a b c:List Int} (h:leL a b = true) (k:belowL b c = true):belowL a c = true:=by
  rcases leL_cases h with rfl | h
  · exact k
  · exact below_trans h k
theorem leL_trans (a b c:List Int) (h:leL a b = true) (k:leL b c = true):leL a c = true:=by
  rcases leL_cases k with rfl | k
  · exact h
  · have:=le_lt h k
    unfold leL;rw [below_asym this];rfl
theorem strict_one:∀ {a b:List (List Int)},a.Pairwise (fun x y=>belowL x y = true) → b.Pairwise (fun x y=>belowL x y = true) → (∀ x,x ∈ a ↔ x ∈ b) → a = b
  | [],b,_,_,h=>by
    cases b with
    | nil=>rfl
    | cons y b=>have:=(h y).2 (by simp);simp at this
  | x :: a,[],_,_,h=>by have:=(h x).1 (by simp);simp at this
  | x :: a,y :: b,h1,h2,h=>by
    rw [List.pairwise_cons] at h1 h2
    have e:x = y:=by
      rcases List.mem_cons.1 ((h x).1 (by simp)) with e | hx
      · exact e
      · rcases List.mem_cons.1 ((h y).2 (by simp)) with e | hy
        · exact e.symm
        · have:=below_trans (h1.1 y hy) (h2.1 x hx)
          rw [below_irr] at this;cases this
    subst e
    rw [strict_one h1.2 h2.2 fun z=>?_]
    constructor
    · intro hz
      rcases List.mem_cons.1 ((h z).1 (by simp [hz])) with e | h3
      · subst e;have:=h1.1 z hz;rw [below_irr] at this;cases this
      · exact h3
    · intro hz
      rcases List.mem_cons.1 ((h z).2 (by simp [hz])) with e | h3
      · subst e;have:=h2.1 z hz;rw [below_irr] at this;cases this
      · exact h3
def ordF:Nat → List (List Int) → List (List Int)
  | 0,l=>l
  | f + 1,l=>if l.length < 2 then l else List.merge (ordF f (l.take (l.length / 2))) (ordF f (l.drop (l.length / 2))) leL
def ordS (l:List (List Int)):List (List Int):=ordF l.length l
theorem ordF_any:∀ (f:Nat) (l:List (List Int)) (g:Nat),l.length ≤ f → l.length ≤ g → ordF f l = ordF g l
  | 0,l,g,h1,_=>by
    obtain rfl:l = []:=List.eq_nil_of_length_eq_zero (by omega)
    cases g with
    | zero=>rfl
    | succ g=>rw [ordF,ordF,if_pos (by simp)]
  | f + 1,l,0,_,h2=>by
    obtain rfl:l = []:=List.eq_nil_of_length_eq_zero (by omega)
    rw [ordF,ordF,if_pos (by simp)]
  | f + 1,l,g + 1,h1,h2=>by
    rw [ordF,ordF]
    by_cases h:l.length < 2
    · rw [if_pos h,if_pos h]
    · rw [if_neg h,if_neg h,ordF_any f (l.take (l.length / 2)) g (by rw [List.length_take];omega) (by rw [List.length_take];omega),ordF_any f (l.drop (l.length / 2)) g (by rw [List.length_drop];omega) (by rw [List.length_drop];omega)]
theorem ordS_small {l:List (List Int)} (h:l.length < 2):ordS l = l:=by
  unfold ordS
  cases e:l.length with
  | zero=>rfl
  | succ k=>rw [ordF,if_pos h]
theorem ordS_big {l:List (List Int)} (h:¬ l.length < 2):ordS l = List.merge (ordS (l.take (l.length / 2))) (ordS (l.drop (l.length / 2))) leL:=by
  unfold ordS
  rw [ordF_any l.length l ((l.length - 1) + 1) (Nat.le_refl _) (by omega),ordF,if_neg h,ordF_any (l.length - 1) (l.take (l.length / 2)) (l.take (l.length / 2)).length (by rw [List.length_take];omega) (Nat.le_refl _),
    ordF_any (l.length - 1) (l.drop (l.length / 2)) (l.drop (l.length / 2)).length (by rw [List.length_drop];omega) (Nat.le_refl _)]
theorem ordS_facts:∀ (n:Nat) (l:List (List Int)),l.length = n → (ordS l).Perm l∧(ordS l).Pairwise (fun x y=>leL x y = true):=by
  intro n
  induction n using Nat.strongRecOn with
  | _ n ih =>
  intro l hl
  by_cases h:l.length < 2
  · rw [ordS_small h]
    refine ⟨List.Perm.refl _,?_⟩
    match l,h with
    | [],_=>exact List.Pairwise.nil
    | [x],_=>exact List.pairwise_singleton _ _
    | _ :: _ :: _,h=>simp at h;omega
  · rw [ordS_big h]
    obtain ⟨p1,s1⟩:=ih (l.take (l.length / 2)).length (by rw [List.length_take];omega) _ rfl
    obtain ⟨p2,s2⟩:=ih (l.drop (l.length / 2)).length (by rw [List.length_drop];omega) _ rfl
    refine ⟨(List.merge_perm_append leL).trans ?_,List.pairwise_merge leL_trans leL_total _ _ s1 s2⟩
    have:=p1.append p2
    rwa [List.take_append_drop] at this
theorem ordS_perm (l:List (List Int)):(ordS l).Perm l:=(ordS_facts _ l rfl).1
theorem ordS_sort (l:List (List Int)):(ordS l).Pairwise (fun x y=>leL x y = true):=(ordS_facts _ l rfl).2
theorem ordS_len (l:List (List Int)):(ordS l).length = l.length:=(ordS_perm l).length_eq
theorem merge_left {a b:List (List Int)} {i k:Nat} (h1:i < a.length) (h:b.length ≤ k ∨ belowL (b.getD k []) (a.getD i []) = false):List.merge (a.drop i) (b.drop k) leL = a.getD i [] :: List.merge (a.drop (i + 1)) (b.drop k) leL:=by
  rw [drop_consD [] h1]
  by_cases hk:b.length ≤ k
  · rw [List.drop_eq_nil_of_le hk];simp
  · have h3:=h.resolve_left hk
    rw [drop_consD [] (show k < b.length by omega),List.cons_merge_cons,if_pos (by unfold leL;rw [h3];rfl)]
theorem merge_right {a b:List (List Int)} {i k:Nat} (h1:k < b.length) (h:a.length ≤ i ∨ belowL (b.getD k []) (a.getD i []) = true):List.merge (a.drop i) (b.drop k) leL = b.getD k [] :: List.merge (a.drop i) (b.drop (k + 1)) leL:=by
  rw [drop_consD [] h1]
  by_cases hk:a.length ≤ i
  · rw [List.drop_eq_nil_of_le hk];simp
  · have h3:=h.resolve_left hk
    rw [drop_consD [] (show i < a.length by omega),List.cons_merge_cons,if_neg (by unfold leL;rw [h3];simp)]
theorem merge_end {a b:List (List Int)} {i k:Nat} (h1:a.length ≤ i) (h2:b.length ≤ k):List.merge (a.drop i) (b.drop k) leL = []:=by
  rw [List.drop_eq_nil_of_le h1,List.drop_eq_nil_of_le h2];simp
theorem out_left {a b out T:List (List Int)} {i k:Nat} (h:out ++ List.merge (a.drop i) (b.drop k) leL = T) (h1:i < a.length) (h2:b.length ≤ k ∨ belowL (b.getD k []) (a.getD i []) = false):(out ++ [a.getD i []]) ++ List.merge (a.drop (i + 1)) (b.drop k) leL = T:=by
  rw [merge_left h1 h2] at h;rw [← h];simp
theorem out_right {a b out T:List (List Int)} {i k:Nat} (h:out ++ List.merge (a.drop i) (b.drop k) leL = T) (h1:k < b.length) (h2:a.length ≤ i ∨ belowL (b.getD k []) (a.getD i []) = true):(out ++ [b.getD k []]) ++ List.merge (a.drop i) (b.drop (k + 1)) leL = T:=by
  rw [merge_right h1 h2] at h;rw [← h];simp
theorem out_end {a b out T:List (List Int)} {i k:Nat} (h:out ++ List.merge (a.drop i) (b.drop k) leL = T) (h1:a.length ≤ i) (h2:b.length ≤ k):out = T:=by
  rw [merge_end h1 h2,List.append_nil] at h;exact h
section
variable {rows:List (List Int)} {m i k:Nat}
end
end Go.KL
namespace Go.KL
section
variable {nm:ByteArray} {n:Nat} {l:List (List Int)} {cs:List BCall} {leads many:Nat}
end
end Go.KL
namespace Go.KL
structure RowN (n:Nat) (r:List Int):Prop where
  row:IsRow r
  len:r.length = n
theorem RowN.bd {n:Nat} {r:List Int} (h:RowN n r):In n r:=by have:=h.row.bds;rwa [h.len] at this
theorem RowN.undo {n:Nat} {r:List Int} (h:RowN n r):RowN n (undoL r):=⟨(undo_row h.row).1,by rw [undoL_len,h.len]⟩
theorem RowN.by {n:Nat} {a b:List Int} (h:RowN n a) (k:RowN n b):RowN n (byL a b):=⟨byL_row h.row k.row (by rw [h.len,k.len]),by rw [byL_len,k.len]⟩
theorem by_as {n:Nat} (a:List Int) {b c:List Int} (hb:RowN n b) (hc:RowN n c):byL a (byL b c) = byL (byL a b) c:=byL_assoc a b c (by rw [hb.len];exact hc.bd)
theorem undo_right {n:Nat} {r:List Int} (h:RowN n r):byL r (undoL r) = roundsL n:=by rw [(undo_row h.row).2,h.len]
theorem undo_undo {n:Nat} {r:List Int} (h:RowN n r):undoL (undoL r) = r:=by
  have e1:byL r (byL (undoL r) (undoL (undoL r))) = r:=by rw [undo_right h.undo,byL_rounds_right h.len]
  rw [by_as r h.undo h.undo.undo,undo_right h,byL_rounds_left h.undo.undo.bd] at e1
  exact e1
theorem undo_left {n:Nat} {r:List Int} (h:RowN n r):byL (undoL r) r = roundsL n:=by
  have:=undo_right h.undo
  rwa [undo_undo h] at this
theorem by_cancel {n:Nat} {r x y:List Int} (hr:RowN n r) (hx:RowN n x) (hy:RowN n y) (h:byL r x = byL r y):x = y:=by
  have:=congrArg (byL (undoL r)) h
  rwa [by_as _ hr hx,by_as _ hr hy,undo_left hr,byL_rounds_left hx.bd,byL_rounds_left hy.bd] at this
theorem rank_zero {n:Nat} {r:List Int} (hr:RowN n r) (h:rankL r = 0):r = roundsL n:=by rw [(rank_zero_iff hr.row).1 h,hr.len]
section
variable {nm:ByteArray} {n:Nat} {l:List (List Int)} {cs:List BCall} {p:List Int}
end
end Go.KL
namespace Go.KL
inductive Cl (n:Nat) (S:List Int → Prop):List Int → Prop
  | one:Cl n S (roundsL n)
  | mul {x y:List Int}:S x → Cl n S y → Cl n S (byL x y)
section
variable {n:Nat} {S T:List Int → Prop} {x y:List Int}
theorem rounds_rowN (hn:1 ≤ n∧n ≤ 12):RowN n (roundsL n):=⟨roundsL_row hn.1 hn.2,roundsL_len n⟩
theorem RowN.nn {r:List Int} (h:RowN n r):1 ≤ n∧n ≤ 12:=by
  have h1:=h.row.pos;have h2:=h.row.le;have h3:=h.len;omega
theorem Cl.row (hn:1 ≤ n∧n ≤ 12) (hS:∀ x,S x → RowN n x) (h:Cl n S x):RowN n x:=by
  induction h with
  | one=>exact rounds_rowN hn
  | mul hx _ ih=>exact (hS _ hx).by ih
theorem Cl.gen (hS:∀ x,S x → RowN n x) (hx:S x):Cl n S x:=by
  have:=Cl.mul hx (Cl.one (n:=n) (S:=S))
  rwa [byL_rounds_right (hS x hx).len] at this
theorem Cl.prod (hn:1 ≤ n∧n ≤ 12) (hS:∀ x,S x → RowN n x) (hx:Cl n S x) (hy:Cl n S y):Cl n S (byL x y):=by
  induction hx with
  | one=>rw [byL_rounds_left (hy.row hn hS).bd];exact hy
  | mul ha hb ih=>rw [← by_as _ (hb.row hn hS) (hy.row hn hS)];exact .mul ha ih
theorem Cl.sub (hn:1 ≤ n∧n ≤ 12) (hT:∀ x,T x → RowN n x) (hST:∀ x,S x → Cl n T x) (h:Cl n S x):Cl n T x:=by
  induction h with
  | one=>exact .one
  | mul hx _ ih=>exact (hST _ hx).prod hn hT ih
theorem Cl.pow (hn:1 ≤ n∧n ≤ 12) (hS:∀ x,S x → RowN n x) (h:Cl n S x):∀ k,Cl n S (powL n x k)
  | 0=>.one
  | k + 1=>(Cl.pow hn hS h k).prod hn hS h
theorem undo_pow (hx:RowN n x):undoL x = powL n x (ordL x - 1):=by
  refine by_cancel hx hx.undo ⟨powL_row hx.row hx.len _,powL_len hx.len _⟩ ?_
  rw [undo_right hx,powL_comm hx.row hx.len,show ordL x - 1 + 1 = ordL x by have:=ordL_pos hx.row;omega,powL_ord hx.row hx.len]
theorem Cl.undo (hn:1 ≤ n∧n ≤ 12) (hS:∀ x,S x → RowN n x) (h:Cl n S x):Cl n S (undoL x):=by
  rw [undo_pow (h.row hn hS)];exact h.pow hn hS _
def Fx (k:Nat) (r:List Int):Prop:=∀ i,i < k → r.getD i 0 = (i:Int)
theorem Fx.le {k j:Nat} (h:Fx k x) (hj:j ≤ k):Fx j x:=fun i hi=>h i (by omega)
theorem Fx.rounds {k:Nat} (hk:k ≤ n):Fx k (roundsL n):=fun i hi=>roundsL_get (by omega)
theorem Fx.by {k:Nat} (hk:k ≤ n) (hy:RowN n y) (h1:Fx k x) (h2:Fx k y):Fx k (byL x y):=fun i hi=>by
  rw [byL_get x y i (by rw [hy.len];omega),h2 i hi,Int.toNat_natCast,h1 i hi]
theorem Fx.pow {k:Nat} (hk:k ≤ n) (hx:RowN n x) (h:Fx k x):∀ j,Fx k (powL n x j)
  | 0=>Fx.rounds hk
  | j + 1=>Fx.by hk hx (Fx.pow hk hx h j) h
theorem Fx.undo {k:Nat} (hk:k ≤ n) (hx:RowN n x) (h:Fx k x):Fx k (undoL x):=by rw [undo_pow hx];exact h.pow hk hx _
theorem Fx.all (hx:RowN n x) (h:Fx n x):x = roundsL n:=by
  refine list_ext (by rw [hx.len,roundsL_len]) fun j hj=>?_
  rw [hx.len] at hj
  rw [h j hj,roundsL_get hj]
theorem Fx.cl {k:Nat} (hn:1 ≤ n∧n ≤ 12) (hk:k ≤ n) (hS:∀ x,S x → RowN n x) (hF:∀ x,S x → Fx k x) (h:Cl n S x):Fx k x:=by
  induction h with
  | one=>exact Fx.rounds hk
  | mul hx hy ih=>exact Fx.by hk (hy.row hn hS) (hF _ hx) ih
theorem by_at (hy:RowN n y) {i:Nat} (hi:i < n):(byL x y).getD i 0 = x.getD (y.getD i 0).toNat 0:=byL_get x y i (by rw [hy.len];exact hi)
theorem RowN.at (h:RowN n x) {i:Nat} (hi:i < n):0 ≤ x.getD i 0∧x.getD i 0 < n:=by
  have:=h.row.at (i:=i) (by rw [h.len];exact hi);rwa [h.len] at this
theorem undo_at (h:RowN n x) {i:Nat} (hi:i < n):(undoL x).getD (x.getD i 0).toNat 0 = (i:Int):=by
  have h1:=by_at (x:=undoL x) h hi
  rw [undo_left h,roundsL_get hi] at h1
  exact h1.symm
end
structure Lev where
  orb:Int → Option (List Int)
  gens:List (List Int)
def siftF (c:Nat → Lev):Nat → Nat → List Int → Nat × List Int
  | 0,k,r=>(k,r)
  | f + 1,k,r=>match (c k).orb (r.getD k 0) with
    | none=>(k,r)
    | some t=>siftF c f (k + 1) (byL (undoL t) r)
def sftL (n:Nat) (c:Nat → Lev) (k:Nat) (r:List Int):Nat × List Int:=siftF c (n - k) k r
def Mem (n:Nat) (c:Nat → Lev) (k:Nat) (r:List Int):Prop:=(sftL n c k r).1 = n
structure WL (n k:Nat) (L:Lev):Prop where
  base:L.orb (k:Int) = some (roundsL n)
  pt:∀ p t,L.orb p = some t → RowN n t∧Fx k t∧t.getD k 0 = p
  gen:∀ x ∈ L.gens,RowN n x∧Fx k x
structure WC (n:Nat) (c:Nat → Lev):Prop where
  nn:1 ≤ n∧n ≤ 12
  lev:∀ k,k < n → WL n k (c k)
  top:(c n).gens = []
abbrev GS (c:Nat → Lev) (k:Nat):List Int → Prop:=fun x=>x ∈ (c k).gens
def GoodAt (n:Nat) (c:Nat → Lev) (k:Nat):Prop:=∀ r,RowN n r → Fx k r → (Mem n c k r ↔ Cl n (GS c k) r)
def Good (n:Nat) (c:Nat → Lev) (k:Nat):Prop:=∀ j,k ≤ j → j ≤ n → GoodAt n c j
section
variable {n:Nat} {c d:Nat → Lev} {k j:Nat} {r x t:List Int} {p:Int}
theorem sft_end (h:n ≤ k):sftL n c k r = (k,r):=by unfold sftL;rw [show n - k = 0 by omega];rfl
theorem sft_none (h:k < n) (ho:(c k).orb (r.getD k 0) = none):sftL n c k r = (k,r):=by
  unfold sftL;rw [show n - k = (n - (k + 1)) + 1 by omega,siftF,ho]
theorem sft_some (h:k < n) (ho:(c k).orb (r.getD k 0) = some t):sftL n c k r = sftL n c (k + 1) (byL (undoL t) r):=by
  unfold sftL;rw [show n - k = (n - (k + 1)) + 1 by omega,siftF,ho]
theorem mem_top:Mem n c n r:=by unfold Mem;rw [sft_end (Nat.le_refl _)]
theorem mem_iff (h:k < n):Mem n c k r ↔ ∃ t,(c k).orb (r.getD k 0) = some t∧Mem n c (k + 1) (byL (undoL t) r):=by
  unfold Mem
  cases ho:(c k).orb (r.getD k 0) with
  | none=>rw [sft_none h ho];simp;omega
  | some t=>rw [sft_some h ho];simp
theorem WC.gs (h:WC n c) (hk:k ≤ n):∀ x,GS c k x → RowN n x:=fun x hx=>by
  rcases Nat.lt_or_ge k n with h1 | h1
  · exact ((h.lev k h1).gen x hx).1
  · have:k = n:=by omega
    subst this
    have h2:x ∈ (c k).gens:=hx
    rw [h.top] at h2;simp at h2
theorem WC.gf (h:WC n c) (hk:k ≤ n):∀ x,GS c k x → Fx k x:=fun x hx=>by
  rcases Nat.lt_or_ge k n with h1 | h1
  · exact ((h.lev k h1).gen x hx).2
  · have:k = n:=by omega
    subst this
    have h2:x ∈ (c k).gens:=hx
    rw [h.top] at h2;simp at h2
theorem rest_row (hk:k < n) (hr:RowN n r) (hf:Fx k r) (ht:RowN n t) (htf:Fx k t) (h:t.getD k 0 = r.getD k 0):RowN n (byL (undoL t) r)∧Fx (k + 1) (byL (undoL t) r):=by
  refine ⟨ht.undo.by hr,fun i hi=>?_⟩
  rcases Nat.lt_or_ge i k with h1 | h1
  · exact Fx.by (by omega) hr (htf.undo (by omega) ht) hf i h1
  · have:i = k:=by omega
    subst this
    rw [by_at hr hk,← h,undo_at ht hk]
theorem back_row (hr:RowN n r) (ht:RowN n t):byL t (byL (undoL t) r) = r:=by rw [by_as t ht.undo hr,undo_right ht,byL_rounds_left hr.bd]
theorem fore_row (hr:RowN n r) (ht:RowN n t):byL (undoL t) (byL t r) = r:=by rw [by_as _ ht hr,undo_left ht,byL_rounds_left hr.bd]
theorem undo_rounds (hn:1 ≤ n∧n ≤ 12):undoL (roundsL n) = roundsL n:=by
  have h:=rounds_rowN hn
  have:=undo_left h
  rwa [byL_rounds_right h.undo.len] at this
theorem mem_mul (hc:WC n c) (hk:k < n) (ho:(c k).orb p = some t) (hr:RowN n r) (hf:Fx (k + 1) r) (hm:Mem n c (k + 1) r):Mem n c k (byL t r):=by
  obtain ⟨ht,_,hp⟩:=(hc.lev k hk).pt p t ho
  rw [mem_iff hk]
  refine ⟨t,?_,by rw [fore_row hr ht];exact hm⟩
  rw [by_at hr hk,hf k (by omega),Int.toNat_natCast,hp,ho]
theorem mem_down (hc:WC n c) (hk:k < n) (hr:RowN n r) (hf:Fx (k + 1) r):Mem n c k r ↔ Mem n c (k + 1) r:=by
  rw [mem_iff hk,hf k (by omega),(hc.lev k hk).base]
  have e:byL (undoL (roundsL n)) r = r:=by rw [undo_rounds hc.nn,byL_rounds_left hr.bd]
  simp [e]
theorem mem_dn (hc:WC n c) (hr:RowN n r):∀ (m k:Nat),k + m ≤ n → Fx (k + m) r → (Mem n c k r ↔ Mem n c (k + m) r)
  | 0,k,_,_=>Iff.rfl
  | m + 1,k,h,hf=>by
    rw [mem_down hc (by omega) hr (hf.le (by omega)),mem_dn hc hr m (k + 1) (by omega) (by rw [show k + 1 + m = k + (m + 1) by omega];exact hf),show k + 1 + m = k + (m + 1) by omega]
theorem good_top (hc:WC n c):GoodAt n c n:=fun r hr hf=>by
  refine ⟨fun _=>?_,fun _=>mem_top⟩
  rw [Fx.all hr hf];exact .one
theorem Good.le (h:Good n c k) (hj:k ≤ j):Good n c j:=fun i h1 h2=>h i (by omega) h2
theorem Good.one (hc:WC n c) (h:Good n c k) (hk:k ≤ n):Mem n c k (roundsL n):=(h k (Nat.le_refl _) hk _ (rounds_rowN hc.nn) (Fx.rounds hk)).2 .one
theorem Good.orb (hc:WC n c) (h:Good n c k) (hk:k < n) (ho:(c k).orb p = some t):Cl n (GS c k) t:=by
  obtain ⟨ht,hf,_⟩:=(hc.lev k hk).pt p t ho
  have h1:=mem_mul hc hk ho (rounds_rowN hc.nn) (Fx.rounds (by omega)) ((h.le (by omega)).one hc hk)
  rw [byL_rounds_right ht.len] at h1
  exact (h k (Nat.le_refl _) (by omega) t ht hf).1 h1
theorem Good.down (hc:WC n c) (h:Good n c k) (hk:k < n) (hx:Cl n (GS c (k + 1)) x):Cl n (GS c k) x:=by
  have hr:=hx.row hc.nn (hc.gs hk)
  have hf:=Fx.cl hc.nn hk (hc.gs hk) (hc.gf hk) hx
  have h1:=(h (k + 1) (by omega) hk x hr hf).2 hx
  exact (h k (Nat.le_refl _) (by omega) x hr (hf.le (by omega))).1 ((mem_down hc hk hr hf).2 h1)
theorem Good.dn (hc:WC n c):∀ (m k:Nat),Good n c k → k + m ≤ n → Cl n (GS c (k + m)) x → Cl n (GS c k) x
  | 0,_,_,_,hx=>hx
  | m + 1,k,h,hk,hx=>h.down hc (by omega) (Good.dn hc m (k + 1) (h.le (by omega)) (by omega) (by rw [show k + 1 + m = k + (m + 1) by omega];exact hx))
theorem Good.orbs (hc:WC n c) (h:Good n c k) (hj:k ≤ j) (hjn:j < n) (ho:(c j).orb p = some t):Cl n (GS c k) t:=by
  have:=(h.le hj).orb hc hjn ho
  exact Good.dn hc (j - k) k h (by omega) (by rw [show k + (j - k) = j by omega];exact this)
theorem sift_spec (hc:WC n c):∀ (f k:Nat) (r:List Int),k + f = n → RowN n r → Fx k r →
    k ≤ (siftF c f k r).1∧(siftF c f k r).1 ≤ n∧RowN n (siftF c f k r).2∧Fx (siftF c f k r).1 (siftF c f k r).2∧((siftF c f k r).1 < n → (c (siftF c f k r).1).orb ((siftF c f k r).2.getD (siftF c f k r).1 0) = none) ∧
      ∃ u,RowN n u∧r = byL u (siftF c f k r).2∧∀ S:List Int → Prop,(∀ x,S x → RowN n x) → (∀ j p t,k ≤ j → j < n → (c j).orb p = some t → Cl n S t) → Cl n S u
  | 0,k,r,h,hr,hf=>by
    have:k = n:=by omega
    subst this
    exact ⟨Nat.le_refl _,Nat.le_refl _,hr,hf,fun h=>absurd h (Nat.lt_irrefl _),roundsL k,rounds_rowN hc.nn,(byL_rounds_left hr.bd).symm,fun S _ _=>.one⟩
  | f + 1,k,r,h,hr,hf=>by
    cases ho:(c k).orb (r.getD k 0) with
    | none =>
      have e:siftF c (f + 1) k r = (k,r):=by rw [siftF,ho]
      rw [e]
      exact ⟨Nat.le_refl _,by omega,hr,hf,fun _=>ho,roundsL n,rounds_rowN hc.nn,(byL_rounds_left hr.bd).symm,fun S _ _=>.one⟩
    | some t =>
      have e:siftF c (f + 1) k r = siftF c f (k + 1) (byL (undoL t) r):=by rw [siftF,ho]
      rw [e]
      obtain ⟨ht,htf,hp⟩:=(hc.lev k (by omega)).pt _ t ho
      obtain ⟨h1,h2⟩:=rest_row (by omega) hr hf ht htf hp
      obtain ⟨a1,a2,a3,a4,a5,u,a6,a7,a8⟩:=sift_spec hc f (k + 1) _ (by omega) h1 h2
      refine ⟨by omega,a2,a3,a4,a5,byL t u,ht.by a6,?_,fun S hS hS2=>(hS2 k _ t (Nat.le_refl _) (by omega) ho).prod hc.nn hS (a8 S hS fun j p t' hj hjn=>hS2 j p t' (by omega) hjn)⟩
      rw [← by_as t a6 a3,← a7,back_row hr ht]
theorem good_ext (hc:WC n c) (hk:k < n) (hg:Good n c (k + 1)) (hsub:∀ x,GS c (k + 1) x → Cl n (GS c k) x) (horb:∀ p t,(c k).orb p = some t → Cl n (GS c k) t)
    (hcl:∀ p t x,(c k).orb p = some t → x ∈ (c k).gens → ∃ t',(c k).orb (x.getD p.toNat 0) = some t'∧Mem n c (k + 1) (byL (undoL t') (byL x t))):Good n c k:=by
  intro j hj hjn
  by_cases hjk:k + 1 ≤ j
  · exact hg j hjk hjn
  · have:j = k:=by omega
    subst this
    intro r hr hf
    constructor
    · intro hm
      obtain ⟨t,ho,hm2⟩:=(mem_iff hk).1 hm
      obtain ⟨ht,htf,hp⟩:=(hc.lev j hk).pt _ t ho
      obtain ⟨h1,h2⟩:=rest_row hk hr hf ht htf hp
      have h3:=(hg (j + 1) (Nat.le_refl _) hk _ h1 h2).1 hm2
      have h4:=(horb _ t ho).prod hc.nn (hc.gs hjn) (h3.sub hc.nn (hc.gs hjn) hsub)
      rwa [back_row hr ht] at h4
    · intro hcl2
      clear hr hf
      induction hcl2 with
      | one =>
        have:=mem_mul hc hk (hc.lev j hk).base (rounds_rowN hc.nn) (Fx.rounds (by omega)) (hg.one hc hk)
        rwa [byL_rounds_right (roundsL_len n)] at this
      | @mul x y hx hy ih =>
        have hyr:=hy.row hc.nn (hc.gs hjn)
        have hyf:=Fx.cl hc.nn hjn (hc.gs hjn) (hc.gf hjn) hy
        have hxr:=hc.gs hjn x hx
        have hxf:=hc.gf hjn x hx
        obtain ⟨t,ho,hm2⟩:=(mem_iff hk).1 ih
        obtain ⟨ht,htf,hp⟩:=(hc.lev j hk).pt _ t ho
        obtain ⟨h1,h2⟩:=rest_row hk hyr hyf ht htf hp
        obtain ⟨t',ho',hm3⟩:=hcl _ t x ho hx
        obtain ⟨ht',htf',hp'⟩:=(hc.lev j hk).pt _ t' ho'
        have hxt:=hxr.by ht
        have e1:t'.getD j 0 = (byL x t).getD j 0:=by rw [hp',by_at ht hk,hp]
        obtain ⟨g1,g2⟩:=rest_row hk hxt (Fx.by (by omega) ht hxf htf) ht' htf' e1
        have h5:=(hg (j + 1) (Nat.le_refl _) hk _ g1 g2).1 hm3
        have h6:=(hg (j + 1) (Nat.le_refl _) hk _ h1 h2).1 hm2
        have h7:=(hg (j + 1) (Nat.le_refl _) hk _ (g1.by h1) (Fx.by hk h1 g2 h2)).2 (h5.prod hc.nn (hc.gs hk) h6)
        have h8:=mem_mul hc hk ho' (g1.by h1) (Fx.by hk h1 g2 h2) h7
        have e2:byL t' (byL (byL (undoL t') (byL x t)) (byL (undoL t) y)) = byL x y:=by
          rw [by_as t' g1 h1,back_row hxt ht',← by_as x ht h1,back_row hyr ht]
        rwa [e2] at h8
theorem mem_congr:∀ (f k:Nat) (r:List Int),(∀ j,k ≤ j → j < k + f → c j = d j) → siftF c f k r = siftF d f k r
  | 0,_,_,_=>rfl
  | f + 1,k,r,h=>by
    rw [siftF,siftF,h k (Nat.le_refl _) (by omega)]
    cases (d k).orb (r.getD k 0) with
    | none=>rfl
    | some t=>exact mem_congr f (k + 1) _ (fun j h1 h2=>h j (by omega) (by omega))
theorem good_more (hc:WC n c) (hd:WC n d) (hk:k < n) (hsame:∀ j,j < k → d j = c j) (hg:Good n c j) (hjk:j ≤ k) (hdg:Good n d k) (hgens:(d k).gens = (c k).gens ++ [x]) (hx:Cl n (GS c k) x):Good n d j:=by
  have hmk:∀ r,RowN n r → Fx k r → (Mem n d k r ↔ Mem n c k r):=fun r hr hf=>by
    rw [hdg k (Nat.le_refl _) (by omega) r hr hf,hg k hjk (by omega) r hr hf]
    constructor
    · intro h
      refine h.sub hc.nn (hc.gs (by omega)) fun y hy=>?_
      have h2:y ∈ (d k).gens:=hy
      rw [hgens] at h2
      rcases List.mem_append.1 h2 with h3 | h3
      · exact Cl.gen (hc.gs (by omega)) h3
      · rw [List.mem_singleton] at h3;subst h3;exact hx
    · intro h
      refine h.sub hc.nn (hd.gs (by omega)) fun y hy=>Cl.gen (hd.gs (by omega)) ?_
      show y ∈ (d k).gens
      rw [hgens]
      exact List.mem_append.2 (.inl hy)
  have hm : ∀ (m i:Nat),i + m = k → ∀ r,RowN n r → Fx i r → (Mem n d i r ↔ Mem n c i r):=by
    intro m
    induction m with
    | zero => intro i hi r hr hf;have:i = k:=by omega
              subst this;exact hmk r hr hf
    | succ m ih =>
      intro i hi r hr hf
      rw [mem_iff (by omega),mem_iff (by omega),hsame i (by omega)]
      constructor
      · rintro ⟨t,ho,h⟩
        obtain ⟨ht,htf,hp⟩:=(hc.lev i (by omega)).pt _ t ho
        obtain ⟨h1,h2⟩:=rest_row (by omega) hr hf ht htf hp
        exact ⟨t,ho,(ih (i + 1) (by omega) _ h1 h2).1 h⟩
      · rintro ⟨t,ho,h⟩
        obtain ⟨ht,htf,hp⟩:=(hc.lev i (by omega)).pt _ t ho
        obtain ⟨h1,h2⟩:=rest_row (by omega) hr hf ht htf hp
        exact ⟨t,ho,(ih (i + 1) (by omega) _ h1 h2).2 h⟩
  intro i h1 h2
  rcases Nat.lt_or_ge i k with h3 | h3
  · intro r hr hf
    rw [hm (k - i) i (by omega) r hr hf,hg i h1 h2 r hr hf]
    show Cl n (fun x=>x ∈ (c i).gens) r ↔ Cl n (fun x=>x ∈ (d i).gens) r
    rw [hsame i h3]
  · exact hdg i h3 h2
theorem gen_below (hc:WC n c) (hg:Good n c k) (hk:k < n) (hx:x ∈ (c k).gens) (hf:Fx (k + 1) x):Cl n (GS c (k + 1)) x:=by
  have hr:=hc.gs (k:=k) (by omega) x hx
  have h1:=(hg k (Nat.le_refl _) (by omega) x hr (hf.le (by omega))).2 (Cl.gen (hc.gs (by omega)) hx)
  exact (hg (k + 1) (by omega) hk x hr hf).1 ((mem_down hc hk hr hf).1 h1)
end
end Go.KL
namespace Go.KL
def noO (n:Nat) (f:Int → Option (List Int)):Nat:=(List.range n).countP fun (p:Nat)=>(f (p:Int)).isNone
def missF (n:Nat) (c:Nat → Lev):Nat → Nat → Nat
  | 0,_=>0
  | f + 1,k=>noO n (c k).orb + missF n c f (k + 1)
def miss (n:Nat) (c:Nat → Lev) (k:Nat):Nat:=missF n c (n - k) k
section
variable {n k j:Nat} {c d:Nat → Lev} {r x:List Int} {f g:Int → Option (List Int)}
theorem miss_step (h:k < n):miss n c k = noO n (c k).orb + miss n c (k + 1):=by
  unfold miss;rw [show n - k = (n - (k + 1)) + 1 by omega,missF]
theorem miss_end (h:n ≤ k):miss n c k = 0:=by unfold miss;rw [show n - k = 0 by omega];rfl
theorem noO_le:noO n f ≤ n:=by unfold noO;exact Nat.le_trans List.countP_le_length (by simp)
theorem noO_mono (h:∀ p t,f p = some t → g p = some t):noO n g ≤ noO n f:=by
  unfold noO
  refine List.countP_mono_left fun p _ hp=>?_
  cases hf:f (p:Int) with
  | none=>rfl
  | some t=>rw [h _ t hf] at hp;cases hp
theorem countP_less {α:Type} {p q:α → Bool}:∀ {l:List α},(∀ x ∈ l,p x = true → q x = true) → ∀ {a:α},a ∈ l → p a = false → q a = true → l.countP p < l.countP q
  | [],_,_,h,_,_=>by cases h
  | b :: l,hpq,a,ha,h1,h2=>by
    have hle:l.countP p ≤ l.countP q:=List.countP_mono_left fun x hx=>hpq x (List.mem_cons_of_mem _ hx)
    rcases List.mem_cons.1 ha with rfl | ha
    · rw [List.countP_cons_of_neg (by rw [h1];decide),List.countP_cons_of_pos h2];omega
    · have ih:=countP_less (fun x hx=>hpq x (List.mem_cons_of_mem _ hx)) ha h1 h2
      by_cases hb:p b = true
      · rw [List.countP_cons_of_pos hb,List.countP_cons_of_pos (hpq b (List.mem_cons_self ..) hb)];omega
      · rw [List.countP_cons_of_neg hb,List.countP_cons (p:=q)]
        omega
theorem noO_lt (h:∀ p t,f p = some t → g p = some t) {p:Nat} (hp:p < n) (h1:f (p:Int) = none) (h2:(g (p:Int)).isSome = true):noO n g < noO n f:=by
  unfold noO
  refine countP_less (fun q _ hq=>?_) (List.mem_range.2 hp) (by cases hg:g (p:Int) <;> simp_all) (by rw [h1];rfl)
  cases hf:f (q:Int) with
  | none=>rfl
  | some t=>rw [h _ t hf] at hq;cases hq
theorem miss_mono (h:∀ j,k ≤ j → ∀ p t,(c j).orb p = some t → (d j).orb p = some t):∀ m,k + m = n → miss n d k ≤ miss n c k:=by
  intro m
  induction m generalizing k with
  | zero=>intro e;rw [miss_end (by omega),miss_end (by omega)];exact Nat.le_refl _
  | succ m ih =>
    intro e
    rw [miss_step (by omega),miss_step (c:=c) (by omega)]
    have h1:=noO_mono (n:=n) (h k (Nat.le_refl _))
    have h2:=ih (k:=k + 1) (fun j hj=>h j (by omega)) (by omega)
    omega
theorem miss_lt (h:∀ j,k ≤ j → ∀ p t,(c j).orb p = some t → (d j).orb p = some t) {i p:Nat} (hp:p < n) (h1:(c i).orb (p:Int) = none) (h2:((d i).orb (p:Int)).isSome = true):∀ m,k + m = i → i < n → miss n d k < miss n c k:=by
  intro m
  induction m generalizing k with
  | zero =>
    intro e hi
    have:k = i:=by omega
    subst this
    rw [miss_step (by omega),miss_step (c:=c) (by omega)]
    have h3:=noO_lt (n:=n) (h k (Nat.le_refl _)) hp h1 h2
    have h4:=miss_mono (n:=n) (c:=c) (d:=d) (k:=k + 1) (fun j hj=>h j (by omega)) (n - (k + 1)) (by omega)
    omega
  | succ m ih =>
    intro e hi
    rw [miss_step (by omega),miss_step (c:=c) (by omega)]
    have h3:=noO_mono (n:=n) (h k (Nat.le_refl _))
    have h4:=ih (k:=k + 1) (fun j hj=>h j (by omega)) (by omega) hi
    omega
theorem miss_le:∀ (m k:Nat),k + m = n → miss n c k ≤ m * n:=by
  intro m
  induction m with
  | zero=>intro k e;rw [miss_end (by omega)];omega
  | succ m ih =>
    intro k e
    rw [miss_step (by omega),Nat.succ_mul]
    have:=ih (k + 1) (by omega)
    have:=noO_le (n:=n) (f:=(c k).orb)
    omega
theorem miss_same (h:∀ j,k ≤ j → j < n → d j = c j):∀ m,k + m = n → miss n d k = miss n c k:=by
  intro m
  induction m generalizing k with
  | zero=>intro e;rw [miss_end (by omega),miss_end (by omega)]
  | succ m ih =>
    intro e
    rw [miss_step (by omega),miss_step (c:=c) (by omega),h k (Nat.le_refl _) (by omega),ih (k:=k + 1) (fun j hj=>h j (by omega)) (by omega)]
theorem miss_shift (h:∀ j,j < k → d j = c j):∀ (m i:Nat),i + m = k → k ≤ n → miss n d i + miss n c k = miss n c i + miss n d k:=by
  intro m
  induction m with
  | zero => intro i e _;have:i = k:=by omega
            subst this;omega
  | succ m ih =>
    intro i e hk
    rw [miss_step (k:=i) (c:=d) (by omega),miss_step (k:=i) (c:=c) (by omega),h i (by omega)]
    have:=ih (i + 1) (by omega) hk
    omega
end
def upd (c:Nat → Lev) (k:Nat) (L:Lev):Nat → Lev:=fun j=>if j = k then L else c j
theorem upd_at {c:Nat → Lev} {k:Nat} {L:Lev}:upd c k L k = L:=if_pos rfl
theorem upd_ne {c:Nat → Lev} {k j:Nat} {L:Lev} (h:j ≠ k):upd c k L j = c j:=if_neg h
structure ExtP (n k:Nat) (r:List Int) (c d:Nat → Lev):Prop where
  wc:WC n d
  same:∀ j,j < k → d j = c j
  gens:(d k).gens = (c k).gens ++ [r]
  good:Good n d k
  grow:∀ j,k ≤ j → ∀ p t,(c j).orb p = some t → (d j).orb p = some t
  pot:∀ j,k ≤ j → j < n → (d j).gens.length + (j - k) * miss n d k ≤ (c j).gens.length + (if j = k then 1 else 0) + (j - k) * miss n c k
structure AddP (n k:Nat) (r:List Int) (c d:Nat → Lev):Prop where
  wc:WC n d
  same:∀ j,j < k → d j = c j
  good:Good n d k
  mem:Mem n d k r
  cl:∀ x,Cl n (GS d k) x ↔ Cl n (fun y=>y ∈ (c k).gens ∨ y = r) x
  grow:∀ j,k ≤ j → ∀ p t,(c j).orb p = some t → (d j).orb p = some t
  pot:∀ j,k ≤ j → j < n → (d j).gens.length + (j - k + 1) * miss n d k ≤ (c j).gens.length + (j - k + 1) * miss n c k
def Room (n k:Nat) (c:Nat → Lev):Prop:=∀ j,k ≤ j → j < n → (c j).gens.length + (j - k + 1) * miss n c k ≤ 1000000
def RoomE (n k:Nat) (c:Nat → Lev):Prop:=∀ j,k ≤ j → j < n → (c j).gens.length + (if j = k then 1 else 0) + (j - k) * miss n c k ≤ 1000000
structure ExtPre (n k:Nat) (r:List Int) (c:Nat → Lev):Prop where
  wc:WC n c
  lt:k < n
  row:RowN n r
  fx:Fx k r
  good:Good n c (k + 1)
  sub:∀ x,x ∈ (c (k + 1)).gens → Cl n (fun y=>y ∈ (c k).gens ∨ y = r) x
  orb:∀ p t,(c k).orb p = some t → Cl n (fun y=>y ∈ (c k).gens ∨ y = r) t
  room:RoomE n k c
structure AddPre (n k:Nat) (r:List Int) (c:Nat → Lev):Prop where
  wc:WC n c
  le:k ≤ n
  row:RowN n r
  fx:Fx k r
  good:Good n c k
  room:Room n k c
section
variable {n k j:Nat} {c d d':Nat → Lev} {r x s:List Int} {f:Int → Option (List Int)} {K:List Int}
theorem good_of_same (h:∀ j,k ≤ j → j ≤ n → (d j) = (c j)) (hg:Good n c k):Good n d k:=by
  intro j h1 h2 r hr hf
  have e:sftL n d j r = sftL n c j r:=mem_congr _ _ _ fun i hi1 hi2=>h i (by omega) (by omega)
  have h3:=hg j h1 h2 r hr hf
  unfold Mem at h3 ⊢
  rw [e,h3]
  show Cl n (fun x=>x ∈ (c j).gens) r ↔ Cl n (fun x=>x ∈ (d j).gens) r
  rw [h j h1 h2]
def schr (L:Lev) (p:Int) (x:List Int):List Int:=byL (undoL ((L.orb (x.getD p.toNat 0)).getD [])) (byL x ((L.orb p).getD []))
structure ExtI (n k:Nat) (c1:Nat → Lev) (K:List Int) (i j:Nat) (d:Nat → Lev):Prop where
  wc:WC n d
  same:∀ j,j < k + 1 → d j = c1 j
  good:Good n d (k + 1)
  sub:∀ x,Cl n (GS d (k + 1)) x → Cl n (GS c1 k) x
  grow:∀ j,k + 1 ≤ j → ∀ p t,(c1 j).orb p = some t → (d j).orb p = some t
  pot:∀ j,k + 1 ≤ j → j < n → (d j).gens.length + (j - k) * miss n d (k + 1) ≤ (c1 j).gens.length + (j - k) * miss n c1 (k + 1)
  mems:∀ a b,(a < i ∨ (a = i∧b < j)) → a < K.length → b < (c1 k).gens.length → Mem n d (k + 1) (schr (c1 k) (K.getD a 0) ((c1 k).gens.getD b []))
structure ExtC (n k:Nat) (r:List Int) (c c1:Nat → Lev) (K:List Int):Prop where
  wc:WC n c1
  same:∀ j,j ≠ k → c1 j = c j
  gens:(c1 k).gens = (c k).gens ++ [r]
  grow:∀ p t,(c k).orb p = some t → (c1 k).orb p = some t
  pts:∀ p t,(c1 k).orb p = some t → Cl n (GS c1 k) t
  clo:∀ p t,(c1 k).orb p = some t → ∀ x ∈ (c1 k).gens,((c1 k).orb (x.getD p.toNat 0)).isSome = true
  keys:∀ p,p ∈ K ↔ ((c1 k).orb p).isSome = true
theorem gs_ext (h:(d k).gens = (c k).gens ++ [r]):GS d k = fun y=>y ∈ (c k).gens ∨ y = r:=by
  funext y;apply propext
  show y ∈ (d k).gens ↔ _
  rw [h];simp
theorem ExtC.start (hp:ExtPre n k r c) (h:ExtC n k r c d K):ExtI n k d K 0 0 d where
  wc:=h.wc
  same _ _:=rfl
  good:=good_of_same (fun j h1 _=>h.same j (by omega)) hp.good
  sub x hx:=by
    refine hx.sub hp.wc.nn (h.wc.gs (by have:=hp.lt;omega)) fun y hy=>?_
    rw [gs_ext h.gens]
    refine hp.sub y ?_
    have h2:y ∈ (d (k + 1)).gens:=hy
    rwa [h.same (k + 1) (by omega)] at h2
  grow _ _ _ _ e:=e
  pot _ _ _:=Nat.le_refl _
  mems a b h1:=by omega
theorem ExtC.room {i m:Nat} (hp:ExtPre n k r c) (h:ExtC n k r c d K) (hi:ExtI n k d K i m d'):Room n (k + 1) d':=by
  intro j h1 h2
  have e1:=hi.pot j h1 h2
  have e2:=hp.room j (by omega) h2
  rw [if_neg (by omega)] at e2
  have e3:=miss_step (c:=c) hp.lt
  have e4:=miss_same (n:=n) (k:=k + 1) (c:=c) (d:=d) (fun j hj _=>h.same j (by omega)) (n - (k + 1)) (by have:=hp.lt;omega)
  have e5:(j - k) * miss n d (k + 1) ≤ (j - k) * miss n c k:=Nat.mul_le_mul_left _ (by omega)
  have e6:(d j).gens = (c j).gens:=by rw [h.same j (by omega)]
  rw [e6] at e1
  rw [show j - (k + 1) + 1 = j - k by omega]
  omega
theorem schr_facts (hc:WC n c) (hk:k < n) {p:Int} {t t':List Int} (ho:(c k).orb p = some t) (hx:x ∈ (c k).gens) (ho':(c k).orb (x.getD p.toNat 0) = some t'):schr (c k) p x = byL (undoL t') (byL x t)∧RowN n (schr (c k) p x)∧Fx (k + 1) (schr (c k) p x):=by
  obtain ⟨ht,htf,hp⟩:=(hc.lev k hk).pt _ t ho
  obtain ⟨ht',htf',hp'⟩:=(hc.lev k hk).pt _ t' ho'
  obtain ⟨hx1,hx2⟩:=(hc.lev k hk).gen x hx
  have e:schr (c k) p x = byL (undoL t') (byL x t):=by unfold schr;rw [ho,ho'];rfl
  rw [e]
  exact ⟨rfl,rest_row hk (hx1.by ht) (Fx.by (by omega) ht hx2 htf) ht' htf' (by rw [hp',by_at ht hk,hp])⟩
theorem schr_cl (h:ExtC n k r c d K) (hk:k < n) {p:Int} {t t':List Int} (ho:(d k).orb p = some t) (hx:x ∈ (d k).gens) (ho':(d k).orb (x.getD p.toNat 0) = some t'):Cl n (GS d k) (schr (d k) p x):=by
  obtain ⟨e,_,_⟩:=schr_facts h.wc hk ho hx ho'
  have hS:=h.wc.gs (k:=k) (by omega)
  rw [e]
  exact ((h.pts _ _ ho').undo h.wc.nn hS).prod h.wc.nn hS ((Cl.gen hS hx).prod h.wc.nn hS (h.pts _ _ ho))
theorem ExtI.step (hC:ExtC n k r c d K) (hk:k < n) {i m:Nat} {c2:Nat → Lev} (hi:i < K.length) (hm:m < (d k).gens.length) (h:ExtI n k d K i m d') (ha:AddP n (k + 1) (schr (d k) (K.getD i 0) ((d k).gens.getD m [])) d' c2):ExtI n k d K i (m + 1) c2 where
  wc:=ha.wc
  same j hj:=by rw [ha.same j hj,h.same j hj]
  good:=ha.good
  sub x hx:=by
    refine ((ha.cl x).1 hx).sub h.wc.nn (hC.wc.gs (by omega)) fun y hy=>?_
    rcases hy with hy | rfl
    · exact h.sub y (Cl.gen (h.wc.gs (by omega)) hy)
    · have hpk:(K.getD i 0) ∈ K:=mem_at hi rfl
      obtain ⟨t,ht⟩:=Option.isSome_iff_exists.1 ((hC.keys _).1 hpk)
      have hx:(d k).gens.getD m [] ∈ (d k).gens:=by rw [List.getD_eq_getElem?_getD,List.getElem?_eq_getElem hm];exact List.getElem_mem hm
      obtain ⟨t',ht'⟩:=Option.isSome_iff_exists.1 (hC.clo _ t ht _ hx)
      exact schr_cl hC hk ht hx ht'
  grow j hj p t e:=ha.grow j hj p t (h.grow j hj p t e)
  pot j h1 h2:=by
    have e1:=h.pot j h1 h2
    have e2:=ha.pot j h1 h2
    rw [show j - (k + 1) + 1 = j - k by omega] at e2
    omega
  mems a b hab h1 h2:=by
    by_cases e:a = i∧b = m
    · obtain ⟨rfl,rfl⟩:=e
      exact ha.mem
    · have h3:=h.mems a b (by omega) h1 h2
      have hpk:(K.getD a 0) ∈ K:=mem_at h1 rfl
      obtain ⟨t,ht⟩:=Option.isSome_iff_exists.1 ((hC.keys _).1 hpk)
      have hx:(d k).gens.getD b [] ∈ (d k).gens:=by rw [List.getD_eq_getElem?_getD,List.getElem?_eq_getElem h2];exact List.getElem_mem h2
      obtain ⟨t',ht'⟩:=Option.isSome_iff_exists.1 (hC.clo _ t ht _ hx)
      obtain ⟨_,g1,g2⟩:=schr_facts hC.wc hk ht hx ht'
      have h4:=(h.good (k + 1) (Nat.le_refl _) (by omega) _ g1 g2).1 h3
      have h5:Cl n (GS c2 (k + 1)) _:=(ha.cl _).2 (h4.sub h.wc.nn (fun y hy=>by
        rcases hy with hy | rfl
        · exact h.wc.gs (by omega) y hy
        · have hpk:(K.getD i 0) ∈ K:=mem_at hi rfl
          obtain ⟨t,ht⟩:=Option.isSome_iff_exists.1 ((hC.keys _).1 hpk)
          have hx:(d k).gens.getD m [] ∈ (d k).gens:=by rw [List.getD_eq_getElem?_getD,List.getElem?_eq_getElem hm];exact List.getElem_mem hm
          obtain ⟨t',ht'⟩:=Option.isSome_iff_exists.1 (hC.clo _ t ht _ hx)
          exact (schr_facts hC.wc hk ht hx ht').2.1) fun y hy=>Cl.gen (fun y hy=>by
        rcases hy with hy | rfl
        · exact h.wc.gs (by omega) y hy
        · have hpk:(K.getD i 0) ∈ K:=mem_at hi rfl
          obtain ⟨t,ht⟩:=Option.isSome_iff_exists.1 ((hC.keys _).1 hpk)
          have hx:(d k).gens.getD m [] ∈ (d k).gens:=by rw [List.getD_eq_getElem?_getD,List.getElem?_eq_getElem hm];exact List.getElem_mem hm
          obtain ⟨t',ht'⟩:=Option.isSome_iff_exists.1 (hC.clo _ t ht _ hx)
          exact (schr_facts hC.wc hk ht hx ht').2.1) (.inl hy))
      exact (ha.good (k + 1) (Nat.le_refl _) (by omega) _ g1 g2).2 h5
theorem ExtI.next {i:Nat} {c1:Nat → Lev} (h:ExtI n k c1 K i (c1 k).gens.length d):ExtI n k c1 K (i + 1) 0 d :=
  { h with mems:=fun a b hab h1 h2=>h.mems a b (by omega) h1 h2 }
theorem ExtI.done (hp:ExtPre n k r c) (hC:ExtC n k r c d K) {m:Nat} (h:ExtI n k d K K.length m d'):ExtP n k r c d':=by
  have hk:=hp.lt
  have hdk:d' k = d k:=h.same k (by omega)
  have hgs:GS d' k = GS d k:=by funext y;show (y ∈ (d' k).gens) = (y ∈ (d k).gens);rw [hdk]
  have hmk:=miss_step (c:=d') hk
  have hmc:=miss_step (c:=c) hk
  have hm1:=miss_mono (n:=n) (k:=k + 1) (c:=d) (d:=d') h.grow (n - (k + 1)) (by omega)
  have hm2:=miss_same (n:=n) (k:=k + 1) (c:=c) (d:=d) (fun j hj _=>hC.same j (by omega)) (n - (k + 1)) (by omega)
  have hno:=noO_mono (n:=n) hC.grow
  rw [hdk] at hmk
  refine ⟨h.wc,fun j hj=>by rw [h.same j (by omega),hC.same j (by omega)],by rw [hdk,hC.gens],?_,?_,?_⟩
  · refine good_ext h.wc hk h.good (fun x hx=>?_) (fun p t e=>?_) (fun p t x ho hx=>?_)
    · rw [hgs];exact h.sub x (Cl.gen (h.wc.gs (by omega)) hx)
    · rw [hgs];rw [hdk] at e;exact hC.pts p t e
    · rw [hdk] at ho hx ⊢
      obtain ⟨t',ht'⟩:=Option.isSome_iff_exists.1 (hC.clo p t ho x hx)
      refine ⟨t',ht',?_⟩
      obtain ⟨e,_,_⟩:=schr_facts hC.wc hk ho hx ht'
      rw [← e]
      obtain ⟨a,ha,ea⟩:=List.mem_iff_getElem.1 ((hC.keys p).2 (by rw [ho];rfl))
      obtain ⟨b,hb,eb⟩:=List.mem_iff_getElem.1 hx
      have:=h.mems a b (.inl ha) ha hb
      rwa [show K.getD a 0 = p by rw [List.getD_eq_getElem?_getD,List.getElem?_eq_getElem ha,ea];rfl,show (d k).gens.getD b [] = x by rw [List.getD_eq_getElem?_getD,List.getElem?_eq_getElem hb,eb];rfl] at this
  · intro j hj p t e
    rcases Nat.lt_or_ge k j with h1 | h1
    · exact h.grow j h1 p t (by rw [hC.same j (by omega)];exact e)
    · have:j = k:=by omega
      subst this
      rw [hdk];exact hC.grow p t e
  · intro j hj hjn
    have hle:miss n d' k ≤ miss n c k:=by omega
    rcases Nat.lt_or_ge k j with h1 | h1
    · have e1:=h.pot j h1 hjn
      rw [if_neg (by omega)]
      have e2:(d j).gens = (c j).gens:=by rw [hC.same j (by omega)]
      rw [e2] at e1
      have e3:(j - k) * miss n d' k = (j - k) * noO n (d k).orb + (j - k) * miss n d' (k + 1):=by rw [hmk,Nat.mul_add]
      have e4:(j - k) * miss n c k = (j - k) * noO n (c k).orb + (j - k) * miss n d (k + 1):=by rw [hmc,hm2,Nat.mul_add]
      have e5:(j - k) * noO n (d k).orb ≤ (j - k) * noO n (c k).orb:=Nat.mul_le_mul_left _ hno
      omega
    · have:j = k:=by omega
      subst this
      rw [if_pos rfl,hdk,hC.gens,Nat.sub_self,Nat.zero_mul,Nat.zero_mul]
      simp
structure AddI (n k:Nat) (q:List Int) (c:Nat → Lev) (i:Nat) (d:Nat → Lev):Prop where
  wc:WC n d
  same:∀ j,j < k → d j = c j
  good:Good n d k
  top:(d k).gens = (c k).gens ++ [q]
  has:q ∈ (d (i - 1)).gens
  grow:∀ j,k ≤ j → ∀ p t,(c j).orb p = some t → (d j).orb p = some t
  pot:∀ j,k ≤ j → j < n → (d j).gens.length + (j - k) * miss n d k ≤ (c j).gens.length + (if j < i then 1 else 0) + (j - k) * miss n c k
theorem AddI.start (h:ExtP n k r c d):AddI n k r c (k + 1) d where
  wc:=h.wc
  same:=h.same
  good:=h.good
  top:=h.gens
  has:=by rw [show k + 1 - 1 = k by omega,h.gens];simp
  grow:=h.grow
  pot j h1 h2:=by
    have:=h.pot j h1 h2
    by_cases e:j = k
    · rw [if_pos e] at this;rw [if_pos (by omega)];exact this
    · rw [if_neg e] at this;omega
theorem AddI.pre {i:Nat} (hk:k < i) (hi:i < n) (hf:Fx i r) (hc:Room n k c) (hms:0 < miss n c k) (h:AddI n k r c i d):ExtPre n i r d∧Cl n (GS d i) r:=by
  have hq:=h.has
  have hr:RowN n r:=h.wc.gs (k:=i - 1) (by omega) r hq
  have hb:=gen_below (k:=i - 1) h.wc (h.good.le (by omega)) (by omega) hq (by rw [show i - 1 + 1 = i by omega];exact hf)
  rw [show i - 1 + 1 = i by omega] at hb
  have hgi:Good n d i:=h.good.le (by omega)
  refine ⟨⟨h.wc,hi,hr,hf,hgi.le (by omega),fun x hx=>?_,fun p t e=>?_,fun j h1 h2=>?_⟩,hb⟩
  · have:=hgi.down h.wc hi (Cl.gen (h.wc.gs (k:=i + 1) (by omega)) hx)
    exact this.sub h.wc.nn (fun y hy=>by rcases hy with hy | rfl;exact h.wc.gs (by omega) y hy;exact hr) fun y hy=>Cl.gen (fun y hy=>by rcases hy with hy | rfl;exact h.wc.gs (by omega) y hy;exact hr) (.inl hy)
  · have:=hgi.orb h.wc hi e
    exact this.sub h.wc.nn (fun y hy=>by rcases hy with hy | rfl;exact h.wc.gs (by omega) y hy;exact hr) fun y hy=>Cl.gen (fun y hy=>by rcases hy with hy | rfl;exact h.wc.gs (by omega) y hy;exact hr) (.inl hy)
  · have e1:=h.pot j (by omega) h2
    have e2:=hc j (by omega) h2
    rw [if_neg (by omega)] at e1
    have e3:(j - k + 1) * miss n c k = (j - k) * miss n c k + miss n c k:=Nat.succ_mul _ _
    have e4:miss n d i ≤ miss n d k:=by
      have:∀ m k,k + m = i → miss n d i ≤ miss n d k:=by
        intro m
        induction m with
        | zero => intro k e;have:k = i:=by omega
                  subst this;exact Nat.le_refl _
        | succ m ih=>intro k e;rw [miss_step (k:=k) (by omega)];have:=ih (k + 1) (by omega);omega
      exact this (i - k) k (by omega)
    have e5:(j - i) * miss n d i ≤ (j - k) * miss n d k:=Nat.mul_le_mul (by omega) e4
    split <;> omega
theorem AddI.step {i:Nat} (hk:k < i) (hi:i < n) (hx:Cl n (GS d i) r) (h:AddI n k r c i d) (he:ExtP n i r d d'):AddI n k r c (i + 1) d' where
  wc:=he.wc
  same j hj:=by rw [he.same j (by omega),h.same j hj]
  good:=good_more h.wc he.wc hi he.same h.good (by omega) he.good he.gens hx
  top:=by rw [he.same k hk,h.top]
  has:=by rw [show i + 1 - 1 = i by omega,he.gens];simp
  grow j hj p t e:=by
    have:=h.grow j hj p t e
    rcases Nat.lt_or_ge j i with h1 | h1
    · rw [he.same j h1];exact this
    · exact he.grow j h1 p t this
  pot j h1 h2:=by
    have e1:=h.pot j h1 h2
    have e2:=miss_shift (n:=n) (k:=i) (c:=d) (d:=d') he.same (i - k) k (by omega) (by omega)
    have e3:=miss_mono (n:=n) (k:=i) (c:=d) (d:=d') he.grow (n - i) (by omega)
    rcases Nat.lt_or_ge j i with h3 | h3
    · rw [he.same j h3,if_pos (by omega)]
      rw [if_pos h3] at e1
      have e4:(j - k) * miss n d' k ≤ (j - k) * miss n d k:=Nat.mul_le_mul_left _ (by omega)
      omega
    · have e4:=he.pot j h3 h2
      rw [if_neg (by omega)] at e1
      have e5:(j - k) * miss n d' k + (j - k) * miss n d i = (j - k) * miss n d k + (j - k) * miss n d' i:=by rw [← Nat.mul_add,e2,Nat.mul_add]
      have e6:(j - k) * miss n d i = (j - i) * miss n d i + (i - k) * miss n d i:=by rw [← Nat.add_mul,show j - i + (i - k) = j - k by omega]
      have e7:(j - k) * miss n d' i = (j - i) * miss n d' i + (i - k) * miss n d' i:=by rw [← Nat.add_mul,show j - i + (i - k) = j - k by omega]
      have e8:(i - k) * miss n d' i ≤ (i - k) * miss n d i:=Nat.mul_le_mul_left _ e3
      by_cases e9:j = i
      · rw [if_pos e9] at e4;rw [if_pos (by omega)];omega
      · rw [if_neg e9] at e4;rw [if_neg (by omega)];omega
end
end Go.KL
namespace Go.KL
section
variable {n k to:Nat} {c d:Nat → Lev} {r q x:List Int}
theorem AddPre.rows (h:AddPre n k r c):∀ y,(y ∈ (c k).gens ∨ y = r) → RowN n y:=fun y hy=>by
  rcases hy with hy | rfl
  · exact h.wc.gs h.le y hy
  · exact h.row
structure Sifted (n k:Nat) (r:List Int) (c:Nat → Lev) (to:Nat) (q:List Int):Prop where
  eq:sftL n c k r = (to,q)
theorem Sifted.spec (hp:AddPre n k r c) (h:Sifted n k r c to q):k ≤ to∧to ≤ n∧RowN n q∧Fx to q∧(to < n → (c to).orb (q.getD to 0) = none)∧∃ u,RowN n u∧r = byL u q∧Cl n (GS c k) u:=by
  have hs:=sift_spec hp.wc (n - k) k r (by have:=hp.le;omega) hp.row hp.fx
  have e:siftF c (n - k) k r = (to,q):=h.eq
  rw [e] at hs
  obtain ⟨a1,a2,a3,a4,a5,u,a6,a7,a8⟩:=hs
  exact ⟨a1,a2,a3,a4,a5,u,a6,a7,a8 _ (hp.wc.gs hp.le) fun j p t h1 h2 ho=>hp.good.orbs hp.wc h1 h2 ho⟩
theorem AddPre.there (hp:AddPre n k r c) (h:Sifted n k r c n q):AddP n k r c c:=by
  have hm:Mem n c k r:=by unfold Mem;rw [h.eq]
  have hr:=(hp.good k (Nat.le_refl _) hp.le r hp.row hp.fx).1 hm
  refine ⟨hp.wc,fun _ _=>rfl,hp.good,hm,fun x=>⟨fun hx=>?_,fun hx=>?_⟩,fun _ _ _ _ e=>e,fun _ _ _=>Nat.le_refl _⟩
  · exact hx.sub hp.wc.nn hp.rows fun y hy=>Cl.gen hp.rows (.inl hy)
  · exact hx.sub hp.wc.nn (hp.wc.gs hp.le) fun y hy=>by
      rcases hy with hy | rfl
      · exact Cl.gen (hp.wc.gs hp.le) hy
      · exact hr
theorem AddPre.missing (hp:AddPre n k r c) (h:Sifted n k r c to q) (ht:to < n):0 < miss n c k:=by
  obtain ⟨a1,_,a3,a4,a5,_⟩:=h.spec hp
  have ho:=a5 ht
  have hb:=a3.at ht
  have e:((q.getD to 0).toNat:Int) = q.getD to 0:=by omega
  have:=miss_lt (n:=n) (k:=k) (c:=c) (d:=upd c to ⟨fun p=>if p = q.getD to 0 then some [] else (c to).orb p,[]⟩) (i:=to) (p:=(q.getD to 0).toNat) (fun j _ p t hpt=>by
    unfold upd;split
    · rename_i hj;subst hj
      show (if p = q.getD j 0 then some [] else (c j).orb p) = some t
      by_cases hpe:p = q.getD j 0
      · rw [hpe,ho] at hpt;cases hpt
      · rw [if_neg hpe];exact hpt
    · exact hpt) (by omega) (by rw [e];exact ho) (by rw [e,upd_at];simp) (to - k) (by omega) ht
  omega
theorem AddPre.ext (hp:AddPre n k r c) (h:Sifted n k r c to q) (ht:to < n):ExtPre n k q c:=by
  obtain ⟨a1,a2,a3,a4,a5,u,a6,a7,a8⟩:=h.spec hp
  have hk:k < n:=by omega
  have hS:∀ y,(y ∈ (c k).gens ∨ y = q) → RowN n y:=fun y hy=>by
    rcases hy with hy | rfl
    · exact hp.wc.gs hp.le y hy
    · exact a3
  have hsub:∀ x,Cl n (GS c k) x → Cl n (fun y=>y ∈ (c k).gens ∨ y = q) x:=fun x hx=>hx.sub hp.wc.nn hS fun y hy=>Cl.gen hS (.inl hy)
  refine ⟨hp.wc,hk,a3,a4.le a1,hp.good.le (by omega),fun x hx=>hsub _ (hp.good.down hp.wc hk (Cl.gen (hp.wc.gs (k:=k + 1) (by omega)) hx)),fun p t e=>hsub _ (hp.good.orb hp.wc hk e),fun j h1 h2=>?_⟩
  have e1:=hp.room j h1 h2
  have e2:=hp.missing h ht
  have e3:(j - k + 1) * miss n c k = (j - k) * miss n c k + miss n c k:=Nat.succ_mul _ _
  split <;> omega
theorem AddI.done (hp:AddPre n k r c) (h:Sifted n k r c to q) (ht:to < n) (hi:AddI n k q c (to + 1) d):AddP n k r c d:=by
  obtain ⟨a1,a2,a3,a4,a5,u,a6,a7,a8⟩:=h.spec hp
  have hk:k < n:=by omega
  have hgs:=gs_ext hi.top
  have hS:=hi.wc.gs (k:=k) hp.le
  have hu:Cl n (GS d k) u:=a8.sub hp.wc.nn hS fun y hy=>Cl.gen hS (by rw [hgs];exact .inl hy)
  have hr:Cl n (GS d k) r:=by
    rw [a7]
    exact hu.prod hp.wc.nn hS (Cl.gen hS (by rw [hgs];exact .inr rfl))
  refine ⟨hi.wc,hi.same,hi.good,(hi.good k (Nat.le_refl _) hp.le r hp.row hp.fx).2 hr,fun x=>⟨fun hx=>?_,fun hx=>?_⟩,hi.grow,fun j h1 h2=>?_⟩
  · refine hx.sub hp.wc.nn hp.rows fun y hy=>?_
    rw [hgs] at hy
    rcases hy with hy | rfl
    · exact Cl.gen hp.rows (.inl hy)
    · have hu2:Cl n (fun z=>z ∈ (c k).gens ∨ z = r) u:=a8.sub hp.wc.nn hp.rows fun z hz=>Cl.gen hp.rows (.inl hz)
      have:=(hu2.undo hp.wc.nn hp.rows).prod hp.wc.nn hp.rows (Cl.gen hp.rows (.inr rfl))
      have e:byL (undoL u) r = y:=by rw [a7];exact fore_row a3 a6
      rwa [e] at this
  · refine hx.sub hp.wc.nn hS fun y hy=>?_
    rcases hy with hy | rfl
    · exact Cl.gen hS (by rw [hgs];exact .inl hy)
    · exact hr
  · have hq:=hi.has
    rw [show to + 1 - 1 = to by omega] at hq
    have hm:=(hi.good to a1 a2 q a3 a4).2 (Cl.gen (hi.wc.gs a2) hq)
    obtain ⟨t,ho,_⟩:=(mem_iff ht).1 hm
    have hb:=a3.at ht
    have e:((q.getD to 0).toNat:Int) = q.getD to 0:=by omega
    have hlt:=miss_lt (n:=n) (k:=k) (c:=c) (d:=d) (i:=to) (p:=(q.getD to 0).toNat) hi.grow (by omega) (by rw [e];exact a5 ht) (by rw [e,ho];rfl) (to - k) (by omega) ht
    have e1:=hi.pot j h1 h2
    have e2:(j - k + 1) * miss n c k = (j - k) * miss n c k + miss n c k:=Nat.succ_mul _ _
    have e3:(j - k + 1) * miss n d k = (j - k) * miss n d k + miss n d k:=Nat.succ_mul _ _
    have e4:(if j < to + 1 then 1 else 0) ≤ 1:=by split <;> omega
    omega
end
section
variable {n k m:Nat} {G:List (List Int)} {f f0:Int → Option (List Int)} {op K:List Int} {p:Int} {x t:List Int} {c:Nat → Lev} {r:List Int}
structure Bfs (n k:Nat) (G:List (List Int)) (f0 f:Int → Option (List Int)) (op:List Int):Prop where
  grow:∀ p t,f0 p = some t → f p = some t
  pts:∀ p t,f p = some t → RowN n t∧Fx k t∧t.getD k 0 = p∧Cl n (fun y=>y ∈ G) t
  opn:∀ p ∈ op,(f p).isSome = true
  clo:∀ p t,f p = some t → p ∈ op ∨ ∀ x ∈ G,(f (x.getD p.toNat 0)).isSome = true
  len:op.length + noO n f ≤ n
structure BfsP (n k:Nat) (G:List (List Int)) (f0:Int → Option (List Int)) (B:Nat) (p:Int) (m:Nat) (f:Int → Option (List Int)) (op:List Int):Prop where
  grow:∀ p t,f0 p = some t → f p = some t
  pts:∀ p t,f p = some t → RowN n t∧Fx k t∧t.getD k 0 = p∧Cl n (fun y=>y ∈ G) t
  opn:∀ p ∈ op,(f p).isSome = true
  at_:(f p).isSome = true
  clo:∀ q t,f q = some t → q ∈ op ∨ (∀ x ∈ G,(f (x.getD q.toNat 0)).isSome = true) ∨ (q = p∧∀ a,a < m → a < G.length → (f ((G.getD a []).getD p.toNat 0)).isSome = true)
  len:op.length + 1 + noO n f ≤ B
theorem Bfs.start (h:Bfs n k G f0 f (p :: op)):BfsP n k G f0 (op.length + 1 + noO n f) p 0 f op where
  grow:=h.grow
  pts:=h.pts
  opn q hq:=h.opn q (List.mem_cons_of_mem _ hq)
  at_:=h.opn p (List.mem_cons_self ..)
  clo q t e:=by
    rcases h.clo q t e with h1 | h1
    · rcases List.mem_cons.1 h1 with rfl | h1
      · exact .inr (.inr ⟨rfl,fun a ha=>by omega⟩)
      · exact .inl h1
    · exact .inr (.inl h1)
  len:=Nat.le_refl _
theorem Bfs.first (h:Bfs n k G f0 f op) (hn:0 < op.length):BfsP n k G f0 (op.length + noO n f) (op.getD 0 0) 0 f (op.drop 1):=by
  cases op with
  | nil=>simp at hn
  | cons p op=>exact h.start
theorem BfsP.done {B:Nat} (h:BfsP n k G f0 B p G.length f op) (hB:B ≤ n):Bfs n k G f0 f op where
  grow:=h.grow
  pts:=h.pts
  opn:=h.opn
  clo q t e:=by
    rcases h.clo q t e with h1 | h1 | ⟨rfl,h1⟩
    · exact .inl h1
    · exact .inr h1
    · refine .inr fun x hx=>?_
      obtain ⟨a,ha,ea⟩:=List.mem_iff_getElem.1 hx
      have:=h1 a ha ha
      rwa [show G.getD a [] = x by rw [List.getD_eq_getElem?_getD,List.getElem?_eq_getElem ha,ea];rfl] at this
  len:=by have:=h.len;omega
theorem BfsP.pt {B:Nat} (h:BfsP n k G f0 B p m f op) (hk:k < n):0 ≤ p∧p < n:=by
  obtain ⟨t,ht⟩:=Option.isSome_iff_exists.1 h.at_
  obtain ⟨h1,_,h3,_⟩:=h.pts p t ht
  have:=h1.at hk;omega
theorem BfsP.old {B:Nat} (h:BfsP n k G f0 B p m f op) (ho:(f ((G.getD m []).getD p.toNat 0)).isSome = true):BfsP n k G f0 B p (m + 1) f op:=by
  refine ⟨h.grow,h.pts,h.opn,h.at_,fun q t e=>?_,h.len⟩
  rcases h.clo q t e with h1 | h1 | ⟨rfl,h1⟩
  · exact .inl h1
  · exact .inr (.inl h1)
  · refine .inr (.inr ⟨rfl,fun a ha hl=>?_⟩)
    by_cases e2:a = m
    · subst e2;exact ho
    · exact h1 a (by omega) hl
theorem BfsP.new {B:Nat} (h:BfsP n k G f0 B p m f op) (hk:k < n) (hG:∀ x ∈ G,RowN n x∧Fx k x) (hm:m < G.length) (hx:G.getD m [] = x) (ho:f (x.getD p.toNat 0) = none) (ht:f p = some t) :
    BfsP n k G f0 B p (m + 1) (fun q=>if q = x.getD p.toNat 0 then some (byL x t) else f q) (op ++ [x.getD p.toNat 0]):=by
  have hxm:x ∈ G:=by rw [← hx,List.getD_eq_getElem?_getD,List.getElem?_eq_getElem hm];exact List.getElem_mem hm
  obtain ⟨hxr,hxf⟩:=hG x hxm
  obtain ⟨ht1,ht2,ht3,ht4⟩:=h.pts p t ht
  have hpb:=h.pt hk
  have hg:∀ q u,f q = some u → (if q = x.getD p.toNat 0 then some (byL x t) else f q) = some u:=fun q u e=>by
    rw [if_neg (fun e2=>by rw [e2,ho] at e;cases e)];exact e
  have hs:∀ q,(f q).isSome = true → ((if q = x.getD p.toNat 0 then some (byL x t) else f q)).isSome = true:=fun q e=>by
    split
    · rfl
    · exact e
  have hb:=hxr.at (i:=p.toNat) (by omega)
  have eN:((x.getD p.toNat 0).toNat:Int) = x.getD p.toNat 0:=by omega
  have hno:=noO_lt (n:=n) (f:=f) (g:=fun q=>if q = x.getD p.toNat 0 then some (byL x t) else f q) hg (p:=(x.getD p.toNat 0).toNat) (by omega) (by rw [eN];exact ho) (by rw [eN,if_pos rfl];rfl)
  refine ⟨fun q u e=>hg q u (h.grow q u e),fun q u e=>?_,fun q hq=>?_,hs p h.at_,fun q u e=>?_,?_⟩
  · by_cases e2:q = x.getD p.toNat 0
    · rw [if_pos e2] at e
      cases e
      refine ⟨hxr.by ht1,Fx.by (by omega) ht1 hxf ht2,?_,.mul hxm ht4⟩
      rw [by_at ht1 hk,ht3,e2]
    · rw [if_neg e2] at e
      exact h.pts q u e
  · rcases List.mem_append.1 hq with h1 | h1
    · exact hs q (h.opn q h1)
    · rw [List.mem_singleton] at h1
      rw [if_pos h1];rfl
  · by_cases e2:q = x.getD p.toNat 0
    · exact .inl (List.mem_append.2 (.inr (List.mem_singleton.2 e2)))
    · rw [if_neg e2] at e
      rcases h.clo q u e with h1 | h1 | ⟨rfl,h1⟩
      · exact .inl (List.mem_append.2 (.inl h1))
      · exact .inr (.inl fun y hy=>hs _ (h1 y hy))
      · refine .inr (.inr ⟨rfl,fun a ha hl=>?_⟩)
        by_cases e3:a = m
        · subst e3;rw [hx,if_pos rfl];rfl
        · exact hs _ (h1 a (by omega) hl)
  · have:=h.len
    rw [List.length_append,List.length_singleton]
    omega
theorem keys_len (hn:K.Nodup) (hb:∀ p ∈ K,(f p).isSome = true) (hp:∀ p t,f p = some t → 0 ≤ p∧p < n):K.length + noO n f ≤ n:=by
  have h1:(K ++ ((List.range n).filter fun (p:Nat)=>(f (p:Int)).isNone).map fun (p:Nat)=>(p:Int)).Nodup:=by
    refine List.nodup_append.2 ⟨hn,?_,fun a ha b hb2=>?_⟩
    · refine List.Pairwise.map (R:=fun a b=>a ≠ b) _ (fun a b h e=>h (by omega)) ?_
      exact List.Pairwise.filter _ List.nodup_range
    · rintro rfl
      obtain ⟨q,hq,rfl⟩:=List.mem_map.1 hb2
      have h2:=(List.mem_filter.1 hq).2
      have h3:=hb _ ha
      cases hf:f (q:Int) <;> simp_all
  have h2:=nodup_len n _ h1 (fun x hx=>by
    rcases List.mem_append.1 hx with h | h
    · obtain ⟨t,ht⟩:=Option.isSome_iff_exists.1 (hb x h)
      exact hp x t ht
    · obtain ⟨q,hq,rfl⟩:=List.mem_map.1 h
      have:=List.mem_range.1 (List.mem_filter.1 hq).1
      omega)
  rw [List.length_append,List.length_map] at h2
  unfold noO
  rw [List.countP_eq_length_filter]
  exact h2
theorem ExtPre.bfs (hp:ExtPre n k r c) (hn:K.Nodup) (hK:∀ p,p ∈ K ↔ ((c k).orb p).isSome = true):Bfs n k ((c k).gens ++ [r]) (c k).orb (c k).orb K:=by
  have hpt:=(hp.wc.lev k hp.lt).pt
  refine ⟨fun _ _ e=>e,fun p t e=>?_,fun p h=>(hK p).1 h,fun p t e=>.inl ((hK p).2 (by rw [e];rfl)),keys_len hn (fun p h=>(hK p).1 h) fun p t e=>?_⟩
  · obtain ⟨h1,h2,h3⟩:=hpt p t e
    refine ⟨h1,h2,h3,?_⟩
    have:=hp.orb p t e
    rwa [show (fun y=>y ∈ (c k).gens ++ [r]) = fun y=>y ∈ (c k).gens ∨ y = r by funext y;simp]
  · obtain ⟨h1,h2,h3⟩:=hpt p t e
    have:=h1.at hp.lt;omega
theorem ExtPre.gensN (hp:ExtPre n k r c):∀ x ∈ (c k).gens ++ [r],RowN n x∧Fx k x:=fun x hx=>by
  rcases List.mem_append.1 hx with h | h
  · exact (hp.wc.lev k hp.lt).gen x h
  · rw [List.mem_singleton] at h;subst h;exact ⟨hp.row,hp.fx⟩
theorem Bfs.ext (hp:ExtPre n k r c) (h:Bfs n k ((c k).gens ++ [r]) (c k).orb f []) (hK:∀ p,p ∈ K ↔ (f p).isSome = true):ExtC n k r c (upd c k ⟨f,(c k).gens ++ [r]⟩) K where
  wc:=by
    refine ⟨hp.wc.nn,fun j hj=>?_,by rw [upd_ne (by have:=hp.lt;omega)];exact hp.wc.top⟩
    by_cases e:j = k
    · subst e
      rw [upd_at]
      exact ⟨h.grow _ _ (hp.wc.lev j hj).base,fun p t e=>by obtain ⟨h1,h2,h3,_⟩:=h.pts p t e;exact ⟨h1,h2,h3⟩,hp.gensN⟩
    · rw [upd_ne e];exact hp.wc.lev j hj
  same j hj:=upd_ne hj
  gens:=by rw [upd_at]
  grow:=by rw [upd_at];exact h.grow
  pts:=by
    rw [upd_at]
    intro p t e
    have:=(h.pts p t e).2.2.2
    rwa [show GS (upd c k ⟨f,(c k).gens ++ [r]⟩) k = fun y=>y ∈ (c k).gens ++ [r] by funext y;show (y ∈ (upd c k _ k).gens) = _;rw [upd_at]]
  clo:=by
    rw [upd_at]
    intro p t e x hx
    rcases h.clo p t e with h1 | h1
    · cases h1
    · exact h1 x hx
  keys:=by rw [upd_at];exact hK
end
def chn0 (n:Nat):Nat → Lev:=fun j=>if j < n then ⟨fun p=>if p = (j:Int) then some (roundsL n) else none,[]⟩ else ⟨fun _=>none,[]⟩
structure ChnOf (n:Nat) (gens:List (List Int)) (c:Nat → Lev):Prop where
  wc:WC n c
  good:Good n c 0
  cl:∀ x,Cl n (GS c 0) x ↔ Cl n (fun y=>y ∈ gens) x
  room:Room n 0 c
section
variable {n:Nat} {gens:List (List Int)} {c d:Nat → Lev} {r:List Int}
theorem chn0_wc (hn:1 ≤ n∧n ≤ 12):WC n (chn0 n):=by
  refine ⟨hn,fun k hk=>?_,by unfold chn0;rw [if_neg (by omega)]⟩
  have e:chn0 n k = ⟨fun p=>if p = (k:Int) then some (roundsL n) else none,[]⟩:=if_pos hk
  rw [e]
  refine ⟨if_pos rfl,fun p t h=>?_,fun x hx=>by cases hx⟩
  have h:(if p = (k:Int) then some (roundsL n) else none) = some t:=h
  by_cases hp:p = (k:Int)
  · rw [if_pos hp] at h
    cases h
    exact ⟨rounds_rowN hn,Fx.rounds (by omega),by rw [roundsL_get hk,hp]⟩
  · rw [if_neg hp] at h;cases h
theorem chn0_good (hn:1 ≤ n∧n ≤ 12):∀ m k,k + m = n → Good n (chn0 n) k:=by
  intro m
  induction m with
  | zero =>
    intro k e j h1 h2
    have:j = n:=by omega
    subst this
    exact good_top (chn0_wc hn)
  | succ m ih =>
    intro k e
    have ek:chn0 n k = ⟨fun p=>if p = (k:Int) then some (roundsL n) else none,[]⟩:=if_pos (by omega)
    have hg:∀ j,(chn0 n j).gens = []:=fun j=>by unfold chn0;split <;> rfl
    refine good_ext (chn0_wc hn) (by omega) (ih (k + 1) (by omega)) (fun x hx=>?_) (fun p t h=>?_) (fun p t x _ hx=>?_)
    · have h2:x ∈ (chn0 n (k + 1)).gens:=hx
      rw [hg] at h2;cases h2
    · rw [ek] at h
      have h:(if p = (k:Int) then some (roundsL n) else none) = some t:=h
      by_cases hp:p = (k:Int)
      · rw [if_pos hp] at h;cases h;exact .one
      · rw [if_neg hp] at h;cases h
    · rw [hg] at hx;cases hx
theorem chn0_of (hn:1 ≤ n∧n ≤ 12):ChnOf n [] (chn0 n):=by
  have hg:∀ j,(chn0 n j).gens = []:=fun j=>by unfold chn0;split <;> rfl
  refine ⟨chn0_wc hn,chn0_good hn n 0 (by omega),fun x=>?_,fun j _ h2=>?_⟩
  · rw [show GS (chn0 n) 0 = fun y=>y ∈ ([]:List (List Int)) by funext y;show (y ∈ (chn0 n 0).gens) = _;rw [hg]]
  · rw [hg]
    have h3:=miss_le (n:=n) (c:=chn0 n) n 0 (by omega)
    have h4:n * n ≤ 12 * 12:=Nat.mul_le_mul hn.2 hn.2
    have h5:(j - 0 + 1) * miss n (chn0 n) 0 ≤ 12 * 144:=Nat.mul_le_mul (by omega) (by omega)
    simp only [List.length_nil];omega
theorem ChnOf.pre (h:ChnOf n gens c) (hr:RowN n r):AddPre n 0 r c:=⟨h.wc,by omega,hr,fun i hi=>by omega,h.good,h.room⟩
theorem ChnOf.add (h:ChnOf n gens c) (hg:∀ x ∈ gens,RowN n x) (hr:RowN n r) (ha:AddP n 0 r c d):ChnOf n (gens ++ [r]) d:=by
  have hG:∀ y,y ∈ gens ++ [r] → RowN n y:=fun y hy=>by
    rcases List.mem_append.1 hy with h1 | h1
    · exact hg y h1
    · rw [List.mem_singleton] at h1;subst h1;exact hr
  have hA:∀ y,(y ∈ (c 0).gens ∨ y = r) → RowN n y:=(h.pre hr).rows
  refine ⟨ha.wc,ha.good,fun x=>?_,fun j h1 h2=>?_⟩
  · rw [ha.cl x]
    constructor
    · intro hx
      refine hx.sub h.wc.nn hG fun y hy=>?_
      rcases hy with hy | rfl
      · exact ((h.cl y).1 (Cl.gen (h.wc.gs (by omega)) hy)).sub h.wc.nn hG fun z hz=>Cl.gen hG (List.mem_append.2 (.inl hz))
      · exact Cl.gen hG (List.mem_append.2 (.inr (List.mem_singleton.2 rfl)))
    · intro hx
      refine hx.sub h.wc.nn hA fun y hy=>?_
      rcases List.mem_append.1 hy with h1 | h1
      · exact ((h.cl y).2 (Cl.gen hg h1)).sub h.wc.nn hA fun z hz=>Cl.gen hA (.inl hz)
      · rw [List.mem_singleton] at h1;subst h1;exact Cl.gen hA (.inr rfl)
  · have e1:=ha.pot j h1 h2
    have e2:=h.room j h1 h2
    omega
theorem ChnOf.has (h:ChnOf n gens c) (hr:RowN n r):Mem n c 0 r ↔ Cl n (fun y=>y ∈ gens) r:=by
  rw [h.good 0 (Nat.le_refl _) (by omega) r hr (fun i hi=>by omega),h.cl r]
end
end Go.KL
namespace Go.KL
open Go.RowKit
def blkOf:Value → Option Nat
  | .pointer (some ⟨g,_,_⟩)=>some g
  | .map (some r)=>some r
  | v=>v.ownBlock
theorem blk_own {v:Value} {g:Nat} (h:v.ownBlock = some g):blkOf v = some g:=by
  cases v with
  | slice p n c=>cases p with
    | none=>simp [Value.ownBlock] at h
    | some a=>exact h
  | pointer p=>cases p <;> simp [Value.ownBlock] at h
  | map p=>cases p <;> simp [Value.ownBlock] at h
  | _=>exact h
theorem own_blk {σ:GW} {k:Nat} {e:TypeId} {c n:Nat} {v:Value} {ts:List Ty} {g:Nat} (h:Own σ k e c v n ts) (hg:blkOf v = some g):v.ownBlock = some g:=by
  obtain ⟨us,r1,_⟩:=h
  rcases r1.2 with ⟨h1,_⟩ | ⟨g',cap,cur,h1,_⟩
  · rw [h1] at hg ⊢;exact hg
  · rw [h1] at hg ⊢;exact hg
def GW.tag (σ:GW) (k:Nat) (hk:2 ≤ k) (φ:Nat → Nat):GW:=⟨σ.w,fun b=>if σ.st b = k then φ b else σ.st b,fun b hb=>by
  by_cases h:σ.st b = k
  · exact σ.lt b (by omega)
  · simp only [h,if_false] at hb;exact σ.lt b hb⟩
section
variable {σ τ:GW} {k k':Nat} {hk:2 ≤ k} {φ:Nat → Nat} {e:TypeId} {c n:Nat} {v:Value} {ts:List Ty}
theorem Stp.tag:Stp k σ (σ.tag k hk φ):=⟨rfl,rfl,rfl,Dr.refl _,Nat.le_refl _,fun _ _ _=>rfl,fun b _ hm=>by
  show (if σ.st b = k then φ b else σ.st b) = σ.st b
  rw [if_neg (by omega)]⟩
theorem Le.tag:σ.Le (σ.tag k hk φ):=Stp.tag.le (by omega)
theorem Own.tag (h:Own σ k e c v n ts) (hφ:∀ g,v.ownBlock = some g → φ g = k'):Own (σ.tag k hk φ) k' e c v n ts:=by
  obtain ⟨us,r1,r2,r3,r4⟩:=h
  exact ⟨us,r1,r2,fun j T u hj hu=>T.up Le.tag (r3 j T u hj hu),fun g hg=>by show (if σ.st g = k then φ g else σ.st g) = k';rw [if_pos (r4 g hg),hφ g hg]⟩
theorem OwnP.tag (h:OwnP σ k v ts) (hφ:∀ g,blkOf v = some g → φ g = k'):OwnP (σ.tag k hk φ) k' v ts:=by
  obtain ⟨g,e,cur,rfl,r2,r3,r4,r5⟩:=h
  exact ⟨g,e,cur,rfl,by show (if σ.st g = k then φ g else σ.st g) = k';rw [if_pos r2,hφ g rfl],r3,r4,fun j T u hj hu=>T.up Le.tag (r5 j T u hj hu)⟩
theorem OwnM.tag {α β:Type} {F:β → Ty} {kv:α → Value} {f:α → Option β} (h:OwnM F kv σ k v f) (hφ:∀ g,blkOf v = some g → φ g = k'):OwnM F kv (σ.tag k hk φ) k' v f:=by
  obtain ⟨r,es,clock,rfl,r2,r3,r4⟩:=h
  exact ⟨r,es,clock,rfl,by show (if σ.st r = k then φ r else σ.st r) = k';rw [if_pos r2,hφ r rfl],r3,r4.up Le.tag⟩
theorem OwnP.st4 {g:Nat} (h:OwnP σ k v ts) (hg:blkOf v = some g):σ.st g = k:=by
  obtain ⟨g',e,cur,rfl,r2,_⟩:=h
  cases hg;exact r2
theorem OwnM.st4 {α β:Type} {F:β → Ty} {kv:α → Value} {f:α → Option β} {g:Nat} (h:OwnM F kv σ k v f) (hg:blkOf v = some g):σ.st g = k:=by
  obtain ⟨g',es,clock,rfl,r2,_⟩:=h
  cases hg;exact r2
theorem Own.st5 {g:Nat} (h:Own σ k e c v n ts) (hg:blkOf v = some g):σ.st g = k:=h.choose_spec.2.2.2 g (own_blk h hg)
end
def GW.join (σ:GW) (L:List Nat) (hL:∀ k ∈ L,2 ≤ k) (k:Nat):GW:=⟨σ.w,fun b=>if σ.st b ∈ L then k else σ.st b,fun b hb=>by
  by_cases h:σ.st b ∈ L
  · exact σ.lt b (by have:=hL _ h;omega)
  · simp only [h,if_false] at hb;exact σ.lt b hb⟩
section
variable {σ τ:GW} {k k':Nat} {L:List Nat} {hL:∀ k ∈ L,2 ≤ k} {e:TypeId} {c n:Nat} {v:Value} {ts:List Ty}
theorem StpL.join:StpL L σ (σ.join L hL k):=⟨rfl,rfl,rfl,Dr.refl _,Nat.le_refl _,fun _ _ _=>rfl,fun b _ hm=>by
  show (if σ.st b ∈ L then k else σ.st b) = σ.st b
  rw [if_neg hm]⟩
theorem Le.join:σ.Le (σ.join L hL k):=StpL.join.le (fun h=>by have:=hL 1 h;omega)
theorem Own.join (h:Own σ k' e c v n ts) (hk:k' ∈ L ∨ k' = k):Own (σ.join L hL k) k e c v n ts:=by
  obtain ⟨us,r1,r2,r3,r4⟩:=h
  exact ⟨us,r1,r2,fun j T u hj hu=>T.up Le.join (r3 j T u hj hu),fun g hg=>by show (if σ.st g ∈ L then k else σ.st g) = k;rw [r4 g hg];split;rfl;rename_i h;exact hk.resolve_left h⟩
theorem OwnP.join (h:OwnP σ k' v ts) (hk:k' ∈ L ∨ k' = k):OwnP (σ.join L hL k) k v ts:=by
  obtain ⟨g,e,cur,rfl,r2,r3,r4,r5⟩:=h
  exact ⟨g,e,cur,rfl,by show (if σ.st g ∈ L then k else σ.st g) = k;rw [r2];split;rfl;rename_i h;exact hk.resolve_left h,r3,r4,fun j T u hj hu=>T.up Le.join (r5 j T u hj hu)⟩
theorem OwnM.join {α β:Type} {F:β → Ty} {kv:α → Value} {f:α → Option β} (h:OwnM F kv σ k' v f) (hk:k' ∈ L ∨ k' = k):OwnM F kv (σ.join L hL k) k v f:=by
  obtain ⟨r,es,clock,rfl,r2,r3,r4⟩:=h
  exact ⟨r,es,clock,rfl,by show (if σ.st r ∈ L then k else σ.st r) = k;rw [r2];split;rfl;rename_i h;exact hk.resolve_left h,r3,r4.up Le.join⟩
end
structure LevAt (σ:GW) (k:Nat) (e:TypeId) (u m r:Value) (j:Nat) (L:Lev):Prop where
  p:OwnP σ k u [Ty.nat j,Ty.val m,Ty.val r]
  m:OwnM Ty.ints kI σ k m L.orb
  r:Own σ k e 1 r L.gens.length (L.gens.map Ty.ints)
def vvOf (us:List Value) (ms rs:Nat → Value) (a:Nat):Value:=if a % 3 = 0 then us.getD (a / 3) undef else if a % 3 = 1 then ms (a / 3) else rs (a / 3)
structure ChnN (σ:GW) (k:Nat) (e e2:TypeId) (cs:Value) (n:Nat) (c:Nat → Lev) (us:List Value) (ms rs:Nat → Value):Prop where
  ul:us.length = n
  row:Own σ k e2 1 cs n (us.map Ty.val)
  lev:∀ j,j < n → LevAt σ k e (us.getD j undef) (ms j) (rs j) j (c j)
  dist:∀ a b g,a < 3 * n → b < 3 * n → blkOf (vvOf us ms rs a) = some g → blkOf (vvOf us ms rs b) = some g → a = b
  apart:∀ a g,a < 3 * n → blkOf (vvOf us ms rs a) = some g → cs.ownBlock ≠ some g
def ChnU (σ:GW) (k:Nat) (e e2:TypeId) (cs:Value) (n:Nat) (c:Nat → Lev) (us:List Value):Prop:=∃ ms rs,ChnN σ k e e2 cs n c us ms rs
structure ChnR (σ:GW) (k:Nat) (e e2:TypeId) (cs:Value) (n:Nat) (c:Nat → Lev) (us:List Value) (ms rs:Nat → Value) (i:Nat):Prop where
  ul:us.length = n
  lt:i < n
  row:Own σ k e2 1 cs n (us.map Ty.val)
  lev:∀ j,j < n → j ≠ i → LevAt σ k e (us.getD j undef) (ms j) (rs j) j (c j)
  dist:∀ a b g,a < 3 * n → b < 3 * n → blkOf (vvOf us ms rs a) = some g → blkOf (vvOf us ms rs b) = some g → a = b
  apart:∀ a g,a < 3 * n → blkOf (vvOf us ms rs a) = some g → cs.ownBlock ≠ some g
section
variable {σ τ:GW} {k k':Nat} {e e2:TypeId} {cs:Value} {n i j:Nat} {c d:Nat → Lev} {us:List Value} {ms rs:Nat → Value} {L:List Nat} {u m r:Value} {l:Lev}
theorem LevAt.keepL (h:LevAt σ k e u m r j l) (hs:StpL L σ τ) (h1:1 ∉ L) (hk:k ∉ L):LevAt τ k e u m r j l:=⟨h.p.keepL hs h1 hk,h.m.keepL hs h1 hk,h.r.keepL hs h1 hk⟩
theorem LevAt.ren (h:LevAt σ k e u m r j l) (q:Ren k k' σ τ):LevAt τ k' e u m r j l:=⟨h.p.ren q,h.m.ren q,h.r.ren q⟩
theorem ChnN.keepL (h:ChnN σ k e e2 cs n c us ms rs) (hs:StpL L σ τ) (h1:1 ∉ L) (hk:k ∉ L):ChnN τ k e e2 cs n c us ms rs:=⟨h.ul,h.row.keepL hs h1 hk,fun j hj=>(h.lev j hj).keepL hs h1 hk,h.dist,h.apart⟩
theorem ChnN.ren (h:ChnN σ k e e2 cs n c us ms rs) (q:Ren k k' σ τ):ChnN τ k' e e2 cs n c us ms rs:=⟨h.ul,h.row.ren q,fun j hj=>(h.lev j hj).ren q,h.dist,h.apart⟩
theorem ChnU.keepL (h:ChnU σ k e e2 cs n c us) (hs:StpL L σ τ) (h1:1 ∉ L) (hk:k ∉ L):ChnU τ k e e2 cs n c us:=by
  obtain ⟨ms,rs,h⟩:=h
  exact ⟨ms,rs,h.keepL hs h1 hk⟩
theorem ChnU.kl (h:ChnU σ k e e2 cs n c us) (hs:StpL L σ τ) (h1:1 ∉ L:=by decide) (hk:k ∉ L:=by decide):ChnU τ k e e2 cs n c us:=h.keepL hs h1 hk
theorem ChnU.k0 (h:ChnU σ k e e2 cs n c us) (hs:Stp 0 σ τ):ChnU τ k e e2 cs n c us:=h.keepL (L:=[]) hs.toL0 (by simp) (by simp)
theorem ChnU.ren (h:ChnU σ k e e2 cs n c us) (q:Ren k k' σ τ):ChnU τ k' e e2 cs n c us:=by
  obtain ⟨ms,rs,h⟩:=h
  exact ⟨ms,rs,h.ren q⟩
theorem ChnR.keepL (h:ChnR σ k e e2 cs n c us ms rs i) (hs:StpL L σ τ) (h1:1 ∉ L) (hk:k ∉ L):ChnR τ k e e2 cs n c us ms rs i:=⟨h.ul,h.lt,h.row.keepL hs h1 hk,fun j hj hn=>(h.lev j hj hn).keepL hs h1 hk,h.dist,h.apart⟩
theorem ChnR.k0 (h:ChnR σ k e e2 cs n c us ms rs i) (hs:Stp 0 σ τ):ChnR τ k e e2 cs n c us ms rs i:=h.keepL (L:=[]) hs.toL0 (by simp) (by simp)
theorem vv0 (us:List Value) (ms rs:Nat → Value) (j:Nat):vvOf us ms rs (3 * j) = us.getD j undef:=by unfold vvOf;rw [if_pos (by omega),show 3 * j / 3 = j by omega]
theorem vv1 (us:List Value) (ms rs:Nat → Value) (j:Nat):vvOf us ms rs (3 * j + 1) = ms j:=by unfold vvOf;rw [if_neg (by omega),if_pos (by omega),show (3 * j + 1) / 3 = j by omega]
theorem vv2 (us:List Value) (ms rs:Nat → Value) (j:Nat):vvOf us ms rs (3 * j + 2) = rs j:=by unfold vvOf;rw [if_neg (by omega),if_neg (by omega),show (3 * j + 2) / 3 = j by omega]
def foc (k k1 k2 k3:Nat) (u m r:Value) (b:Nat):Nat:=if blkOf u = some b then k1 else if blkOf m = some b then k2 else if blkOf r = some b then k3 else k
theorem ChnN.focus (h:ChnN σ k e e2 cs n c us ms rs) (hi:i < n) (hk:2 ≤ k) (k1 k2 k3:Nat) :
    ∃ τ:GW,τ.w = σ.w∧Stp k σ τ∧OwnP τ k1 (us.getD i undef) [Ty.nat i,Ty.val (ms i),Ty.val (rs i)]∧OwnM Ty.ints kI τ k2 (ms i) (c i).orb∧Own τ k3 e 1 (rs i) (c i).gens.length ((c i).gens.map Ty.ints)∧ChnR τ k e e2 cs n c us ms rs i:=by
  have hl:=h.lev i hi
  have d01:∀ g,blkOf (ms i) = some g → blkOf (us.getD i undef) ≠ some g:=fun g h1 h2=>by
    have:=h.dist (3 * i + 1) (3 * i) g (by omega) (by omega) (by rw [vv1];exact h1) (by rw [vv0];exact h2)
    omega
  have d02:∀ g,blkOf (rs i) = some g → blkOf (us.getD i undef) ≠ some g:=fun g h1 h2=>by
    have:=h.dist (3 * i + 2) (3 * i) g (by omega) (by omega) (by rw [vv2];exact h1) (by rw [vv0];exact h2)
    omega
  have d12:∀ g,blkOf (rs i) = some g → blkOf (ms i) ≠ some g:=fun g h1 h2=>by
    have:=h.dist (3 * i + 2) (3 * i + 1) g (by omega) (by omega) (by rw [vv2];exact h1) (by rw [vv1];exact h2)
    omega
  have dd:∀ a g,a < 3 * n → a ≠ 3 * i → a ≠ 3 * i + 1 → a ≠ 3 * i + 2 → blkOf (vvOf us ms rs a) = some g → foc k k1 k2 k3 (us.getD i undef) (ms i) (rs i) g = k:=fun a g ha h0 h1 h2 hg=>by
    unfold foc
    rw [if_neg (fun h3=>h0 (h.dist a (3 * i) g ha (by omega) hg (by rw [vv0];exact h3))),if_neg (fun h3=>h1 (h.dist a (3 * i + 1) g ha (by omega) hg (by rw [vv1];exact h3))),if_neg (fun h3=>h2 (h.dist a (3 * i + 2) g ha (by omega) hg (by rw [vv2];exact h3)))]
  have da:∀ g,cs.ownBlock = some g → foc k k1 k2 k3 (us.getD i undef) (ms i) (rs i) g = k:=fun g hg=>by
    unfold foc
    rw [if_neg (fun h3=>h.apart (3 * i) g (by omega) (by rw [vv0];exact h3) hg),if_neg (fun h3=>h.apart (3 * i + 1) g (by omega) (by rw [vv1];exact h3) hg),if_neg (fun h3=>h.apart (3 * i + 2) g (by omega) (by rw [vv2];exact h3) hg)]
  refine ⟨σ.tag k hk (foc k k1 k2 k3 (us.getD i undef) (ms i) (rs i)),rfl,Stp.tag,hl.p.tag fun g hg=>if_pos hg,hl.m.tag fun g hg=>?_,hl.r.tag fun g hg=>?_,h.ul,hi,h.row.tag da,fun j hj hn=>⟨?_,?_,?_⟩,h.dist,h.apart⟩
  · unfold foc;rw [if_neg (d01 g hg),if_pos hg]
  · have hg:=blk_own hg
    unfold foc;rw [if_neg (d02 g hg),if_neg (d12 g hg),if_pos hg]
  · exact (h.lev j hj).p.tag fun g hg=>dd (3 * j) g (by omega) (by omega) (by omega) (by omega) (by rw [vv0];exact hg)
  · exact (h.lev j hj).m.tag fun g hg=>dd (3 * j + 1) g (by omega) (by omega) (by omega) (by omega) (by rw [vv1];exact hg)
  · exact (h.lev j hj).r.tag fun g hg=>dd (3 * j + 2) g (by omega) (by omega) (by omega) (by omega) (by rw [vv2];exact blk_own hg)
theorem ChnR.unfocus {k1 k2 k3:Nat} {m r:Value} {f:Int → Option (List Int)} {G:List (List Int)} {nn:Nat} {ts:List Ty} (h:ChnR σ k e e2 cs n c us ms rs i) (hp:OwnP σ k1 (us.getD i undef) [Ty.nat i,Ty.val m,Ty.val r]) (hm:OwnM Ty.ints kI σ k2 m f) (hr:Own σ k3 e 1 r nn ts)
    (hn:nn = G.length) (hts:ts = G.map Ty.ints) (hL:∀ q ∈ [k1,k2,k3],2 ≤ q) (hk:k ∉ [k1,k2,k3]) (h12:k1 ≠ k2) (h13:k1 ≠ k3) (h23:k2 ≠ k3) :
    ∃ τ:GW,τ.w = σ.w∧StpL [k1,k2,k3] σ τ∧ChnU τ k e e2 cs n (upd c i ⟨f,G⟩) us:=by
  subst hn;subst hts
  simp only [List.mem_cons,List.not_mem_nil,or_false,not_or] at hk
  obtain ⟨q1,q2,q3⟩:=hk
  have hi:=h.lt
  refine ⟨σ.join [k1,k2,k3] hL k,rfl,StpL.join,fun j=>if j = i then m else ms j,fun j=>if j = i then r else rs j,h.ul,h.row.join (.inr rfl),fun j hj=>?_,?_,?_⟩
  · by_cases e1:j = i
    · subst e1
      simp only [if_true,upd_at]
      exact ⟨hp.join (.inl (by simp)),hm.join (.inl (by simp)),hr.join (.inl (by simp))⟩
    · simp only [if_neg e1,upd_ne e1]
      have hl:=h.lev j hj e1
      exact ⟨hl.p.join (.inr rfl),hl.m.join (.inr rfl),hl.r.join (.inr rfl)⟩
  ·
    have key:∀ a g,a < 3 * n → blkOf (vvOf us (fun j=>if j = i then m else ms j) (fun j=>if j = i then r else rs j) a) = some g →
        (a = 3 * i∧σ.st g = k1) ∨ (a = 3 * i + 1∧σ.st g = k2) ∨ (a = 3 * i + 2∧σ.st g = k3) ∨ (a / 3 ≠ i∧σ.st g = k∧blkOf (vvOf us ms rs a) = some g):=fun a g ha hg=>by
      by_cases e1:a / 3 = i
      · have:a = 3 * i ∨ a = 3 * i + 1 ∨ a = 3 * i + 2:=by omega
        rcases this with rfl | rfl | rfl
        · rw [vv0] at hg;exact .inl ⟨rfl,hp.st4 hg⟩
        · rw [vv1] at hg;simp only [if_true] at hg;exact .inr (.inl ⟨rfl,hm.st4 hg⟩)
        · rw [vv2] at hg;simp only [if_true] at hg;exact .inr (.inr (.inl ⟨rfl,hr.st5 hg⟩))
      · have hl:=h.lev (a / 3) (by omega) e1
        refine .inr (.inr (.inr ⟨e1,?_⟩))
        have:a = 3 * (a / 3) ∨ a = 3 * (a / 3) + 1 ∨ a = 3 * (a / 3) + 2:=by omega
        rcases this with h0 | h0 | h0
        · rw [h0,vv0] at hg;rw [h0,vv0];exact ⟨hl.p.st4 hg,hg⟩
        · rw [h0,vv1] at hg;simp only [if_neg e1] at hg;rw [h0,vv1];exact ⟨hl.m.st4 hg,hg⟩
        · rw [h0,vv2] at hg;simp only [if_neg e1] at hg;rw [h0,vv2];exact ⟨hl.r.st5 hg,hg⟩
    intro a b g ha hb ga gb
    rcases key a g ha ga with ⟨x1,x2⟩ | ⟨x1,x2⟩ | ⟨x1,x2⟩ | ⟨x1,x2,x3⟩ <;> rcases key b g hb gb with ⟨y1,y2⟩ | ⟨y1,y2⟩ | ⟨y1,y2⟩ | ⟨y1,y2,y3⟩ <;> first | omega | exact h.dist a b g ha hb x3 y3
  · intro a g ha hg hc
    by_cases e1:a / 3 = i
    · have hst:σ.st g = k:=h.row.choose_spec.2.2.2 g hc
      have:a = 3 * i ∨ a = 3 * i + 1 ∨ a = 3 * i + 2:=by omega
      rcases this with rfl | rfl | rfl
      · rw [vv0] at hg;have:=hp.st4 hg;omega
      · rw [vv1] at hg;simp only [if_true] at hg;have:=hm.st4 hg;omega
      · rw [vv2] at hg;simp only [if_true] at hg;have:=hr.st5 hg;omega
    · refine h.apart a g ha ?_ hc
      have:a = 3 * (a / 3) ∨ a = 3 * (a / 3) + 1 ∨ a = 3 * (a / 3) + 2:=by omega
      rcases this with h0 | h0 | h0
      · rw [h0,vv0] at hg;rw [h0,vv0];exact hg
      · rw [h0,vv1] at hg;simp only [if_neg e1] at hg;rw [h0,vv1];exact hg
      · rw [h0,vv2] at hg;simp only [if_neg e1] at hg;rw [h0,vv2];exact hg
theorem cvch (h:c = d) (q:ChnU σ k e e2 cs n c us):ChnU σ k e e2 cs n d us:=h ▸ q
theorem ChnU.row (h:ChnU σ k e e2 cs n c us):Own σ k e2 1 cs n (us.map Ty.val):=by
  obtain ⟨ms,rs,h⟩:=h
  exact h.row
theorem ChnU.ul (h:ChnU σ k e e2 cs n c us):us.length = n:=by
  obtain ⟨ms,rs,h⟩:=h
  exact h.ul
end
end Go.KL
namespace Go.KL
open Go.RowKit
def OwnQ (σ:GW) (k:Nat) (e:TypeId) (v:Value) (n:Nat) (ts:List Ty):Prop :=
  ∃ g o cap cur,v = .slice (some ⟨g,o,none⟩) n cap∧σ.st g = k∧σ.w.heap[g]? = some (.cells cur e (0,0))∧n ≤ cap∧o + cap ≤ cur.size∧cap ≤ maxLen∧ts.length = n∧∀ (j:Nat) (T:Ty) (u:Value),ts[j]? = some T → cur[o + j]? = some u → T.has σ u
def qDrop:Value → Value
  | .slice a n cap=>sliced a 1 n cap 1
  | v=>v
def qPtr:Value → Value
  | .slice a _ _=>.pointer a
  | v=>v
section
variable {P:Program} {σ τ:GW} {k:Nat} {e:TypeId} {v:Value} {n:Nat} {ts:List Ty} {L:List Nat}
theorem OwnQ.keepL (h:OwnQ σ k e v n ts) (hs:StpL L σ τ) (h1:1 ∉ L) (hk:k ∉ L):OwnQ τ k e v n ts:=by
  obtain ⟨g,o,cap,cur,rfl,r2,r3,r4,r5,r6,r7,r8⟩:=h
  have hg:=(Array.getElem?_eq_some_iff.1 r3).1
  have hq:σ.st g ∉ L:=by rw [r2];exact hk
  exact ⟨g,o,cap,cur,rfl,(hs.st g hg hq).trans r2,(hs.blk g hg hq).trans r3,r4,r5,r6,r7,fun j T u hj hu=>T.up (hs.le h1) (r8 j T u hj hu)⟩
theorem OwnQ.k0 (h:OwnQ σ k e v n ts) (hs:Stp 0 σ τ):OwnQ τ k e v n ts:=h.keepL (L:=[]) hs.toL0 (by simp) (by simp)
def Pr.ownq (k:Nat) (e:TypeId) (n:Nat) (ts:List Ty):Pr:=⟨fun σ v=>OwnQ σ k e v n ts,fun hs h=>h.k0 hs⟩
theorem cvq {σ:GW} {k:Nat} {e:TypeId} {v:Value} {n m:Nat} {ts us:List Ty} (h1:n = m) (h2:ts = us) (h:OwnQ σ k e v n ts):OwnQ σ k e v m us:=h1 ▸ h2 ▸ h
theorem OwnQ.of (h:Own σ k e 1 v n ts) (hn:0 < n):OwnQ σ k e v n ts:=by
  obtain ⟨us,r1,r2,r3,r4⟩:=h
  rcases r1.2 with ⟨_,h2⟩ | ⟨g,cap,cur,rfl,_,hg,hn',hm,hcs,htk⟩
  · omega
  · have hl:=r1.1
    refine ⟨g,0,cap,cur,rfl,r4 g rfl,hg,hn',by omega,hm,by omega,fun j T u hj hu=>?_⟩
    rw [Nat.zero_add] at hu
    refine r3 j T u hj ?_
    have hjl:=(List.getElem?_eq_some_iff.1 hj).1
    rw [← htk,List.getElem?_take_of_lt (by omega),Array.getElem?_toList]
    exact hu
theorem OwnQ.drop (h:OwnQ σ k e v n ts) (hn:0 < n):OwnQ σ k e (qDrop v) (n - 1) (ts.drop 1):=by
  obtain ⟨g,o,cap,cur,rfl,r2,r3,r4,r5,r6,r7,r8⟩:=h
  show OwnQ σ k e (.slice (if cap = 1 then some ⟨g,o,none⟩ else (some ⟨g,o,none⟩:Option Addr).map (·.add (1 * 1))) (n - 1) (cap - 1)) (n - 1) (ts.drop 1)
  by_cases hc:cap = 1
  · rw [if_pos hc]
    have:n = 1:=by omega
    subst this
    have ht:ts.drop 1 = []:=List.drop_eq_nil_of_le (by omega)
    exact ⟨g,o,cap - 1,cur,rfl,r2,r3,by omega,by omega,by omega,by rw [ht];rfl,fun j T u hj _=>by rw [ht] at hj;simp at hj⟩
  · rw [if_neg hc]
    refine ⟨g,o + 1,cap - 1,cur,by rfl,r2,r3,by omega,by omega,by omega,by rw [List.length_drop,r7],fun j T u hj hu=>r8 (1 + j) T u (by rwa [List.getElem?_drop] at hj) (by rw [← hu];congr 1;omega)⟩
variable {d:Option Tmp} {ty:TypeId} {pos:String} {af:Array Edge} {gd:Option (Nat × Bool)} {a:Act}
theorem q_len {x:Operand} {t e':TypeId} (ht:P.underlying t = some (.slice e)) (h:OwnQ σ k e' v n ts) (hx:a.eval x = v) :
    Yld P ⟨d,.call ⟨.builtin .len,#[x],#[t]⟩,ty,pos,af,gd⟩ a σ (Ty.int n).pr:=by
  obtain ⟨g,o,cap,cur,rfl,_⟩:=h
  exact Yld.of_run (v:=.int .i64 n) (run_builtin1 hx (fun cs=>by simp [builtin,Builtin.len_,run_underlying ht,goInt])) rfl
theorem q_index {x y:Operand} {t:TypeId} {z:Value} {b:Nat} (ht:P.underlying t = some (.slice e)) (he:Info P e z 1 b) (h:OwnQ σ k e v n ts) (hx:a.eval x = v) (hy:a.eval y = .int .i64 0) (hn:0 < n) :
    Yld P ⟨d,.indexAddr t x y,ty,pos,af,gd⟩ a σ (Ty.val (qPtr v)).pr:=by
  obtain ⟨g,o,cap,cur,rfl,_⟩:=h
  refine Yld.of_run (v:=.pointer (some ⟨g,o,none⟩)) ?_ rfl
  simp only [execOp,hx,hy]
  simp [Instr.indexAt,asIntOf,run_underlying ht,hn,he.size,Addr.add_lit]
theorem q_load {x:Operand} {t:TypeId} {dd:TypeDesc} {T:Ty} (ht:P.underlying t = some dd) (hd:dd.isRow = false) (h:OwnQ σ k e v n ts) (hx:a.eval x = qPtr v) (hT:ts[0]? = some T) :
    Yld P ⟨d,.load t x,ty,pos,af,gd⟩ a σ T.pr:=by
  obtain ⟨g,o,cap,cur,rfl,r2,r3,r4,r5,r6,r7,r8⟩:=h
  have hn:=(List.getElem?_eq_some_iff.1 hT).1
  obtain ⟨u,hu⟩:∃ u,cur[o + 0]? = some u:=⟨cur[o]'(by omega),by simp⟩
  refine Yld.of_run (v:=u) ?_ (r8 0 T u hT hu)
  have hagg:(isAgg t).run P σ.w = .ok false σ.w:=by
    unfold isAgg
    rw [Sem.run_bind,run_underlying ht σ.w]
    cases dd <;> simp_all
  have hx':a.eval x = .pointer (some ⟨g,o,none⟩):=hx
  have hc:σ.w.cell? ⟨g,o,none⟩ = some u:=by simp only [World.cell?,r3];simpa using hu
  simp only [execOp,hx']
  simp [Instr.loadAt,Instr.sureAddr,loadVar,Sem.run_bind,hagg,load,Sem.run,hc]
theorem q_drop1 {x y:Operand} {t:TypeId} {z:Value} {b:Nat} (ht:P.underlying t = some (.slice e)) (he:Info P e z 1 b) (h:OwnQ σ k e v n ts) (hx:a.eval x = v) (hy:a.eval y = .int .i64 1) (hn:0 < n) :
    Yld P ⟨d,.slice t x (some y) none none,ty,pos,af,gd⟩ a σ (Ty.val (qDrop v)).pr:=by
  obtain ⟨g,o,cap,cur,rfl,r2,r3,r4,_⟩:=h
  refine Yld.of_run (v:=sliced (some ⟨g,o,none⟩) 1 n cap 1) ?_ rfl
  have h1:=run_slice_l (P:=P) σ.w t (some ⟨g,o,none⟩) n cap (elem_of ht) .i64 ((1:Nat):Int) (by omega) (by omega)
  rw [elem_eq ht,he.size] at h1
  have hy':a.eval y = .int .i64 ((1:Nat):Int):=hy
  simp only [execOp,hx,hy',Option.map_some,Option.map_none,Sem.run_bind,run_sliceAt_slice σ.w t _ _ _ _ (elem_of ht),h1,Result.andThen_ok,Sem.run_pure,Int.toNat_natCast]
theorem m_appendq {t ty':TypeId} {z:Value} {by_:Nat} {x y:Operand} {T:Ty} (ht:P.underlying t = some (.slice e)) (he:Info P e z 1 by_) (hk:2 ≤ k) (hz:z.cells.size = 1)
    (h:OwnQ σ k e (a.eval x) n ts) (hx:At (.sl 1 1 [T]) σ a y) (h1:One T) (hlen:n + 1 ≤ 9223372036854775807) (hbytes:(n + 1) * by_ ≤ 140737488355328) :
    YldM k P ⟨d,.call ⟨.builtin .append,#[x,y],#[t,t]⟩,ty',pos,af,gd⟩ a σ (fun v τ=>OwnQ τ k e v (n + 1) (ts ++ [T])):=by
  intro K Q hk'
  have main:∃ v' τ,(Builtin.append_ #[t,t] ty' #[a.eval x,a.eval y]).run P σ.w = .ok v' τ.w∧Stp k σ τ∧OwnQ τ k e v' (n + 1) (ts ++ [T]):=by
    obtain ⟨g,o,cap,cur,ex,r2,r3,r4,r5,r6,r7,r8⟩:=h
    obtain ⟨ad,cap0,b,o',ey,hcap0,hl,hs,hcl⟩:=hx
    obtain ⟨i,hi,hi1,hi2,hi3⟩:=he.get
    obtain ⟨ws,w1,w2,w3⟩:=sl_news hcl
    have hw1:ws.length = 1:=by rw [w1];rfl
    obtain ⟨u,rfl⟩:∃ u,ws = [u]:=by
      match ws,hw1 with
      | [u],_=>exact ⟨u,rfl⟩
    have hT:T.has σ u:=w3 0 T u rfl rfl
    have hou:=h1 σ u hT
    obtain ⟨rfl,_⟩:=hs.resolve_left (by simp)
    have hnews:∀ (j:Nat) (w:Value),[u][j]? = some w → σ.w.cell? ((⟨b,o',none⟩:Addr).add j) = some w:=fun j w hj=>by rw [Addr.add_lit];exact w2 j w hj
    rw [ex,ey]
    have hgl:=(Array.getElem?_eq_some_iff.1 r3).1
    by_cases hroom:n + 1 ≤ cap
    · have hc:∀ j,j < [u].length → (σ.w.cell? ⟨g,o + n * i.size + j,none⟩).isSome = true:=fun j hj=>by
        have hj0:j = 0:=by simp at hj;omega
        subst hj0
        rw [hi2,Nat.mul_one]
        simp only [World.cell?,r3]
        simp;omega
      have hf:∀ j,j < [u].length → σ.w.frozen? ⟨g,o + n * i.size + j,none⟩ = false:=fun j hj=>by simp [World.frozen?,r3]
      have hr:=run_append_room_cells (P:=P) σ.w t ty' e i ht hi g o n cap ⟨b,o',none⟩ 1 cap0 [u] (by simp [hi2]) hnews (fun w hw=>by rw [List.mem_singleton.1 hw];exact hou) hroom hc hf
      rw [hi2,Nat.mul_one] at hr
      have hst:Stp k σ ⟨σ.w.setCell ⟨g,o + n,none⟩ u,σ.st,fun b h=>by have:=σ.lt b h;simpa using this⟩ :=
        ⟨rfl,rfl,rfl,Dr.refl _,by simp,fun b hb hm=>Below.heap_setCell σ.w _ _ b (by rintro rfl;simp at hm;omega),fun _ _ _=>rfl⟩
      have hh:(σ.w.setCell ⟨g,o + n,none⟩ u).heap[g]? = some (.cells (cur.setIfInBounds (o + n) u) e (0,0)):=by
        unfold World.setCell
        rw [Array.getElem?_modify,if_pos rfl,r3]
        rfl
      refine ⟨_,⟨σ.w.setCell ⟨g,o + n,none⟩ u,σ.st,fun b h=>by have:=σ.lt b h;simpa using this⟩,hr,hst,g,o,cap,_,rfl,r2,hh,hroom,by simpa using r5,r6,by simp [r7],fun j W w hj hw=>?_⟩
      by_cases hjn:j = n
      · subst hjn
        rw [List.getElem?_append_right (by omega),r7,Nat.sub_self] at hj
        rw [Array.getElem?_setIfInBounds_self_of_lt (by omega)] at hw
        cases hj;cases hw
        exact T.up (hst.le (by omega)) hT
      · have hjl:=(List.getElem?_eq_some_iff.1 hj).1
        rw [List.length_append,List.length_singleton] at hjl
        rw [List.getElem?_append_left (by omega)] at hj
        rw [Array.getElem?_setIfInBounds_ne (by omega)] at hw
        exact W.up (hst.le (by omega)) (r8 j W w hj hw)
    ·
      have hol:(cur.toList.drop o).take n = (cur.toList.drop o).take n:=rfl
      generalize holds:(cur.toList.drop o).take n = olds at hol
      have hlo:olds.length = n:=by rw [← holds];simp;omega
      have hget:∀ (j:Nat) (w:Value),olds[j]? = some w → cur[o + j]? = some w:=fun j w hj=>by
        have hjl:=(List.getElem?_eq_some_iff.1 hj).1
        rw [← holds,List.getElem?_take_of_lt (by omega),List.getElem?_drop,Array.getElem?_toList] at hj
        exact hj
      have hr:=run_append_grow (P:=P) σ.w t ty' e i z ht hi hi1 ⟨g,o,none⟩ n cap olds (by rw [hi2];omega) (fun j w hj=>by
        rw [Addr.add_lit]
        simp only [World.cell?,r3]
        simpa using hget j w hj) ⟨b,o',none⟩ 1 cap0 [u] (by simp [hi2]) hnews (by omega) (by omega) (growslice_fits (by omega) (by rw [hi3];exact hbytes))
      have hge:=grownCap_ge σ.w (n + 1) cap e
      have hcm:grownCap σ.w (n + 1) cap e ≤ maxLen:=grownCap_le_maxLen σ.w (n + 1) cap e hlen
      have hst:Stp 0 σ (σ.drew.mk' k (.cells (olds.toArray ++ [u].toArray ++ Builtin.zeroCells z.cells (grownCap σ.w (n + 1) cap e - (n + 1))) e)):=(Stp.drew σ).trans (Stp.mk' σ.drew k _)
      refine ⟨_,_,hr,hst.of0,σ.w.heap.size,0,_,_,rfl,by show (if _ = _ then k else _) = k;rw [if_pos];rfl,heap_alloc_new σ.w.drew _,hge,?_,hcm,by simp [r7],fun j W w hj hw=>?_⟩
      · simp only [Array.size_append,List.size_toArray,size_zeroCells,hz,hlo,List.length_singleton]
        omega
      · have hjl:=(List.getElem?_eq_some_iff.1 hj).1
        rw [List.length_append,List.length_singleton] at hjl
        have hw2:(olds ++ [u])[j]? = some w:=by
          rw [Nat.zero_add] at hw
          rw [Array.getElem?_append_left (by simp;omega)] at hw
          simpa using hw
        by_cases hjn:j = n
        · subst hjn
          rw [List.getElem?_append_right (by omega),r7,Nat.sub_self] at hj
          rw [List.getElem?_append_right (by omega),hlo,Nat.sub_self] at hw2
          cases hj;cases hw2
          exact T.up hst.le0 hT
        · rw [List.getElem?_append_left (by omega)] at hj hw2
          exact W.up hst.le0 (r8 j W w hj (hget j w hw2))
  obtain ⟨v',τ,hr,hs,ho⟩:=main
  have hr':(execOp a.eval ⟨d,.call ⟨.builtin .append,#[x,y],#[t,t]⟩,ty',pos,af,gd⟩).run P σ.w = .ok (.value v') τ.w:=by
    simp only [execOp,resolve,Sem.run_bind,Sem.run_pure,Result.andThen_ok,invoke,List.map_toArray,List.map_cons,List.map_nil,builtin,hr]
  unfold Oper.wp
  rw [hr']
  exact hk' v' τ hs ho
end
end Go.KL
namespace Go.KL
section
variable {n k j:Nat} {c d:Nat → Lev} {r q x t:List Int} {p:Int}
theorem RowN.bds (h:RowN n r) (hl:x.length = n):∀ i,i < r.length → 0 ≤ r.getD i 0∧r.getD i 0 < x.length:=fun i hi=>by
  rw [h.len] at hi
  have:=h.at hi
  omega
theorem sift_go (hw:WC n c) (hj:j < n) (hq:RowN n q) (hf:Fx j q) (ho:((c j).orb (q.getD j 0)).isSome = true) :
    IsRow (((c j).orb (q.getD j 0)).getD [])∧(undoL (((c j).orb (q.getD j 0)).getD [])).length = q.length∧(∀ i,i < q.length → 0 ≤ q.getD i 0∧q.getD i 0 < (undoL (((c j).orb (q.getD j 0)).getD [])).length)∧(undoL (((c j).orb (q.getD j 0)).getD [])).length ≤ 1000000 ∧
      RowN n (byL (undoL (((c j).orb (q.getD j 0)).getD [])) q)∧Fx (j + 1) (byL (undoL (((c j).orb (q.getD j 0)).getD [])) q)∧sftL n c (j + 1) (byL (undoL (((c j).orb (q.getD j 0)).getD [])) q) = sftL n c j q:=by
  obtain ⟨t,ht⟩:=Option.isSome_iff_exists.1 ho
  obtain ⟨h1,h2,h3⟩:=(hw.lev j hj).pt _ t ht
  have e:((c j).orb (q.getD j 0)).getD [] = t:=by rw [ht];rfl
  rw [e]
  obtain ⟨h4,h5⟩:=rest_row hj hq hf h1 h2 h3
  have hu:=h1.undo
  exact ⟨h1.row,by rw [hu.len,hq.len],hq.bds hu.len,by rw [hu.len];have:=hw.nn;omega,h4,h5,(sft_some hj ht).symm⟩
theorem ExtPre.gl (h:ExtPre n k r c):(c k).gens.length ≤ 999999:=by
  have:=h.room k (Nat.le_refl _) h.lt
  rw [if_pos rfl,Nat.sub_self,Nat.zero_mul] at this
  omega
theorem ExtPre.fin (h:ExtPre n k r c):∀ p t,(c k).orb p = some t → 0 ≤ p∧p < 12:=fun p t e=>by
  obtain ⟨h1,_,h3⟩:=(h.wc.lev k h.lt).pt p t e
  have:=h1.at h.lt
  have:=h.wc.nn
  omega
theorem ExtPre.ne {K:List Int} (h:ExtPre n k r c) (hK:∀ p,p ∈ K ↔ ((c k).orb p).isSome = true):0 < K.length:=by
  have:=(hK (k:Int)).2 (by rw [(h.wc.lev k h.lt).base];rfl)
  cases K with
  | nil=>cases this
  | cons a l=>simp
variable {G:List (List Int)} {f f0:Int → Option (List Int)} {op:List Int} {m B:Nat}
theorem Bfs.fin (h:Bfs n k G f0 f op) (hk:k < n) (hn:n ≤ 12):∀ p t,f p = some t → 0 ≤ p∧p < 12:=fun p t e=>by
  obtain ⟨h1,_,h3,_⟩:=h.pts p t e
  have:=h1.at hk
  omega
theorem BfsP.go (h:BfsP n k G f0 B p m f op) (hk:k < n) (hG:∀ x ∈ G,RowN n x∧Fx k x) (hm:m < G.length) :
    0 ≤ p∧p < n∧(G.getD m []).length = n∧(G.getD m []).length = ((f p).getD []).length∧(∀ i,i < ((f p).getD []).length → 0 ≤ ((f p).getD []).getD i 0∧((f p).getD []).getD i 0 < (G.getD m []).length)∧(G.getD m []).length ≤ 1000000:=by
  obtain ⟨t,ht⟩:=Option.isSome_iff_exists.1 h.at_
  obtain ⟨h1,_,_,_⟩:=h.pts p t ht
  have hxm:G.getD m [] ∈ G:=by rw [List.getD_eq_getElem?_getD,List.getElem?_eq_getElem hm];exact List.getElem_mem hm
  have hx:=(hG _ hxm).1
  have hp:=h.pt hk
  have e:(f p).getD [] = t:=by rw [ht];rfl
  rw [e]
  have:=hx.nn
  exact ⟨hp.1,hp.2,hx.len,by rw [hx.len,h1.len],h1.bds hx.len,by rw [hx.len];omega⟩
theorem BfsP.new2 (h:BfsP n k G f0 B p m f op) (hk:k < n) (hG:∀ x ∈ G,RowN n x∧Fx k x) (hm:m < G.length) (ho:f ((G.getD m []).getD p.toNat 0) = none) :
    BfsP n k G f0 B p (m + 1) (fun q=>if q = (G.getD m []).getD p.toNat 0 then some (byL (G.getD m []) ((f p).getD [])) else f q) (op ++ [(G.getD m []).getD p.toNat 0]):=by
  obtain ⟨t,ht⟩:=Option.isSome_iff_exists.1 h.at_
  have e:(f p).getD [] = t:=by rw [ht];rfl
  rw [e]
  exact h.new hk hG hm rfl ho ht
variable {c1:Nat → Lev} {K:List Int} {i:Nat}
theorem ExtC.go (h:ExtC n k r c c1 K) (hk:k < n) (hi:i < K.length) (hj:j < (c1 k).gens.length) :
    0 ≤ K.getD i 0∧K.getD i 0 < n∧((c1 k).gens.getD j []).length = n∧IsRow (((c1 k).orb (((c1 k).gens.getD j []).getD (K.getD i 0).toNat 0)).getD []) ∧
      ((c1 k).gens.getD j []).length = (((c1 k).orb (K.getD i 0)).getD []).length∧(∀ a,a < (((c1 k).orb (K.getD i 0)).getD []).length → 0 ≤ (((c1 k).orb (K.getD i 0)).getD []).getD a 0∧(((c1 k).orb (K.getD i 0)).getD []).getD a 0 < ((c1 k).gens.getD j []).length)∧((c1 k).gens.getD j []).length ≤ 1000000 ∧
      (undoL (((c1 k).orb (((c1 k).gens.getD j []).getD (K.getD i 0).toNat 0)).getD [])).length = (byL ((c1 k).gens.getD j []) (((c1 k).orb (K.getD i 0)).getD [])).length ∧
      (∀ a,a < (byL ((c1 k).gens.getD j []) (((c1 k).orb (K.getD i 0)).getD [])).length → 0 ≤ (byL ((c1 k).gens.getD j []) (((c1 k).orb (K.getD i 0)).getD [])).getD a 0∧(byL ((c1 k).gens.getD j []) (((c1 k).orb (K.getD i 0)).getD [])).getD a 0 < (undoL (((c1 k).orb (((c1 k).gens.getD j []).getD (K.getD i 0).toNat 0)).getD [])).length) ∧
      (undoL (((c1 k).orb (((c1 k).gens.getD j []).getD (K.getD i 0).toNat 0)).getD [])).length ≤ 1000000∧RowN n (schr (c1 k) (K.getD i 0) ((c1 k).gens.getD j []))∧Fx (k + 1) (schr (c1 k) (K.getD i 0) ((c1 k).gens.getD j [])):=by
  have hpk:(K.getD i 0) ∈ K:=mem_at hi rfl
  obtain ⟨t,ht⟩:=Option.isSome_iff_exists.1 ((h.keys _).1 hpk)
  have hx:(c1 k).gens.getD j [] ∈ (c1 k).gens:=by rw [List.getD_eq_getElem?_getD,List.getElem?_eq_getElem hj];exact List.getElem_mem hj
  obtain ⟨t',ht'⟩:=Option.isSome_iff_exists.1 (h.clo _ t ht _ hx)
  obtain ⟨ht1,_,ht3⟩:=(h.wc.lev k hk).pt _ t ht
  obtain ⟨ht1',_,_⟩:=(h.wc.lev k hk).pt _ t' ht'
  have hxr:=((h.wc.lev k hk).gen _ hx).1
  obtain ⟨_,g1,g2⟩:=schr_facts h.wc hk ht hx ht'
  have e:((c1 k).orb (K.getD i 0)).getD [] = t:=by rw [ht];rfl
  have e':((c1 k).orb (((c1 k).gens.getD j []).getD (K.getD i 0).toNat 0)).getD [] = t':=by rw [ht'];rfl
  rw [e,e']
  have hb:=ht1.at hk
  have hxt:=hxr.by ht1
  have hn:=h.wc.nn
  exact ⟨by omega,by omega,hxr.len,ht1'.row,by rw [hxr.len,ht1.len],ht1.bds hxr.len,by rw [hxr.len];omega,by rw [ht1'.undo.len,hxt.len],hxt.bds ht1'.undo.len,by rw [ht1'.undo.len];omega,g1,g2⟩
theorem ExtI.pre (hp:ExtPre n k r c) (h:ExtC n k r c c1 K) (hD:ExtI n k c1 K i j d) (hi:i < K.length) (hj:j < (c1 k).gens.length):AddPre n (k + 1) (schr (c1 k) (K.getD i 0) ((c1 k).gens.getD j [])) d:=by
  obtain ⟨_,_,_,_,_,_,_,_,_,_,g1,g2⟩:=h.go hp.lt hi hj
  exact ⟨hD.wc,hp.lt,g1,g2,hD.good,h.room hp hD⟩
theorem upd_self:upd d k ⟨(d k).orb,(d k).gens⟩ = d:=by
  funext a
  unfold upd
  split
  · rename_i e;subst e;rfl
  · rfl
theorem upd_back {L:Lev} (e:d k = L):upd d k ⟨L.orb,L.gens⟩ = d:=by subst e;exact upd_self
def AddL (n k:Nat) (q:List Int) (c:Nat → Lev) (i:Nat) (d:Nat → Lev):Prop:=(i = k∧d = c) ∨ (k < i∧AddI n k q c i d)
variable {to:Nat}
theorem AddL.pre (hp:AddPre n k r c) (hs:Sifted n k r c to q) (ht:to < n) (hi:i ≤ to) (h:AddL n k q c i d):ExtPre n i q d:=by
  rcases h with ⟨rfl,rfl⟩ | ⟨h1,h2⟩
  · exact hp.ext hs ht
  · obtain ⟨_,_,_,a4,_⟩:=hs.spec hp
    exact (h2.pre h1 (by omega) (a4.le hi) hp.room (hp.missing hs ht)).1
theorem AddL.step (hp:AddPre n k r c) (hs:Sifted n k r c to q) (ht:to < n) (hi:i ≤ to) (h:AddL n k q c i d) (he:ExtP n i q d c1):AddL n k q c (i + 1) c1:=by
  rcases h with ⟨rfl,rfl⟩ | ⟨h1,h2⟩
  · exact .inr ⟨by omega,AddI.start he⟩
  · obtain ⟨_,_,_,a4,_⟩:=hs.spec hp
    exact .inr ⟨by omega,h2.step h1 (by omega) (h2.pre h1 (by omega) (a4.le hi) hp.room (hp.missing hs ht)).2 he⟩
theorem AddL.done (hp:AddPre n k r c) (hs:Sifted n k r c to q) (ht:to < n) (h:AddL n k q c (to + 1) d):AddP n k r c d:=by
  obtain ⟨a1,_⟩:=hs.spec hp
  rcases h with ⟨h1,_⟩ | ⟨_,h2⟩
  · omega
  · exact h2.done hp hs ht
theorem AddPre.full (hp:AddPre n k r c) (h:Sifted n k r c to q) (e:to = n):AddP n k r c c:=by subst e;exact hp.there h
end
def Ty.keysit (fn:FuncId) (ct:TypeId) (m:Value):Ty where
  has σ v:=∃ b,v = .func (.func fn) #[] #[.pointer (some ⟨b,0,none⟩)]∧σ.st b = 1∧σ.w.heap[b]? = some (.cells #[m] ct (0,0))
  up h:=by
    rintro ⟨b,e,h1,h2⟩
    exact ⟨b,e,h.st b h1,(h.blk b h1).trans h2⟩
end Go.KL
namespace Go.KL
open Go.RowKit
theorem mem_atD {α:Type} (d:α) {l:List α} {i:Nat} (h:i < l.length):l.getD i d ∈ l:=by
  rw [List.getD_eq_getElem?_getD,List.getElem?_eq_getElem h];exact List.getElem_mem h
structure LevsN (σ:GW) (k:Nat) (e:TypeId) (us:List Value) (n:Nat) (c:Nat → Lev) (ms rs:Nat → Value):Prop where
  ul:us.length = n
  lev:∀ j,j < n → LevAt σ k e (us.getD j undef) (ms j) (rs j) j (c j)
  dist:∀ a b g,a < 3 * n → b < 3 * n → blkOf (vvOf us ms rs a) = some g → blkOf (vvOf us ms rs b) = some g → a = b
def LevsU (σ:GW) (k:Nat) (e:TypeId) (us:List Value) (n:Nat) (c:Nat → Lev):Prop:=∃ ms rs,LevsN σ k e us n c ms rs
section
variable {σ τ:GW} {k k1 k2:Nat} {e e2:TypeId} {us:List Value} {n:Nat} {c d:Nat → Lev} {L:List Nat} {u m cs:Value} {f:Int → Option (List Int)}
theorem LevsU.keepL (h:LevsU σ k e us n c) (hs:StpL L σ τ) (h1:1 ∉ L) (hk:k ∉ L):LevsU τ k e us n c:=by
  obtain ⟨ms,rs,h⟩:=h
  exact ⟨ms,rs,h.ul,fun j hj=>(h.lev j hj).keepL hs h1 hk,h.dist⟩
theorem LevsU.k0 (h:LevsU σ k e us n c) (hs:Stp 0 σ τ):LevsU τ k e us n c:=h.keepL (L:=[]) hs.toL0 (by simp) (by simp)
theorem LevsU.nil:LevsU σ k e [] 0 c:=⟨fun _=>undef,fun _=>undef,rfl,fun j hj=>by omega,fun a b g ha=>by omega⟩
theorem cvlv {vs:List Value} {m':Nat} (h1:us = vs) (h2:n = m') (h:LevsU σ k e us n c):LevsU σ k e vs m' c:=h1 ▸ h2 ▸ h
theorem LevsU.snoc (h:LevsU σ k e us n c) (hp:OwnP σ k1 u [Ty.nat n,Ty.val m,Ty.val (.slice none 0 0)]) (hm:OwnM Ty.ints kI σ k2 m f) (hL:∀ q ∈ [k1,k2],2 ≤ q) (hk:k ∉ [k1,k2]) (h12:k1 ≠ k2) :
    ∃ τ:GW,τ.w = σ.w∧StpL [k1,k2] σ τ∧LevsU τ k e (us ++ [u]) (n + 1) (upd c n ⟨f,[]⟩):=by
  obtain ⟨ms,rs,h⟩:=h
  simp only [List.mem_cons,List.not_mem_nil,or_false,not_or] at hk
  obtain ⟨q1,q2⟩:=hk
  have hul:=h.ul
  have hu1:∀ j,j < n → (us ++ [u]).getD j undef = us.getD j undef:=fun j hj=>by
    rw [List.getD_eq_getElem?_getD,List.getElem?_append_left (by omega),← List.getD_eq_getElem?_getD]
  have hu2:(us ++ [u]).getD n undef = u:=by
    rw [List.getD_eq_getElem?_getD,List.getElem?_append_right (by omega),hul,Nat.sub_self];rfl
  refine ⟨σ.join [k1,k2] hL k,rfl,StpL.join,fun j=>if j = n then m else ms j,fun j=>if j = n then .slice none 0 0 else rs j,by simp [hul],fun j hj=>?_,?_⟩
  · by_cases e1:j = n
    · subst e1
      simp only [if_true,upd_at,hu2]
      exact ⟨hp.join (.inl (by simp)),hm.join (.inl (by simp)),Own.nil _ _ _ _⟩
    · simp only [if_neg e1,upd_ne e1]
      have hl:=h.lev j (by omega)
      rw [hu1 j (by omega)]
      exact ⟨hl.p.join (.inr rfl),hl.m.join (.inr rfl),hl.r.join (.inr rfl)⟩
  · have key:∀ a g,a < 3 * (n + 1) → blkOf (vvOf (us ++ [u]) (fun j=>if j = n then m else ms j) (fun j=>if j = n then .slice none 0 0 else rs j) a) = some g →
        (a = 3 * n∧σ.st g = k1) ∨ (a = 3 * n + 1∧σ.st g = k2) ∨ (a / 3 < n∧σ.st g = k∧blkOf (vvOf us ms rs a) = some g):=fun a g ha hg=>by
      by_cases e1:a / 3 = n
      · have:a = 3 * n ∨ a = 3 * n + 1 ∨ a = 3 * n + 2:=by omega
        rcases this with rfl | rfl | rfl
        · rw [vv0,hu2] at hg;exact .inl ⟨rfl,hp.st4 hg⟩
        · rw [vv1] at hg;simp only [if_true] at hg;exact .inr (.inl ⟨rfl,hm.st4 hg⟩)
        · rw [vv2] at hg;simp only [if_true] at hg;simp [blkOf,Value.ownBlock] at hg
      · have hl:=h.lev (a / 3) (by omega)
        refine .inr (.inr ⟨by omega,?_⟩)
        have:a = 3 * (a / 3) ∨ a = 3 * (a / 3) + 1 ∨ a = 3 * (a / 3) + 2:=by omega
        rcases this with h0 | h0 | h0
        · rw [h0,vv0,hu1 _ (by omega)] at hg;rw [h0,vv0];exact ⟨hl.p.st4 hg,hg⟩
        · rw [h0,vv1] at hg;simp only [if_neg e1] at hg;rw [h0,vv1];exact ⟨hl.m.st4 hg,hg⟩
        · rw [h0,vv2] at hg;simp only [if_neg e1] at hg;rw [h0,vv2];exact ⟨hl.r.st5 hg,hg⟩
    intro a b g ha hb ga gb
    rcases key a g ha ga with ⟨x1,x2⟩ | ⟨x1,x2⟩ | ⟨x1,x2,x3⟩ <;> rcases key b g hb gb with ⟨y1,y2⟩ | ⟨y1,y2⟩ | ⟨y1,y2,y3⟩ <;> first | omega | exact h.dist a b g (by omega) (by omega) x3 y3
theorem LevsU.chain (h:LevsU σ k e us n c) (hr:Own σ k1 e2 1 cs n (us.map Ty.val)) (hk1:2 ≤ k1) (hk:k ≠ k1):∃ τ:GW,τ.w = σ.w∧Stp k1 σ τ∧ChnU τ k e e2 cs n c us:=by
  obtain ⟨ms,rs,h⟩:=h
  have hs:Stp k1 σ (σ.tag k1 hk1 fun _=>k):=Stp.tag
  have hsL:=hs.toL (L:=[k1]) (by simp)
  refine ⟨σ.tag k1 hk1 fun _=>k,rfl,hs,ms,rs,h.ul,hr.tag fun _ _=>rfl,fun j hj=>(h.lev j hj).keepL hsL (by simp;omega) (by simpa using hk),h.dist,fun a g ha hg hc=>?_⟩
  have h1:σ.st g = k1:=hr.choose_spec.2.2.2 g hc
  have hl:=h.lev (a / 3) (by omega)
  have:a = 3 * (a / 3) ∨ a = 3 * (a / 3) + 1 ∨ a = 3 * (a / 3) + 2:=by omega
  rcases this with h0 | h0 | h0
  · rw [h0,vv0] at hg;have:=hl.p.st4 hg;omega
  · rw [h0,vv1] at hg;have:=hl.m.st4 hg;omega
  · rw [h0,vv2] at hg;have:=hl.r.st5 hg;omega
end
theorem chn0_lev {n b:Nat} (h:b < n):upd (chn0 n) b ⟨fun x=>if x = (b:Int) then some (roundsL n) else (fun _=>none) x,[]⟩ = chn0 n:=by
  funext j
  unfold upd
  split
  · rename_i e
    subst e
    exact (if_pos h).symm
  · rfl
end Go.KL
namespace Go.KL
section
variable {n m:Nat} {c d:Nat → Lev} {gens hg:List (List Int)} {r:List Int}
theorem gens_may:∀ (l:List (List Int)),(∀ x ∈ l,RowN n x) → gensTo (n:Int) l = 0
  | [],_=>rfl
  | x :: l,h=>by
    have hx:=h x (List.mem_cons_self ..)
    have ih:=gens_may l (fun y hy=>h y (List.mem_cons_of_mem _ hy))
    simp only [gensTo]
    rw [rowMay_ok.2 hx.row,hx.len]
    simp [ih]
theorem gensMay_of (hn:1 ≤ n∧n ≤ 12) (hl:gens.length ≤ 8) (h:∀ x ∈ gens,RowN n x):gensMay (n:Int) gens = 0:=by
  unfold gensMay
  rw [if_neg (by omega)]
  exact gens_may gens h
end
end Go.KL
namespace Go.KL
open Classical in
noncomputable def osz (n:Nat) (S:List Int → Prop) (k:Nat):Nat:=(List.range n).countP fun (p:Nat)=>decide (∃ r,Cl n S r∧Fx k r∧r.getD k 0 = (p:Int))
noncomputable def szTo (n:Nat) (S:List Int → Prop):Nat → Nat
  | 0=>1
  | k + 1=>szTo n S k * osz n S k
section
open Classical
variable {n k:Nat} {S T:List Int → Prop}
theorem osz_le:osz n S k ≤ n:=by unfold osz;exact Nat.le_trans List.countP_le_length (by simp)
theorem osz_pos (hn:1 ≤ n∧n ≤ 12) (hk:k < n):0 < osz n S k:=by
  unfold osz
  rw [List.countP_pos_iff]
  exact ⟨k,List.mem_range.2 hk,decide_eq_true ⟨roundsL n,.one,Fx.rounds (by omega),roundsL_get hk⟩⟩
theorem szTo_pos (hn:1 ≤ n∧n ≤ 12):∀ k,k ≤ n → 0 < szTo n S k
  | 0,_=>by simp [szTo]
  | k + 1,h=>Nat.mul_pos (szTo_pos hn k (by omega)) (osz_pos hn (by omega))
theorem szTo_le (hn:n ≤ 12):∀ k,szTo n S k ≤ 12 ^ k
  | 0=>Nat.le_refl _
  | k + 1=>by
    rw [szTo,Nat.pow_succ]
    exact Nat.mul_le_mul (szTo_le hn k) (Nat.le_trans osz_le hn)
theorem osz_congr (h:∀ r,Fx k r → (Cl n S r ↔ Cl n T r)):osz n S k = osz n T k:=by
  unfold osz
  congr 1
  funext p
  apply decide_eq_decide.2
  constructor
  · rintro ⟨r,h1,h2,h3⟩;exact ⟨r,(h r h2).1 h1,h2,h3⟩
  · rintro ⟨r,h1,h2,h3⟩;exact ⟨r,(h r h2).2 h1,h2,h3⟩
end
structure Orb (n k:Nat) (G:List (List Int)) (sp:List Int) (rw':List (List Int)) (wh:List Int) (i j:Nat):Prop where
  len:rw'.length = sp.length
  ne:0 < sp.length
  at0:sp.getD 0 0 = (k:Int)∧rw'.getD 0 [] = roundsL n
  pts:∀ a,a < sp.length → RowN n (rw'.getD a [])∧Fx k (rw'.getD a [])∧(rw'.getD a []).getD k 0 = sp.getD a 0∧Cl n (fun y=>y ∈ G) (rw'.getD a [])
  whl:wh.length = n
  wh1:∀ a,a < sp.length → wh.getD (sp.getD a 0).toNat 0 = ((a + 1:Nat):Int)
  wh2:∀ q,q < n → wh.getD q 0 ≠ 0 → ∃ a,a < sp.length∧sp.getD a 0 = (q:Int)
  clo:∀ a b,(a < i ∨ (a = i∧b < j)) → a < sp.length → b < G.length → wh.getD ((G.getD b []).getD (sp.getD a 0).toNat 0).toNat 0 ≠ 0
section
variable {n k i j:Nat} {G:List (List Int)} {sp wh:List Int} {rw':List (List Int)}
theorem orb_start (hn:1 ≤ n∧n ≤ 12) (hk:k < n):Orb n k G [(k:Int)] [roundsL n] ((List.replicate n 0).set k 1) 0 0 where
  len:=rfl
  ne:=by simp
  at0:=⟨rfl,rfl⟩
  pts a ha:=by
    have:a = 0:=by simp at ha;omega
    subst this
    exact ⟨rounds_rowN hn,Fx.rounds (by omega),roundsL_get hk,.one⟩
  whl:=by simp
  wh1 a ha:=by
    have:a = 0:=by simp at ha;omega
    subst this
    show ((List.replicate n (0:Int)).set k 1).getD ((k:Int)).toNat 0 = _
    rw [Int.toNat_natCast]
    simp [hk]
  wh2 q hq h:=by
    by_cases e:k = q
    · exact ⟨0,by simp,by rw [e];rfl⟩
    · rw [List.getD_eq_getElem?_getD,List.getElem?_set_ne e] at h
      simp [hq] at h
  clo a b h:=by omega
theorem Orb.spb (h:Orb n k G sp rw' wh i j) (hk:k < n) {a:Nat} (ha:a < sp.length):0 ≤ sp.getD a 0∧sp.getD a 0 < n:=by
  obtain ⟨h1,_,h3,_⟩:=h.pts a ha
  have:=h1.at hk
  omega
theorem Orb.old (h:Orb n k G sp rw' wh i j) (ho:wh.getD ((G.getD j []).getD (sp.getD i 0).toNat 0).toNat 0 ≠ 0):Orb n k G sp rw' wh i (j + 1):=by
  refine ⟨h.len,h.ne,h.at0,h.pts,h.whl,h.wh1,h.wh2,fun a b hab h1 h2=>?_⟩
  by_cases e:a = i∧b = j
  · obtain ⟨rfl,rfl⟩:=e;exact ho
  · exact h.clo a b (by omega) h1 h2
theorem Orb.next (h:Orb n k G sp rw' wh i G.length):Orb n k G sp rw' wh (i + 1) 0 :=
  ⟨h.len,h.ne,h.at0,h.pts,h.whl,h.wh1,h.wh2,fun a b hab h1 h2=>h.clo a b (by omega) h1 h2⟩
theorem getD_app {α:Type} (d:α) {l:List α} {x:α} {a:Nat} (h:a < l.length):(l ++ [x]).getD a d = l.getD a d:=by
  rw [List.getD_eq_getElem?_getD,List.getElem?_append_left h,← List.getD_eq_getElem?_getD]
theorem getD_end {α:Type} (d:α) {l:List α} {x:α} {a:Nat} (h:a = l.length):(l ++ [x]).getD a d = x:=by
  subst h
  rw [List.getD_eq_getElem?_getD,List.getElem?_append_right (Nat.le_refl _),Nat.sub_self];rfl
theorem getD_setn {l:List Int} {a b:Nat} {x:Int} (h:a ≠ b):(l.set a x).getD b 0 = l.getD b 0:=by
  rw [List.getD_eq_getElem?_getD,List.getElem?_set_ne h,← List.getD_eq_getElem?_getD]
theorem getD_seta {l:List Int} {a:Nat} {x:Int} (h:a < l.length):(l.set a x).getD a 0 = x:=by simp [h]
theorem Orb.new (h:Orb n k G sp rw' wh i j) (hk:k < n) (hG:∀ x ∈ G,RowN n x∧Fx k x) (hi:i < sp.length) (hj:j < G.length) (ho:wh.getD ((G.getD j []).getD (sp.getD i 0).toNat 0).toNat 0 = 0) :
    Orb n k G (sp ++ [(G.getD j []).getD (sp.getD i 0).toNat 0]) (rw' ++ [byL (G.getD j []) (rw'.getD i [])]) (wh.set ((G.getD j []).getD (sp.getD i 0).toNat 0).toNat (((sp.length:Nat):Int) + 1)) i (j + 1):=by
  have hxm:G.getD j [] ∈ G:=mem_atD [] hj
  obtain ⟨hx1,hx2⟩:=hG _ hxm
  obtain ⟨hp1,hp2,hp3,hp4⟩:=h.pts i hi
  have hsb:=h.spb hk hi
  generalize hq:(G.getD j []).getD (sp.getD i 0).toNat 0 = q at ho ⊢
  have hqb:0 ≤ q∧q < n:=by rw [← hq];exact hx1.at (by omega)
  have hne:∀ a,a < sp.length → sp.getD a 0 ≠ q:=fun a ha e=>by
    have:=h.wh1 a ha
    rw [e,ho] at this;omega
  have hnt:∀ a,a < sp.length → q.toNat ≠ (sp.getD a 0).toNat:=fun a ha e=>hne a ha (by have:=h.spb hk ha;omega)
  have hw:q.toNat < wh.length:=by rw [h.whl];omega
  refine ⟨by simp [h.len],by simp,⟨?_,?_⟩,fun a ha=>?_,by rw [List.length_set,h.whl],fun a ha=>?_,fun p hp hw2=>?_,fun a b hab h1 h2=>?_⟩
  · rw [getD_app 0 h.ne];exact h.at0.1
  · rw [getD_app [] (by rw [h.len];exact h.ne)];exact h.at0.2
  · rw [List.length_append,List.length_singleton] at ha
    by_cases e:a = sp.length
    · rw [getD_end [] (by rw [h.len];exact e),getD_end 0 e]
      refine ⟨hx1.by hp1,Fx.by (by omega) hp1 hx2 hp2,?_,.mul hxm hp4⟩
      rw [by_at hp1 hk,hp3,hq]
    · rw [getD_app [] (by rw [h.len];omega),getD_app 0 (by omega)]
      exact h.pts a (by omega)
  · rw [List.length_append,List.length_singleton] at ha
    by_cases e:a = sp.length
    · rw [getD_end 0 e,getD_seta hw,e];omega
    · rw [getD_app 0 (by omega),getD_setn (hnt a (by omega))]
      exact h.wh1 a (by omega)
  · by_cases e:q.toNat = p
    · exact ⟨sp.length,by simp,by rw [getD_end 0 rfl];omega⟩
    · rw [getD_setn e] at hw2
      obtain ⟨a,h1,h2⟩:=h.wh2 p hp hw2
      exact ⟨a,by simp;omega,by rw [getD_app 0 h1];exact h2⟩
  · by_cases ea:a = sp.length
    · omega
    · rw [List.length_append,List.length_singleton] at h1
      rw [getD_app 0 (show a < sp.length by omega)]
      by_cases e:((G.getD b []).getD (sp.getD a 0).toNat 0).toNat = q.toNat
      · rw [e,getD_seta hw];omega
      · rw [getD_setn (Ne.symm e)]
        by_cases e2:a = i∧b = j
        · obtain ⟨rfl,rfl⟩:=e2
          rw [hq] at e;exact absurd rfl e
        · exact h.clo a b (by omega) (by omega) h2
theorem Orb.nodup (h:Orb n k G sp rw' wh i j):sp.Nodup:=by
  rw [List.nodup_iff_pairwise_ne,List.pairwise_iff_getElem]
  intro a b ha hb hab e
  have h1:=h.wh1 a ha
  have h2:=h.wh1 b hb
  rw [List.getD_eq_getElem?_getD,List.getD_eq_getElem?_getD,List.getElem?_eq_getElem ha] at h1
  rw [List.getD_eq_getElem?_getD,List.getD_eq_getElem?_getD,List.getElem?_eq_getElem hb] at h2
  simp only [Option.getD_some] at h1 h2
  rw [e,h2] at h1
  omega
theorem Orb.spl (h:Orb n k G sp rw' wh i j) (hk:k < n):sp.length ≤ n:=nodup_len n sp h.nodup fun x hx=>by
  obtain ⟨a,ha,ea⟩:=List.mem_iff_getElem.1 hx
  have:=h.spb hk ha
  rwa [List.getD_eq_getElem?_getD,List.getElem?_eq_getElem ha,ea] at this
end
end Go.KL
namespace Go.KL
section
open Classical
variable {n k i j:Nat} {G:List (List Int)} {sp wh:List Int} {rw' st:List (List Int)}
theorem count_mem {l:List Int} (hn:l.Nodup) (hb:∀ x ∈ l,0 ≤ x∧x < n):(List.range n).countP (fun (p:Nat)=>decide ((p:Int) ∈ l)) = l.length:=by
  rw [List.countP_eq_length_filter]
  have h1:(((List.range n).filter fun (p:Nat)=>decide ((p:Int) ∈ l)).map fun (p:Nat)=>(p:Int)).Perm l:=by
    refine (List.perm_ext_iff_of_nodup ?_ hn).2 fun x=>?_
    · refine List.Pairwise.map (R:=fun a b=>a ≠ b) _ (fun a b h e=>h (by omega)) ?_
      exact List.Pairwise.filter _ List.nodup_range
    · rw [List.mem_map]
      constructor
      · rintro ⟨p,hp,rfl⟩
        exact of_decide_eq_true (List.mem_filter.1 hp).2
      · intro hx
        have:=hb x hx
        have e:((x.toNat:Nat):Int) = x:=by omega
        exact ⟨x.toNat,List.mem_filter.2 ⟨List.mem_range.2 (by omega),decide_eq_true (by rw [e];exact hx)⟩,e⟩
  have:=h1.length_eq
  rwa [List.length_map] at this
theorem Orb.idx (h:Orb n k G sp rw' wh i j) {q:Nat} (hq:q < n) (hw:wh.getD q 0 ≠ 0):∃ a,a < sp.length∧sp.getD a 0 = (q:Int)∧wh.getD q 0 = ((a + 1:Nat):Int):=by
  obtain ⟨a,h1,h2⟩:=h.wh2 q hq hw
  have h3:=h.wh1 a h1
  rw [h2,Int.toNat_natCast] at h3
  exact ⟨a,h1,h2,h3⟩
theorem Orb.step (h:Orb n k G sp rw' wh sp.length j) (hk:k < n) (hG:∀ x ∈ G,RowN n x∧Fx k x) {a b:Nat} (ha:a < sp.length) (hb:b < G.length):∃ a',a' < sp.length∧(G.getD b []).getD (sp.getD a 0).toNat 0 = sp.getD a' 0∧wh.getD ((G.getD b []).getD (sp.getD a 0).toNat 0).toNat 0 = ((a' + 1:Nat):Int):=by
  have hx:=(hG _ (mem_atD [] hb)).1
  have hsb:=h.spb hk ha
  have hq:=hx.at (i:=(sp.getD a 0).toNat) (by omega)
  obtain ⟨a',h1,h2,h3⟩:=h.idx (q:=((G.getD b []).getD (sp.getD a 0).toNat 0).toNat) (by omega) (h.clo a b (.inl ha) ha hb)
  exact ⟨a',h1,by rw [h2];omega,h3⟩
theorem Orb.cl (h:Orb n k G sp rw' wh sp.length j) (hk:k < n) (hn:1 ≤ n∧n ≤ 12) (hG:∀ x ∈ G,RowN n x∧Fx k x) {r:List Int} (hr:Cl n (fun y=>y ∈ G) r):∀ a,a < sp.length → ∃ a',a' < sp.length∧r.getD (sp.getD a 0).toNat 0 = sp.getD a' 0:=by
  induction hr with
  | one =>
    intro a ha
    have:=h.spb hk ha
    exact ⟨a,ha,by rw [roundsL_get (by omega)];omega⟩
  | @mul x y hx hy ih =>
    intro a ha
    obtain ⟨a1,h1,h2⟩:=ih a ha
    obtain ⟨b,hb,eb⟩:=List.mem_iff_getElem.1 hx
    have hxe:G.getD b [] = x:=by rw [List.getD_eq_getElem?_getD,List.getElem?_eq_getElem hb,eb];rfl
    obtain ⟨a2,h3,h4,_⟩:=h.step hk hG h1 hb
    have hyr:=hy.row hn fun z hz=>(hG z hz).1
    have hsb:=h.spb hk ha
    refine ⟨a2,h3,?_⟩
    rw [by_at hyr (by omega),h2,← hxe,h4]
theorem Orb.sz (h:Orb n k G sp rw' wh sp.length j) (hk:k < n) (hn:1 ≤ n∧n ≤ 12) (hG:∀ x ∈ G,RowN n x∧Fx k x):sp.length = osz n (fun y=>y ∈ G) k:=by
  have hb:∀ x ∈ sp,0 ≤ x∧x < n:=fun x hx=>by
    obtain ⟨a,ha,ea⟩:=List.mem_iff_getElem.1 hx
    have:=h.spb hk ha
    rwa [List.getD_eq_getElem?_getD,List.getElem?_eq_getElem ha,ea] at this
  rw [← count_mem (n:=n) h.nodup hb]
  unfold osz
  congr 1
  funext p
  apply decide_eq_decide.2
  constructor
  · intro hp
    obtain ⟨a,ha,ea⟩:=List.mem_iff_getElem.1 hp
    obtain ⟨h1,h2,h3,h4⟩:=h.pts a ha
    exact ⟨_,h4,h2,by rw [h3,List.getD_eq_getElem?_getD,List.getElem?_eq_getElem ha,ea];rfl⟩
  · rintro ⟨r,h1,h2,h3⟩
    obtain ⟨a',h4,h5⟩:=h.cl hk hn hG h1 0 h.ne
    rw [h.at0.1,Int.toNat_natCast,h3] at h5
    rw [h5]
    exact mem_at h4 rfl
def stl (k:Nat) (G:List (List Int)) (rw':List (List Int)) (wh:List Int) (a b:Nat):List Int :=
  byL (undoL (rw'.getD ((wh.getD ((byL (G.getD b []) (rw'.getD a [])).getD k 0).toNat 0) - 1).toNat [])) (byL (G.getD b []) (rw'.getD a []))
structure Stl (k:Nat) (G:List (List Int)) (rw':List (List Int)) (wh:List Int) (N i j:Nat) (st:List (List Int)):Prop where
  all:∀ y ∈ st,∃ a b,a < N∧b < G.length∧y = stl k G rw' wh a b
  has:∀ a b,(a < i ∨ (a = i∧b < j)) → a < N → b < G.length → stl k G rw' wh a b ∈ st
  len:st.length = i * G.length + j
theorem Stl.start {N:Nat}:Stl k G rw' wh N 0 0 []:=⟨fun y hy=>(by cases hy),fun a b h=>by omega,by simp⟩
theorem Stl.step {N:Nat} (h:Stl k G rw' wh N i j st) (hi:i < N) (hj:j < G.length):Stl k G rw' wh N i (j + 1) (st ++ [stl k G rw' wh i j]):=by
  refine ⟨fun y hy=>?_,fun a b hab h1 h2=>?_,by rw [List.length_append,List.length_singleton,h.len];omega⟩
  · rcases List.mem_append.1 hy with h3 | h3
    · exact h.all y h3
    · exact ⟨i,j,hi,hj,List.mem_singleton.1 h3⟩
  · by_cases e:a = i∧b = j
    · obtain ⟨rfl,rfl⟩:=e;simp
    · exact List.mem_append.2 (.inl (h.has a b (by omega) h1 h2))
theorem Stl.next {N:Nat} (h:Stl k G rw' wh N i G.length st):Stl k G rw' wh N (i + 1) 0 st:=⟨h.all,fun a b hab h1 h2=>h.has a b (by omega) h1 h2,by rw [h.len,Nat.succ_mul];omega⟩
theorem Orb.genr (h:Orb n k G sp rw' wh sp.length j) (hk:k < n) (hn:1 ≤ n∧n ≤ 12) (hG:∀ x ∈ G,RowN n x∧Fx k x) {a b:Nat} (ha:a < sp.length) (hb:b < G.length) :
    ∃ a',a' < sp.length∧(G.getD b []).getD (sp.getD a 0).toNat 0 = sp.getD a' 0∧(wh.getD ((byL (G.getD b []) (rw'.getD a [])).getD k 0).toNat 0) = ((a' + 1:Nat):Int)∧stl k G rw' wh a b = byL (undoL (rw'.getD a' [])) (byL (G.getD b []) (rw'.getD a []))∧RowN n (stl k G rw' wh a b)∧Fx (k + 1) (stl k G rw' wh a b)∧Cl n (fun y=>y ∈ G) (stl k G rw' wh a b):=by
  have hxm:=mem_atD (d:=([]:List Int)) hb
  obtain ⟨hx1,hx2⟩:=hG _ hxm
  obtain ⟨hp1,hp2,hp3,hp4⟩:=h.pts a ha
  obtain ⟨a',h1,h2,h3⟩:=h.step hk hG ha hb
  obtain ⟨hq1,hq2,hq3,hq4⟩:=h.pts a' h1
  have hGr:∀ z,z ∈ G → RowN n z:=fun z hz=>(hG z hz).1
  have ek:(byL (G.getD b []) (rw'.getD a [])).getD k 0 = (G.getD b []).getD (sp.getD a 0).toNat 0:=by rw [by_at hp1 hk,hp3]
  have ew:(wh.getD ((byL (G.getD b []) (rw'.getD a [])).getD k 0).toNat 0) = ((a' + 1:Nat):Int):=by rw [ek,h3]
  have es:stl k G rw' wh a b = byL (undoL (rw'.getD a' [])) (byL (G.getD b []) (rw'.getD a [])):=by
    unfold stl
    rw [ew,show (((a' + 1:Nat):Int) - 1).toNat = a' by omega]
  obtain ⟨g1,g2⟩:=rest_row hk (hx1.by hp1) (Fx.by (by omega) hp1 hx2 hp2) hq1 hq2 (by rw [hq3,ek,h2])
  refine ⟨a',h1,h2,ew,es,by rw [es];exact g1,by rw [es];exact g2,?_⟩
  rw [es]
  exact (hq4.undo hn hGr).prod hn hGr ((Cl.gen hGr hxm).prod hn hGr hp4)
theorem Orb.still (h:Orb n k G sp rw' wh sp.length j) (hk:k < n) (hn:1 ≤ n∧n ≤ 12) (hG:∀ x ∈ G,RowN n x∧Fx k x) (hs:Stl k G rw' wh sp.length sp.length 0 st) :
    (∀ y ∈ st,RowN n y∧Fx (k + 1) y)∧∀ x,Cl n (fun y=>y ∈ st) x ↔ (Cl n (fun y=>y ∈ G) x∧Fx (k + 1) x):=by
  have hGr:∀ z,z ∈ G → RowN n z:=fun z hz=>(hG z hz).1
  have hst:∀ y ∈ st,RowN n y∧Fx (k + 1) y∧Cl n (fun z=>z ∈ G) y:=fun y hy=>by
    obtain ⟨a,b,ha,hb,rfl⟩:=hs.all y hy
    obtain ⟨_,_,_,_,_,h1,h2,h3⟩:=h.genr hk hn hG ha hb
    exact ⟨h1,h2,h3⟩
  refine ⟨fun y hy=>⟨(hst y hy).1,(hst y hy).2.1⟩,fun x=>⟨fun hx=>⟨hx.sub hn hGr fun y hy=>(hst y hy).2.2,Fx.cl hn (by omega) (fun y hy=>(hst y hy).1) (fun y hy=>(hst y hy).2.1) hx⟩,?_⟩⟩
  rintro ⟨hx,hf⟩
  have key:∀ a,a < sp.length → ∃ a',a' < sp.length∧x.getD (sp.getD a 0).toNat 0 = sp.getD a' 0∧Cl n (fun y=>y ∈ st) (byL (undoL (rw'.getD a' [])) (byL x (rw'.getD a []))):=by
    clear hf
    induction hx with
    | one =>
      intro a ha
      obtain ⟨hp1,_,_,_⟩:=h.pts a ha
      have:=h.spb hk ha
      exact ⟨a,ha,by rw [roundsL_get (by omega)];omega,by rw [byL_rounds_left hp1.bd,undo_left hp1];exact .one⟩
    | @mul x y hx hy ih =>
      intro a ha
      obtain ⟨a1,h1,h2,h3⟩:=ih a ha
      obtain ⟨b,hb,eb⟩:=List.mem_iff_getElem.1 hx
      have hxe:G.getD b [] = x:=by rw [List.getD_eq_getElem?_getD,List.getElem?_eq_getElem hb,eb];rfl
      obtain ⟨a2,h4,h5,_,h6,_,_,_⟩:=h.genr hk hn hG h1 hb
      have hm:=hs.has a1 b (.inl h1) h1 hb
      have hyr:=hy.row hn hGr
      have hxr:=hGr x hx
      have hsb:=h.spb hk ha
      obtain ⟨hp1,_,_,_⟩:=h.pts a ha
      obtain ⟨hq1,_,_,_⟩:=h.pts a1 h1
      obtain ⟨hz1,_,_,_⟩:=h.pts a2 h4
      refine ⟨a2,h4,by rw [by_at hyr (by omega),h2,← hxe,h5],?_⟩
      have e:byL (undoL (rw'.getD a2 [])) (byL (byL x y) (rw'.getD a [])) = byL (stl k G rw' wh a1 b) (byL (undoL (rw'.getD a1 [])) (byL y (rw'.getD a []))):=by
        rw [h6,hxe]
        have hyt:=hyr.by hp1
        rw [← by_as (undoL (rw'.getD a2 [])) (hxr.by hq1) (hq1.undo.by hyt),← by_as x hq1 (hq1.undo.by hyt),back_row hyt hq1,by_as x hyr hp1]
      rw [e]
      exact .mul hm h3
  obtain ⟨a',h1,h2,h3⟩:=key 0 h.ne
  have h0:=h.at0
  rw [h0.1,Int.toNat_natCast,hf k (by omega)] at h2
  have h4:=h.wh1 0 h.ne
  have h5:=h.wh1 a' h1
  rw [h0.1] at h4
  rw [← h2,h4] at h5
  have:a' = 0:=by omega
  subst this
  rw [h0.2,undo_rounds hn] at h3
  have hxr:=hx.row hn hGr
  rwa [byL_rounds_right hxr.len,byL_rounds_left hxr.bd] at h3
end
def tbl (T:List (List Int)):List Int → Prop:=fun y=>y ∈ T∧y ≠ []
structure Thin (n from':Nat) (l:List (List Int)) (T:List (List Int)) (i:Nat):Prop where
  len:T.length = n * n
  at_:∀ b q,b < n → q < n → T.getD (b * n + q) [] ≠ [] → RowN n (T.getD (b * n + q) [])∧Fx b (T.getD (b * n + q) [])∧(T.getD (b * n + q) []).getD b 0 = (q:Int)∧from' ≤ b
  cl:∀ x,Cl n (tbl T) x ↔ Cl n (fun y=>y ∈ l.take i) x
structure ThinR (n from':Nat) (l:List (List Int)) (T:List (List Int)) (i b:Nat) (r:List Int):Prop where
  len:T.length = n * n
  at_:∀ b q,b < n → q < n → T.getD (b * n + q) [] ≠ [] → RowN n (T.getD (b * n + q) [])∧Fx b (T.getD (b * n + q) [])∧(T.getD (b * n + q) []).getD b 0 = (q:Int)∧from' ≤ b
  fb:from' ≤ b∧b ≤ n
  row:RowN n r
  fx:Fx b r
  cl:∀ x,Cl n (fun y=>tbl T y ∨ y = r) x ↔ Cl n (fun y=>y ∈ l.take (i + 1)) x
section
variable {n from' i b:Nat} {l T:List (List Int)} {r:List Int}
theorem two_idx {n k:Nat} (hk:k < n * n):k = (k / n) * n + k % n∧k / n < n∧k % n < n:=by
  have hn:0 < n:=by
    rcases Nat.eq_zero_or_pos n with h | h
    · subst h;simp at hk
    · exact h
  refine ⟨?_,Nat.div_lt_of_lt_mul hk,Nat.mod_lt _ hn⟩
  have:=Nat.div_add_mod k n
  rw [Nat.mul_comm] at this;omega
theorem tbl_row (hl:T.length = n * n) (ha:∀ b q,b < n → q < n → T.getD (b * n + q) [] ≠ [] → RowN n (T.getD (b * n + q) [])∧Fx b (T.getD (b * n + q) [])∧(T.getD (b * n + q) []).getD b 0 = (q:Int)∧from' ≤ b):∀ y,tbl T y → RowN n y∧Fx from' y:=fun y hy=>by
  obtain ⟨k,hk,ek⟩:=List.mem_iff_getElem.1 hy.1
  have e:T.getD k [] = y:=by rw [List.getD_eq_getElem?_getD,List.getElem?_eq_getElem hk,ek];rfl
  obtain ⟨h1,h2,h3⟩:=two_idx (n:=n) (k:=k) (by omega)
  have:=ha (k / n) (k % n) h2 h3 (by rw [← h1,e];exact hy.2)
  rw [← h1,e] at this
  exact ⟨this.1,this.2.1.le this.2.2.2⟩
theorem cl_add {S:List Int → Prop} {x y r:List Int} (hn:1 ≤ n∧n ≤ 12) (hS:∀ x,S x → RowN n x) (hr:RowN n r) (hx:Cl n S x):Cl n (fun y=>S y ∨ y = r) x :=
  hx.sub hn (fun y hy=>by rcases hy with hy | rfl;exact hS y hy;exact hr) fun y hy=>Cl.gen (fun y hy=>by rcases hy with hy | rfl;exact hS y hy;exact hr) (.inl hy)
theorem Thin.start:Thin n from' l (List.replicate (n * n) []) 0:=by
  have h0:∀ k,(List.replicate (n * n) ([]:List Int)).getD k [] = []:=fun k=>by
    rw [List.getD_eq_getElem?_getD,List.getElem?_replicate];split <;> rfl
  refine ⟨by simp,fun b q _ _ h=>absurd (h0 _) h,fun x=>?_⟩
  have e:tbl (List.replicate (n * n) []) = fun y=>y ∈ l.take 0:=by
    funext y
    apply propext
    constructor
    · rintro ⟨h1,h2⟩;exact absurd (List.eq_of_mem_replicate h1) h2
    · intro h;simp at h
  rw [e]
theorem Thin.row (hn:1 ≤ n∧n ≤ 12) (h:Thin n from' l T i) (hi:i < l.length) (hf:from' ≤ n) (hl:∀ x ∈ l,RowN n x∧Fx from' x):ThinR n from' l T i from' (l.getD i []):=by
  obtain ⟨h1,h2⟩:=hl _ (mem_atD [] hi)
  refine ⟨h.len,h.at_,⟨Nat.le_refl _,hf⟩,h1,h2,fun x=>?_⟩
  have hT:=fun y hy=>(tbl_row h.len h.at_ y hy).1
  have hS:∀ y,(tbl T y ∨ y = l.getD i []) → RowN n y:=fun y hy=>by
    rcases hy with hy | rfl
    · exact hT y hy
    · exact h1
  have ht:∀ y,y ∈ l.take (i + 1) → RowN n y:=fun y hy=>(hl y (List.mem_of_mem_take hy)).1
  have ht0:∀ y,y ∈ l.take i → RowN n y:=fun y hy=>(hl y (List.mem_of_mem_take hy)).1
  constructor
  · intro hx
    refine hx.sub hn ht fun y hy=>?_
    rcases hy with hy | rfl
    · exact ((h.cl y).1 (Cl.gen hT hy)).sub hn ht fun z hz=>Cl.gen ht (by rw [take_snoc l [] i hi];exact List.mem_append.2 (.inl hz))
    · exact Cl.gen ht (by rw [take_snoc l [] i hi];simp)
  · intro hx
    refine hx.sub hn hS fun y hy=>?_
    rw [take_snoc l [] i hi] at hy
    rcases List.mem_append.1 hy with h3 | h3
    · exact cl_add (y:=y) hn hT h1 ((h.cl y).2 (Cl.gen ht0 h3))
    · exact Cl.gen hS (.inr (List.mem_singleton.1 h3))
theorem ThinR.skip (h:ThinR n from' l T i b r) (hb:b < n) (e:r.getD b 0 = (b:Int)):ThinR n from' l T i (b + 1) r :=
  ⟨h.len,h.at_,⟨by have:=h.fb;omega,hb⟩,h.row,fun a ha=>by
    by_cases e2:a = b
    · subst e2;exact e
    · exact h.fx a (by omega),h.cl⟩
theorem ThinR.key (h:ThinR n from' l T i b r) (hb:b < n):0 ≤ r.getD b 0∧r.getD b 0 < n∧b * n + (r.getD b 0).toNat < n * n:=by
  have h1:=h.row.at hb
  have h2:(b + 1) * n ≤ n * n:=Nat.mul_le_mul_right _ hb
  rw [Nat.succ_mul] at h2
  exact ⟨h1.1,h1.2,by omega⟩
theorem ThinR.divide (hn:1 ≤ n∧n ≤ 12) (h:ThinR n from' l T i b r) (hb:b < n) (ht:T.getD (b * n + (r.getD b 0).toNat) [] ≠ []) :
    IsRow (T.getD (b * n + (r.getD b 0).toNat) [])∧(∀ a,a < r.length → 0 ≤ r.getD a 0∧r.getD a 0 < (undoL (T.getD (b * n + (r.getD b 0).toNat) [])).length) ∧
    ThinR n from' l T i b (byL (undoL (T.getD (b * n + (r.getD b 0).toNat) [])) r)∧(byL (undoL (T.getD (b * n + (r.getD b 0).toNat) [])) r).getD b 0 = (b:Int):=by
  have hk:=h.key hb
  obtain ⟨t1,t2,t3,t4⟩:=h.at_ b (r.getD b 0).toNat hb (by omega) ht
  have hkm:b * n + (r.getD b 0).toNat < T.length:=by rw [h.len];exact hk.2.2
  have htb:tbl T (T.getD (b * n + (r.getD b 0).toNat) []):=⟨mem_atD [] hkm,ht⟩
  generalize T.getD (b * n + (r.getD b 0).toNat) [] = t at t1 t2 t3 t4 htb ⊢
  have hT:=fun y hy=>(tbl_row h.len h.at_ y hy).1
  have hrr:=h.row
  obtain ⟨g1,g2⟩:=rest_row hb h.row h.fx t1 t2 (by rw [t3];omega)
  have hS:∀ y,(tbl T y ∨ y = r) → RowN n y:=fun y hy=>by
    rcases hy with hy | rfl
    · exact hT y hy
    · exact hrr
  have hS2:∀ y,(tbl T y ∨ y = byL (undoL t) r) → RowN n y:=fun y hy=>by
    rcases hy with hy | rfl
    · exact hT y hy
    · exact g1
  refine ⟨t1.row,fun a ha=>by rw [h.row.len] at ha;rw [t1.undo.len];exact h.row.at ha,⟨h.len,h.at_,h.fb,g1,g2.le (by omega),fun x=>?_⟩,g2 b (by omega)⟩
  rw [← h.cl x]
  constructor
  · intro hx
    refine hx.sub hn hS fun y hy=>?_
    rcases hy with hy | rfl
    · exact Cl.gen hS (.inl hy)
    · exact ((Cl.gen hS (.inl htb)).undo hn hS).prod hn hS (Cl.gen hS (.inr rfl))
  · intro hx
    refine hx.sub hn hS2 fun y hy=>?_
    rcases hy with hy | rfl
    · exact Cl.gen hS2 (.inl hy)
    · have:=(Cl.gen hS2 (.inl htb)).prod hn hS2 (Cl.gen hS2 (.inr rfl))
      rwa [back_row hrr t1] at this
theorem mem_set_iff {T:List (List Int)} {k:Nat} (hk:k < T.length) (h0:T.getD k [] = []) {r y:List Int} (hr:r ≠ []):tbl (T.set k r) y ↔ (tbl T y ∨ y = r):=by
  constructor
  · rintro ⟨h1,h2⟩
    rcases List.mem_or_eq_of_mem_set h1 with h3 | h3
    · exact .inl ⟨h3,h2⟩
    · exact .inr h3
  · rintro (⟨h1,h2⟩ | rfl)
    · refine ⟨?_,h2⟩
      obtain ⟨a,ha,ea⟩:=List.mem_iff_getElem.1 h1
      have hne:k ≠ a:=by
        rintro rfl
        rw [List.getD_eq_getElem?_getD,List.getElem?_eq_getElem ha,ea] at h0
        exact h2 h0
      refine List.mem_iff_getElem?.2 ⟨a,?_⟩
      rw [List.getElem?_set_ne hne,List.getElem?_eq_getElem ha,ea]
    · exact ⟨List.mem_iff_getElem?.2 ⟨k,by rw [List.getElem?_set_self hk]⟩,hr⟩
theorem ThinR.lay (h:ThinR n from' l T i b r) (hb:b < n) (ht:T.getD (b * n + (r.getD b 0).toNat) [] = []):Thin n from' l (T.set (b * n + (r.getD b 0).toNat) r) (i + 1):=by
  have hk:=h.key hb
  have hkm:b * n + (r.getD b 0).toNat < T.length:=by rw [h.len];exact hk.2.2
  have hrn:r ≠ []:=fun e=>by have h1:=h.row.len;have h2:=h.row.nn;rw [e] at h1;simp at h1;omega
  refine ⟨by rw [List.length_set];exact h.len,fun b' q hb' hq hne=>?_,fun x=>?_⟩
  · by_cases e:b * n + (r.getD b 0).toNat = b' * n + q
    · have hbb:b = b':=by
        have h1:(b * n + (r.getD b 0).toNat) / n = b:=by rw [Nat.mul_comm,Nat.mul_add_div (by omega),Nat.div_eq_of_lt (by omega),Nat.add_zero]
        have h2:(b' * n + q) / n = b':=by rw [Nat.mul_comm,Nat.mul_add_div (by omega),Nat.div_eq_of_lt hq,Nat.add_zero]
        rw [← h1,e,h2]
      subst hbb
      have hqq:(r.getD b 0).toNat = q:=by omega
      rw [← e]
      have e2:(T.set (b * n + (r.getD b 0).toNat) r).getD (b * n + (r.getD b 0).toNat) [] = r:=by rw [List.getD_eq_getElem?_getD,List.getElem?_set_self hkm];rfl
      rw [e2]
      exact ⟨h.row,h.fx,by omega,h.fb.1⟩
    · have e2:(T.set (b * n + (r.getD b 0).toNat) r).getD (b' * n + q) [] = T.getD (b' * n + q) []:=by
        rw [List.getD_eq_getElem?_getD,List.getElem?_set_ne e,← List.getD_eq_getElem?_getD]
      rw [e2] at hne ⊢
      exact h.at_ b' q hb' hq hne
  · rw [← h.cl x]
    rw [show tbl (T.set (b * n + (r.getD b 0).toNat) r) = fun y=>tbl T y ∨ y = r from funext fun y=>propext (mem_set_iff hkm ht hrn)]
theorem ThinR.gone (hn:1 ≤ n∧n ≤ 12) (h:ThinR n from' l T i n r):Thin n from' l T (i + 1):=by
  have e:=Fx.all h.row h.fx
  have hT:=fun y hy=>(tbl_row h.len h.at_ y hy).1
  refine ⟨h.len,h.at_,fun x=>?_⟩
  rw [← h.cl x]
  constructor
  · exact fun hx=>cl_add (y:=x) hn hT h.row hx
  · intro hx
    refine hx.sub hn hT fun y hy=>?_
    rcases hy with hy | rfl
    · exact Cl.gen hT hy
    · rw [e];exact .one
def outT (T:List (List Int)) (k:Nat):List (List Int):=(T.take k).filter fun y=>decide (y ≠ [])
theorem outT_yes {k:Nat} (hk:k < T.length) (h:T.getD k [] ≠ []):outT T (k + 1) = outT T k ++ [T.getD k []]:=by
  unfold outT;rw [take_snoc T [] k hk,List.filter_append];congr 1;exact List.filter_eq_self.2 (fun y hy=>by rw [List.mem_singleton.1 hy];exact decide_eq_true h)
theorem outT_no {k:Nat} (hk:k < T.length) (h:T.getD k [] = []):outT T (k + 1) = outT T k:=by
  unfold outT;rw [take_snoc T [] k hk,List.filter_append,h];simp
theorem outT_le (T:List (List Int)) (k:Nat):(outT T k).length ≤ k:=Nat.le_trans (List.length_filter_le _ _) (List.length_take_le _ _)
theorem outT_all:(fun y=>y ∈ outT T T.length) = tbl T:=by
  funext y
  unfold outT tbl
  rw [List.take_length]
  simp
theorem Thin.done (h:Thin n from' l T l.length) (hl:∀ x ∈ l,RowN n x∧Fx from' x):(∀ y ∈ outT T (n * n),RowN n y∧Fx from' y)∧(∀ x,Cl n (fun y=>y ∈ outT T (n * n)) x ↔ Cl n (fun y=>y ∈ l) x)∧(outT T (n * n)).length ≤ n * n:=by
  rw [← h.len]
  refine ⟨fun y hy=>?_,fun x=>?_,outT_le _ _⟩
  · have:tbl T y:=by rw [← outT_all];exact hy
    exact tbl_row h.len h.at_ y this
  · rw [outT_all,h.cl x,List.take_length]
end
structure SzI (n:Nat) (gens0:List (List Int)) (k:Nat) (G:List (List Int)):Prop where
  rows:∀ x ∈ G,RowN n x∧Fx k x
  cl:∀ x,Cl n (fun y=>y ∈ G) x ↔ (Cl n (fun y=>y ∈ gens0) x∧Fx k x)
  len:G.length ≤ 1000
section
variable {n k j:Nat} {gens0 G out st:List (List Int)} {sp wh:List Int} {rw':List (List Int)}
theorem SzI.start (h:∀ x ∈ gens0,RowN n x) (hl:gens0.length ≤ 1000):SzI n gens0 0 gens0:=⟨fun x hx=>⟨h x hx,fun i hi=>by omega⟩,fun x=>⟨fun hx=>⟨hx,fun i hi=>by omega⟩,fun hx=>hx.1⟩,hl⟩
theorem SzI.sz (h:SzI n gens0 k G):osz n (fun y=>y ∈ G) k = osz n (fun y=>y ∈ gens0) k:=osz_congr fun r hr=>by rw [h.cl r];exact ⟨fun h=>h.1,fun h=>⟨h,hr⟩⟩
theorem SzI.step (h:SzI n gens0 k G) (hst:∀ x,Cl n (fun y=>y ∈ st) x ↔ (Cl n (fun y=>y ∈ G) x∧Fx (k + 1) x)) (ho1:∀ y ∈ out,RowN n y∧Fx (k + 1) y) (ho2:∀ x,Cl n (fun y=>y ∈ out) x ↔ Cl n (fun y=>y ∈ st) x) (ho3:out.length ≤ 1000):SzI n gens0 (k + 1) out :=
  ⟨ho1,fun x=>by
    rw [ho2,hst,h.cl]
    exact ⟨fun h=>⟨h.1.1,h.2⟩,fun h=>⟨⟨h.1,h.2.le (by omega)⟩,h.2⟩⟩,ho3⟩
end
end Go.KL
namespace Go.KL
open Go.RowKit
variable {P:Program}
variable {d:Option Tmp} {ty:TypeId} {pos:String} {af:Array Edge} {g:Option (Nat × Bool)} {a:Act} {σ:GW}
theorem y_slnil {x y:Operand} {t u:TypeId} {e':TypeId} {c n:Nat} {ts:List Ty} (ht:P.underlying t = some (.slice e')) (h:At (.sl c n ts) σ a x) (hn:ts ≠ []) (hy:a.eval y = .slice none 0 0) :
    Yld P ⟨d,.binOp .eql t x y u,ty,pos,af,g⟩ a σ (Ty.bool false).pr:=by
  obtain ⟨ad,cap,b,o,e1,_,_,hs,_⟩:=h
  obtain ⟨rfl,_⟩:=hs.resolve_left hn
  refine Yld.of_run (v:=.bool false) ?_ rfl
  simp only [execOp,e1,hy]
  have h1:=Go.Lib.run_eql_slice_nil (P:=P) σ.w t e' (some ⟨b,o,none⟩) n cap 0 0 ht
  simp [eqGuard,run_underlying ht,h1]
end Go.KL
namespace Go.KL
variable {P:Program}
section
variable {fn:Func} {σ0:GW} {L:List Nat} {R:Value → GW → Prop} {E:List PanicEntry → Prop} {a:Act} {w:World} {N:Nat}
end
variable {d:Option Tmp} {ty:TypeId} {pos:String} {af:Array Edge} {g:Option (Nat × Bool)} {a:Act} {σ:GW}
end Go.KL
namespace Go.KL
variable {P:Program} {d:Option Tmp} {ty:TypeId} {pos:String} {af:Array Edge} {g:Option (Nat × Bool)} {a:Act} {σ:GW}
theorem wanted_at {N:Nat} {D:List Deferred} {ops:Array Oper} {o:Oper} {j s:Nat} {want c:Bool} (ok:Ok N D a) (hg:o.guard = some (j,want)) (hd:dstOf ops j = some s) (hN:s < N) (h:At (.bool c) σ a (.tmp s)):Region.wanted o (yielded ops a.tmps) = (c == want):=by
  simp only [Region.wanted,hg,yielded_at ok hd hN h]
  cases c <;> cases want <;> rfl
theorem tailSkip {N:Nat} {D:List Deferred} {ops:Array Oper} {Q:Exit → Act → World → Prop} {o:Oper} {rest:List Oper} {j s e:Nat} {want c:Bool} (ok:Ok N D a) (hg:o.guard = some (j,want)) (hd:dstOf ops j = some s) (hN:s < N) (h:At (.bool c) σ a (.tmp s)) (hc:(c == want) = false) (he:o.dst = some e) (heN:e < N)
    (k:∀ a',Ok N D a' → At (Ty.val undef) σ a' (.tmp e) → (∀ t,t ≠ e → a'.eval (.tmp t) = a.eval (.tmp t)) → wpList P ops Q rest a' σ.w):wpList P ops Q (o :: rest) a σ.w:=by
  refine wpList_step fun K hK=>?_
  rw [wanted_at ok hg hd hN h,hc,if_neg (by simp),he]
  exact hK _ _ (k _ (ok.put _ _) (eval_put_same ok heN _) fun t ht=>eval_put_ne (by simpa using Ne.symm ht) _)
theorem tailDo {L:List Nat} {N:Nat} {D:List Deferred} {ops:Array Oper} {Q:Exit → Act → World → Prop} {o:Oper} {rest:List Oper} {R:Value → GW → Prop} {j s e:Nat} {want c:Bool} (ok:Ok N D a) (hg:o.guard = some (j,want)) (hd:dstOf ops j = some s) (hN:s < N) (h:At (.bool c) σ a (.tmp s)) (hc:(c == want) = true) (he:o.dst = some e) (heN:e < N) (hy:YldL L P o a σ R)
    (k:∀ a' τ,StpL L σ τ → Ok N D a' → R (a'.eval (.tmp e)) τ → (∀ t,t ≠ e → a'.eval (.tmp t) = a.eval (.tmp t)) → wpList P ops Q rest a' τ.w):wpList P ops Q (o :: rest) a σ.w:=by
  refine wpList_step fun K hK=>?_
  rw [wanted_at ok hg hd hN h,hc,if_pos rfl]
  refine hy K Q fun v τ hs hr=>hK _ _ ?_
  rw [he]
  exact k _ τ hs (ok.put _ _) (by rw [eval_put_same ok heN];exact hr) fun t ht=>eval_put_ne (by simpa using Ne.symm ht) v
theorem tD {N:Nat} {D:List Deferred} {ops:Array Oper} {Q:Exit → Act → World → Prop} {o:Oper} {rest:List Oper} {T:Ty} {j s e:Nat} {want c:Bool} (ok:Ok N D a) (h:At (.bool c) σ a (.tmp s)) (hy:Yld P o a σ T.pr)
    (k:∀ a' τ,StpL [] σ τ → Ok N D a' → At T τ a' (.tmp e) → (∀ t,t ≠ e → a'.eval (.tmp t) = a.eval (.tmp t)) → wpList P ops Q rest a' τ.w) (hg:o.guard = some (j,want):=by rfl) (hd:dstOf ops j = some s:=by rfl) (hc:(c == want) = true:=by rfl) (he:o.dst = some e:=by rfl) (hN:s < N:=by decide) (heN:e < N:=by decide):wpList P ops Q (o :: rest) a σ.w:=tailDo ok hg hd hN h hc he heN hy.toL k
theorem y_pickT {c x y:Operand} {T:Ty} (hc:At (.bool true) σ a c) (hx:At T σ a x):Yld P ⟨d,.pick c x y,ty,pos,af,g⟩ a σ T.pr:=by
  refine Yld.of_run (v:=a.eval x) ?_ hx
  have h1:a.eval c = .bool true:=hc
  simp only [execOp,h1];simp [go_sem]
theorem y_pickF {c x y:Operand} {T:Ty} (hc:At (.bool false) σ a c) (hy:At T σ a y):Yld P ⟨d,.pick c x y,ty,pos,af,g⟩ a σ T.pr:=by
  refine Yld.of_run (v:=a.eval y) ?_ hy
  have h1:a.eval c = .bool false:=hc
  simp only [execOp,h1];simp [go_sem]
def Ty.nilb {α:Type} (xs:List α):Ty:=⟨fun _ u=>∃ b,u = .bool b∧(b = true → xs = []),fun _ h=>h⟩
theorem cond_nb {α:Type} {xs:List α} {c:Operand} {x y:Code} {Q:Exit → Act → World → Prop} (h:At (Ty.nilb xs) σ a c) (ht:xs = [] → x.wp P Q a σ.w) (hf:y.wp P Q a σ.w):(Code.cond c x y).wp P Q a σ.w:=by
  obtain ⟨b,e,hb⟩:=h
  exact wp_cond_split (t:=b) e (fun h=>ht (hb h)) (fun _=>hf)
theorem y_slnb {α:Type} {f:α → Ty} {xs:List α} {x y:Operand} {t u:TypeId} {e':TypeId} (ht:P.underlying t = some (.slice e')) (h:At (.lst f xs) σ a x) (hy:a.eval y = .slice none 0 0) :
    Yld P ⟨d,.binOp .eql t x y u,ty,pos,af,g⟩ a σ (Ty.nilb xs).pr:=by
  obtain ⟨ad,cap,b,o,e1,_,_,hs,_⟩:=h
  have h1:=Go.Lib.run_eql_slice_nil (P:=P) σ.w t e' ad xs.length cap 0 0 ht
  refine Yld.of_run (v:=.bool ad.isNone) ?_ ⟨_,rfl,fun hb=>?_⟩
  · simp only [execOp,e1,hy]
    cases ad <;> simp_all [eqGuard,run_underlying ht]
  · rcases hs with hs | ⟨rfl,_⟩
    · simpa using hs
    · cases hb
end Go.KL
namespace Go.KL
def Ty.rowz (xs:List Int):Ty where
  has σ v:=(xs = []∧v = .slice none 0 0) ∨ (xs ≠ []∧(Ty.ints xs).has σ v)
  up h:=by
    rintro (⟨e,hv⟩ | ⟨e,hv⟩)
    · exact .inl ⟨e,hv⟩
    · exact .inr ⟨e,(Ty.ints xs).up h hv⟩
def mzB (q:List Int) (b:Nat):Nat:=if q.getD b 0 = (b:Int) then 0 else 1
theorem mzB_le (q:List Int) (b:Nat):mzB q b ≤ 1:=by unfold mzB;split <;> omega
theorem mzB_0 {q:List Int} {b:Nat} (h:q.getD b 0 = (b:Int)):mzB q b = 0:=if_pos h
theorem mzB_1 {q:List Int} {b:Nat} (h:¬ q.getD b 0 = (b:Int)):mzB q b = 1:=if_neg h
section
variable {σ:GW} {xs:List Int} {v:Value}
theorem rowz_nil:(Ty.rowz []).has σ (.slice none 0 0):=.inl ⟨rfl,rfl⟩
theorem rowz_of (h:(Ty.ints xs).has σ v) (hx:xs ≠ []):(Ty.rowz xs).has σ v:=.inr ⟨hx,h⟩
theorem rowz_ints (h:(Ty.rowz xs).has σ v):(Ty.ints xs).has σ v:=by
  rcases h with ⟨rfl,rfl⟩ | ⟨_,h⟩
  · exact sl_nil
  · exact h
theorem one_rowz:One (Ty.rowz xs):=fun σ v h=>by
  rcases h with ⟨_,rfl⟩ | ⟨_,h⟩
  · rfl
  · exact one_sl _ _ h
variable {P:Program} {d:Option Tmp} {ty:TypeId} {pos:String} {af:Array Edge} {g:Option (Nat × Bool)} {a:Act} {x y:Operand} {t u:TypeId} {e':TypeId}
theorem rowz_val (h:(Ty.rowz xs).has σ v):∃ ad c,v = .slice ad xs.length c∧ad.isNone = decide (xs = [])∧(ad = none → c = 0):=by
  rcases h with ⟨rfl,rfl⟩ | ⟨hx,ad,cap,b,o,e1,_,_,hs,_⟩
  · exact ⟨none,0,rfl,rfl,fun _=>rfl⟩
  · rcases hs with hs | ⟨rfl,_⟩
    · exact absurd (by simpa using hs) hx
    · exact ⟨_,cap,e1,by rw [decide_eq_false hx];rfl,fun h=>by cases h⟩
theorem y_rzeq (ht:P.underlying t = some (.slice e')) (h:At (.rowz xs) σ a x) (hy:a.eval y = .slice none 0 0):Yld P ⟨d,.binOp .eql t x y u,ty,pos,af,g⟩ a σ (Ty.bool (decide (xs = []))).pr:=by
  obtain ⟨ad,cap,e1,e2,_⟩:=rowz_val h
  have h1:=Go.Lib.run_eql_slice_nil (P:=P) σ.w t e' ad xs.length cap 0 0 ht
  refine Yld.of_run (v:=.bool ad.isNone) ?_ (by rw [e2];rfl)
  simp only [execOp,e1,hy]
  cases ad <;> simp_all [eqGuard,run_underlying ht]
theorem y_rzne (ht:P.underlying t = some (.slice e')) (h:At (.rowz xs) σ a x) (hy:a.eval y = .slice none 0 0):Yld P ⟨d,.binOp .neq t x y u,ty,pos,af,g⟩ a σ (Ty.bool (decide (xs ≠ []))).pr:=by
  obtain ⟨ad,cap,e1,e2,_⟩:=rowz_val h
  have h1:=Go.Lib.run_eql_slice_nil (P:=P) σ.w t e' ad xs.length cap 0 0 ht
  refine Yld.of_run (v:=.bool (!ad.isNone)) ?_ (by rw [e2];show (Value.bool _) = _;congr 1;rw [← decide_not])
  simp only [execOp,e1,hy]
  cases ad <;> simp_all [eqGuard,run_underlying ht,go_sem]
end
end Go.KL
namespace Go.KL
section
variable {n k i j a b:Nat} {G gens st:List (List Int)} {sp wh:List Int} {rw':List (List Int)}
theorem Orb.go3 (h:Orb n k G sp rw' wh i j) (hk:k < n) (hG:∀ x ∈ G,RowN n x∧Fx k x) (hi:i < sp.length) (hj:j < G.length) :
    (0 ≤ sp.getD i 0∧sp.getD i 0 < (G.getD j []).length)∧(0 ≤ (G.getD j []).getD (sp.getD i 0).toNat 0∧(G.getD j []).getD (sp.getD i 0).toNat 0 < wh.length)∧i < rw'.length ∧
      (∀ c,c < (rw'.getD i []).length → 0 ≤ (rw'.getD i []).getD c 0∧(rw'.getD i []).getD c 0 < (G.getD j []).length)∧(rw'.getD i []).length ≤ 1000000:=by
  have hx:=(hG _ (mem_atD [] hj)).1
  obtain ⟨h1,_,_,_⟩:=h.pts i hi
  have hs:=h.spb hk hi
  have hq:=hx.at (i:=(sp.getD i 0).toNat) (by omega)
  have hn:=hx.nn
  exact ⟨by rw [hx.len];omega,by rw [h.whl];exact hq,by rw [h.len];exact hi,h1.bds hx.len,by rw [h1.len];omega⟩
theorem Orb.go5 (h:Orb n k G sp rw' wh sp.length j) (hk:k < n) (hn:1 ≤ n∧n ≤ 12) (hG:∀ x ∈ G,RowN n x∧Fx k x) (ha:a < sp.length) (hb:b < G.length) :
    k < (byL (G.getD b []) (rw'.getD a [])).length∧(0 ≤ (byL (G.getD b []) (rw'.getD a [])).getD k 0∧(byL (G.getD b []) (rw'.getD a [])).getD k 0 < wh.length) ∧
      (0 ≤ wh.getD ((byL (G.getD b []) (rw'.getD a [])).getD k 0).toNat 0 - 1∧wh.getD ((byL (G.getD b []) (rw'.getD a [])).getD k 0).toNat 0 - 1 < rw'.length) ∧
      IsRow (rw'.getD (wh.getD ((byL (G.getD b []) (rw'.getD a [])).getD k 0).toNat 0 - 1).toNat []) ∧
      (∀ c,c < (byL (G.getD b []) (rw'.getD a [])).length → 0 ≤ (byL (G.getD b []) (rw'.getD a [])).getD c 0∧(byL (G.getD b []) (rw'.getD a [])).getD c 0 < (undoL (rw'.getD (wh.getD ((byL (G.getD b []) (rw'.getD a [])).getD k 0).toNat 0 - 1).toNat [])).length) ∧
      (byL (G.getD b []) (rw'.getD a [])).length ≤ 1000000∧wh.getD ((byL (G.getD b []) (rw'.getD a [])).getD k 0).toNat 0 ≤ 12∧RowN n (stl k G rw' wh a b) ∧
      a < rw'.length∧(∀ c,c < (rw'.getD a []).length → 0 ≤ (rw'.getD a []).getD c 0∧(rw'.getD a []).getD c 0 < (G.getD b []).length)∧(rw'.getD a []).length ≤ 1000000:=by
  obtain ⟨a',h1,_,ew,_,g1,_,_⟩:=h.genr hk hn hG ha hb
  have hx:=(hG _ (mem_atD [] hb)).1
  obtain ⟨h2,_,_,_⟩:=h.pts a ha
  obtain ⟨h3,_,_,_⟩:=h.pts a' h1
  have hxt:=hx.by h2
  have hxk:=hxt.at hk
  have hsl:=h.spl hk
  rw [ew,show (((a' + 1:Nat):Int) - 1).toNat = a' by omega]
  exact ⟨by rw [hxt.len];exact hk,by rw [h.whl];exact hxk,by rw [h.len];omega,h3.row,hxt.bds h3.undo.len,by rw [hxt.len];omega,by omega,g1,by rw [h.len];exact ha,h2.bds hx.len,by rw [h2.len];omega⟩
theorem SzI.mul (h:SzI n gens k G) (hO:Orb n k G sp rw' wh sp.length j) (hk:k < n) (hn:1 ≤ n∧n ≤ 12):szTo n (fun y=>y ∈ gens) k * sp.length = szTo n (fun y=>y ∈ gens) (k + 1):=by
  rw [szTo,hO.sz hk hn h.rows,h.sz]
theorem szTo_bd {S:List Int → Prop} (hn:n ≤ 12) (hk:k ≤ 12):szTo n S k ≤ 8916100448256:=by
  refine Nat.le_trans (szTo_le hn k) ?_
  have:(12:Nat) ^ k ≤ 12 ^ 12:=Nat.pow_le_pow_right (by decide) hk
  exact this
end
end Go.KL
namespace Go.KL
def ltr (G:List (List Int)) (j:Nat):List Int:=if j % 2 = 1 then undoL (G.getD (j / 2) []) else G.getD (j / 2) []
def ltrN (j:Nat):Int:=if j % 2 = 1 then -((j / 2 + 1:Nat):Int) else ((j / 2 + 1:Nat):Int)
structure ClI (n:Nat) (G L W:List (List Int)) (i j:Nat):Prop where
  nd:L.Nodup
  ne:0 < L.length∧L.getD 0 [] = roundsL n
  cl:∀ x ∈ L,Cl n (fun y=>y ∈ G) x
  wl:W.length = L.length
  clo:∀ a b,(a < i ∨ (a = i∧b < j)) → a < L.length → b < 2 * G.length → byL (L.getD a []) (ltr G b) ∈ L
def ClosedP (n:Nat) (G:List (List Int)) (most:Nat) (R W:List (List Int)):Prop :=
  (R = []∧∃ L:List (List Int),L.Nodup∧(∀ x ∈ L,Cl n (fun y=>y ∈ G) x)∧most < L.length) ∨ (R.Nodup∧(∀ x,x ∈ R ↔ Cl n (fun y=>y ∈ G) x)∧R.length ≤ most∧W.length = R.length)
section
variable {n i j most:Nat} {G L W:List (List Int)} {w:List Int} {f:Int → Option Bool}
theorem ltr_row (hG:∀ x ∈ G,RowN n x) (hj:j < 2 * G.length):RowN n (ltr G j)∧IsRow (G.getD (j / 2) []):=by
  have h:=hG _ (mem_atD [] (show j / 2 < G.length by omega))
  refine ⟨?_,h.row⟩
  unfold ltr
  split
  · exact h.undo
  · exact h
theorem ltr_cl (hn:1 ≤ n∧n ≤ 12) (hG:∀ x ∈ G,RowN n x) (hj:j < 2 * G.length):Cl n (fun y=>y ∈ G) (ltr G j):=by
  have h:=Cl.gen (n:=n) (S:=fun y=>y ∈ G) hG (mem_atD [] (show j / 2 < G.length by omega))
  unfold ltr
  split
  · exact h.undo hn hG
  · exact h
theorem ClI.start:ClI n G [roundsL n] [[]] 0 0 :=
  ⟨by simp,⟨by simp,rfl⟩,fun x hx=>by rw [List.mem_singleton.1 hx];exact .one,rfl,fun a b h=>by omega⟩
theorem seenC_start (hn:1 ≤ n∧n ≤ 12):SeenB n [roundsL n] (fun x=>if x = (0:Int) then some true else (fun _=>none) x):=fun x hx hl=>by
  have hr:RowN n x:=⟨hx,hl⟩
  by_cases e:rankL x = 0
  · have:x = roundsL n:=rank_zero hr e
    rw [e]
    simp [this]
  · have h1:¬ ((rankL x:Nat):Int) = 0:=by omega
    have h2:x ≠ roundsL n:=fun h=>e (by rw [h];exact (rank_zero_iff (rounds_rowN hn).row).2 (by rw [roundsL_len]))
    simp [h1,h2,e]
theorem ClI.old (h:ClI n G L W i j) (hm:byL (L.getD i []) (ltr G j) ∈ L):ClI n G L W i (j + 1):=by
  refine ⟨h.nd,h.ne,h.cl,h.wl,fun a b hab h1 h2=>?_⟩
  by_cases e:a = i∧b = j
  · obtain ⟨rfl,rfl⟩:=e;exact hm
  · exact h.clo a b (by omega) h1 h2
theorem ClI.new (hn:1 ≤ n∧n ≤ 12) (hG:∀ x ∈ G,RowN n x) (h:ClI n G L W i j) (hi:i < L.length) (hj:j < 2 * G.length) (hm:byL (L.getD i []) (ltr G j) ∉ L):ClI n G (L ++ [byL (L.getD i []) (ltr G j)]) (W ++ [w]) i (j + 1):=by
  refine ⟨?_,⟨by simp,by rw [getD_app [] h.ne.1];exact h.ne.2⟩,fun x hx=>?_,by simp [h.wl],fun a b hab h1 h2=>?_⟩
  · refine List.nodup_append.2 ⟨h.nd,by simp,fun a ha b hb=>?_⟩
    rw [List.mem_singleton.1 hb]
    rintro rfl;exact hm ha
  · rcases List.mem_append.1 hx with h3 | h3
    · exact h.cl x h3
    · rw [List.mem_singleton.1 h3]
      exact (h.cl _ (mem_atD [] hi)).prod hn hG (ltr_cl hn hG hj)
  · rw [List.length_append,List.length_singleton] at h1
    by_cases e:a = i∧b = j
    · obtain ⟨rfl,rfl⟩:=e
      rw [getD_app [] hi]
      simp
    · have ha:a < L.length:=by omega
      rw [getD_app [] ha]
      exact List.mem_append.2 (.inl (h.clo a b (by omega) ha h2))
theorem ClI.next (h:ClI n G L W i (2 * G.length)):ClI n G L W (i + 1) 0:=⟨h.nd,h.ne,h.cl,h.wl,fun a b hab h1 h2=>h.clo a b (by omega) h1 h2⟩
theorem ClI.done (hn:1 ≤ n∧n ≤ 12) (hG:∀ x ∈ G,RowN n x) (h:ClI n G L W L.length 0):∀ x,x ∈ L ↔ Cl n (fun y=>y ∈ G) x:=by
  have key:∀ x,Cl n (fun y=>y ∈ G) x → ∀ y ∈ L,byL y x ∈ L:=fun x hx=>by
    induction hx with
    | one=>intro y hy;rw [byL_rounds_right ((h.cl y hy).row hn hG).len];exact hy
    | @mul g x' hg hx' ih =>
      intro y hy
      obtain ⟨a,ha,ea⟩:=List.mem_iff_getElem.1 hy
      obtain ⟨b,hb,eb⟩:=List.mem_iff_getElem.1 hg
      have h1:=h.clo a (2 * b) (.inl ha) ha (by omega)
      have e1:L.getD a [] = y:=by rw [List.getD_eq_getElem?_getD,List.getElem?_eq_getElem ha,ea];rfl
      have e2:ltr G (2 * b) = g:=by
        unfold ltr
        rw [if_neg (by omega),show 2 * b / 2 = b by omega,List.getD_eq_getElem?_getD,List.getElem?_eq_getElem hb,eb];rfl
      rw [e1,e2] at h1
      rw [by_as y (hG g hg) (hx'.row hn hG)]
      exact ih _ h1
  intro x
  constructor
  · exact h.cl x
  · intro hx
    have h0:roundsL n ∈ L:=by rw [← h.ne.2];exact mem_atD [] h.ne.1
    have:=key x hx _ h0
    rwa [byL_rounds_left (hx.row hn hG).bd] at this
theorem ClI.closed (hn:1 ≤ n∧n ≤ 12) (hG:∀ x ∈ G,RowN n x) (h:ClI n G L W L.length 0) (hl:L.length ≤ most):ClosedP n G most L W:=.inr ⟨h.nd,h.done hn hG,hl,h.wl⟩
theorem ClI.many (h:ClI n G L W i j) (hl:most < L.length):ClosedP n G most [] []:=.inl ⟨rfl,L,h.nd,h.cl,hl⟩
theorem ClI.fits (hn:1 ≤ n∧n ≤ 12) (hG:∀ x ∈ G,RowN n x) (h:ClI n G L W i j) (hi:i < L.length) (hj:j < 2 * G.length) :
    IsRow (G.getD (j / 2) [])∧(∀ c,c < (ltr G j).length → 0 ≤ (ltr G j).getD c 0∧(ltr G j).getD c 0 < (L.getD i []).length)∧(ltr G j).length ≤ 1000000∧IsRow (byL (L.getD i []) (ltr G j))∧(byL (L.getD i []) (ltr G j)).length = n∧(byL (L.getD i []) (ltr G j)).length ≤ 12:=by
  obtain ⟨h1,h2⟩:=ltr_row hG hj
  have h3:=(h.cl _ (mem_atD [] hi)).row hn hG
  have h4:=h3.by h1
  exact ⟨h2,h1.bds h3.len,by rw [h1.len];omega,h4.row,h4.len,by rw [h4.len];omega⟩
def WordsB (W:List (List Int)):Prop:=∀ a,a < W.length → (W.getD a []).length ≤ a
theorem wordsB_start:WordsB [[]]:=fun a ha=>by
  have:a = 0:=by simp at ha;omega
  subst this;simp
theorem WordsB.new (h:WordsB W) (hi:i < W.length) {x:Int}:WordsB (W ++ [W.getD i [] ++ [x]]):=fun a ha=>by
  rw [List.length_append,List.length_singleton] at ha
  by_cases e:a = W.length
  · rw [getD_end [] e,List.length_append,List.length_singleton]
    have:=h i hi
    omega
  · rw [getD_app [] (by omega)]
    exact h a (by omega)
end
end Go.KL
namespace Go.KL
def wr64 (z:Int):Int:=IntKind.i64.wrap z
section
variable {P:Program} {d:Option Tmp} {ty:TypeId} {pos:String} {af:Array Edge} {g:Option (Nat × Bool)} {a:Act} {σ:GW} {t u:TypeId} {x y:Operand} {m n:Int}
theorem y_addW (hx:At (.int m) σ a x) (hy:At (.int n) σ a y):Yld P ⟨d,.binOp .add t x y u,ty,pos,af,g⟩ a σ (Ty.int (wr64 (m + n))).pr:=by
  have ex:a.eval x = .int .i64 m:=hx
  have ey:a.eval y = .int .i64 n:=hy
  exact Yld.of_run (v:=.int .i64 (wr64 (m + n))) (by simp only [execOp,ex,ey];simp [go_sem];rfl) rfl
end
section
variable {raw:List Int} {b n k:Nat}
end
section
variable {A B:List (List Int)} {n i k:Nat} {GS SS:List (List Int)} {c d:Nat → Lev}
section
variable (hn:1 ≤ n∧n ≤ 12) (hC:ChnOf n GS c) (hD:ChnOf n SS d) (hG:∀ x ∈ GS,RowN n x) (hS:∀ x ∈ SS,RowN n x)
include hn hC hG hS
end
end
end Go.KL
namespace Go.KL
open Go.RowKit
section
variable {n k:Nat} {c:Nat → Lev} {gens:List (List Int)}
theorem noO_some {f:Int → Option (List Int)}:n - noO n f = (List.range n).countP fun (p:Nat)=>(f (p:Int)).isSome:=by
  unfold noO
  have h:=List.length_eq_countP_add_countP (fun (p:Nat)=>(f (p:Int)).isNone) (l:=List.range n)
  rw [List.length_range] at h
  have e:(List.range n).countP (fun (p:Nat)=>decide ¬((f (p:Int)).isNone = true)) = (List.range n).countP fun (p:Nat)=>(f (p:Int)).isSome:=by
    congr 1
    funext p
    cases f (p:Int) <;> simp
  rw [e] at h
  omega
open Classical in
theorem ChnOf.osz (h:ChnOf n gens c) (hG:∀ x ∈ gens,RowN n x) (hk:k < n):n - noO n (c k).orb = osz n (fun y=>y ∈ gens) k:=by
  rw [noO_some]
  unfold Go.KL.osz
  congr 1
  funext p
  rw [Bool.eq_iff_iff,decide_eq_true_eq]
  constructor
  · intro hp
    obtain ⟨t,ht⟩:=Option.isSome_iff_exists.1 hp
    obtain ⟨_,h2,h3⟩:=(h.wc.lev k hk).pt _ t ht
    exact ⟨t,(h.cl t).1 (h.good.orbs h.wc (by omega) hk ht),h2,h3⟩
  · rintro ⟨r,h1,h2,h3⟩
    have hr:=h1.row h.wc.nn hG
    have hm:=(h.has hr).2 h1
    have hm2:=(mem_dn h.wc hr k 0 (by omega) (by rw [Nat.zero_add];exact h2)).1 hm
    rw [Nat.zero_add] at hm2
    obtain ⟨t,ho,_⟩:=(mem_iff hk).1 hm2
    rw [h3] at ho
    rw [ho];rfl
theorem ChnOf.szS (h:ChnOf n gens c) (hG:∀ x ∈ gens,RowN n x) (hk:k < n):szTo n (fun y=>y ∈ gens) k * (n - noO n (c k).orb) = szTo n (fun y=>y ∈ gens) (k + 1):=by
  rw [szTo,h.osz hG hk]
end
section
variable {P:Program} {d:Option Tmp} {ty:TypeId} {pos:String} {af:Array Edge} {g:Option (Nat × Bool)} {a:Act} {σ:GW} {t kt et:TypeId} {x:Operand} {k n:Nat} {v:Value} {f:Int → Option (List Int)}
theorem ents_len {es:List MapEntry} {clock:Nat} (h:Ents Ty.ints kI σ es clock f) (hfin:∀ p t,f p = some t → 0 ≤ p∧p < n):es.length = n - noO n f:=by
  rw [noO_some,List.countP_eq_length_filter]
  have hkey:∀ e ∈ es,∃ i:Int,e.key = kI i∧(f i).isSome = true∧0 ≤ i∧i < n:=fun e he=>by
    obtain ⟨i,b,h1,h2,_⟩:=h.key e he
    have:=hfin i b h2
    exact ⟨i,h1,by rw [h2];rfl,this.1,this.2⟩
  have hval:∀ i:Int,kI i = .int .i64 i:=fun _=>rfl
  have hp:(es.map fun e=>match e.key with | .int _ i=>i | _=>(0:Int)).Perm (((List.range n).filter fun (p:Nat)=>(f (p:Int)).isSome).map fun (p:Nat)=>(p:Int)):=by
    refine (List.perm_ext_iff_of_nodup ?_ ?_).2 fun x=>?_
    · refine List.pairwise_map.2 (h.uniq.imp_of_mem fun {a b} ha hb hne e=>hne ?_)
      obtain ⟨i,hi,_⟩:=hkey a ha
      obtain ⟨j,hj,_⟩:=hkey b hb
      rw [hi,hj,hval,hval] at e ⊢
      simp only at e
      rw [e]
    · refine List.Pairwise.map (R:=fun a b=>a ≠ b) _ (fun a b h e=>h (by omega)) ?_
      exact List.Pairwise.filter _ List.nodup_range
    · rw [List.mem_map,List.mem_map]
      constructor
      · rintro ⟨e,he,rfl⟩
        obtain ⟨i,hi,h2,h3,h4⟩:=hkey e he
        rw [hi,hval]
        have e1:((i.toNat:Nat):Int) = i:=by omega
        exact ⟨i.toNat,List.mem_filter.2 ⟨List.mem_range.2 (by omega),by rw [e1];exact h2⟩,e1⟩
      · rintro ⟨p,hp,rfl⟩
        obtain ⟨b,hb⟩:=Option.isSome_iff_exists.1 (List.mem_filter.1 hp).2
        obtain ⟨e,he,hk⟩:=h.mem _ b hb
        exact ⟨e,he,by rw [hk,hval]⟩
  have:=hp.length_eq
  rwa [List.length_map,List.length_map] at this
theorem y_mlen (ht:P.underlying t = some (.map kt et)) (h:OwnM Ty.ints kI σ k v f) (hx:a.eval x = v) (hfin:∀ p t,f p = some t → 0 ≤ p∧p < n):Yld P ⟨d,.call ⟨.builtin .len,#[x],#[t]⟩,ty,pos,af,g⟩ a σ (Ty.int ((n - noO n f:Nat):Int)).pr:=by
  obtain ⟨r,es,clock,rfl,r2,r3,r4⟩:=h
  have hl:=ents_len r4 hfin
  refine Yld.of_run (v:=.int .i64 ((n - noO n f:Nat):Int)) (run_builtin1 hx (fun cs=>?_)) rfl
  have hl2:es.size = n - noO n f:=by rw [← hl];simp
  simp [builtin,Builtin.len_,run_underlying ht,goInt,run_getObj r3,Sem.run_bind,hl2]
end
end Go.KL
namespace Go.KL
open Go.ChangeMaps (setBlock)
variable {P:Program} {β:Type}
structure NxP (f:Int → Option β) (ks:List Int) (b:Bool) (ks':List Int):Prop where
  yes:b = true → ∃ p t,ks' = ks ++ [p]∧p ∉ ks∧f p = some t
  no:b = false → ks' = ks∧∀ p,(f p).isSome = true → p ∈ ks
def RngM (F:β → Ty) (σ:GW) (k:Nat) (v m:Value) (f:Int → Option β) (ks:List Int):Prop :=
  ∃ r bm es clock since seen c0,v = .pointer (some ⟨r,0,none⟩)∧m = .map (some bm)∧σ.st r = k∧σ.st bm = k∧σ.w.heap[r]? = some (.mapIter (some bm) since seen c0)∧σ.w.heap[bm]? = some (.map es clock) ∧
    Ents F kI σ es.toList clock f∧(∀ x ∈ es.toList,x.born < since)∧since ≤ c0∧since ≤ clock∧(∀ e ∈ es.toList,∀ p,e.key = kI p → (seen.contains e.born = true ↔ p ∈ ks)) ∧
    (∀ p,ks.getLast? = some p → ∃ (s0:Array Nat) (e:MapEntry),seen = s0.push e.born∧e ∈ es.toList∧e.key = kI p∧c0 = clock)
theorem RngM.keepL {F:β → Ty} {L:List Nat} {k:Nat} {σ τ:GW} {v m:Value} {f:Int → Option β} {ks:List Int} (h:RngM F σ k v m f ks) (hs:StpL L σ τ) (h1:1 ∉ L) (hk:k ∉ L):RngM F τ k v m f ks:=by
  obtain ⟨r,bm,es,clock,since,seen,c0,e1,e2,r1,r2,r3,r4,r5,r6⟩:=h
  have hl1:=(Array.getElem?_eq_some_iff.1 r3).1
  have hl2:=(Array.getElem?_eq_some_iff.1 r4).1
  have hq1:σ.st r ∉ L:=by rw [r1];exact hk
  have hq2:σ.st bm ∉ L:=by rw [r2];exact hk
  exact ⟨r,bm,es,clock,since,seen,c0,e1,e2,(hs.st r hl1 hq1).trans r1,(hs.st bm hl2 hq2).trans r2,(hs.blk r hl1 hq1).trans r3,(hs.blk bm hl2 hq2).trans r4,r5.up (hs.le h1),r6⟩
theorem RngM.k0 {F:β → Ty} {k:Nat} {σ τ:GW} {v m:Value} {f:Int → Option β} {ks:List Int} (h:RngM F σ k v m f ks) (hs:Stp 0 σ τ):RngM F τ k v m f ks:=h.keepL (L:=[]) hs.toL0 (by simp) (by simp)
def Pr.rngm (F:β → Ty) (k:Nat) (m:Value) (f:Int → Option β) (ks:List Int):Pr:=⟨fun σ v=>RngM F σ k v m f ks,fun hs h=>h.keepL (L:=[]) hs.toL0 (by simp) (by simp)⟩
theorem RngM.map {F:β → Ty} {σ:GW} {k:Nat} {v m:Value} {f:Int → Option β} {ks:List Int} (h:RngM F σ k v m f ks):OwnM F kI σ k m f:=by
  obtain ⟨r,bm,es,clock,since,seen,c0,e1,e2,r1,r2,r3,r4,r5,r6⟩:=h
  exact ⟨bm,es,clock,e2,r2,r4,r5⟩
variable {d:Option Tmp} {ty:TypeId} {pos:String} {af:Array Edge} {g:Option (Nat × Bool)} {a:Act} {σ:GW} {F:β → Ty} {k:Nat} {v m:Value} {f:Int → Option β} {ks:List Int} {t kt et:TypeId} {x:Operand}
theorem y_rangem (ht:P.underlying t = some (.map kt et)) (h:OwnM F kI σ k m f) (hx:a.eval x = m):Yld P ⟨d,.range t x,ty,pos,af,g⟩ a σ (Pr.rngm F k m f []):=by
  obtain ⟨bm,es,clock,rfl,r2,r3,r4⟩:=h
  intro K Q hk
  have hr:(execOp a.eval ⟨d,.range t x,ty,pos,af,g⟩).run P σ.w = .ok (.value (.pointer (some ⟨σ.w.heap.size,0,none⟩))) (σ.w.alloc (.mapIter (some bm) clock #[] clock)):=by
    simp only [execOp,hx]
    simp [Instr.range,Sem.run_bind,run_underlying ht,run_getObj r3,newObj,Sem.run]
  unfold Oper.wp
  rw [hr]
  have hlt:=(Array.getElem?_eq_some_iff.1 r3).1
  have hs:Stp 0 σ (σ.mk' k (.mapIter (some bm) clock #[] clock)):=Stp.mk' σ k _
  refine hk _ (σ.mk' k (.mapIter (some bm) clock #[] clock)) hs ⟨σ.w.heap.size,bm,es,clock,clock,#[],clock,rfl,rfl,by show (if _ = _ then k else _) = k;rw [if_pos rfl],?_,heap_alloc_new σ.w _,?_,r4.up hs.le0,fun e he=>r4.lt e he,Nat.le_refl _,Nat.le_refl _,?_,?_⟩
  · exact (hs.st bm hlt (.inl rfl)).trans r2
  · exact (hs.blk bm hlt (.inl rfl)).trans r3
  · intro e _ p _;simp
  · intro p hp;simp at hp
def Ty.nxm (b:Bool):Ty:=⟨fun _ v=>(b = true → ∃ x y,v = .tuple #[.bool true,x,y])∧(b = false → v = .tuple #[.bool false]),fun _ h=>h⟩
theorem y_ext_m0 {b:Bool} (hx:At (.nxm b) σ a x):Yld P ⟨d,.extract x 0,ty,pos,af,g⟩ a σ (Ty.bool b).pr:=by
  obtain ⟨h1,h2⟩:=hx
  cases b with
  | true =>
    obtain ⟨u,w,e⟩:=h1 rfl
    exact Yld.of_run (v:=.bool true) (by simp only [execOp,e];simp [Instr.extract]) rfl
  | false=>exact Yld.of_run (v:=.bool false) (by simp only [execOp,h2 rfl];simp [Instr.extract]) rfl
theorem pair_eq {α:Type} {R:α → α → Prop}:∀ {l:List α},l.Pairwise R → ∀ {x y:α},x ∈ l → y ∈ l → ¬ R x y → ¬ R y x → x = y
  | [],_,_,_,hx,_,_,_=>by simp at hx
  | z :: l,h,x,y,hx,hy,h1,h2=>by
    rw [List.pairwise_cons] at h
    rcases List.mem_cons.1 hx with rfl | hx'
    · rcases List.mem_cons.1 hy with rfl | hy'
      · rfl
      · exact absurd (h.1 _ hy') h1
    · rcases List.mem_cons.1 hy with rfl | hy'
      · exact absurd (h.1 _ hx') h2
      · exact pair_eq h.2 hx' hy' h1 h2
theorem m_nextm (hk:2 ≤ k) (h:RngM F σ k v m f ks) (hx:a.eval x = v) :
    YldM k P ⟨d,.next x false,ty,pos,af,g⟩ a σ (fun u τ=>∃ (b:Bool) (ks':List Int),NxP f ks b ks'∧(Ty.nxm b).has τ u∧RngM F τ k v m f ks'):=by
  obtain ⟨r,bm,es,clock,since,seen,c0,rfl,e2,r1,r2,r3,r4,r5,r6,r7,r7c,r8,r9⟩:=h
  have hg:=(Array.getElem?_eq_some_iff.1 r3).1
  intro K Q hK
  have hrun:=run_next_at (P:=P) σ.w (ty:=ty) r bm since c0 seen es clock r3 r4 r6 r7
  rcases hrun with ⟨h0,hrun⟩ | ⟨e,he,w1,hw1,hrun⟩
  · have hr:(execOp a.eval ⟨d,.next x false,ty,pos,af,g⟩).run P σ.w = .ok (.value (.tuple #[.bool false])) σ.w:=by
      simp only [execOp,hx]
      simp [Sem.run_bind,hrun]
    unfold Oper.wp
    rw [hr]
    refine hK _ σ ⟨rfl,rfl,rfl,Dr.refl _,Nat.le_refl _,fun _ _ _=>rfl,fun _ _ _=>rfl⟩ ⟨false,ks,⟨by simp,fun _=>⟨rfl,fun p hp=>?_⟩⟩,⟨by simp,fun _=>rfl⟩,r,bm,es,clock,since,seen,c0,rfl,e2,r1,r2,r3,r4,r5,r6,r7,r7c,r8,r9⟩
    obtain ⟨t,ht⟩:=Option.isSome_iff_exists.1 hp
    obtain ⟨e,he,hke⟩:=r5.mem p t ht
    refine (r8 e he p hke).1 ?_
    cases hc:seen.contains e.born with
    | true=>rfl
    | false =>
      exfalso
      have:e ∈ (leftOf es seen):=by unfold leftOf;rw [Array.mem_filter];exact ⟨by simpa using he,by rw [hc];rfl⟩
      have hsz:=Array.size_pos_of_mem this
      omega
  · obtain ⟨hm,hse⟩:=mem_left he
    obtain ⟨p,t,hp,hft,_⟩:=r5.key e hm
    have hlt:=(Array.getElem?_eq_some_iff.1 r4).1
    have hne:r ≠ bm:=by rintro rfl;rw [r3] at r4;simp at r4
    have hpk:p ∉ ks:=fun h_=>by have h2_:=(r8 e hm p hp).2 h_;rw [hse] at h2_;exact Bool.noConfusion h2_
    have hr:(execOp a.eval ⟨d,.next x false,ty,pos,af,g⟩).run P σ.w = .ok (.value (.tuple #[.bool true,e.key,e.val])) (setBlock w1 r (.mapIter (some bm) since (seen.push e.born) clock)):=by
      simp only [execOp,hx]
      simp [Sem.run_bind,hrun]
    unfold Oper.wp
    rw [hr]
    have hw:w1.os = σ.w.os∧w1.tape = σ.w.tape∧w1.output = σ.w.output∧σ.w.drawn ≤ w1.drawn∧w1.heap = σ.w.heap:=by rcases hw1 with rfl | rfl <;> exact ⟨rfl,rfl,rfl,by simp,rfl⟩
    obtain ⟨w2,w3,w4,w5,w6⟩:=hw
    let τ:GW:=⟨setBlock w1 r (.mapIter (some bm) since (seen.push e.born) clock),σ.st,fun b hb=>by have:=σ.lt b hb;show _ < (w1.heap.setIfInBounds _ _).size;rw [w6];simpa using this⟩
    have hb:∀ b,b ≠ r → τ.w.heap[b]? = σ.w.heap[b]?:=fun b hb=>by
      show (w1.heap.setIfInBounds _ _)[b]? = _
      rw [w6,Array.getElem?_setIfInBounds_ne (Ne.symm hb)]
    have hs:Stp k σ τ:=⟨w2,w3,w4,.inl w5,by show _ ≤ (w1.heap.setIfInBounds _ _).size;rw [w6];simp,fun b _ hm=>hb b (by rintro rfl;omega),fun _ _ _=>rfl⟩
    have huq:∀ e1 ∈ es.toList,∀ e2 ∈ es.toList,(e1.key = e2.key ∨ e1.born = e2.born) → e1 = e2:=fun e1 h1 e2 h2 h3=>by
      refine pair_eq (R:=fun x y=>x.key ≠ y.key∧x.born < y.born) (r5.uniq.and r5.born) h1 h2 (fun h_=>?_) (fun h_=>?_)
      · rcases h3 with h3 | h3
        · exact h_.1 h3
        · have:=h_.2;omega
      · rcases h3 with h3 | h3
        · exact h_.1 h3.symm
        · have:=h_.2;omega
    refine hK _ τ hs ⟨true,ks ++ [p],⟨fun _=>⟨p,t,rfl,hpk,hft⟩,by simp⟩,⟨fun _=>⟨_,_,rfl⟩,by simp⟩,r,bm,es,clock,since,seen.push e.born,clock,rfl,e2,r1,r2,?_,(hb bm hne.symm).trans r4,r5.up (hs.le (by omega)),r6,r7c,r7c,?_,?_⟩
    · show (w1.heap.setIfInBounds _ _)[r]? = _
      rw [w6];simp [hg]
    · intro e' he' p' hp'
      rw [Array.contains_push,Bool.or_eq_true,List.mem_append,r8 e' he' p' hp',List.mem_singleton]
      refine or_congr Iff.rfl ?_
      rw [beq_iff_eq]
      constructor
      · intro h_
        have:=huq e' he' e hm (.inr h_)
        subst this
        rw [hp] at hp'
        injection hp' with _ h5
        exact h5.symm
      · rintro rfl
        rw [huq e' he' e hm (.inl (hp'.trans hp.symm))]
    · intro p' hp'
      rw [List.getLast?_append] at hp'
      simp at hp'
      subst hp'
      exact ⟨seen,e,rfl,hm,hp,rfl⟩
theorem y_entry {p:Int} {z:β} (h:RngM F σ k v m f (ks ++ [p])) (hx:a.eval x = v):Yld P ⟨d,.entry x,ty,pos,af,g⟩ a σ (Ty.tup2 (.int p) (F ((f p).getD z))).pr:=by
  obtain ⟨r,bm,es,clock,since,seen,c0,rfl,e2,r1,r2,r3,r4,r5,r6,r7,r7c,r8,r9⟩:=h
  obtain ⟨s0,e,rfl,he,hp,hcl⟩:=r9 p (by simp)
  rw [hcl] at r3
  have hn:(es.toList.map (·.born)).Nodup:=List.pairwise_map.2 (r5.born.imp fun h_=>by omega)
  have hrun:=run_entry_at (P:=P) σ.w r bm since s0 es clock e r3 r4 he hn
  obtain ⟨i,b,h1,h2,h3⟩:=r5.key e he
  rw [hp] at h1
  injection h1 with _ h1
  subst h1
  refine Yld.of_run (v:=.tuple #[e.key,e.val]) (by simp only [execOp,hx];simp [Sem.run_bind,hrun]) ⟨_,_,rfl,by rw [hp];rfl,by rw [h2];exact h3⟩
end Go.KL
namespace Go.KL
open Go.RowKit
section
variable {n k:Nat} {c:Nat → Lev} {gens L N:List (List Int)} {ks:List Int} {p:Int} {t x y:List Int}
structure EltK (n:Nat) (gens:List (List Int)) (c:Nat → Lev) (k:Nat) (L:List (List Int)):Prop where
  nd:L.Nodup
  mem:∀ x,x ∈ L ↔ (RowN n x∧Fx k x∧Mem n c k x)
  len:L.length * szTo n (fun y=>y ∈ gens) k = szTo n (fun y=>y ∈ gens) n
structure EltI (n:Nat) (c:Nat → Lev) (k:Nat) (m:Nat) (ks:List Int) (N:List (List Int)):Prop where
  nd:ks.Nodup
  inn:∀ p ∈ ks,((c k).orb p).isSome = true
  nn:N.Nodup
  mem:∀ x,x ∈ N ↔ (RowN n x∧Fx k x∧x.getD k 0 ∈ ks∧Mem n c k x)
  len:N.length = ks.length * m
theorem EltK.start (hw:WC n c):EltK n gens c n [roundsL n] where
  nd:=by simp
  mem x:=by
    rw [List.mem_singleton]
    constructor
    · rintro rfl;exact ⟨rounds_rowN hw.nn,Fx.rounds (Nat.le_refl _),mem_top⟩
    · rintro ⟨h1,h2,_⟩;exact h2.all h1
  len:=by simp
theorem EltI.start {m:Nat}:EltI n c k m [] []:=⟨by simp,by simp,by simp,by simp,by simp⟩
theorem EltI.step {m:Nat} (hw:WC n c) (hk:k < n) (hL:EltK n gens c (k + 1) L) (h:EltI n c k m ks N) (hm:m = L.length) (hp:p ∉ ks) (ho:(c k).orb p = some t):EltI n c k m (ks ++ [p]) (N ++ L.map (byL t)):=by
  obtain ⟨ht,htf,htp⟩:=(hw.lev k hk).pt p t ho
  have hy:∀ y ∈ L,RowN n (byL t y)∧Fx k (byL t y)∧(byL t y).getD k 0 = p∧Mem n c k (byL t y):=fun y hy=>by
    obtain ⟨h1,h2,h3⟩:=(hL.mem y).1 hy
    refine ⟨ht.by h1,Fx.by (by omega) h1 htf (h2.le (by omega)),?_,mem_mul hw hk ho h1 h2 h3⟩
    rw [by_at h1 hk,h2 k (by omega),Int.toNat_natCast,htp]
  refine ⟨?_,?_,?_,fun x=>?_,?_⟩
  · rw [List.nodup_append]
    exact ⟨h.nd,by simp,fun a ha b hb=>by rw [List.mem_singleton.1 hb];rintro rfl;exact hp ha⟩
  · intro q hq
    rcases List.mem_append.1 hq with hq | hq
    · exact h.inn q hq
    · rw [List.mem_singleton.1 hq,ho];rfl
  · rw [List.nodup_append]
    refine ⟨h.nn,?_,fun a ha b hb=>?_⟩
    · refine List.pairwise_map.2 (hL.nd.imp_of_mem fun {a b} ha hb hne e=>hne ?_)
      have h1:=fore_row ((hL.mem a).1 ha).1 ht
      rw [e,fore_row ((hL.mem b).1 hb).1 ht] at h1
      exact h1.symm
    · rintro rfl
      obtain ⟨y,hyL,rfl⟩:=List.mem_map.1 hb
      have h1:=((h.mem _).1 ha).2.2.1
      rw [(hy y hyL).2.2.1] at h1
      exact hp h1
  · rw [List.mem_append,h.mem,List.mem_append,List.mem_singleton]
    constructor
    · rintro (⟨h1,h2,h3,h4⟩ | hx)
      · exact ⟨h1,h2,.inl h3,h4⟩
      · obtain ⟨y,hyL,rfl⟩:=List.mem_map.1 hx
        obtain ⟨h1,h2,h3,h4⟩:=hy y hyL
        exact ⟨h1,h2,.inr h3,h4⟩
    · rintro ⟨h1,h2,h3 | h3,h4⟩
      · exact .inl ⟨h1,h2,h3,h4⟩
      · refine .inr (List.mem_map.2 ⟨byL (undoL t) x,?_,back_row h1 ht⟩)
        obtain ⟨t',ho',hm'⟩:=(mem_iff hk).1 h4
        rw [h3,ho] at ho'
        injection ho' with e
        subst e
        obtain ⟨r1,r2⟩:=rest_row hk h1 h2 ht htf (by rw [htp,h3])
        exact (hL.mem _).2 ⟨r1,r2,hm'⟩
  · rw [List.length_append,List.length_map,h.len,List.length_append,List.length_singleton,Nat.add_mul,hm];omega
theorem EltI.few {m:Nat} (hw:WC n c) (hk:k < n) (h:EltI n c k m ks N):ks.length + noO n (c k).orb ≤ n :=
  keys_len h.nd h.inn fun p t ht=>by
    obtain ⟨h1,_,h3⟩:=(hw.lev k hk).pt p t ht
    have:=h1.at hk
    rw [h3] at this;exact this
theorem nd_sub {α:Type}:∀ {a b:List α},a.Nodup → (∀ x ∈ a,x ∈ b) → a.length ≤ b.length
  | [],_,_,_=>Nat.zero_le _
  | x :: a,b,h,hs=>by
    rw [List.nodup_cons] at h
    obtain ⟨b1,b2,rfl⟩:=List.append_of_mem (hs x (by simp))
    have h2:=nd_sub (b:=b1 ++ b2) h.2 fun y hy=>by
      have:=hs y (by simp [hy])
      rw [List.mem_append,List.mem_cons] at this
      rcases this with h3 | rfl | h3
      · simp [h3]
      · exact absurd hy h.1
      · simp [h3]
    simp only [List.length_append,List.length_cons] at h2 ⊢
    omega
theorem keys_all {f:Int → Option (List Int)} (hn:ks.Nodup) (hb:∀ p,(f p).isSome = true → p ∈ ks):n - noO n f ≤ ks.length:=by
  rw [noO_some,List.countP_eq_length_filter]
  have h:=nd_sub (a:=((List.range n).filter fun (p:Nat)=>(f (p:Int)).isSome).map fun (p:Nat)=>(p:Int)) (b:=ks) ?_ ?_
  · rw [List.length_map] at h;exact h
  · refine List.Pairwise.map (R:=fun a b=>a ≠ b) _ (fun a b h e=>h (by omega)) ?_
    exact List.Pairwise.filter _ List.nodup_range
  · intro x hx
    obtain ⟨q,hq,rfl⟩:=List.mem_map.1 hx
    exact hb _ (List.mem_filter.1 hq).2
theorem EltI.done (hc:ChnOf n gens c) (hG:∀ x ∈ gens,RowN n x) (hk:k < n) (hL:EltK n gens c (k + 1) L) {m:Nat} (h:EltI n c k m ks N) (hm:m = L.length) (hall:∀ p,((c k).orb p).isSome = true → p ∈ ks):EltK n gens c k N where
  nd:=h.nn
  mem x:=by
    rw [h.mem]
    constructor
    · rintro ⟨h1,h2,_,h4⟩;exact ⟨h1,h2,h4⟩
    · rintro ⟨h1,h2,h4⟩
      obtain ⟨t',ho',_⟩:=(mem_iff hk).1 h4
      exact ⟨h1,h2,hall _ (by rw [ho'];rfl),h4⟩
  len:=by
    have h1:=h.few hc.wc hk
    have h2:=keys_all (n:=n) h.nd hall
    have h3:ks.length = n - noO n (c k).orb:=by omega
    have h4:=hc.szS hG hk
    have h5:=hL.len
    rw [h.len,h3,hm,Nat.mul_assoc,Nat.mul_comm (n - _),Nat.mul_assoc,h4,h5]
theorem EltK.few (hc:ChnOf n gens c) (h:EltK n gens c k L) (hk:k ≤ n) (hs:szTo n (fun y=>y ∈ gens) n ≤ 5040):L.length ≤ 5040:=by
  have h1:=h.len
  have h2:=szTo_pos (n:=n) (S:=fun y=>y ∈ gens) hc.wc.nn k hk
  have h3:L.length * 1 ≤ L.length * szTo n (fun y=>y ∈ gens) k:=Nat.mul_le_mul_left _ h2
  omega
structure EltsOk (n:Nat) (gens:List (List Int)) (E:List (List Int)):Prop where
  nd:E.Nodup
  srt:E.Pairwise fun x y=>leL x y = true
  mem:∀ x,x ∈ E ↔ Cl n (fun y=>y ∈ gens) x
  len:E.length = szTo n (fun y=>y ∈ gens) n
theorem EltK.sorted (hc:ChnOf n gens c) (hG:∀ x ∈ gens,RowN n x) (h:EltK n gens c 0 L) {S:List (List Int)} (hp:S.Perm L) (hs:S.Pairwise fun x y=>leL x y = true):EltsOk n gens S where
  nd:=hp.nodup_iff.2 h.nd
  srt:=hs
  mem x:=by
    rw [hp.mem_iff,h.mem]
    constructor
    · rintro ⟨h1,_,h3⟩;exact (hc.has h1).1 h3
    · intro hx
      have h1:=hx.row hc.wc.nn hG
      exact ⟨h1,fun i hi=>by omega,(hc.has h1).2 hx⟩
  len:=by
    have:=h.len
    rw [szTo] at this
    rw [hp.length_eq];omega
noncomputable def eltE (n:Nat) (gens:List (List Int)):Int:=if szTo n (fun y=>y ∈ gens) n ≤ 5040 then 0 else 3
structure EltsP (n:Nat) (gens:List (List Int)) (E:List (List Int)):Prop where
  ok:szTo n (fun y=>y ∈ gens) n ≤ 5040 → EltsOk n gens E
  no:¬ szTo n (fun y=>y ∈ gens) n ≤ 5040 → E = []
end
section
variable {σ:GW}
theorem Own.retag {k k':Nat} {e:TypeId} {c n:Nat} {v:Value} {ts:List Ty} (h:Own σ k e c v n ts) (hk:2 ≤ k) (_hk':2 ≤ k'):∃ τ:GW,τ.w = σ.w∧Stp k σ τ∧Own τ k' e c v n ts:=by
  refine ⟨⟨σ.w,fun b=>if σ.st b = k then k' else σ.st b,fun b hb=>σ.lt b (fun e0=>?_)⟩,rfl,⟨rfl,rfl,rfl,Dr.refl _,Nat.le_refl _,fun _ _ _=>rfl,fun b hb hm=>?_⟩,?_⟩
  · simp only [e0] at hb
    rw [if_neg (by omega)] at hb
    exact hb rfl
  · rcases hm with h1 | h1
    · omega
    · show (if σ.st b = k then k' else σ.st b) = _
      rw [if_neg h1]
  · obtain ⟨us,r1,r2,r3,r4⟩:=h
    have hle:σ.Le ⟨σ.w,fun b=>if σ.st b = k then k' else σ.st b,fun b hb=>σ.lt b (fun e0=>by simp only [e0] at hb;rw [if_neg (by omega)] at hb;exact hb rfl)⟩:=⟨fun b hb=>by show (if σ.st b = k then k' else σ.st b) = _;rw [if_neg (by omega)];exact hb,fun _ _=>rfl⟩
    exact ⟨us,r1,r2,fun j T u hj hu=>T.up hle (r3 j T u hj hu),fun g hg=>by show (if σ.st g = k then k' else σ.st g) = _;rw [if_pos (r4 g hg)]⟩
end
end Go.KL
namespace Go.KL
open Go.RowKit
section
variable {n:Nat} {E gens:List (List Int)} {x y c r:List Int} {i j k:Nat}
end
section
variable {p:Nat → Nat} {N i j t k m m':Nat} {l l':List Int}
end
end Go.KL
namespace Go.KL
section
variable {p:Nat → Nat} {N i j t k m:Nat} {l l0:List Int}
theorem gtSetSelf {l:List Int} {i:Nat} {v:Int} (h:i < l.length):(l.set i v).getD i 0 = v:=by rw [List.getD_eq_getElem?_getD,List.getElem?_set_self h];rfl
theorem gtSetNe {l:List Int} {i j:Nat} {v:Int} (h:i ≠ j):(l.set i v).getD j 0 = l.getD j 0:=by rw [List.getD_eq_getElem?_getD,List.getElem?_set_ne h,← List.getD_eq_getElem?_getD]
end
end Go.KL
namespace Go.KL
section
variable {p:Nat → Nat} {N i j k m m' c:Nat} {l l':List Int}
end
end Go.KL
namespace Go.KL
section
variable {N i j k m f:Nat} {to vis l:List Int} {Q:List (List Int)} {v:Nat → Int} {V:Nat → Nat → Int}
end
end Go.KL
namespace Go.KL
open Go.RowKit
section
variable {n:Nat} {E gens:List (List Int)} {x y c r:List Int} {i j k:Nat}
end
section
variable {N e:Nat} {l:List Int}
end
end Go.KL
