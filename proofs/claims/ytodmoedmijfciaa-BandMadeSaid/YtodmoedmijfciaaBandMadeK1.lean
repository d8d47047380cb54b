/- What the proof of the law BandMade stands on, part 1. -/
import Derived.WalkKit
import Derived.WalkSpells
import Derived.WalkLawsBesides
import Derived.Orders
import Derived.Conc.Events
import Derived.Conc.Own4
import Derived.Conc.Own5
import Derived.Conc.Listed
import Derived.Conc.CompanyDraw
import Derived.Deep.MidRow
import Derived.Deep.Upon
namespace Go.KL
theorem Xu {a b:Bool} (h:(a||b)=false):a=false/\b=false:=Bool.or_eq_false_iff.mp h
theorem Xv {a b:Bool} (h:(a&&b)=true):a=true/\b=true:=Bool.and_eq_true_iff.mp h
theorem Xw {p:Prop} [Decidable p] (h:decide p=false):¬p:=of_decide_eq_false h
theorem Xx {p:Prop} [Decidable p] (h:decide p=true):p:=of_decide_eq_true h
theorem Xy {a b:Nat} (h:Nat.ble a b=true):a<=b:=Nat.le_of_ble_eq_true h
end Go.KL
namespace Go.KL
def isRowB (r:List Int):Bool:=decide (∀ b,b < r.length → r.count (b:Int) = 1)
def rowMay (r:List Int):Int:=if r.length < 1 ∨ 12 < r.length then 1 else if isRowB r then 0 else 2
structure IsRow (r:List Int):Prop where
  pos:1 ≤ r.length
  le:r.length ≤ 12
  one:∀ b,b < r.length → r.count (b:Int) = 1
theorem nodup_len:∀ (n:Nat) (l:List Int),l.Nodup → (∀ x ∈ l,0 ≤ x∧x < n) → l.length ≤ n
  | 0,l,_,h=>by
    cases l with
    | nil=>simp
    | cons x l=>have:=h x (by simp);omega
  | n + 1,l,hn,h=>by
    have h1:=nodup_len n (l.erase (n:Int)) (hn.erase _) (fun x hx=>by
      have hx':=List.mem_of_mem_erase hx
      have:=h x hx'
      have hne:x ≠ (n:Int):=fun e=>by
        subst e
        exact (List.Nodup.mem_erase_iff hn).1 hx |>.1 rfl
      omega)
    have h2:l.length ≤ (l.erase (n:Int)).length + 1:=by
      by_cases hm:(n:Int) ∈ l
      · rw [List.length_erase_of_mem hm];omega
      · rw [List.erase_of_not_mem hm];omega
    omega
theorem row_all {r:List Int} (hn:r.Nodup) (hb:∀ x ∈ r,0 ≤ x∧x < r.length):∀ b,b < r.length → r.count (b:Int) = 1:=by
  intro b hlt
  have hmem:(b:Int) ∈ r:=by
    refine Classical.byContradiction fun hm=>?_
    have:=nodup_len r.length (r ++ [(b:Int)]) (by
      rw [List.nodup_append]
      refine ⟨hn,by simp,fun x hx y hy=>?_⟩
      simp at hy;subst hy
      intro e;subst e;exact hm hx) (fun x hx=>by
      rcases List.mem_append.1 hx with h | h
      · exact hb x h
      · simp at h;omega)
    simp only [List.length_append,List.length_cons,List.length_nil] at this;omega
  have h1:=List.count_pos_iff.2 hmem
  have h2:=List.nodup_iff_count.1 hn (b:Int)
  omega
theorem countP_lt:∀ (n:Nat) (r:List Int),(∀ b,b < n → r.count (b:Int) = 1) → r.countP (fun x=>decide (0 ≤ x∧x < (n:Int))) = n
  | 0,r,_=>by
    rw [List.countP_eq_zero]
    intro x _;simp only [decide_eq_true_eq];omega
  | n + 1,r,h=>by
    have ih:=countP_lt n r (fun b hb=>h b (by omega))
    have h1:=h n (by omega)
    have:r.countP (fun x=>decide (0 ≤ x∧x < ((n + 1:Nat):Int))) = r.countP (fun x=>decide (0 ≤ x∧x < (n:Int))) + r.count (n:Int):=by
      clear ih h1 h
      induction r with
      | nil=>simp
      | cons x r ih =>
        rw [List.countP_cons,List.count_cons,List.countP_cons,ih]
        by_cases h1:x = (n:Int)
        · have h2:decide (0 ≤ x∧x < (n:Int)) = false:=decide_eq_false (by omega)
          have h3:decide (0 ≤ x∧x < ((n + 1:Nat):Int)) = true:=decide_eq_true (by omega)
          have h4:(x == (n:Int)) = true:=by rw [h1];exact beq_self_eq_true _
          rw [h2,h3,h4];simp only [if_true,Bool.false_eq_true,if_false];omega
        · have h4:(x == (n:Int)) = false:=beq_eq_false_iff_ne.2 h1
          have h5:decide (0 ≤ x∧x < ((n + 1:Nat):Int)) = decide (0 ≤ x∧x < (n:Int)):=by
            rw [decide_eq_decide];omega
          rw [h4,h5];simp only [Bool.false_eq_true,if_false];omega
    omega
theorem IsRow.bound {r:List Int} (h:IsRow r):∀ x ∈ r,0 ≤ x∧x < r.length:=by
  have h1:=countP_lt r.length r h.one
  have h2:=List.countP_eq_length.1 h1
  intro x hx
  simpa using h2 x hx
theorem IsRow.nodup {r:List Int} (h:IsRow r):r.Nodup:=by
  rw [List.nodup_iff_count]
  intro x
  by_cases hx:x ∈ r
  · have hb:=h.bound x hx
    have:=h.one x.toNat (by omega)
    rw [show ((x.toNat:Nat):Int) = x by omega] at this
    omega
  · rw [List.count_eq_zero_of_not_mem hx];omega
theorem IsRow.at {r:List Int} (h:IsRow r) {i:Nat} (hi:i < r.length):0 ≤ r.getD i 0∧r.getD i 0 < r.length:=by
  have:r.getD i 0 = r[i]:=by simp [hi]
  rw [this];exact h.bound _ (List.getElem_mem hi)
theorem rowMay_ok {r:List Int}:rowMay r = 0 ↔ IsRow r:=by
  unfold rowMay isRowB
  constructor
  · intro h
    split at h
    · cases h
    · split at h
      · rename_i h1 h2
        exact ⟨by omega,by omega,of_decide_eq_true h2⟩
      · cases h
  · intro h
    rw [if_neg (by have:=h.pos;have:=h.le;omega),if_pos (decide_eq_true h.one)]
theorem rowMay_of {r:List Int} (h1:1 ≤ r.length) (h2:r.length ≤ 12) (hn:r.Nodup) (hb:∀ x ∈ r,0 ≤ x∧x < r.length):rowMay r = 0:=rowMay_ok.2 ⟨h1,h2,row_all hn hb⟩
theorem take_snoc {α:Type} (r:List α) (d:α) (k:Nat) (h:k < r.length):r.take (k + 1) = r.take k ++ [r.getD k d]:=by
  rw [List.take_succ_eq_append_getElem h];simp [h]
theorem gd (l:List Int) (j:Nat) (h:j < l.length):l[j] = l.getD j 0:=by simp [h]
def byL (a b:List Int):List Int:=b.map fun k=>a.getD k.toNat 0
theorem byL_len (a b:List Int):(byL a b).length = b.length:=by simp [byL]
theorem byL_take_len (a b:List Int) (k:Nat):(byL a (b.take k)).length ≤ k:=by rw [byL_len];exact List.length_take_le _ _
theorem byL_snoc (a b:List Int) (k:Nat) (hk:k < b.length):byL a (b.take (k + 1)) = byL a (b.take k) ++ [a.getD (b.getD k 0).toNat 0]:=by
  rw [take_snoc b 0 k hk];simp [byL]
theorem byL_get (a b:List Int) (i:Nat) (hi:i < b.length):(byL a b).getD i 0 = a.getD (b.getD i 0).toNat 0:=by
  rw [← gd _ i (by rw [byL_len];exact hi)];simp only [byL,List.getElem_map];rw [gd b i hi]
theorem idxOf_at {r:List Int} (hn:r.Nodup) {k:Nat} (hk:k < r.length):r.idxOf (r.getD k 0) = k:=by
  rw [← gd r k hk];exact hn.idxOf_getElem k hk
def JO (n:Nat):List Int:=(List.range n).map fun (i:Nat)=>(i:Int)
theorem roundsL_len (n:Nat):(JO n).length = n:=by simp [JO]
theorem roundsL_succ (n:Nat):JO (n + 1) = JO n ++ [(n:Int)]:=by simp [JO,List.range_succ]
theorem roundsL_row {n:Nat} (h1:1 ≤ n) (h2:n ≤ 12):IsRow (JO n):=by
  refine ⟨by rw [roundsL_len];exact h1,by rw [roundsL_len];exact h2,row_all ?_ fun x hx=>?_⟩
  · refine List.Pairwise.map _ (R:=fun a b=>a ≠ b) (fun a b h e=>h (by omega)) List.nodup_range
  · rw [roundsL_len]
    simp only [JO,List.mem_map,List.mem_range] at hx
    obtain ⟨i,hi,rfl⟩:=hx;omega
theorem all_snoc {xs ys:List Int} {k:Nat} (h:∀ j,j < k → xs.getD j 0 = ys.getD j 0) (e:¬ (xs.getD k 0 ≠ ys.getD k 0)):∀ j,j < k + 1 → xs.getD j 0 = ys.getD j 0:=by
  intro j hj
  by_cases hjk:j = k
  · subst hjk;exact Classical.not_not.1 e
  · exact h j (by omega)
theorem list_ext {xs ys:List Int} (hl:xs.length = ys.length) (h:∀ j,j < xs.length → xs.getD j 0 = ys.getD j 0):xs = ys:=by
  refine List.ext_getElem hl fun j h1 h2=>?_
  have:=h j h1
  simpa [h1,h2] using this
def Jj (a b:List (List Int)) (k:Nat):List Int:=((List.range k).filter fun (i:Nat)=>decide (((List.length b:Nat):Int) ≤ ((i:Nat):Int)) || !decide (a.getD i [] = b.getD i [])).map fun (i:Nat)=>(i:Int)
theorem wrongTo_le (a b:List (List Int)) (k:Nat):(Jj a b k).length ≤ k:=by
  unfold Jj;rw [List.length_map];exact Nat.le_trans (List.length_filter_le _ _) (by simp)
theorem Xj (a b:List (List Int)) (k:Nat) (h:(decide (((List.length b:Nat):Int) ≤ ((k:Nat):Int)) || !decide (a.getD k [] = b.getD k [])) = true):Jj a b (k + 1) = Jj a b k ++ [(k:Int)]:=by
  unfold Jj;rw [List.range_succ,List.filter_append,List.map_append];simp only [List.filter_cons,h];simp
theorem wrongTo_no (a b:List (List Int)) (k:Nat) (h:(decide (((List.length b:Nat):Int) ≤ ((k:Nat):Int)) || !decide (a.getD k [] = b.getD k [])) = false):Jj a b (k + 1) = Jj a b k:=by
  unfold Jj;rw [List.range_succ,List.filter_append,List.map_append];simp only [List.filter_cons,h];simp
end Go.KL
namespace Go.KL
def nxt (r:List Int) (k:Nat):Nat:=(r.getD k 0).toNat
def itr (r:List Int) (b:Nat):Nat → Nat
  | 0=>b
  | m + 1=>nxt r (itr r b m)
theorem nxt_lt {r:List Int} (h:IsRow r) {k:Nat} (hk:k < r.length):nxt r k < r.length:=by
  have:=h.at hk;unfold nxt;omega
theorem nxt_int {r:List Int} (h:IsRow r) {k:Nat} (hk:k < r.length):((nxt r k:Nat):Int) = r.getD k 0:=by
  have:=h.at hk;unfold nxt;omega
theorem nxt_inj {r:List Int} (h:IsRow r) {j k:Nat} (hj:j < r.length) (hk:k < r.length) (e:nxt r j = nxt r k):j = k:=by
  have e':r.getD j 0 = r.getD k 0:=by rw [← nxt_int h hj,← nxt_int h hk,e]
  rw [← idxOf_at h.nodup hj,← idxOf_at h.nodup hk,e']
theorem itr_lt {r:List Int} (h:IsRow r) {b:Nat} (hb:b < r.length):∀ m,itr r b m < r.length
  | 0=>hb
  | m + 1=>nxt_lt h (itr_lt h hb m)
theorem itr_cancel {r:List Int} (h:IsRow r) {b:Nat} (hb:b < r.length):∀ (i d:Nat),itr r b i = itr r b (i + d) → b = itr r b d
  | 0,d,e=>by simpa [itr] using e
  | i + 1,d,e=>by
    refine itr_cancel h hb i d ?_
    rw [show i + 1 + d = (i + d) + 1 by omega] at e
    exact nxt_inj h (itr_lt h hb i) (itr_lt h hb (i + d)) e
theorem collide {n:Nat} (f:Nat → Nat) (hf:∀ i,f i < n):∃ i j,i < j∧j ≤ n∧f i = f j:=by
  refine Classical.byContradiction fun hn=>?_
  have hl:=nodup_len n ((List.range (n + 1)).map fun (i:Nat)=>((f i:Nat):Int)) ?_ ?_
  · simp at hl;omega
  · refine List.Pairwise.map _ (R:=fun a b=>a < b∧b ≤ n) (fun a b hab e=>hn ⟨a,b,hab.1,hab.2,by omega⟩) ?_
    rw [List.pairwise_iff_getElem]
    intro i j hi hj hij
    simp at hi hj ⊢
    omega
  · intro x hx
    simp only [List.mem_map,List.mem_range] at hx
    obtain ⟨i,_,rfl⟩:=hx
    have:=hf i;omega
theorem back_exists {r:List Int} (h:IsRow r) {b:Nat} (hb:b < r.length):∃ m,m < r.length∧itr r b (m + 1) = b:=by
  obtain ⟨i,j,hij,hj,e⟩:=collide (itr r b) (itr_lt h hb)
  refine ⟨j - i - 1,by omega,?_⟩
  have:=itr_cancel h hb i (j - i) (by rw [show i + (j - i) = j by omega];exact e)
  rw [show j - i - 1 + 1 = j - i by omega];exact this.symm
def per (r:List Int) (b:Nat):Nat:=(List.range r.length).findIdx (fun m=>itr r b (m + 1) == b) + 1
theorem per_spec {r:List Int} (h:IsRow r) {b:Nat} (hb:b < r.length):1 ≤ per r b∧per r b ≤ r.length∧itr r b (per r b) = b∧∀ m,0 < m → m < per r b → itr r b m ≠ b:=by
  obtain ⟨m,hm,e⟩:=back_exists h hb
  have hx:(List.range r.length).findIdx (fun m=>itr r b (m + 1) == b) < (List.range r.length).length:=List.findIdx_lt_length_of_exists ⟨m,List.mem_range.2 hm,by simp [e]⟩
  have hx':(List.range r.length).findIdx (fun m=>itr r b (m + 1) == b) < r.length:=by simpa using hx
  refine ⟨by unfold per;omega,by unfold per;omega,?_,fun m h0 hm=>?_⟩
  · have:=List.findIdx_getElem (w:=hx)
    simp only [List.getElem_range,beq_iff_eq] at this
    exact this
  · have:=List.not_of_lt_findIdx (p:=fun m=>itr r b (m + 1) == b) (xs:=List.range r.length) (i:=m - 1) (by unfold per at hm;omega)
    simp only [List.getElem_range,beq_eq_false_iff_ne] at this
    rwa [show m - 1 + 1 = m by omega] at this
def orb (r:List Int) (b:Nat):List Int:=(List.range (per r b)).map fun (m:Nat)=>((itr r b m:Nat):Int)
def least (r:List Int) (b:Nat):Bool:=(List.range (per r b)).all fun m=>decide (b ≤ itr r b m)
def Qn (r:List Int) (k:Nat):List (List Int):=((List.range k).filter (least r)).map (orb r)
def cyclesL (r:List Int):List (List Int):=Qn r r.length
theorem cyclesTo_yes (r:List Int) (k:Nat) (h:least r k = true):Qn r (k + 1) = Qn r k ++ [orb r k]:=by simp [Qn,List.range_succ,h]
theorem cyclesTo_no (r:List Int) (k:Nat) (h:least r k = false):Qn r (k + 1) = Qn r k:=by simp [Qn,List.range_succ,h]
theorem orb_len (r:List Int) (b:Nat):(orb r b).length = per r b:=by simp [orb]
end Go.KL
namespace Go.KL
def ordTo (l:List (List Int)) (k:Nat):Nat:=(l.take k).foldl (fun o c=>o * (c.length / Nat.gcd o c.length)) 1
def oddTo (l:List (List Int)) (k:Nat):Bool:=(l.take k).foldl (fun b c=>b != decide (((c.length % 2:Nat):Int) = (0:Int))) false
def ordL (r:List Int):Nat:=ordTo (cyclesL r) (cyclesL r).length
def oddL (r:List Int):Bool:=oddTo (cyclesL r) (cyclesL r).length
def pick (c:Int) (n:Nat):Nat:=if c < 0 then (-(c + 1)).toNat % n else c.toNat % n
theorem pick_lt (c:Int) {n:Nat} (hn:0 < n):pick c n < n:=by
  unfold pick;split <;> exact Nat.mod_lt _ hn
def chgF:Nat → Nat → Nat → Nat → List Int
  | 0,_,_,_=>[]
  | f + 1,c,t,n=>if n < t then [] else if c % 3 = 0 ∨ t = n then (t:Int) :: chgF f (c / 3) (t + 1) n else chgF f (c / 3) (t + 2) n
def KM (c:Int) (n:Nat):List Int:=chgF (n + 1) (pick c 1099511627776) 1 n
theorem chgF_end {f c t n:Nat} (h:n < t):chgF f c t n = []:=by
  cases f with
  | zero=>rfl
  | succ f=>simp [chgF,h]
theorem chgF_yes {xs zs:List Int} {f c t n:Nat} (h:xs ++ chgF f c t n = zs) (ht:t ≤ n) (hf:n + 1 ≤ f + t) (hc:c % 3 = 0 ∨ t = n):(xs ++ [((t:Nat):Int)]) ++ chgF (f - 1) (c / 3) (t + 1) n = zs:=by
  cases f with
  | zero=>omega
  | succ f =>
    rw [← h]
    simp only [chgF,Nat.add_sub_cancel]
    rw [if_neg (by omega),if_pos hc];simp
theorem chgF_no {xs zs:List Int} {f c t n:Nat} (h:xs ++ chgF f c t n = zs) (ht:t ≤ n) (hf:n + 1 ≤ f + t) (hc:¬ (c % 3 = 0 ∨ t = n)):xs ++ chgF (f - 1) (c / 3) (t + 2) n = zs:=by
  cases f with
  | zero=>omega
  | succ f =>
    rw [← h]
    simp only [chgF,Nat.add_sub_cancel]
    rw [if_neg (by omega),if_neg hc]
def indexL (xs:List Int) (x:Int):Int:=if x ∈ xs then ((xs.idxOf x:Nat):Int) else -1
theorem indexL_yes {xs:List Int} {x:Int} {k:Nat} (hk:k < xs.length) (h:x = xs.getD k 0) (hno:∀ j,j < k → xs.getD j 0 ≠ x):indexL xs x = k:=by
  have hm:x ∈ xs:=by rw [h,← gd xs k hk];exact List.getElem_mem hk
  unfold indexL
  rw [if_pos hm]
  have hl:=List.idxOf_lt_length_of_mem hm
  have h1:=List.getElem_idxOf hl
  rw [gd xs _ hl] at h1
  have h2:¬ xs.idxOf x < k:=fun hlt=>hno _ hlt h1
  have h3:¬ k < xs.idxOf x:=fun hlt=>by
    have:=List.not_of_lt_findIdx (p:=(· == x)) (xs:=xs) (i:=k) hlt
    simp only [beq_eq_false_iff_ne,ne_eq] at this
    rw [gd xs k hk] at this
    exact this h.symm
  omega
theorem indexL_no {xs:List Int} {x:Int} (hno:∀ j,j < xs.length → xs.getD j 0 ≠ x):indexL xs x = -1:=by
  unfold indexL
  rw [if_neg]
  intro hm
  have hl:=List.idxOf_lt_length_of_mem hm
  have h1:=List.getElem_idxOf hl
  rw [gd xs _ hl] at h1
  exact hno _ hl h1
theorem indexL_iff {xs:List Int} {x:Int}:(0:Int) ≤ indexL xs x ↔ x ∈ xs:=by
  unfold indexL
  split
  · rename_i h;exact ⟨fun _=>h,fun _=>by omega⟩
  · rename_i h;exact ⟨fun e=>absurd e (by omega),fun e=>absurd e h⟩
theorem mem_at {xs:List Int} {x:Int} {k:Nat} (hk:k < xs.length) (h:xs.getD k 0 = x):x ∈ xs:=by
  rw [← h,← gd xs k hk];exact List.getElem_mem hk
theorem not_mem_all {xs:List Int} {x:Int} (hno:∀ j,j < xs.length → xs.getD j 0 ≠ x):x ∉ xs:=fun hm=>by
  have hl:=List.idxOf_lt_length_of_mem hm
  have h1:=List.getElem_idxOf hl
  rw [gd xs _ hl] at h1
  exact hno _ hl h1
def QQ (n:Int) (l:List Int):Nat → Option Int
  | 0=>some 0
  | k + 1=>(QQ n l k).bind fun z=>if l.getD k 0 ≤ z ∨ n < l.getD k 0 ∨ (l.getD k 0 - z).toNat % 2 = 0 then none else some (l.getD k 0)
def Qh (n:Int) (l:List Int):Int:=if n < 1 ∨ 12 < n then 1 else match QQ n l l.length with | none=>6 | some z=>if (n - z).toNat % 2 = 1 then 6 else 0
theorem scan_none {n:Int} {l:List Int} {k:Nat} (h:QQ n l k = none):∀ m,k ≤ m → QQ n l m = none
  | 0, hm => by obtain rfl:k = 0:=by omega
                exact h
  | m + 1,hm=>by
    by_cases e:k = m + 1
    · subst e;exact h
    · simp only [QQ];rw [scan_none h m (by omega)];rfl
theorem scan_step {n z:Int} {l:List Int} {k:Nat} (h:QQ n l k = some z) (h1:¬ l.getD k 0 ≤ z) (h2:¬ n < l.getD k 0) (_h:0 ≤ z) (h3:¬ (((l.getD k 0 - z).toNat % 2:Nat):Int) = (0:Int)):QQ n l (k + 1) = some (l.getD k 0):=by
  simp only [QQ,h,Option.bind_some]
  rw [if_neg (by omega)]
theorem chgMay_cnt {n:Int} {l:List Int} (h:n < 1 ∨ 12 < n):Qh n l = 1:=by unfold Qh;rw [if_pos h]
theorem chgMay_scan {n z:Int} {l:List Int} {k:Nat} (hn:¬ (n < 1 ∨ 12 < n)) (h:QQ n l k = some z) (hk:k < l.length) (hc:l.getD k 0 ≤ z ∨ n < l.getD k 0 ∨ (((l.getD k 0 - z).toNat % 2:Nat):Int) = (0:Int)):Qh n l = 6:=by
  unfold Qh
  rw [if_neg hn]
  have h1:QQ n l (k + 1) = none:=by
    simp only [QQ,h,Option.bind_some]
    rw [if_pos (by omega)]
  rw [scan_none h1 l.length (by omega)]
theorem chgMay_odd {n z:Int} {l:List Int} (hn:¬ (n < 1 ∨ 12 < n)) (h:QQ n l l.length = some z) (hc:(((n - z).toNat % 2:Nat):Int) = (1:Int)):Qh n l = 6:=by
  unfold Qh
  rw [if_neg hn,h]
  simp only
  rw [if_pos (by omega)]
theorem chgMay_ok {n z:Int} {l:List Int} (hn:¬ (n < 1 ∨ 12 < n)) (h:QQ n l l.length = some z) (hc:¬ (((n - z).toNat % 2:Nat):Int) = (1:Int)):Qh n l = 0:=by
  unfold Qh
  rw [if_neg hn,h]
  simp only
  rw [if_neg (by omega)]
end Go.KL
namespace Go.KL
def okL:Int → List Int → Int → Prop
  | z,[],n=>z ≤ n∧(n - z) % 2 = 0
  | z,p :: l,n=>z < p∧p ≤ n∧(p - z) % 2 = 1∧okL p l n
theorem okL_lt:∀ {l:List Int} {z n:Int},okL z l n → ∀ x ∈ l,z < x∧x ≤ n
  | [],_,_,_,x,hx=>by simp at hx
  | p :: l,z,n,h,x,hx=>by
    obtain ⟨h1,h2,_,h4⟩:=h
    rcases List.mem_cons.1 hx with e | hx
    · rw [e];exact ⟨h1,h2⟩
    · have:=okL_lt h4 x hx;omega
theorem okL_scan {n:Int} {l:List Int} (h:okL 0 l n):∀ k,k ≤ l.length → ∃ z,QQ n l k = some z∧0 ≤ z∧okL z (l.drop k) n
  | 0,_=>⟨0,rfl,by omega,by simpa using h⟩
  | k + 1,hk=>by
    obtain ⟨z,hs,hz,ho⟩:=okL_scan h k (by omega)
    have e:l.drop k = l.getD k 0 :: l.drop (k + 1):=by rw [List.drop_eq_getElem_cons (show k < l.length by omega),gd]
    rw [e] at ho
    obtain ⟨h1,h2,h3,h4⟩:=ho
    exact ⟨l.getD k 0,scan_step hs (by omega) (by omega) hz (by omega),by omega,h4⟩
theorem chgMay_of_okL {n:Int} {l:List Int} (hn:¬ (n < 1 ∨ 12 < n)) (h:okL 0 l n):Qh n l = 0:=by
  obtain ⟨z,hs,hz,ho⟩:=okL_scan h l.length (Nat.le_refl _)
  rw [List.drop_length] at ho
  obtain ⟨h1,h2⟩:=ho
  exact chgMay_ok hn hs (by omega)
theorem chgMay_n {n:Int} {l:List Int} (h:Qh n l = 0):¬ (n < 1 ∨ 12 < n):=fun hc=>by rw [chgMay_cnt hc] at h;omega
theorem okL_of_chgMay {n:Int} {l:List Int} (h:Qh n l = 0):okL 0 l n:=by
  have hn:=chgMay_n h
  have key:∀ d k,k + d = l.length → ∀ z,0 ≤ z → z ≤ n → QQ n l k = some z → okL z (l.drop k) n:=by
    intro d
    induction d with
    | zero =>
      intro k hk z hz hzn hs
      have ek:k = l.length:=by omega
      subst ek
      rw [List.drop_length]
      refine ⟨hzn,?_⟩
      apply Classical.byContradiction;intro hc
      have:=chgMay_odd hn hs (by omega)
      omega
    | succ d ih =>
      intro k hk z hz hzn hs
      have e:l.drop k = l.getD k 0 :: l.drop (k + 1):=by rw [List.drop_eq_getElem_cons (show k < l.length by omega),gd]
      have hb:¬ (l.getD k 0 ≤ z ∨ n < l.getD k 0 ∨ (((l.getD k 0 - z).toNat % 2:Nat):Int) = 0):=fun hc=>by
        have:=chgMay_scan hn hs (show k < l.length by omega) hc
        omega
      rw [e]
      exact ⟨by omega,by omega,by omega,ih (k + 1) (by omega) _ (by omega) (by omega) (scan_step hs (by omega) (by omega) hz (by omega))⟩
  have:=key l.length 0 (by omega) 0 (by omega) (by omega) rfl
  simpa using this
def rowF (l:List Int) (n:Nat):Nat → Nat → List Int
  | 0,_=>[]
  | f + 1,i=>if n ≤ i then [] else if ((i:Int) + 1) ∈ l then (i:Int) :: rowF l n f (i + 1) else ((i:Int) + 1) :: (i:Int) :: rowF l n f (i + 2)
def JQ (n:Nat) (l:List Int):List Int:=rowF l n n 0
theorem rowF_end {l:List Int} {n f i:Nat} (h:n ≤ i):rowF l n f i = []:=by cases f <;> simp [rowF,h]
theorem rowF_yes {l xs zs:List Int} {n f i:Nat} (h:xs ++ rowF l n f i = zs) (hi:i < n) (hf:n ≤ f + i) (hc:((i:Int) + 1) ∈ l):(xs ++ [(i:Int)]) ++ rowF l n (f - 1) (i + 1) = zs:=by
  obtain ⟨f,rfl⟩:∃ g,f = g + 1:=⟨f - 1,by omega⟩
  rw [rowF,if_neg (by omega),if_pos hc] at h
  rw [← h];simp
theorem rowF_no {l xs zs:List Int} {n f i:Nat} (h:xs ++ rowF l n f i = zs) (hi:i < n) (hf:n ≤ f + i) (hc:((i:Int) + 1) ∉ l):(xs ++ [(i:Int) + 1,(i:Int)]) ++ rowF l n (f - 1) (i + 2) = zs:=by
  obtain ⟨f,rfl⟩:∃ g,f = g + 1:=⟨f - 1,by omega⟩
  rw [rowF,if_neg (by omega),if_neg hc] at h
  rw [← h];simp
structure AtC (n:Nat) (l:List Int) (i:Nat) where
  ex:∃ L,okL i L n∧∀ x,(i:Int) < x → (x ∈ l ↔ x ∈ L)
theorem AtC.zero {n:Nat} {l:List Int} (h:okL 0 l n):AtC n l 0:=⟨l,h,fun _ _=>Iff.rfl⟩
theorem AtC.le {n:Nat} {l:List Int} {i:Nat} (h:AtC n l i):i ≤ n:=by
  obtain ⟨L,ho,_⟩:=h.ex
  cases L with
  | nil=>exact Int.ofNat_le.1 ho.1
  | cons p L=>have:=ho.1;have:=ho.2.1;omega
theorem AtC.yes {n:Nat} {l:List Int} {i:Nat} (h:AtC n l i) (hc:((i:Int) + 1) ∈ l):AtC n l (i + 1):=by
  obtain ⟨L,ho,hm⟩:=h.ex
  have hL:=(hm _ (by omega)).1 hc
  cases L with
  | nil=>simp at hL
  | cons p L =>
    obtain ⟨h1,h2,h3,h4⟩:=ho
    have e:p = (i:Int) + 1:=by
      rcases List.mem_cons.1 hL with e | hm2
      · exact e.symm
      · have:=(okL_lt h4 _ hm2).1;omega
    subst e
    refine ⟨L,by simpa using h4,fun x hx=>?_⟩
    rw [hm x (by omega),List.mem_cons]
    exact ⟨fun h=>h.resolve_left (by omega),.inr⟩
theorem AtC.no {n:Nat} {l:List Int} {i:Nat} (h:AtC n l i) (hi:i < n) (hc:((i:Int) + 1) ∉ l):i + 2 ≤ n∧AtC n l (i + 2):=by
  obtain ⟨L,ho,hm⟩:=h.ex
  cases L with
  | nil =>
    obtain ⟨h1,h2⟩:=ho
    exact ⟨by omega,[],⟨by omega,by omega⟩,fun x hx=>hm x (by omega)⟩
  | cons p L =>
    obtain ⟨h1,h2,h3,h4⟩:=ho
    have hp:p ≠ (i:Int) + 1:=fun e=>hc ((hm _ (by omega)).2 (by rw [← e];simp))
    exact ⟨by omega,p :: L,⟨by omega,h2,by omega,h4⟩,fun x hx=>hm x (by omega)⟩
theorem rowF_len {n:Nat} {l:List Int}:∀ (f i:Nat),AtC n l i → n ≤ f + i → (rowF l n f i).length = n - i
  | 0,i,_,hf=>by simp [rowF];omega
  | f + 1,i,h,hf=>by
    by_cases hi:n ≤ i
    · rw [rowF_end hi];simp;omega
    · by_cases hc:((i:Int) + 1) ∈ l
      · rw [rowF,if_neg hi,if_pos hc,List.length_cons,rowF_len f _ (h.yes hc) (by omega)];omega
      · have h2:=h.no (by omega) hc
        rw [rowF,if_neg hi,if_neg hc,List.length_cons,List.length_cons,rowF_len f _ h2.2 (by omega)];omega
theorem QT {n:Nat} {l:List Int} (h:okL 0 l n):(JQ n l).length = n:=by
  unfold JQ;have:=rowF_len n 0 (AtC.zero h) (by omega);simpa using this
def Ke (n:Nat) (xs:List Int):List Int:=xs ++ List.replicate (n - xs.length) 0
theorem padTo_len {n:Nat} {xs:List Int} (h:xs.length ≤ n):(Ke n xs).length = n:=by simp [Ke];omega
theorem padTo_nil (n:Nat):Ke n [] = List.replicate n 0:=by simp [Ke]
theorem padTo_set {n:Nat} {xs:List Int} (h:xs.length < n) (v:Int) {i:Nat} (hi:i = xs.length):(Ke n xs).set i v = Ke n (xs ++ [v]):=by
  subst hi
  unfold Ke
  obtain ⟨m,hm⟩:∃ m,n - xs.length = m + 1:=⟨n - xs.length - 1,by omega⟩
  rw [hm,List.replicate_succ,List.set_append_right _ _ (Nat.le_refl _)]
  simp [show n - (xs.length + 1) = m by omega]
theorem padTo_full {n:Nat} {xs:List Int} (h:xs.length = n):Ke n xs = xs:=by simp [Ke,h]
end Go.KL
namespace Go.KL
theorem Xa (x:Int) (l:List Int):(x :: l).getD 0 0 = x:=rfl
theorem Qv (x:Int) (l:List Int) (j:Nat):(x :: l).getD (j + 1) 0 = l.getD j 0:=rfl
def ups (i:Nat) (l:List Int):Nat:=(List.range l.length).countP fun j=>decide (((j + i:Nat):Int) < l.getD j 0)
theorem ups_nil (i:Nat):ups i [] = 0:=rfl
theorem ups_cons (i:Nat) (x:Int) (l:List Int):ups i (x :: l) = (if (i:Int) < x then 1 else 0) + ups (i + 1) l:=by
  unfold ups
  rw [List.length_cons,List.range_succ_eq_map,List.countP_cons,List.countP_map]
  have:((fun j=>decide (((j + i:Nat):Int) < (x :: l).getD j 0)) ∘ Nat.succ) = fun j=>decide (((j + (i + 1):Nat):Int) < l.getD j 0):=by
    funext j;simp only [Function.comp,Nat.succ_eq_add_one,Qv];congr 2;omega
  rw [this,Xa]
  simp only [Nat.zero_add,decide_eq_true_eq]
  omega
structure Piece (i:Nat) (n:Nat) (r:List Int):Prop where
  len:r.length = n - i
  bd:∀ j,i ≤ j → j < n → (i:Int) ≤ r.getD (j - i) 0∧r.getD (j - i) 0 < n
  inv:∀ j,i ≤ j → j < n → r.getD ((r.getD (j - i) 0).toNat - i) 0 = j
theorem Piece.one {i n:Nat} {r:List Int} (h:Piece (i + 1) n r) (hi:i < n):Piece i n ((i:Int) :: r):=by
  refine ⟨by rw [List.length_cons,h.len];omega,fun j h1 h2=>?_,fun j h1 h2=>?_⟩
  · by_cases e:j = i
    · subst e;rw [Nat.sub_self,Xa];omega
    · obtain ⟨d,rfl⟩:∃ d,j = i + 1 + d:=⟨j - (i + 1),by omega⟩
      have:=h.bd (i + 1 + d) (by omega) h2
      rw [show i + 1 + d - (i + 1) = d by omega] at this
      rw [show i + 1 + d - i = d + 1 by omega,Qv];omega
  · by_cases e:j = i
    · subst e;rw [Nat.sub_self,Xa,Int.toNat_natCast,Nat.sub_self,Xa]
    · obtain ⟨d,rfl⟩:∃ d,j = i + 1 + d:=⟨j - (i + 1),by omega⟩
      have hb:=h.bd (i + 1 + d) (by omega) h2
      have hv:=h.inv (i + 1 + d) (by omega) h2
      rw [show i + 1 + d - (i + 1) = d by omega] at hb hv
      rw [show i + 1 + d - i = d + 1 by omega,Qv]
      rw [show (r.getD d 0).toNat - i = ((r.getD d 0).toNat - (i + 1)) + 1 by omega,Qv,hv]
theorem Piece.two {i n:Nat} {r:List Int} (h:Piece (i + 2) n r) (hi:i + 2 ≤ n):Piece i n (((i:Int) + 1) :: (i:Int) :: r):=by
  refine ⟨by rw [List.length_cons,List.length_cons,h.len];omega,fun j h1 h2=>?_,fun j h1 h2=>?_⟩
  · by_cases e:j = i
    · subst e;rw [Nat.sub_self,Xa];omega
    · by_cases e2:j = i + 1
      · subst e2;rw [show i + 1 - i = 1 by omega,Qv,Xa];omega
      · obtain ⟨d,rfl⟩:∃ d,j = i + 2 + d:=⟨j - (i + 2),by omega⟩
        have:=h.bd (i + 2 + d) (by omega) h2
        rw [show i + 2 + d - (i + 2) = d by omega] at this
        rw [show i + 2 + d - i = d + 1 + 1 by omega,Qv,Qv];omega
  · by_cases e:j = i
    · subst e;rw [Nat.sub_self,Xa,show ((j:Int) + 1).toNat - j = 1 by omega,Qv,Xa]
    · by_cases e2:j = i + 1
      · subst e2;rw [show i + 1 - i = 1 by omega,Qv,Xa,Int.toNat_natCast,Nat.sub_self,Xa];omega
      · obtain ⟨d,rfl⟩:∃ d,j = i + 2 + d:=⟨j - (i + 2),by omega⟩
        have hb:=h.bd (i + 2 + d) (by omega) h2
        have hv:=h.inv (i + 2 + d) (by omega) h2
        rw [show i + 2 + d - (i + 2) = d by omega] at hb hv
        rw [show i + 2 + d - i = d + 1 + 1 by omega,Qv,Qv]
        rw [show (r.getD d 0).toNat - i = ((r.getD d 0).toNat - (i + 2)) + 1 + 1 by omega,Qv,Qv,hv]
theorem Piece.end' (n:Nat):Piece n n []:=⟨by simp,fun j h1 h2=>by omega,fun j h1 h2=>by omega⟩
theorem rowF_piece {n:Nat} {l:List Int}:∀ (f i:Nat) (L:List Int),okL i L n → (∀ x,(i:Int) < x → (x ∈ l ↔ x ∈ L)) → n ≤ f + i → i ≤ n → Piece i n (rowF l n f i)∧n - i = 2 * ups i (rowF l n f i) + L.length:=by
  intro f
  induction f with
  | zero =>
    intro i L ho hm hf hi
    have e:i = n:=by omega
    subst e
    have hL:L = []:=by
      cases L with
      | nil=>rfl
      | cons p L=>have:=ho.1;have:=ho.2.1;omega
    subst hL
    rw [rowF,ups_nil];exact ⟨Piece.end' i,by simp⟩
  | succ f ih =>
    intro i L ho hm hf hi
    by_cases hn:n ≤ i
    · have e:i = n:=by omega
      subst e
      have hL:L = []:=by
        cases L with
        | nil=>rfl
        | cons p L=>have:=ho.1;have:=ho.2.1;omega
      subst hL
      rw [rowF_end (Nat.le_refl _),ups_nil];exact ⟨Piece.end' i,by simp⟩
    · by_cases hc:((i:Int) + 1) ∈ l
      · have hL:=(hm _ (by omega)).1 hc
        cases L with
        | nil=>simp at hL
        | cons p L =>
          obtain ⟨h1,h2,h3,h4⟩:=ho
          have e:p = (i:Int) + 1:=by
            rcases List.mem_cons.1 hL with e | hm2
            · exact e.symm
            · have:=(okL_lt h4 _ hm2).1;omega
          subst e
          have:=ih (i + 1) L (by simpa using h4) (fun x hx=>by
            rw [hm x (by omega),List.mem_cons]
            exact ⟨fun h=>h.resolve_left (by omega),.inr⟩) (by omega) (by omega)
          rw [rowF,if_neg hn,if_pos hc,ups_cons,if_neg (by omega),List.length_cons]
          exact ⟨this.1.one (by omega),by omega⟩
      · have h2:=AtC.no ⟨L,ho,hm⟩ (by omega) hc
        have ho2:okL ((i + 2:Nat):Int) L n:=by
          cases L with
          | nil=>obtain ⟨h3,h4⟩:=ho;exact ⟨by omega,by omega⟩
          | cons p L =>
            obtain ⟨h3,h4,h5,h6⟩:=ho
            have hp:p ≠ (i:Int) + 1:=fun e=>hc ((hm _ (by omega)).2 (by rw [← e];simp))
            exact ⟨by omega,h4,by omega,h6⟩
        have:=ih (i + 2) L ho2 (fun x hx=>hm x (by omega)) (by omega) h2.1
        rw [rowF,if_neg hn,if_neg hc,ups_cons,ups_cons,if_pos (by omega),if_neg (by omega)]
        exact ⟨this.1.two h2.1,by rw [show i + 1 + 1 = i + 2 from rfl];omega⟩
theorem chgRow_piece {n:Nat} {l:List Int} (h:okL 0 l n):Piece 0 n (JQ n l)∧n = 2 * ups 0 (JQ n l) + l.length:=by
  have:=rowF_piece n 0 l h (fun _ _=>Iff.rfl) (by omega) (by omega)
  exact this
theorem piece_row {n:Nat} {r:List Int} (h:Piece 0 n r) (h1:1 ≤ n) (h2:n ≤ 12):IsRow r:=by
  have hl:r.length = n:=by have:=h.len;omega
  apply rowMay_ok.1
  refine rowMay_of (by omega) (by omega) ?_ ?_
  · rw [List.nodup_iff_pairwise_ne,List.pairwise_iff_getElem]
    intro i j hi hj hij
    rw [gd r i hi,gd r j hj]
    intro e
    have a:=h.inv i (by omega) (by omega)
    have b:=h.inv j (by omega) (by omega)
    simp only [Nat.sub_zero] at a b
    rw [e] at a;omega
  · intro x hx
    obtain ⟨j,hj,e⟩:=List.getElem_of_mem hx
    rw [gd r j hj] at e
    have:=h.bd j (by omega) (by omega)
    simp only [Nat.sub_zero] at this
    omega
theorem ordTo_pre {n:Nat} {r:List Int} (h:Piece 0 n r) (hr:IsRow r) (hl:r.length = n) {b:Nat} (hb:b < r.length):per r b ≤ 2∧itr r b 1 = (r.getD b 0).toNat∧itr r b 2 = b:=by
  have hp:=per_spec hr hb
  have e2:itr r b 2 = b:=by
    show (r.getD (itr r b 1) 0).toNat = b
    show (r.getD (r.getD b 0).toNat 0).toNat = b
    have:=h.inv b (by omega) (by omega)
    simp only [Nat.sub_zero] at this
    rw [this];rfl
  refine ⟨?_,rfl,e2⟩
  apply Classical.byContradiction;intro hc
  exact hp.2.2.2 2 (by omega) (by omega) e2
theorem per_iff {n:Nat} {r:List Int} (h:Piece 0 n r) (hr:IsRow r) (hl:r.length = n) {b:Nat} (hb:b < r.length):per r b = if r.getD b 0 = b then 1 else 2:=by
  have hp:=per_spec hr hb
  obtain ⟨h2,e1,e2⟩:=ordTo_pre h hr hl hb
  have hbd:=h.bd b (by omega) (by omega)
  simp only [Nat.sub_zero] at hbd
  split
  · rename_i e
    apply Classical.byContradiction;intro hc
    exact hp.2.2.2 1 (by omega) (by omega) (by rw [e1,e];omega)
  · rename_i e
    have:per r b ≠ 1:=fun hc=>by
      have:=hp.2.2.1;rw [hc,e1] at this;omega
    omega
theorem least_inv {n:Nat} {r:List Int} (h:Piece 0 n r) (hr:IsRow r) (hl:r.length = n) {b:Nat} (hb:b < r.length):least r b = decide ((b:Int) ≤ r.getD b 0):=by
  have hp:=per_iff h hr hl hb
  have hbd:=h.bd b (by omega) (by omega)
  simp only [Nat.sub_zero] at hbd
  obtain ⟨h2,e1,e2⟩:=ordTo_pre h hr hl hb
  unfold least
  rw [hp]
  have r2:List.range 2 = [0,1]:=rfl
  have r1:List.range 1 = [0]:=rfl
  have i0:itr r b 0 = b:=rfl
  split
  · rename_i e;rw [r1];simp only [List.all_cons,List.all_nil,Bool.and_true,i0,Nat.le_refl,decide_true];exact (decide_eq_true (by omega)).symm
  · rename_i e
    rw [r2]
    simp only [List.all_cons,List.all_nil,Bool.and_true,i0,e1,Nat.le_refl,decide_true,Bool.true_and,decide_eq_decide]
    omega
theorem oddTo_snoc (l:List (List Int)) (c:List Int):oddTo (l ++ [c]) (l ++ [c]).length = (oddTo l l.length != decide (((c.length % 2:Nat):Int) = 0)):=by
  simp only [oddTo,List.take_length,List.foldl_append,List.foldl_cons,List.foldl_nil]
theorem ordTo_snoc (l:List (List Int)) (c:List Int):ordTo (l ++ [c]) (l ++ [c]).length = ordTo l l.length * (c.length / Nat.gcd (ordTo l l.length) c.length):=by
  simp only [ordTo,List.take_length,List.foldl_append,List.foldl_cons,List.foldl_nil]
theorem inv_cycles {n:Nat} {r:List Int} (h:Piece 0 n r) (hr:IsRow r) (hl:r.length = n):∀ k,k ≤ n →
    (ordTo (Qn r k) (Qn r k).length = 1 ∨ ordTo (Qn r k) (Qn r k).length = 2) ∧
    oddTo (Qn r k) (Qn r k).length = decide ((List.range k).countP (fun (j:Nat)=>decide ((j:Int) < r.getD j 0)) % 2 = 1)
  | 0,_=>⟨.inl rfl,rfl⟩
  | k + 1,hk=>by
    have ih:=inv_cycles h hr hl k (by omega)
    have hle:=least_inv h hr hl (b:=k) (by omega)
    have hpe:=per_iff h hr hl (b:=k) (by omega)
    rw [List.range_succ,List.countP_append,List.countP_cons,List.countP_nil]
    by_cases hlt:(k:Int) ≤ r.getD k 0
    · rw [cyclesTo_yes r k (by rw [hle];exact decide_eq_true hlt),oddTo_snoc,ordTo_snoc,orb_len,hpe,ih.2]
      by_cases e:r.getD k 0 = k
      · rw [if_pos e]
        refine ⟨?_,?_⟩
        · rw [Nat.gcd_one_right];simpa using ih.1
        · have:¬ ((k:Int) < r.getD k 0):=by omega
          simp only [this,decide_false,Bool.false_eq_true,if_false]
          simp
      · rw [if_neg e]
        have e3:((k:Int) < r.getD k 0):=by omega
        refine ⟨?_,?_⟩
        · rcases ih.1 with h1 | h1 <;> rw [h1] <;> decide
        · simp only [e3,decide_true,if_true]
          rcases Nat.mod_two_eq_zero_or_one ((List.range k).countP (fun (j:Nat)=>decide ((j:Int) < r.getD j 0))) with h1 | h1
          · rw [show (0 + 1:Nat) = 1 from rfl,Nat.add_mod,h1];decide
          · rw [show (0 + 1:Nat) = 1 from rfl,Nat.add_mod,h1];decide
    · rw [cyclesTo_no r k (by rw [hle];exact decide_eq_false hlt)]
      have e3:¬ ((k:Int) < r.getD k 0):=by omega
      simp only [e3,decide_false]
      simpa using ih
theorem ord_inv {n:Nat} {l:List Int} (h:okL 0 l n) (h1:1 ≤ n) (h2:n ≤ 12):IsRow (JQ n l)∧ordL (JQ n l) ≤ 2∧oddL (JQ n l) = decide (((n - l.length) / 2) % 2 = 1)∧l.length ≤ n:=by
  obtain ⟨hp,hc⟩:=chgRow_piece h
  have hl:(JQ n l).length = n:=QT h
  have hr:=piece_row hp h1 h2
  have hi:=inv_cycles hp hr hl n (Nat.le_refl _)
  have e:cyclesL (JQ n l) = Qn (JQ n l) n:=by unfold cyclesL;rw [hl]
  refine ⟨hr,?_,?_,by omega⟩
  · unfold ordL;rw [e];rcases hi.1 with h | h <;> rw [h] <;> decide
  · unfold oddL;rw [e,hi.2]
    congr 2
    have:(List.range n).countP (fun (j:Nat)=>decide ((j:Int) < (JQ n l).getD j 0)) = ups 0 (JQ n l):=by
      unfold ups;rw [hl];rfl
    rw [this];omega
end Go.KL
namespace Go.KL
def bad:Obj → Obj
  | .cells _ e fr=>.cells #[] e fr
  | _=>.pending #[] 0
def kd:Obj → Obj
  | .cells _ e fr=>.cells #[] e fr
  | .view a u=>.view a u
  | _=>.pending #[] 0
theorem bad_kd (o:Obj):bad (kd o) = bad o:=by cases o <;> rfl
theorem bad_of_kd {x y:Option Obj} (h:x.map kd = y.map kd):x.map bad = y.map bad:=by
  have e:=congrArg (Option.map bad) h
  simpa [Function.comp_def,bad_kd] using e
theorem view_kd {x y:Option Obj} {a:Addr} {u:TypeId} (h:y.map kd = x.map kd) (hx:x = some (.view a u)):y = some (.view a u):=by
  subst hx
  cases y with
  | none=>cases h
  | some o=>cases o <;> simp_all [kd]
def ice:Obj → Obj
  | .cells c e _=>.cells c e (0,c.size)
  | _=>.pending #[] 0
structure Hid where
  h:Nat → Prop
  o:Nat → Prop
instance:CoeFun Hid fun _=>Nat → Prop:=⟨Hid.h⟩
structure Pois (F:Hid) (w v:World):Prop where
  tape:v.tape = w.tape
  drawn:v.drawn = w.drawn
  os:v.os = w.os
  size:v.heap.size = w.heap.size
  same:∀ b,¬ F b → ¬ F.o b → v.heap[b]? = w.heap[b]?
  ro:∀ b,¬ F b → F.o b → v.heap[b]? = (w.heap[b]?).map ice
  bad:∀ b,F b → v.heap[b]? = (w.heap[b]?).map bad
  nov:∀ (b:Nat) (a:Addr) (u:TypeId),v.heap[b]? ≠ some (Obj.view a u)
def LocOf (F:Hid) (n:Nat):Loc → Prop
  | .cell a=>¬ F a.block∧a.block < n
  | .obj r=>¬ F r∧r < n
  | .mark m=>m = .noRoom
  | _=>False
def WrOf (F:Hid) (e:Event):Prop:=e.write = true → match e.loc with | .cell a=>¬ F.o a.block | .obj r=>¬ F.o r | _=>True
structure Keeps (F:Hid) (w w':World):Prop where
  tape:w'.tape = w.tape
  os:w'.os = w.os
  output:w'.output = w.output
  size:w.heap.size ≤ w'.heap.size
  blk:∀ b,F b ∨ F.o b → b < w.heap.size → w'.heap[b]? = w.heap[b]?
  kin:∀ b,b < w.heap.size → (w'.heap[b]?).map Go.KL.kd = (w.heap[b]?).map Go.KL.kd
theorem Keeps.refl (F:Hid) (w:World):Keeps F w w:=⟨rfl,rfl,rfl,Nat.le_refl _,fun _ _ _=>rfl,fun _ _=>rfl⟩
theorem Keeps.trans {F:Hid} {a b c:World} (h:Keeps F a b) (k:Keeps F b c):Keeps F a c :=
  ⟨k.tape.trans h.tape,k.os.trans h.os,k.output.trans h.output,Nat.le_trans h.size k.size,fun x hx hl=>(k.blk x hx (Nat.lt_of_lt_of_le hl h.size)).trans (h.blk x hx hl),fun x hl=>(k.kin x (Nat.lt_of_lt_of_le hl h.size)).trans (h.kin x hl)⟩
structure Frm (al:Bool) (P:Program) {α:Type} (x:Sem α):Prop where
  go:∀ (F:Hid) (w v:World) (es:Array Event) (r:α) (v':World),(al = true → (∀ b,¬ F.o b)∧∀ b,w.heap.size ≤ b → ¬ F b) → Pois F w v → x.run P v = .ok r v' →
    ∃ w' us,x.runT P w es = (.ok r w',es ++ us)∧Pois F w' v'∧Keeps F w w'∧(al = false → w'.heap.size = w.heap.size)∧∀ e ∈ us,LocOf F w'.heap.size e.loc∧WrOf F e
section
variable {F:Hid} {w v:World}
theorem Pois.cell (h:Pois F w v) {a:Addr} {x:Value} (hx:v.cell? a = some x):¬ F a.block∧w.cell? a = some x:=by
  by_cases hF:F a.block
  · exfalso
    have he:=h.bad _ hF
    unfold World.cell? at hx
    cases hw:w.heap[a.block]? with
    | none=>rw [hw] at he;simp only [Option.map_none] at he;rw [he] at hx;simp at hx
    | some o =>
      rw [hw] at he
      simp only [Option.map_some] at he
      rw [he] at hx
      cases o <;> simp [Go.KL.bad] at hx
  · refine ⟨hF,?_⟩
    by_cases hO:F.o a.block
    · have he:=h.ro _ hF hO
      unfold World.cell? at hx ⊢
      cases hw:w.heap[a.block]? with
      | none=>rw [hw] at he;simp only [Option.map_none] at he;rw [he] at hx;simp at hx
      | some o =>
        rw [hw] at he
        simp only [Option.map_some] at he
        rw [he] at hx
        cases o <;> simp [Go.KL.ice] at hx ⊢
        exact hx
    · have:=h.same _ hF hO
      simp only [World.cell?,this] at hx ⊢
      exact hx
theorem cell_lt {a:Addr} {x:Value} (hx:w.cell? a = some x):a.block < w.heap.size:=by
  unfold World.cell? at hx
  by_cases hl:a.block < w.heap.size
  · exact hl
  · rw [Array.getElem?_eq_none (by omega)] at hx
    simp at hx
theorem Pois.far {P:Program} (h:Pois F w v) (a:Addr) (at_:Bool):∃ e,v.farLoad P a at_ = .error e:=by
  unfold World.farLoad
  split
  · rename_i x u hx;exact absurd hx (h.nov _ _ _)
  · exact ⟨_,rfl⟩
theorem Pois.farS {P:Program} (h:Pois F w v) (a:Addr) (x:Value) (at_:Bool):∃ e,v.farStore P a x at_ = .error e:=by
  unfold World.farStore
  split
  · rename_i y u hx;exact absurd hx (h.nov _ _ _)
  · exact ⟨_,rfl⟩
theorem Pois.melt (h:Pois F w v) {a:Addr} {x:Value} (hx:v.cell? a = some x) (hf:¬ v.frozen? a = true):¬ F.o a.block:=fun hO=>by
  have hF:=(h.cell hx).1
  have he:=h.ro _ hF hO
  refine hf ?_
  unfold World.cell? at hx
  unfold World.frozen?
  cases hw:w.heap[a.block]? with
  | none=>rw [hw] at he;simp only [Option.map_none] at he;rw [he] at hx;simp at hx
  | some o =>
    rw [hw] at he
    simp only [Option.map_some] at he
    rw [he] at hx ⊢
    cases o with
    | cells c e fr =>
      simp [Go.KL.ice] at hx ⊢
      obtain ⟨hlt,_⟩:=Array.getElem?_eq_some_iff.1 hx.2
      exact hlt
    | _=>simp [Go.KL.ice] at hx
theorem Pois.frz (h:Pois F w v) (a:Addr) (hO:¬ F.o a.block):v.frozen? a = w.frozen? a:=by
  unfold World.frozen?
  by_cases hF:F a.block
  · have he:=h.bad _ hF
    rw [he]
    cases hw:w.heap[a.block]? with
    | none=>rfl
    | some o=>cases o <;> rfl
  · rw [h.same _ hF hO]
def setO (a:Addr) (x:Value):Obj → Obj
  | .cells c elem frozen=>.cells (if a.spot.isSome then c else c.setIfInBounds a.off x) elem frozen
  | o=>o
theorem KT {w:World} {a:Addr} {x:Value} {b:Nat}:(w.setCell a x).heap[b]? = if b = a.block then (w.heap[b]?).map (setO a x) else w.heap[b]?:=by
  unfold World.setCell
  rw [Array.getElem?_modify]
  by_cases e:a.block = b
  · rw [if_pos e,if_pos e.symm]
    congr 1
  · rw [if_neg e,if_neg (Ne.symm e)]
theorem kd_setO (a:Addr) (x:Value) (o:Obj):Go.KL.kd (setO a x o) = Go.KL.kd o:=by cases o <;> rfl
theorem kin_set {w:World} {a:Addr} {x:Value} (b:Nat):((w.setCell a x).heap[b]?).map Go.KL.kd = (w.heap[b]?).map Go.KL.kd:=by
  rw [KT]
  split
  · cases w.heap[b]? with
    | none=>rfl
    | some o=>exact congrArg some (kd_setO a x o)
  · rfl
theorem Pois.set (h:Pois F w v) {a:Addr} (x:Value) (hF:¬ F a.block) (hO:¬ F.o a.block):Pois F (w.setCell a x) (v.setCell a x):=by
  refine ⟨h.tape,h.drawn,h.os,by simp [World.setCell,h.size],fun b hb ho=>?_,fun b hb ho=>?_,fun b hb=>?_,fun b p u hx=>?_⟩
  · rw [KT,KT,h.same b hb ho]
  · have hne:b ≠ a.block:=fun e2=>hO (by rw [← e2];exact ho)
    rw [KT,KT,if_neg hne,if_neg hne,h.ro b hb ho]
  · have hne:b ≠ a.block:=fun e2=>hF (by rw [← e2];exact hb)
    rw [KT,KT,if_neg hne,if_neg hne,h.bad b hb]
  · rw [KT] at hx
    split at hx
    · cases ho:v.heap[b]? with
      | none=>rw [ho] at hx;cases hx
      | some o =>
        rw [ho] at hx
        have hx':setO a x o = Obj.view p u:=by simpa using hx
        cases o <;> simp only [setO,reduceCtorEq] at hx'
        exact h.nov b p u (by rw [ho,hx'])
    · exact h.nov b p u hx
theorem Pois.push (h:Pois F w v) (o:Obj) (ho:∀ a u,o ≠ Obj.view a u) (hF:¬ F w.heap.size) (hO:∀ b,¬ F.o b):Pois F { w with heap:=w.heap.push o } { v with heap:=v.heap.push o }:=by
  have key:∀ (x:World) (b:Nat),(x.heap.push o)[b]? = if b = x.heap.size then some o else x.heap[b]?:=fun x b=>Array.getElem?_push
  refine ⟨h.tape,h.drawn,h.os,by simp [h.size],fun b hb ho=>?_,fun b hb ho=>absurd ho (hO b),fun b hb=>?_,fun b p u hx=>?_⟩
  · show (v.heap.push o)[b]? = (w.heap.push o)[b]?
    rw [key,key,h.size,h.same b hb ho]
  · show (v.heap.push o)[b]? = ((w.heap.push o)[b]?).map Go.KL.bad
    have hne:b ≠ w.heap.size:=fun e=>hF (by rw [← e];exact hb)
    rw [key,key,h.size,if_neg hne,if_neg hne,h.bad b hb]
  · rw [show ({ v with heap:=v.heap.push o }:World).heap[b]? = (v.heap.push o)[b]? from rfl,key] at hx
    split at hx
    · exact ho p u (Option.some.inj hx)
    · exact h.nov b p u hx
theorem Pois.setObj (h:Pois F w v) {r:Nat} (o:Obj) (hF:¬ F r) (hO:¬ F.o r) (ho:∀ a u,o ≠ Obj.view a u):Pois F { w with heap:=w.heap.setIfInBounds r o } { v with heap:=v.heap.setIfInBounds r o }:=by
  have key:∀ (x:World) (b:Nat),b ≠ r → (x.heap.setIfInBounds r o)[b]? = x.heap[b]?:=fun x b hb=>Array.getElem?_setIfInBounds_ne (Ne.symm hb)
  refine ⟨h.tape,h.drawn,h.os,by simp [h.size],fun b hb hb2=>?_,fun b hb hb2=>?_,fun b hb=>?_,fun b p u hx=>?_⟩
  · show (v.heap.setIfInBounds r o)[b]? = (w.heap.setIfInBounds r o)[b]?
    by_cases e:b = r
    · subst e
      simp only [Array.getElem?_setIfInBounds,h.size,if_true]
    · rw [key v b e,key w b e,h.same b hb hb2]
  · have hne:b ≠ r:=fun e2=>hO (by rw [← e2];exact hb2)
    show (v.heap.setIfInBounds r o)[b]? = ((w.heap.setIfInBounds r o)[b]?).map Go.KL.ice
    rw [key v b hne,key w b hne,h.ro b hb hb2]
  · have hne:b ≠ r:=fun e2=>hF (by rw [← e2];exact hb)
    show (v.heap.setIfInBounds r o)[b]? = ((w.heap.setIfInBounds r o)[b]?).map Go.KL.bad
    rw [key v b hne,key w b hne,h.bad b hb]
  · by_cases e:b = r
    · subst e
      have hx':(v.heap.setIfInBounds b o)[b]? = some (Obj.view p u):=hx
      rw [Array.getElem?_setIfInBounds] at hx'
      split at hx'
      · split at hx'
        · exact ho p u (Option.some.inj hx')
        · cases hx'
      · exact h.nov b p u hx'
    · have hx':(v.heap.setIfInBounds r o)[b]? = some (Obj.view p u):=hx
      rw [key v b e] at hx'
      exact h.nov b p u hx'
theorem Pois.drew (h:Pois F w v):Pois F { w with drawn:=w.drawn + 1 } { v with drawn:=v.drawn + 1 } :=
  ⟨h.tape,by show v.drawn + 1 = w.drawn + 1;rw [h.drawn],h.os,h.size,h.same,h.ro,h.bad,h.nov⟩
theorem Keeps.drew (F:Hid) (w:World):Keeps F w { w with drawn:=w.drawn + 1 }:=⟨rfl,rfl,rfl,Nat.le_refl _,fun _ _ _=>rfl,fun _ _=>rfl⟩
end
variable {P:Program} {al:Bool} {α β:Type}
theorem LocOf.mono {F:Hid} {m n:Nat} (h:m ≤ n):∀ {l:Loc},LocOf F m l → LocOf F n l
  | .cell _,x | .obj _,x=>⟨x.1,Nat.lt_of_lt_of_le x.2 h⟩
  | .mark _,x=>x
def Doom (P:Program) (x:Sem α):Prop:=∀ (w:World) (r:α) (w':World),x.run P w ≠ .ok r w'
theorem Frm.doom {x:Sem α} (h:Doom P x):Frm al P x:=⟨fun _ _ v _ r v' _ _ hr=>absurd hr (h v r v')⟩
theorem Doom.halt (h:Halt):Doom P (.halt h:Sem α):=fun _ _ _ e=>by cases e
theorem Doom.bind {x:Sem α} {f:α → Sem β} (h:∀ a,Doom P (f a)):Doom P (x >>= f):=fun w r w' e=>by
  rw [Sem.run_bind] at e
  cases hx:x.run P w with
  | ok a w1=>rw [hx] at e;exact h a _ _ _ e
  | halt y w1=>rw [hx] at e;cases e
theorem Frm.pure (a:α):Frm al P (pure a:Sem α):=Frm.mk fun F w v es r v' _ hp h=>by
  cases h
  exact ⟨w,#[],by simp [Pure.pure,Sem.runT],hp,.refl _ _,fun _=>rfl,by simp⟩
theorem Frm.bind {x:Sem α} {f:α → Sem β} (hx:Frm al P x) (hf:∀ a,Frm al P (f a)):Frm al P (x >>= f):=Frm.mk fun F w v es r v' hF hp h=>by
  rw [Sem.run_bind] at h
  cases h1:x.run P v with
  | halt y w1=>rw [h1] at h;cases h
  | ok a v1 =>
    rw [h1] at h
    obtain ⟨w1,u1,r1,p1,k1,n1,e1⟩:=hx.go F w v es a v1 hF hp h1
    obtain ⟨w2,u2,r2,p2,k2,n2,e2⟩:=(hf a).go F w1 v1 (es ++ u1) r v' (fun e=>⟨(hF e).1,fun b hb=>(hF e).2 b (Nat.le_trans k1.size hb)⟩) p1 h
    refine ⟨w2,u1 ++ u2,?_,p2,k1.trans k2,fun e=>(n2 e).trans (n1 e),fun e he=>?_⟩
    · show (x.bind f).runT P w es = _
      rw [Sem.runT_bind',r1]
      simp only [r2,Array.append_assoc]
    · rcases Array.mem_append.1 he with he | he
      · exact ⟨(e1 e he).1.mono k2.size,(e1 e he).2⟩
      · exact e2 e he
theorem Frm.map {x:Sem α} (g:α → β) (hx:Frm al P x):Frm al P (g <$> x):=hx.bind fun a=>Frm.pure (g a)
theorem Frm.halt (h:Halt):Frm al P (.halt h:Sem α):=Frm.doom (Doom.halt h)
theorem Frm.stuck (s:String):Frm al P (stuck s:Sem α):=Frm.halt _
theorem Frm.uns (u:Unsupported):Frm al P (unsupported u:Sem α):=Frm.halt _
theorem Doom.uns (u:Unsupported):Doom P (unsupported u:Sem α):=Doom.halt _
theorem Frm.load (a:Addr) (m:Mode):Frm al P (load a m):=Frm.mk fun F w v es r v' _ hp h=>by
  simp only [Go.load,Sem.run] at h
  cases hc:v.cell? a with
  | none =>
    rw [hc] at h
    obtain ⟨e,he⟩:=hp.far (P:=P) a (m == Mode.atomic)
    simp only [he] at h
    cases h
  | some y =>
    rw [hc] at h
    cases h
    obtain ⟨hF,hw⟩:=hp.cell hc
    refine ⟨w,#[⟨.cell a,false,m == Mode.atomic⟩],?_,hp,.refl _ _,fun _=>rfl,fun e he=>?_⟩
    · simp only [Go.load,Sem.runT,hw];simp
    · simp at he;subst he
      exact ⟨⟨hF,cell_lt hw⟩,fun e=>by cases e⟩
def okV:Value → Bool
  | .agg _=>false
  | .tuple _=>false
  | _=>true
theorem run_store_ok {m:Mode} {a:Addr} {x:Value} {k:Sem α} {w:World} (hx:okV x = true):(Sem.store m a x k).run P w = (match w.cell? a with
    | some _ => if w.frozen? a then Result.halt (.unsupported (.unsafePointer "a write to bytes that a string shares")) w else k.run P (w.setCell a x)
    | none=>match w.farStore P a x (m == Mode.atomic) with
      | .ok (w,_)=>k.run P w
      | .error h=>.halt h w):=by cases x <;> first | rfl | cases hx
theorem runT_store_ok {m:Mode} {a:Addr} {x:Value} {k:Sem α} {w:World} {es:Array Event} (hx:okV x = true):(Sem.store m a x k).runT P w es = (match w.cell? a with
    | some _ =>
      if w.frozen? a then (.halt (.unsupported (.unsafePointer "a write to bytes that a string shares")) w, es)
      else k.runT P (w.setCell a x) (es.push ⟨.cell a,true,m == Mode.atomic⟩)
    | none=>match w.farStore P a x (m == Mode.atomic) with
      | .ok (w,touched)=>k.runT P w (es ++ touched.toArray.map (⟨.cell ·,true,m == Mode.atomic⟩))
      | .error h=>(.halt h w,es)):=by cases x <;> first | rfl | cases hx
theorem run_store_no {m:Mode} {a:Addr} {x:Value} {k:Sem α} {w:World} (hx:okV x = false) {r:α} {w':World}:(Sem.store m a x k).run P w ≠ .ok r w':=by
  cases x <;> first | (intro h;cases h;done) | cases hx
theorem Frm.store (a:Addr) (x:Value) (m:Mode):Frm al P (store a x m):=Frm.mk fun F w v es r v' _ hp h=>by
  unfold Go.store at h ⊢
  cases hx:okV x with
  | false=>exact absurd h (run_store_no hx)
  | true =>
    rw [run_store_ok hx] at h
    rw [runT_store_ok hx]
    cases hc:v.cell? a with
    | none =>
      rw [hc] at h
      obtain ⟨e,he⟩:=hp.farS (P:=P) a x (m == Mode.atomic)
      simp only [he] at h
      cases h
    | some y =>
      rw [hc] at h
      obtain ⟨hF,hw⟩:=hp.cell hc
      simp only at h
      by_cases hf:v.frozen? a = true
      · rw [if_pos hf] at h;cases h
      · rw [if_neg hf] at h
        cases h
        have hO:=hp.melt hc hf
        have hfz:=hp.frz a hO
        refine ⟨w.setCell a x,#[⟨.cell a,true,m == Mode.atomic⟩],?_,hp.set x hF hO,⟨rfl,rfl,rfl,by simp [World.setCell],fun b hb _=>by rw [KT,if_neg (fun e2=>hb.elim (fun hb=>hF (by rw [← e2];exact hb)) (fun hb=>hO (by rw [← e2];exact hb)))],fun b _=>kin_set b⟩,fun _=>by simp [World.setCell],fun e he=>?_⟩
        · simp only [hw];rw [if_neg (by rw [← hfz];exact hf)];simp [Sem.runT]
        · simp at he;subst he
          exact ⟨⟨hF,by have:=cell_lt hw;simpa [World.setCell] using this⟩,fun _=>hO⟩
theorem Frm.new {o:Obj} (ho:∀ a u,o ≠ Obj.view a u):Frm true P (newObj o):=Frm.mk fun F w v es r v' hF hp h=>by
  simp only [newObj,Sem.run] at h
  cases h
  have hn:=(hF rfl).2 _ (Nat.le_refl w.heap.size)
  refine ⟨{ w with heap:=w.heap.push o },#[],?_,hp.push o ho hn (hF rfl).1,⟨rfl,rfl,rfl,by simp,fun b _ hb=>?_,fun b hb=>?_⟩,(fun e=>absurd e (by decide)),by simp⟩
  · simp only [newObj,Sem.runT,hp.size];simp
  · show (w.heap.push o)[b]? = _
    rw [Array.getElem?_push,if_neg (by omega)]
  · show ((w.heap.push o)[b]?).map _ = _
    rw [Array.getElem?_push,if_neg (by omega)]
theorem Frm.choose (q:Question):Frm al P (choose q):=Frm.mk fun F w v es r v' _ hp h=>by
  simp only [Go.choose,Sem.run] at h
  by_cases hq:q.forced = true
  · rw [if_pos hq] at h
    cases h
    exact ⟨w,#[],by simp only [Go.choose,Sem.runT];rw [if_pos hq];simp,hp,.refl _ _,fun _=>rfl,by simp⟩
  · rw [if_neg hq] at h
    cases h
    refine ⟨{ w with drawn:=w.drawn + 1 },#[],?_,hp.drew,.drew _ _,fun _=>rfl,by simp⟩
    simp only [Go.choose,Sem.runT];rw [if_neg hq,hp.tape,hp.drawn];simp
theorem Frm.program:Frm al P program:=Frm.mk fun F w v es r v' _ hp h=>by
  simp only [Go.program,Sem.run] at h
  cases h
  exact ⟨w,#[],by simp only [Go.program,Sem.runT];simp,hp,.refl _ _,fun _=>rfl,by simp⟩
theorem Frm.noRoom:Frm al P (mark .noRoom):=Frm.mk fun F w v es r v' _ hp h=>by
  simp only [mark,Sem.run] at h
  cases h
  refine ⟨w,#[⟨.mark .noRoom,false,true⟩],?_,hp,.refl _ _,fun _=>rfl,fun e he=>?_⟩
  · simp only [mark,Sem.runT];simp
  · simp at he;subst he;exact ⟨rfl,fun e=>trivial⟩
theorem Frm.ite {c:Prop} [Decidable c] {x y:Sem α} (hx:c → Frm al P x) (hy:¬ c → Frm al P y):Frm al P (if c then x else y):=by
  split
  · exact hx ‹_›
  · exact hy ‹_›
end Go.KL
namespace Go.KL
variable {P:Program} {al:Bool}
theorem f_cells (c:Array Value) (e:TypeId):Frm true P (newObj (.cells c e)):=Frm.new (fun a u h=>Obj.noConfusion h)
theorem Jz (n:Nat):Frm al P (askRoom n):=by
  unfold askRoom
  repeat (first | exact Frm.pure _ | exact Frm.program | exact Frm.choose _ | exact Frm.load _ _ | exact Frm.store _ _ _ | exact Frm.frozen _ | exact Frm.goPanic _ | exact Frm.uns _ | exact Frm.stuck _ | exact Frm.noRoom | exact Frm.halt _ | intro _ | (refine Frm.bind ?_ (fun _=>?_)) | (refine Frm.map _ ?_) | split | dsimp only)
theorem Ju (t:TypeId):Frm al P (typeInfo t):=by
  unfold typeInfo
  repeat (first | exact Frm.pure _ | exact Frm.program | exact Frm.choose _ | exact Frm.load _ _ | exact Frm.store _ _ _ | exact Frm.frozen _ | exact Frm.goPanic _ | exact Frm.uns _ | exact Frm.stuck _ | exact Frm.noRoom | exact Frm.halt _ | exact Jz _ | intro _ | (refine Frm.bind ?_ (fun _=>?_)) | (refine Frm.map _ ?_) | split | dsimp only)
theorem JK (t:TypeId):Frm al P (underlying t):=by
  unfold underlying
  repeat (first | exact Frm.pure _ | exact Frm.program | exact Frm.choose _ | exact Frm.load _ _ | exact Frm.store _ _ _ | exact Frm.frozen _ | exact Frm.goPanic _ | exact Frm.uns _ | exact Frm.stuck _ | exact Frm.noRoom | exact Frm.halt _ | exact Ju _ | exact Jz _ | intro _ | (refine Frm.bind ?_ (fun _=>?_)) | (refine Frm.map _ ?_) | split | dsimp only)
theorem Ku (t:TypeId):Frm al P (zeroValue t):=by
  unfold zeroValue
  repeat (first | exact Frm.pure _ | exact Frm.program | exact Frm.choose _ | exact Frm.load _ _ | exact Frm.store _ _ _ | exact Frm.frozen _ | exact Frm.goPanic _ | exact Frm.uns _ | exact Frm.stuck _ | exact Frm.noRoom | exact Frm.halt _ | exact JK _ | exact Ju _ | exact Jz _ | intro _ | (refine Frm.bind ?_ (fun _=>?_)) | (refine Frm.map _ ?_) | split | dsimp only)
theorem JM (t:TypeId):Frm al P (sizeOf t):=by
  unfold sizeOf
  repeat (first | exact Frm.pure _ | exact Frm.program | exact Frm.choose _ | exact Frm.load _ _ | exact Frm.store _ _ _ | exact Frm.frozen _ | exact Frm.goPanic _ | exact Frm.uns _ | exact Frm.stuck _ | exact Frm.noRoom | exact Frm.halt _ | exact Ku _ | exact JK _ | exact Ju _ | exact Jz _ | intro _ | (refine Frm.bind ?_ (fun _=>?_)) | (refine Frm.map _ ?_) | split | dsimp only)
theorem Kh (t:TypeId):Frm al P (isAgg t):=by
  unfold isAgg
  repeat (first | exact Frm.pure _ | exact Frm.program | exact Frm.choose _ | exact Frm.load _ _ | exact Frm.store _ _ _ | exact Frm.frozen _ | exact Frm.goPanic _ | exact Frm.uns _ | exact Frm.stuck _ | exact Frm.noRoom | exact Frm.halt _ | exact JM _ | exact Ku _ | exact JK _ | exact Ju _ | exact Jz _ | intro _ | (refine Frm.bind ?_ (fun _=>?_)) | (refine Frm.map _ ?_) | split | dsimp only)
theorem f_newRow (e:TypeId) (c:Array Value):Frm true P (newRow e c):=by
  unfold newRow
  repeat (first | exact Frm.pure _ | exact Frm.program | exact Frm.choose _ | exact Frm.load _ _ | exact Frm.store _ _ _ | exact Frm.frozen _ | exact Frm.goPanic _ | exact Frm.uns _ | exact Frm.stuck _ | exact Frm.noRoom | exact Frm.halt _ | exact f_elemOf _ | exact Kh _ | exact JM _ | exact Ku _ | exact JK _ | exact Ju _ | exact Jz _ | exact f_cells _ _ | intro _ | (refine Frm.bind ?_ (fun _=>?_)) | (refine Frm.map _ ?_) | split | dsimp only)
theorem f_newVar (e:TypeId) (c:Value):Frm true P (newVar e c):=by
  unfold newVar
  repeat (first | exact Frm.pure _ | exact Frm.program | exact Frm.choose _ | exact Frm.load _ _ | exact Frm.store _ _ _ | exact Frm.frozen _ | exact Frm.goPanic _ | exact Frm.uns _ | exact Frm.stuck _ | exact Frm.noRoom | exact Frm.halt _ | exact f_elemOf _ | exact Kh _ | exact JM _ | exact Ku _ | exact JK _ | exact Ju _ | exact Jz _ | exact f_newRow _ _ | exact f_cells _ _ | intro _ | (refine Frm.bind ?_ (fun _=>?_)) | (refine Frm.map _ ?_) | split | dsimp only)
theorem JS (v:Value):Frm al P (asIntOf v):=by
  unfold asIntOf
  repeat (first | exact Frm.pure _ | exact Frm.program | exact Frm.choose _ | exact Frm.load _ _ | exact Frm.store _ _ _ | exact Frm.frozen _ | exact Frm.goPanic _ | exact Frm.uns _ | exact Frm.stuck _ | exact Frm.noRoom | exact Frm.halt _ | exact f_elemOf _ | exact Kh _ | exact JM _ | exact Ku _ | exact JK _ | exact Ju _ | exact Jz _ | intro _ | (refine Frm.bind ?_ (fun _=>?_)) | (refine Frm.map _ ?_) | split | dsimp only)
theorem Ks (v:Value):Frm al P (asInt v):=by
  unfold asInt
  repeat (first | exact Frm.pure _ | exact Frm.program | exact Frm.choose _ | exact Frm.load _ _ | exact Frm.store _ _ _ | exact Frm.frozen _ | exact Frm.goPanic _ | exact Frm.uns _ | exact Frm.stuck _ | exact Frm.noRoom | exact Frm.halt _ | exact JS _ | exact f_elemOf _ | exact Kh _ | exact JM _ | exact Ku _ | exact JK _ | exact Ju _ | exact Jz _ | intro _ | (refine Frm.bind ?_ (fun _=>?_)) | (refine Frm.map _ ?_) | split | dsimp only)
theorem JZ (v:Value):Frm al P (asBool v):=by
  unfold asBool
  repeat (first | exact Frm.pure _ | exact Frm.program | exact Frm.choose _ | exact Frm.load _ _ | exact Frm.store _ _ _ | exact Frm.frozen _ | exact Frm.goPanic _ | exact Frm.uns _ | exact Frm.stuck _ | exact Frm.noRoom | exact Frm.halt _ | exact Ks _ | exact JS _ | exact f_elemOf _ | exact Kh _ | exact JM _ | exact Ku _ | exact JK _ | exact Ju _ | exact Jz _ | intro _ | (refine Frm.bind ?_ (fun _=>?_)) | (refine Frm.map _ ?_) | split | dsimp only)
theorem KI (v:Value):Frm al P (asAgg v):=by
  unfold asAgg
  repeat (first | exact Frm.pure _ | exact Frm.program | exact Frm.choose _ | exact Frm.load _ _ | exact Frm.store _ _ _ | exact Frm.frozen _ | exact Frm.goPanic _ | exact Frm.uns _ | exact Frm.stuck _ | exact Frm.noRoom | exact Frm.halt _ | exact f_asString _ | exact JZ _ | exact Ks _ | exact JS _ | exact f_elemOf _ | exact Kh _ | exact JM _ | exact Ku _ | exact JK _ | exact Ju _ | exact Jz _ | intro _ | (refine Frm.bind ?_ (fun _=>?_)) | (refine Frm.map _ ?_) | split | dsimp only)
theorem d_rt {α:Type} (e:RuntimeError):Doom P (runtimePanic e:Sem α):=by
  unfold runtimePanic
  cases e <;> repeat (first | exact Doom.halt _ | (refine Doom.bind (fun _=>?_)))
theorem JH {α:Type} (e:RuntimeError):Frm al P (runtimePanic e:Sem α):=Frm.doom (d_rt e)
theorem Kq (v:Value):Frm al P (asAddr v):=by
  unfold asAddr
  repeat (first | exact Frm.pure _ | exact Frm.program | exact Frm.choose _ | exact Frm.load _ _ | exact Frm.store _ _ _ | exact Frm.frozen _ | exact Frm.goPanic _ | exact Frm.uns _ | exact Frm.stuck _ | exact Frm.noRoom | exact Frm.halt _ | exact JH _ | exact KI _ | exact f_asString _ | exact JZ _ | exact Ks _ | exact JS _ | exact f_elemOf _ | exact Kh _ | exact JM _ | exact Ku _ | exact JK _ | exact Ju _ | exact Jz _ | intro _ | (refine Frm.bind ?_ (fun _=>?_)) | (refine Frm.map _ ?_) | split | dsimp only)
theorem Kw {α:Type} (k:IntKind) (x y:Int) (c:BoundsCode):Frm al P (boundsPanic k x y c:Sem α):=by
  unfold boundsPanic
  repeat (first | exact Frm.pure _ | exact Frm.program | exact Frm.choose _ | exact Frm.load _ _ | exact Frm.store _ _ _ | exact Frm.frozen _ | exact Frm.goPanic _ | exact Frm.uns _ | exact Frm.stuck _ | exact Frm.noRoom | exact Frm.halt _ | exact Kq _ | exact JH _ | exact KI _ | exact f_asString _ | exact JZ _ | exact Ks _ | exact JS _ | exact f_elemOf _ | exact Kh _ | exact JM _ | exact Ku _ | exact JK _ | exact Ju _ | exact Jz _ | intro _ | (refine Frm.bind ?_ (fun _=>?_)) | (refine Frm.map _ ?_) | split | dsimp only)
theorem JT (a:Addr):∀ (n i:Nat) (acc:Array Value),Frm al P (loadCellsFrom a i n acc)
  | 0,i,acc=>by unfold loadCellsFrom;exact Frm.pure _
  | n + 1,i,acc=>by unfold loadCellsFrom;exact Frm.bind (Frm.load _ _) (fun _=>JT a n _ _)
theorem JN (a:Addr) (n:Nat):Frm al P (loadCells a n):=by
  unfold loadCells
  repeat (first | exact Frm.pure _ | exact Frm.program | exact Frm.choose _ | exact Frm.load _ _ | exact Frm.store _ _ _ | exact Frm.frozen _ | exact Frm.goPanic _ | exact Frm.uns _ | exact Frm.stuck _ | exact Frm.noRoom | exact Frm.halt _ | exact JT _ _ _ _ | exact Kw _ _ _ _ | exact Kq _ | exact JH _ | exact KI _ | exact f_asString _ | exact JZ _ | exact Ks _ | exact JS _ | exact f_elemOf _ | exact Kh _ | exact JM _ | exact Ku _ | exact JK _ | exact Ju _ | exact Jz _ | intro _ | (refine Frm.bind ?_ (fun _=>?_)) | (refine Frm.map _ ?_) | split | dsimp only)
theorem JC (a:Addr):∀ (vs:List Value) (i:Nat),Frm al P (storeCells a vs i)
  | [],i=>by unfold storeCells;exact Frm.pure _
  | v :: vs,i=>by unfold storeCells;exact Frm.bind (Frm.store _ _ _) (fun _=>JC a vs _)
theorem Km (t:TypeId) (a:Addr):Frm al P (loadVar t a):=by
  unfold loadVar
  repeat (first | exact Frm.pure _ | exact Frm.program | exact Frm.choose _ | exact Frm.load _ _ | exact Frm.store _ _ _ | exact Frm.frozen _ | exact Frm.goPanic _ | exact Frm.uns _ | exact Frm.stuck _ | exact Frm.noRoom | exact Frm.halt _ | exact JC _ _ _ | exact JN _ _ | exact JT _ _ _ _ | exact Kw _ _ _ _ | exact Kq _ | exact JH _ | exact KI _ | exact f_asString _ | exact JZ _ | exact Ks _ | exact JS _ | exact f_elemOf _ | exact Kh _ | exact JM _ | exact Ku _ | exact JK _ | exact Ju _ | exact Jz _ | intro _ | (refine Frm.bind ?_ (fun _=>?_)) | (refine Frm.map _ ?_) | split | dsimp only)
theorem Kj (t:TypeId) (a:Addr) (v:Value):Frm al P (storeVar t a v):=by
  unfold storeVar
  repeat (first | exact Frm.pure _ | exact Frm.program | exact Frm.choose _ | exact Frm.load _ _ | exact Frm.store _ _ _ | exact Frm.frozen _ | exact Frm.goPanic _ | exact Frm.uns _ | exact Frm.stuck _ | exact Frm.noRoom | exact Frm.halt _ | exact Km _ _ | exact JC _ _ _ | exact JN _ _ | exact JT _ _ _ _ | exact Kw _ _ _ _ | exact Kq _ | exact JH _ | exact KI _ | exact f_asString _ | exact JZ _ | exact Ks _ | exact JS _ | exact f_elemOf _ | exact Kh _ | exact JM _ | exact Ku _ | exact JK _ | exact Ju _ | exact Jz _ | intro _ | (refine Frm.bind ?_ (fun _=>?_)) | (refine Frm.map _ ?_) | split | dsimp only)
theorem QY (t:TypeId) (a:Array Value) (v:Nat):Frm al P (part t a v):=by
  unfold part
  repeat (first | exact Frm.pure _ | exact Frm.program | exact Frm.choose _ | exact Frm.load _ _ | exact Frm.store _ _ _ | exact Frm.frozen _ | exact Frm.goPanic _ | exact Frm.uns _ | exact Frm.stuck _ | exact Frm.noRoom | exact Frm.halt _ | exact Kj _ _ _ | exact Km _ _ | exact JC _ _ _ | exact JN _ _ | exact JT _ _ _ _ | exact Kw _ _ _ _ | exact Kq _ | exact JH _ | exact KI _ | exact f_asString _ | exact JZ _ | exact Ks _ | exact JS _ | exact f_elemOf _ | exact Kh _ | exact JM _ | exact Ku _ | exact JK _ | exact Ju _ | exact Jz _ | intro _ | (refine Frm.bind ?_ (fun _=>?_)) | (refine Frm.map _ ?_) | split | dsimp only)
theorem Kb (v:Value):Frm al P (Instr.sureAddr v):=by
  unfold Instr.sureAddr
  repeat (first | exact Frm.pure _ | exact Frm.program | exact Frm.choose _ | exact Frm.load _ _ | exact Frm.store _ _ _ | exact Frm.frozen _ | exact Frm.goPanic _ | exact Frm.uns _ | exact Frm.stuck _ | exact Frm.noRoom | exact Frm.halt _ | exact QY _ _ _ | exact Kj _ _ _ | exact Km _ _ | exact JC _ _ _ | exact JN _ _ | exact JT _ _ _ _ | exact Kw _ _ _ _ | exact Kq _ | exact JH _ | exact KI _ | exact f_asString _ | exact JZ _ | exact Ks _ | exact JS _ | exact f_elemOf _ | exact Kh _ | exact JM _ | exact Ku _ | exact JK _ | exact Ju _ | exact Jz _ | intro _ | (refine Frm.bind ?_ (fun _=>?_)) | (refine Frm.map _ ?_) | split | dsimp only)
theorem KN (t:TypeId) (v:Value):Frm al P (Instr.loadAt t v):=by
  unfold Instr.loadAt
  repeat (first | exact Frm.pure _ | exact Frm.program | exact Frm.choose _ | exact Frm.load _ _ | exact Frm.store _ _ _ | exact Frm.frozen _ | exact Frm.goPanic _ | exact Frm.uns _ | exact Frm.stuck _ | exact Frm.noRoom | exact Frm.halt _ | exact Kb _ | exact QY _ _ _ | exact Kj _ _ _ | exact Km _ _ | exact JC _ _ _ | exact JN _ _ | exact JT _ _ _ _ | exact Kw _ _ _ _ | exact Kq _ | exact JH _ | exact KI _ | exact f_asString _ | exact JZ _ | exact Ks _ | exact JS _ | exact f_elemOf _ | exact Kh _ | exact JM _ | exact Ku _ | exact JK _ | exact Ju _ | exact Jz _ | intro _ | (refine Frm.bind ?_ (fun _=>?_)) | (refine Frm.map _ ?_) | split | dsimp only)
theorem KD (t:TypeId) (v x:Value):Frm al P (Instr.storeAt t v x):=by
  unfold Instr.storeAt
  repeat (first | exact Frm.pure _ | exact Frm.program | exact Frm.choose _ | exact Frm.load _ _ | exact Frm.store _ _ _ | exact Frm.frozen _ | exact Frm.goPanic _ | exact Frm.uns _ | exact Frm.stuck _ | exact Frm.noRoom | exact Frm.halt _ | exact KN _ _ | exact Kb _ | exact QY _ _ _ | exact Kj _ _ _ | exact Km _ _ | exact JC _ _ _ | exact JN _ _ | exact JT _ _ _ _ | exact Kw _ _ _ _ | exact Kq _ | exact JH _ | exact KI _ | exact f_asString _ | exact JZ _ | exact Ks _ | exact JS _ | exact f_elemOf _ | exact Kh _ | exact JM _ | exact Ku _ | exact JK _ | exact Ju _ | exact Jz _ | intro _ | (refine Frm.bind ?_ (fun _=>?_)) | (refine Frm.map _ ?_) | split | dsimp only)
theorem Kl (x:Value) (y:Nat) (c:BoundsCode):Frm al P (Instr.sliceBound x y c):=by
  unfold Instr.sliceBound
  repeat (first | exact Frm.pure _ | exact Frm.program | exact Frm.choose _ | exact Frm.load _ _ | exact Frm.store _ _ _ | exact Frm.frozen _ | exact Frm.goPanic _ | exact Frm.uns _ | exact Frm.stuck _ | exact Frm.noRoom | exact Frm.halt _ | exact KD _ _ _ | exact KN _ _ | exact Kb _ | exact QY _ _ _ | exact Kj _ _ _ | exact Km _ _ | exact JC _ _ _ | exact JN _ _ | exact JT _ _ _ _ | exact Kw _ _ _ _ | exact Kq _ | exact JH _ | exact KI _ | exact f_asString _ | exact JZ _ | exact Ks _ | exact JS _ | exact f_elemOf _ | exact Kh _ | exact JM _ | exact Ku _ | exact JK _ | exact Ju _ | exact Jz _ | intro _ | (refine Frm.bind ?_ (fun _=>?_)) | (refine Frm.map _ ?_) | split | dsimp only)
theorem Kk (b:Bool) (l c:Nat) (x y z:Option Value):Frm al P (Instr.sliceBounds b l c x y z):=by
  unfold Instr.sliceBounds
  repeat (first | exact Frm.pure _ | exact Frm.program | exact Frm.choose _ | exact Frm.load _ _ | exact Frm.store _ _ _ | exact Frm.frozen _ | exact Frm.goPanic _ | exact Frm.uns _ | exact Frm.stuck _ | exact Frm.noRoom | exact Frm.halt _ | exact Kl _ _ _ | exact KD _ _ _ | exact KN _ _ | exact Kb _ | exact QY _ _ _ | exact Kj _ _ _ | exact Km _ _ | exact JC _ _ _ | exact JN _ _ | exact JT _ _ _ _ | exact Kw _ _ _ _ | exact Kq _ | exact JH _ | exact KI _ | exact f_asString _ | exact JZ _ | exact Ks _ | exact JS _ | exact f_elemOf _ | exact Kh _ | exact JM _ | exact Ku _ | exact JK _ | exact Ju _ | exact Jz _ | intro _ | (refine Frm.bind ?_ (fun _=>?_)) | (refine Frm.map _ ?_) | split | dsimp only)
theorem Xb (t:TypeId) (v:Value) (x y z:Option Value):Frm al P (Instr.slice t v x y z):=by
  unfold Instr.slice
  repeat (first | exact Frm.pure _ | exact Frm.program | exact Frm.choose _ | exact Frm.load _ _ | exact Frm.store _ _ _ | exact Frm.frozen _ | exact Frm.goPanic _ | exact Frm.uns _ | exact Frm.stuck _ | exact Frm.noRoom | exact Frm.halt _ | exact Kk _ _ _ _ _ _ | exact Kl _ _ _ | exact KD _ _ _ | exact KN _ _ | exact Kb _ | exact QY _ _ _ | exact Kj _ _ _ | exact Km _ _ | exact JC _ _ _ | exact JN _ _ | exact JT _ _ _ _ | exact Kw _ _ _ _ | exact Kq _ | exact JH _ | exact KI _ | exact f_asString _ | exact JZ _ | exact Ks _ | exact JS _ | exact f_elemOf _ | exact Kh _ | exact JM _ | exact Ku _ | exact JK _ | exact Ju _ | exact Jz _ | intro _ | (refine Frm.bind ?_ (fun _=>?_)) | (refine Frm.map _ ?_) | split | dsimp only)
theorem Qq (t:TypeId) (v:Value) (x y z:Option Value):Frm al P (Instr.sliceAt t v x y z):=by
  unfold Instr.sliceAt
  repeat (first | exact Frm.pure _ | exact Frm.program | exact Frm.choose _ | exact Frm.load _ _ | exact Frm.store _ _ _ | exact Frm.frozen _ | exact Frm.goPanic _ | exact Frm.uns _ | exact Frm.stuck _ | exact Frm.noRoom | exact Frm.halt _ | exact Xb _ _ _ _ _ | exact Kk _ _ _ _ _ _ | exact Kl _ _ _ | exact KD _ _ _ | exact KN _ _ | exact Kb _ | exact QY _ _ _ | exact Kj _ _ _ | exact Km _ _ | exact JC _ _ _ | exact JN _ _ | exact JT _ _ _ _ | exact Kw _ _ _ _ | exact Kq _ | exact JH _ | exact KI _ | exact f_asString _ | exact JZ _ | exact Ks _ | exact JS _ | exact f_elemOf _ | exact Kh _ | exact JM _ | exact Ku _ | exact JK _ | exact Ju _ | exact Jz _ | intro _ | (refine Frm.bind ?_ (fun _=>?_)) | (refine Frm.map _ ?_) | split | dsimp only)
theorem f_ialloc (t:TypeId) (b:Bool) (x:Value):Frm true P (Instr.alloc t b x):=by
  unfold Instr.alloc
  repeat (first | exact Frm.pure _ | exact Frm.program | exact Frm.choose _ | exact Frm.load _ _ | exact Frm.store _ _ _ | exact Frm.frozen _ | exact Frm.goPanic _ | exact Frm.uns _ | exact Frm.stuck _ | exact Frm.noRoom | exact Frm.halt _ | exact Qq _ _ _ _ _ | exact Xb _ _ _ _ _ | exact Kk _ _ _ _ _ _ | exact Kl _ _ _ | exact KD _ _ _ | exact KN _ _ | exact Kb _ | exact QY _ _ _ | exact Kj _ _ _ | exact Km _ _ | exact JC _ _ _ | exact JN _ _ | exact JT _ _ _ _ | exact Kw _ _ _ _ | exact Kq _ | exact JH _ | exact KI _ | exact f_asString _ | exact JZ _ | exact Ks _ | exact JS _ | exact f_elemOf _ | exact Kh _ | exact JM _ | exact Ku _ | exact JK _ | exact Ju _ | exact Jz _ | exact f_newVar _ _ | exact f_newRow _ _ | exact f_cells _ _ | intro _ | (refine Frm.bind ?_ (fun _=>?_)) | (refine Frm.map _ ?_) | split | dsimp only)
theorem f_ibox (t:TypeId) (x:Value):Frm true P (Instr.box t x):=by
  unfold Instr.box
  repeat (first | exact Frm.pure _ | exact Frm.program | exact Frm.choose _ | exact Frm.load _ _ | exact Frm.store _ _ _ | exact Frm.frozen _ | exact Frm.goPanic _ | exact Frm.uns _ | exact Frm.stuck _ | exact Frm.noRoom | exact Frm.halt _ | exact Qq _ _ _ _ _ | exact Xb _ _ _ _ _ | exact Kk _ _ _ _ _ _ | exact Kl _ _ _ | exact KD _ _ _ | exact KN _ _ | exact Kb _ | exact QY _ _ _ | exact Kj _ _ _ | exact Km _ _ | exact JC _ _ _ | exact JN _ _ | exact JT _ _ _ _ | exact Kw _ _ _ _ | exact Kq _ | exact JH _ | exact KI _ | exact f_asString _ | exact JZ _ | exact Ks _ | exact JS _ | exact f_elemOf _ | exact Kh _ | exact JM _ | exact Ku _ | exact JK _ | exact Ju _ | exact Jz _ | exact f_ialloc _ _ _ | exact f_newVar _ _ | exact f_newRow _ _ | exact f_cells _ _ | intro _ | (refine Frm.bind ?_ (fun _=>?_)) | (refine Frm.map _ ?_) | split | dsimp only)
theorem Xi (x:Value) (i:Nat):Frm al P (Instr.extract x i):=by
  unfold Instr.extract
  repeat (first | exact Frm.pure _ | exact Frm.program | exact Frm.choose _ | exact Frm.load _ _ | exact Frm.store _ _ _ | exact Frm.frozen _ | exact Frm.goPanic _ | exact Frm.uns _ | exact Frm.stuck _ | exact Frm.noRoom | exact Frm.halt _ | exact Qq _ _ _ _ _ | exact Xb _ _ _ _ _ | exact Kk _ _ _ _ _ _ | exact Kl _ _ _ | exact KD _ _ _ | exact KN _ _ | exact Kb _ | exact QY _ _ _ | exact Kj _ _ _ | exact Km _ _ | exact JC _ _ _ | exact JN _ _ | exact JT _ _ _ _ | exact Kw _ _ _ _ | exact Kq _ | exact JH _ | exact KI _ | exact f_asString _ | exact JZ _ | exact Ks _ | exact JS _ | exact f_elemOf _ | exact Kh _ | exact JM _ | exact Ku _ | exact JK _ | exact Ju _ | exact Jz _ | intro _ | (refine Frm.bind ?_ (fun _=>?_)) | (refine Frm.map _ ?_) | split | dsimp only)
theorem f_ifield (t:TypeId) (x:Value) (f:Nat):Frm al P (Instr.field t x f):=by
  unfold Instr.field
  repeat (first | exact Frm.pure _ | exact Frm.program | exact Frm.choose _ | exact Frm.load _ _ | exact Frm.store _ _ _ | exact Frm.frozen _ | exact Frm.goPanic _ | exact Frm.uns _ | exact Frm.stuck _ | exact Frm.noRoom | exact Frm.halt _ | exact Xi _ _ | exact Qq _ _ _ _ _ | exact Xb _ _ _ _ _ | exact Kk _ _ _ _ _ _ | exact Kl _ _ _ | exact KD _ _ _ | exact KN _ _ | exact Kb _ | exact QY _ _ _ | exact Kj _ _ _ | exact Km _ _ | exact JC _ _ _ | exact JN _ _ | exact JT _ _ _ _ | exact Kw _ _ _ _ | exact Kq _ | exact JH _ | exact KI _ | exact f_asString _ | exact JZ _ | exact Ks _ | exact JS _ | exact f_elemOf _ | exact Kh _ | exact JM _ | exact Ku _ | exact JK _ | exact Ju _ | exact Jz _ | intro _ | (refine Frm.bind ?_ (fun _=>?_)) | (refine Frm.map _ ?_) | split | dsimp only)
theorem f_iindex (t:TypeId) (x y:Value):Frm al P (Instr.index t x y):=by
  unfold Instr.index
  repeat (first | exact Frm.pure _ | exact Frm.program | exact Frm.choose _ | exact Frm.load _ _ | exact Frm.store _ _ _ | exact Frm.frozen _ | exact Frm.goPanic _ | exact Frm.uns _ | exact Frm.stuck _ | exact Frm.noRoom | exact Frm.halt _ | exact f_ifield _ _ _ | exact Xi _ _ | exact Qq _ _ _ _ _ | exact Xb _ _ _ _ _ | exact Kk _ _ _ _ _ _ | exact Kl _ _ _ | exact KD _ _ _ | exact KN _ _ | exact Kb _ | exact QY _ _ _ | exact Kj _ _ _ | exact Km _ _ | exact JC _ _ _ | exact JN _ _ | exact JT _ _ _ _ | exact Kw _ _ _ _ | exact Kq _ | exact JH _ | exact KI _ | exact f_asString _ | exact JZ _ | exact Ks _ | exact JS _ | exact f_elemOf _ | exact Kh _ | exact JM _ | exact Ku _ | exact JK _ | exact Ju _ | exact Jz _ | intro _ | (refine Frm.bind ?_ (fun _=>?_)) | (refine Frm.map _ ?_) | split | dsimp only)
theorem f_iindexAt (t:TypeId) (x y:Value):Frm al P (Instr.indexAt t x y):=by
  unfold Instr.indexAt
  repeat (first | exact Frm.pure _ | exact Frm.program | exact Frm.choose _ | exact Frm.load _ _ | exact Frm.store _ _ _ | exact Frm.frozen _ | exact Frm.goPanic _ | exact Frm.uns _ | exact Frm.stuck _ | exact Frm.noRoom | exact Frm.halt _ | exact f_iindex _ _ _ | exact f_ifield _ _ _ | exact Xi _ _ | exact Qq _ _ _ _ _ | exact Xb _ _ _ _ _ | exact Kk _ _ _ _ _ _ | exact Kl _ _ _ | exact KD _ _ _ | exact KN _ _ | exact Kb _ | exact QY _ _ _ | exact Kj _ _ _ | exact Km _ _ | exact JC _ _ _ | exact JN _ _ | exact JT _ _ _ _ | exact Kw _ _ _ _ | exact Kq _ | exact JH _ | exact KI _ | exact f_asString _ | exact JZ _ | exact Ks _ | exact JS _ | exact f_elemOf _ | exact Kh _ | exact JM _ | exact Ku _ | exact JK _ | exact Ju _ | exact Jz _ | intro _ | (refine Frm.bind ?_ (fun _=>?_)) | (refine Frm.map _ ?_) | split | dsimp only)
theorem f_imakeFunc (f:Fn) (x y:Array Value):Frm al P (Instr.makeFunc f x y):=by
  unfold Instr.makeFunc
  repeat (first | exact Frm.pure _ | exact Frm.program | exact Frm.choose _ | exact Frm.load _ _ | exact Frm.store _ _ _ | exact Frm.frozen _ | exact Frm.goPanic _ | exact Frm.uns _ | exact Frm.stuck _ | exact Frm.noRoom | exact Frm.halt _ | exact f_iindexAt _ _ _ | exact f_iindex _ _ _ | exact f_ifield _ _ _ | exact Xi _ _ | exact Qq _ _ _ _ _ | exact Xb _ _ _ _ _ | exact Kk _ _ _ _ _ _ | exact Kl _ _ _ | exact KD _ _ _ | exact KN _ _ | exact Kb _ | exact QY _ _ _ | exact Kj _ _ _ | exact Km _ _ | exact JC _ _ _ | exact JN _ _ | exact JT _ _ _ _ | exact Kw _ _ _ _ | exact Kq _ | exact JH _ | exact KI _ | exact f_asString _ | exact JZ _ | exact Ks _ | exact JS _ | exact f_elemOf _ | exact Kh _ | exact JM _ | exact Ku _ | exact JK _ | exact Ju _ | exact Jz _ | intro _ | (refine Frm.bind ?_ (fun _=>?_)) | (refine Frm.map _ ?_) | split | dsimp only)
theorem f_imakeSlice (t:TypeId) (x y:Value):Frm true P (Instr.makeSlice t x y):=by
  unfold Instr.makeSlice
  repeat (first | exact Frm.pure _ | exact Frm.program | exact Frm.choose _ | exact Frm.load _ _ | exact Frm.store _ _ _ | exact Frm.frozen _ | exact Frm.goPanic _ | exact Frm.uns _ | exact Frm.stuck _ | exact Frm.noRoom | exact Frm.halt _ | exact f_imakeFunc _ _ _ | exact f_iindexAt _ _ _ | exact f_iindex _ _ _ | exact f_ifield _ _ _ | exact Xi _ _ | exact Qq _ _ _ _ _ | exact Xb _ _ _ _ _ | exact Kk _ _ _ _ _ _ | exact Kl _ _ _ | exact KD _ _ _ | exact KN _ _ | exact Kb _ | exact QY _ _ _ | exact Kj _ _ _ | exact Km _ _ | exact JC _ _ _ | exact JN _ _ | exact JT _ _ _ _ | exact Kw _ _ _ _ | exact Kq _ | exact JH _ | exact KI _ | exact f_asString _ | exact JZ _ | exact Ks _ | exact JS _ | exact f_elemOf _ | exact Kh _ | exact JM _ | exact Ku _ | exact JK _ | exact Ju _ | exact Jz _ | exact f_ibox _ _ | exact f_ialloc _ _ _ | exact f_newVar _ _ | exact f_newRow _ _ | exact f_cells _ _ | intro _ | (refine Frm.bind ?_ (fun _=>?_)) | (refine Frm.map _ ?_) | split | dsimp only)
theorem f_ibuildSlice (t:TypeId) (n:Nat) (p:Array (Nat × Value)):Frm true P (Instr.buildSlice t n p):=by
  unfold Instr.buildSlice
  repeat (first | exact Frm.pure _ | exact Frm.program | exact Frm.choose _ | exact Frm.load _ _ | exact Frm.store _ _ _ | exact Frm.frozen _ | exact Frm.goPanic _ | exact Frm.uns _ | exact Frm.stuck _ | exact Frm.noRoom | exact Frm.halt _ | exact f_imakeFunc _ _ _ | exact f_iindexAt _ _ _ | exact f_iindex _ _ _ | exact f_ifield _ _ _ | exact Xi _ _ | exact Qq _ _ _ _ _ | exact Xb _ _ _ _ _ | exact Kk _ _ _ _ _ _ | exact Kl _ _ _ | exact KD _ _ _ | exact KN _ _ | exact Kb _ | exact QY _ _ _ | exact Kj _ _ _ | exact Km _ _ | exact JC _ _ _ | exact JN _ _ | exact JT _ _ _ _ | exact Kw _ _ _ _ | exact Kq _ | exact JH _ | exact KI _ | exact f_asString _ | exact JZ _ | exact Ks _ | exact JS _ | exact f_elemOf _ | exact Kh _ | exact JM _ | exact Ku _ | exact JK _ | exact Ju _ | exact Jz _ | exact f_imakeSlice _ _ _ | exact f_ibox _ _ | exact f_ialloc _ _ _ | exact f_newVar _ _ | exact f_newRow _ _ | exact f_cells _ _ | intro _ | (refine Frm.bind ?_ (fun _=>?_)) | (refine Frm.map _ ?_) | split | dsimp only)
end Go.KL
namespace Go.KL
variable {P:Program} {al:Bool}
theorem Frm.step {α β:Type} {x:Sem α} {f:α → Sem β} {a:α} (hx:∀ w es,x.runT P w es = (.ok a w,es)) (h:Frm al P (f a)):Frm al P (x >>= f):=by
  have hr:∀ w,x.run P w = .ok a w:=fun w=>by rw [← Sem.runT_fst P x w #[],hx]
  refine Frm.mk fun F w v es r v' hF hp h1=>?_
  rw [Sem.run_bind,hr] at h1
  obtain ⟨w',us,h2,h3⟩:=h.go F w v es r v' hF hp h1
  refine ⟨w',us,?_,h3⟩
  show (x.bind f).runT P w es = _
  rw [Sem.runT_bind',hx]
  exact h2
theorem st_under {t:TypeId} {d:TypeDesc} (h:P.underlying t = some d) (w:World) (es:Array Event):(underlying t).runT P w es = (.ok d w,es):=by
  simp [underlying,program,bind,Sem.bind,Sem.runT,h,pure,-Sem.runT_eq]
theorem st_sizeOf {t:TypeId} {i:TypeInfo} (h:P.info? t = some i) (w:World) (es:Array Event):(sizeOf t).runT P w es = (.ok i.size w,es):=by
  simp [sizeOf,typeInfo,program,bind,Sem.bind,Sem.runT,h,pure,-Sem.runT_eq]
def fldB (P:Program) (s f:Nat):Bool :=
  match P.underlying s with
  | some (.struct fs)=>(match fs[f]? with
    | some fd=>(match P.info? fd.type with | some i=>i.size != 0 | none=>false)
    | none=>false)
  | _=>false
theorem fldB_spec {s f:Nat} (h:fldB P s f = true):∃ fs fd i,P.underlying s = some (.struct fs)∧fs[f]? = some fd∧P.info? fd.type = some i∧i.size ≠ 0:=by
  unfold fldB at h
  split at h
  · rename_i fs h1
    split at h
    · rename_i fd h2
      split at h
      · rename_i i h3
        exact ⟨fs,fd,i,h1,h2,h3,by simpa using h⟩
      · cases h
    · cases h
  · cases h
theorem f_fieldAt {s f:Nat} (h:fldB P s f = true) (v:Value):Frm al P (Instr.fieldAt s v f):=by
  obtain ⟨fs,fd,i,h1,h2,h3,h4⟩:=fldB_spec h
  unfold Instr.fieldAt
  refine Frm.step (st_under h1) ?_
  simp only [h2]
  refine Frm.bind (Kb v) (fun a=>Frm.bind ?_ (fun _=>Frm.pure _))
  unfold fieldPlace
  refine Frm.step (st_sizeOf h3) ?_
  rw [if_neg h4]
  exact Frm.pure _
def QN:Value → Bool
  | .int .. | .bool _ | .string _=>true
  | _=>false
theorem Xg {x:Value} (h:QN x = true):(∃ k n,x = .int k n) ∨ (∃ b,x = .bool b) ∨ (∃ s,x = .string s):=by
  cases x <;> first | exact .inl ⟨_,_,rfl⟩ | exact .inr (.inl ⟨_,rfl⟩) | exact .inr (.inr ⟨_,rfl⟩) | (simp [QN] at h;done)
def sly:Value → Bool
  | .slice .. | .string _=>true
  | _=>false
theorem sly_cases {x:Value} (h:sly x = true):(∃ a n c,x = .slice a n c) ∨ (∃ s,x = .string s):=by
  cases x <;> first | exact .inl ⟨_,_,_,rfl⟩ | exact .inr ⟨_,rfl⟩ | (simp [sly] at h;done)
theorem f_equal (t:TypeId) {x y:Value} (hx:QN x = true) (hy:QN y = true):Frm al P (Op.equal t x y):=by
  unfold Op.equal Op.maxDepth
  unfold Op.equalIn
  rcases Xg hx with ⟨k,n,rfl⟩ | ⟨b,rfl⟩ | ⟨s,rfl⟩ <;> rcases Xg hy with ⟨k',n',rfl⟩ | ⟨b',rfl⟩ | ⟨s',rfl⟩ <;>
    (refine Frm.bind (JK _) (fun d=>?_);cases d <;> (repeat (first | exact Frm.pure _ | exact Frm.stuck _ | exact Frm.uns _ | contradiction | split | dsimp only)))
theorem f_binOp (op:BinOp) (t:TypeId) {x y:Value} (hx:QN x = true) (hy:QN y = true):Frm al P (binOp op t x y):=by
  have he:=f_equal (al:=al) (P:=P) t hx hy
  rcases Xg hx with ⟨k,n,rfl⟩ | ⟨b,rfl⟩ | ⟨s,rfl⟩ <;> rcases Xg hy with ⟨k',n',rfl⟩ | ⟨b',rfl⟩ | ⟨s',rfl⟩ <;> cases op <;>
    (unfold binOp;(try dsimp only);repeat (first | exact Frm.pure _ | exact Frm.stuck _ | exact Frm.uns _ | exact JH _ | exact he | (refine Frm.bind ?_ (fun _=>?_)) | (unfold Op.shift) | (unfold Op.intArith) | (unfold Op.intDiv) | (unfold Op.intBits) | (unfold Op.intCmp) | (unfold Op.stringOp) | split | dsimp only))
theorem f_eqGuard (op:BinOp) (t:TypeId) (x y:Operand) {a b:Value} (hx:QN a = true) (hy:QN b = true):Frm al P (eqGuard op t x y a b):=by
  unfold eqGuard
  rcases Xg hx with ⟨k,n,rfl⟩ | ⟨b,rfl⟩ | ⟨s,rfl⟩ <;> rcases Xg hy with ⟨k',n',rfl⟩ | ⟨b',rfl⟩ | ⟨s',rfl⟩ <;>
    (repeat (first | exact Frm.pure _ | split | dsimp only))
theorem f_unary (op:UnOp) (x:Value):Frm al P (Op.unary op x):=by
  unfold Op.unary
  repeat (first | exact Frm.pure _ | exact Frm.stuck _ | exact Frm.uns _ | (unfold Op.intArith) | (unfold Op.intBits) | split | dsimp only)
def intB (P:Program) (t:TypeId):Bool:=match P.underlying t with | some (.int _)=>true | _=>false
theorem intB_spec {t:TypeId} (h:intB P t = true):∃ k,P.underlying t = some (.int k):=by
  unfold intB at h
  split at h
  · exact ⟨_,by assumption⟩
  · cases h
theorem f_convert {s d:TypeId} (hs:intB P s = true) (hd:intB P d = true) {x:Value} (hx:QN x = true):Frm al P (convert s d x):=by
  obtain ⟨k1,h1⟩:=intB_spec hs
  obtain ⟨k2,h2⟩:=intB_spec hd
  unfold convert
  refine Frm.step (st_under h1) (Frm.step (st_under h2) ?_)
  rcases Xg hx with ⟨k,n,rfl⟩ | ⟨b,rfl⟩ | ⟨s,rfl⟩ <;> dsimp only
  · exact Frm.pure _
  · exact Frm.uns _
  · exact Frm.uns _
theorem f_len (ts:Array TypeId) (t:TypeId) {xs:Array Value} (h:xs.all sly = true):Frm al P (Builtin.len_ ts t xs):=by
  unfold Builtin.len_
  cases ts[0]? <;> cases hx:xs[0]? <;> dsimp only <;> try exact Frm.stuck _
  rename_i t0 x
  have hs:sly x = true:=by
    rw [Array.all_eq_true_iff_forall_mem] at h
    exact h x (Array.mem_of_getElem? hx)
  rcases sly_cases hs with ⟨a,n,c,rfl⟩ | ⟨s,rfl⟩ <;> (refine Frm.bind (JK _) (fun d=>?_);cases d <;> repeat (first | exact Frm.pure _ | exact Frm.stuck _ | exact JK _ | (refine Frm.bind ?_ (fun _=>?_)) | split | dsimp only))
theorem f_cap (ts:Array TypeId) (t:TypeId) {xs:Array Value} (h:xs.all sly = true):Frm al P (Builtin.cap_ ts t xs):=by
  unfold Builtin.cap_
  cases ts[0]? <;> cases hx:xs[0]? <;> dsimp only <;> try exact Frm.stuck _
  rename_i t0 x
  have hs:sly x = true:=by
    rw [Array.all_eq_true_iff_forall_mem] at h
    exact h x (Array.mem_of_getElem? hx)
  rcases sly_cases hs with ⟨a,n,c,rfl⟩ | ⟨s,rfl⟩ <;> (refine Frm.bind (JK _) (fun d=>?_);cases d <;> repeat (first | exact Frm.pure _ | exact Frm.stuck _ | exact JK _ | (refine Frm.bind ?_ (fun _=>?_)) | split | dsimp only))
theorem f_min2 (x y:Value):Frm al P (Builtin.min2 x y):=by
  unfold Builtin.min2
  repeat (first | exact Frm.pure _ | exact Frm.stuck _ | exact Frm.uns _ | exact Frm.choose _ | exact JZ _ | (refine Frm.bind ?_ (fun _=>?_)) | (unfold Op.stringOp) | split | dsimp only)
theorem f_foldlM (f:Value → Value → Sem Value) (hf:∀ x y,Frm al P (f x y)):∀ (l:List Value) (x:Value),Frm al P (l.foldlM f x)
  | [],x=>Frm.pure _
  | y :: l,x=>by rw [List.foldlM_cons];exact Frm.bind (hf x y) (fun z=>f_foldlM f hf l z)
theorem f_min (ts:Array TypeId) (t:TypeId) (xs:Array Value):Frm al P (Builtin.min_ ts t xs):=by
  unfold Builtin.min_
  split
  · exact Frm.stuck _
  · exact f_foldlM _ f_min2 _ _
theorem f_firstCells (n m:Nat) (v:Value):Frm al P (Builtin.firstCells n m v):=by
  unfold Builtin.firstCells
  split
  · exact JN _ _
  · exact Frm.pure _
  · exact Frm.pure _
  · exact Frm.stuck _
theorem f_lenOf (v:Value):Frm al P (Builtin.lenOf v):=by
  unfold Builtin.lenOf
  split <;> first | exact Frm.pure _ | exact Frm.stuck _
set_option maxHeartbeats 4000000 in
theorem f_append (ts:Array TypeId) (t:TypeId) (xs:Array Value):Frm true P (Builtin.append_ ts t xs):=by
  unfold Builtin.append_
  repeat (first | exact Frm.pure _ | exact Frm.stuck _ | exact Frm.uns _ | exact JH _ | exact Frm.choose _ | exact JK _ | exact JM _ | exact Ju _ | exact Ku _ | exact Ks _ | exact f_lenOf _ | exact f_firstCells _ _ _ | exact JC _ _ _ | exact Jz _ | exact f_newRow _ _ | (refine Frm.doom (Doom.bind (fun _=>?_));split <;> (first | exact Doom.uns _ | exact Doom.bind (fun _=>Doom.uns _))) | (refine Frm.ite (fun _=>?_) (fun _=>?_)) | (refine Frm.bind ?_ (fun _=>?_)) | (refine Frm.map _ ?_) | split | dsimp only)
theorem f_mapM {α β:Type} (f:α → Sem β) (hf:∀ a,Frm al P (f a)) (xs:Array α):Frm al P (xs.mapM f):=by
  rw [Array.mapM_eq_mapM_toList]
  refine Frm.map _ ?_
  generalize xs.toList = l
  induction l with
  | nil=>exact Frm.pure _
  | cons x l ih=>rw [List.mapM_cons];exact Frm.bind (hf x) (fun _=>Frm.bind ih (fun _=>Frm.pure _))
theorem f_build (t:TypeId) (ps:Array (Nat × Value)):Frm al P (Instr.build t ps):=by
  unfold Instr.build
  repeat (first | exact Frm.pure _ | exact Frm.stuck _ | exact Ku _ | exact JK _ | exact JM _ | (refine f_mapM _ (fun _=>?_) _) | (refine Frm.bind ?_ (fun _=>?_)) | split | dsimp only)
theorem f_range {t:TypeId} (s:ByteArray):Frm true P (Instr.range t (.string s)):=by
  unfold Instr.range
  cases h:P.underlying t with
  | none =>
    refine Frm.doom (fun w r w' e=>?_)
    simp [underlying,program,Sem.run,h,Sem.run_bind,stuck] at e
  | some d =>
    cases d <;> first
      | (refine Frm.doom (fun w r w' e=>?_);simp [underlying,program,Sem.run,h,Sem.run_bind,stuck] at e;done)
      | exact Frm.step (st_under h) (Frm.step (a:=Obj.stringIter s 0) (fun w es=>by simp [Sem.runT,pure,-Sem.runT_eq]) (Frm.bind (Frm.new (fun a u h=>Obj.noConfusion h)) (fun _=>Frm.pure _)))
theorem f_next (it:Value) (t:TypeId):Frm al P (Instr.next it true t):=by
  refine Frm.mk fun F w v es r v' hF hp h=>?_
  have key:∃ b sp s pos,it = .pointer (some ⟨b,0,sp⟩)∧v.heap[b]? = some (.stringIter s pos):=by
    cases it <;> try (simp [Instr.next,stuck] at h;done)
    rename_i o
    cases o with
    | none=>simp [Instr.next,stuck] at h
    | some a =>
      obtain ⟨b,off,sp⟩:=a
      cases off with
      | succ n=>simp [Instr.next,stuck] at h
      | zero =>
        cases ho:v.heap[b]? with
        | none=>simp [Instr.next,stuck,getObj,Sem.run,Sem.run_bind,ho] at h
        | some o =>
          cases o <;> first | exact ⟨b,sp,_,_,rfl,ho⟩ | (simp [Instr.next,stuck,getObj,Sem.run,Sem.run_bind,ho] at h;done)
  obtain ⟨b,sp,s,pos,rfl,hb⟩:=key
  have hFb:¬ F b:=fun hf=>by
    have h1:=hp.bad b hf
    rw [hb] at h1
    cases hw:w.heap[b]? with
    | none=>rw [hw] at h1;cases h1
    | some o=>rw [hw] at h1;cases o <;> simp [bad] at h1
  have hOb:¬ F.o b:=fun hf=>by
    have h1:=hp.ro b hFb hf
    rw [hb] at h1
    cases hw:w.heap[b]? with
    | none=>rw [hw] at h1;cases h1
    | some o=>rw [hw] at h1;cases o <;> simp [ice] at h1
  have hw:w.heap[b]? = some (.stringIter s pos):=by rw [← hp.same b hFb hOb,hb]
  have hlt:b < w.heap.size:=(Array.getElem?_eq_some_iff.1 hw).1
  by_cases hpos:pos < s.size
  · simp [Instr.next,getObj,setObj,Sem.run,Sem.run_bind,hb,hpos] at h
    obtain ⟨e1,e2⟩:=h
    subst e1;subst e2
    refine ⟨{ w with heap:=w.heap.setIfInBounds b (.stringIter s (pos + (Utf8.decode s pos).2)) },#[⟨.obj b,false,false⟩,⟨.obj b,true,false⟩],?_,hp.setObj _ hFb hOb (fun a u h=>Obj.noConfusion h),⟨rfl,rfl,rfl,by simp,fun c hc _=>Array.getElem?_setIfInBounds_ne (fun e=>hc.elim (fun hc=>hFb (by rw [e];exact hc)) (fun hc=>hOb (by rw [e];exact hc))),fun c _=>by
      show ((w.heap.setIfInBounds b _)[c]?).map _ = _
      by_cases e:c = b
      · subst e;rw [Array.getElem?_setIfInBounds_self_of_lt hlt,hw];rfl
      · rw [Array.getElem?_setIfInBounds_ne (Ne.symm e)]⟩,fun _=>by simp,fun e he=>?_⟩
    · simp [Instr.next,getObj,setObj,Sem.runT,bind,Sem.bind,pure,hw,hpos,Obj.isChan,-Sem.runT_eq]
      apply Array.ext';simp
    · simp at he
      rcases he with rfl | rfl <;> exact ⟨⟨hFb,by simpa using hlt⟩,fun _=>hOb⟩
  · simp [Instr.next,getObj,setObj,Sem.run,Sem.run_bind,hb,hpos] at h
    obtain ⟨e1,e2⟩:=h
    subst e1;subst e2
    refine ⟨w,#[⟨.obj b,false,false⟩],?_,hp,.refl _ _,fun _=>rfl,fun e he=>?_⟩
    · simp [Instr.next,getObj,setObj,Sem.runT,bind,Sem.bind,pure,hw,hpos,Obj.isChan,-Sem.runT_eq]
    · simp at he
      subst he
      exact ⟨⟨hFb,hlt⟩,fun e=>by cases e⟩
end Go.KL
namespace Go.KL
variable {P:Program}
theorem f_makeChan (t:TypeId) (x:Value):Frm true P (Instr.makeChan t x):=by
  unfold Instr.makeChan
  repeat (first | exact Frm.pure _ | exact Frm.stuck _ | exact JH _ | exact JK _ | exact Ju _ | exact Ks _ | (exact Frm.new (fun a u h=>Obj.noConfusion h)) | (refine Frm.bind ?_ (fun _=>?_)) | (refine Frm.map _ ?_) | split | dsimp only)
def isVal:Op → Bool
  | .call c=>(match c.callee with | .value _=>true | _=>false)
  | _=>false
def clB (P:Program) (al:Bool) (o:Oper):Bool :=
  match o.op with
  | .move _ | .assign _ | .pick .. | .load .. | .store .. | .nilCheck _ | .binOp .. | .unOp .. | .slice .. | .field .. | .indexAddr .. | .index .. | .extract .. | .makeFunc .. | .build ..=>true
  | .fieldAddr s _ f=>fldB P s f
  | .convert s d _=>intB P s && intB P d
  | .next _ b=>b
  | .alloc _ | .box .. | .buildSlice .. | .makeSlice .. | .range .. | .makeChan ..=>al
  | .call c=>(match c.callee with
    | .builtin .len | .builtin .cap | .builtin .min=>true
    | .builtin .append=>al
    | .value _=>true
    | _=>false)
  | _=>false
def Qo (ρ:Operand → Value):Op → Bool
  | .binOp _ _ x y _=>QN (ρ x) && QN (ρ y)
  | .convert _ _ x=>QN (ρ x)
  | .call c=>(match c.callee with
    | .builtin .len | .builtin .cap=>(c.args.map ρ).all sly
    | _=>true)
  | .range _ x=>(match ρ x with | .string _=>true | _=>false)
  | .nilCheck x=>(match ρ x with | .func ..=>false | _=>true)
  | _=>true
theorem f_v {al:Bool} {s:Sem Value} (h:Frm al P s):Frm al P (do pure (Next.value (← s)):Sem Next):=Frm.bind h (fun _=>Frm.pure _)
theorem f_u {al:Bool} {s:Sem Unit} (h:Frm al P s):Frm al P (do s;pure Next.skip:Sem Next):=Frm.bind h (fun _=>Frm.pure _)
def bltB (al:Bool):Builtin → Bool
  | .len | .cap | .min=>true
  | .append=>al
  | _=>false
theorem f_builtin {al:Bool} {b:Builtin} (ts:Array TypeId) (t:TypeId) (cs:Array Bool) (xs:Array Value) (hb:bltB al b = true) (hc:(b = .len ∨ b = .cap) → xs.all sly = true):Frm al P (builtin b ts t cs xs):=by
  cases b with
  | append =>
    cases (show al = true from hb)
    exact f_v (f_append _ _ _)
  | cap=>exact f_v (f_cap _ _ (hc (.inr rfl)))
  | len=>exact f_v (f_len _ _ (hc (.inl rfl)))
  | min=>exact f_v (f_min _ _ _)
  | _=>cases hb
theorem f_pick {al:Bool} (x y z:Value):Frm al P (do pure (Next.value (if ← asBool x then y else z)):Sem Next):=Frm.bind (JZ _) (fun _=>Frm.pure _)
theorem frm_op {al:Bool} {ρ:Operand → Value} {o:Oper} (h:clB P al o = true) (hc:Qo ρ o.op = true) (hv:isVal o.op = false):Frm al P (execOp ρ o):=by
  obtain ⟨d,op,ty,pos,af,g⟩:=o
  cases op with
  | move x=>exact Frm.pure _
  | assign x=>exact Frm.pure _
  | pick c a b=>exact f_pick _ _ _
  | load t a=>exact f_v (KN _ _)
  | store t a x=>exact f_u (KD _ _ _)
  | unOp op t x=>exact f_v (f_unary _ _)
  | slice t x l m n=>exact f_v (Qq _ _ _ _ _)
  | field t x f=>exact f_v (f_ifield _ _ _)
  | indexAddr t x i=>exact f_v (f_iindexAt _ _ _)
  | index t x i=>exact f_v (f_iindex _ _ _)
  | extract t i=>exact f_v (Xi _ _)
  | makeFunc f x y=>exact f_v (f_imakeFunc _ _ _)
  | build t p=>exact f_v (f_build _ _)
  | fieldAddr s x f=>exact f_v (f_fieldAt h _)
  | alloc t=>cases (show al = true from h);exact f_v (f_ialloc _ _ _)
  | box t x=>cases (show al = true from h);exact f_v (f_ibox _ _)
  | buildSlice t n p=>cases (show al = true from h);exact f_v (f_ibuildSlice _ _ _)
  | makeSlice t x y=>cases (show al = true from h);exact f_v (f_imakeSlice _ _ _)
  | makeChan t x=>cases (show al = true from h);exact f_v (f_makeChan _ _)
  | convert s d x =>
    have h':(intB P s && intB P d) = true:=h
    simp only [Bool.and_eq_true] at h'
    exact f_v (f_convert h'.1 h'.2 hc)
  | binOp op t x y u =>
    have hc':(QN (ρ x) && QN (ρ y)) = true:=hc
    simp only [Bool.and_eq_true] at hc'
    exact f_v (Frm.bind (f_eqGuard _ _ _ _ hc'.1 hc'.2) (fun _=>f_binOp _ _ hc'.1 hc'.2))
  | next it b =>
    cases (show b = true from h)
    exact f_v (f_next _ _)
  | range t x =>
    cases (show al = true from h)
    have hc':(match ρ x with | .string _=>true | _=>false) = true:=hc
    split at hc'
    · rename_i s e
      show Frm true P (do pure (Next.value (← Instr.range t (ρ x))):Sem Next)
      rw [e]
      exact f_v (f_range s)
    · cases hc'
  | nilCheck x =>
    simp only [Qo] at hc
    simp only [execOp]
    generalize ρ x = y at hc ⊢
    cases y with
    | func f a b=>simp at hc
    | pointer o=>cases o <;> first | exact JH _ | exact Frm.pure _
    | nilIface=>exact JH _
    | nilFunc=>exact JH _
    | _=>exact Frm.pure _
  | call c =>
    obtain ⟨cal,xs,tys⟩:=c
    cases cal with
    | builtin b =>
      have h':bltB al b = true:=by
        cases b <;> first | rfl | exact h
      have hc':(b = .len ∨ b = .cap) → (xs.map ρ).all sly = true:=by
        rintro (rfl | rfl) <;> exact hc
      have:=f_builtin (P:=P) (al:=al) tys ty (xs.map fun | .const _=>true | _=>false) (xs.map ρ) h' hc'
      exact this
    | value x=>cases hv
    | invoke r n=>cases h
  | _=>cases h
end Go.KL
namespace Go.KL
open Go.Conc (G)
structure Ext (v v':World):Prop where
  os:v'.os = v.os
  output:v'.output = v.output
  size:v.heap.size ≤ v'.heap.size
  blk:∀ b,b < v.heap.size → v'.heap[b]? = v.heap[b]?
theorem Ext.refl (v:World):Ext v v:=⟨rfl,rfl,Nat.le_refl _,fun _ _=>rfl⟩
theorem Ext.trans {a b c:World} (h:Ext a b) (k:Ext b c):Ext a c :=
  ⟨k.os.trans h.os,k.output.trans h.output,Nat.le_trans h.size k.size,fun x hx=>(k.blk x (Nat.lt_of_lt_of_le hx h.size)).trans (h.blk x hx)⟩
structure JdOf (P:Program) where
  main:Bool
  al:Bool
  J:Goroutine → World → Prop
  sp:Oper → Act → Array (Nat × ByteArray) → Value → Prop
  up:∀ {g:Goroutine} {v v':World},J g v → Ext v v' → J g v'
  ctl:∀ {fr fr':Frame} {cs cs':List Frame} {v:World},(∀ w,stepG P main (G fr cs) w = .go (G fr' cs') w #[]) → J (G fr' cs') v → J (G fr cs) v
  ord:∀ {b:Frame} {a:Act} {id:Nat} {ops:Array Oper} {k:List Item} {cs:List Frame} {v:World},(∀ t,J (G (b.at a (.inRegion ops (Region.schedule (P.follows .mixedOrders) ops t) :: k)) cs) v) →
    J (G (b.at a (.code (.region id ops true) :: k)) cs) v
  opr:∀ {b:Frame} {a:Act} {ops:Array Oper} {i:Nat} {rest:List Nat} {k:List Item} {cs:List Frame} {o:Oper} {v:World},ops[i]? = some o → Region.wanted o (yielded ops a.tmps) = true → b.kind ≠ .early → Frm al P (execOp a.eval o) →
    (∀ v',Ext v v' → ∃ x v'',(execOp a.eval o).run P v' = .ok x v''∧∃ u,(x = .value u ∨ (x = .skip∧u = undef))∧J (G (b.at (a.put o.dst u) (.inRegion ops rest :: k)) cs) v'') →
    J (G (b.at a (.inRegion ops (i :: rest) :: k)) cs) v
  spl:∀ {b:Frame} {a:Act} {ops:Array Oper} {i:Nat} {rest:List Nat} {k:List Item} {cs:List Frame} {o:Oper} {v:World} {u:Value},ops[i]? = some o → Region.wanted o (yielded ops a.tmps) = true → b.kind ≠ .early → sp o a v.output u →
    J (G (b.at (a.put o.dst u) (.inRegion ops rest :: k)) cs) v → J (G (b.at a (.inRegion ops (i :: rest) :: k)) cs) v
  Fin:Value → World → Prop
  out:∀ {b:Frame} {a:Act} {todo:List Item} {fn:Func} {v:World},P.inits.idxOf? b.fn = none → b.kind = .normal → a.defers = [] → P.funcs[b.fn]? = some fn → Frm al P (results fn a.tmps) →
    (∀ v',Ext v v' → ∃ u v'',(results fn a.tmps).run P v' = .ok u v''∧Fin u v'') → J (G { b.at a todo with mode:=.returning } []) v
  ret:∀ {b:Frame} {a:Act} {todo:List Item} {fn:Func} {c:Frame} {cs:List Frame} {v:World},b.kind = .normal → a.defers = [] → P.funcs[b.fn]? = some fn → Frm al P (results fn a.tmps) →
    (∀ v',Ext v v' → ∃ u v'',(results fn a.tmps).run P v' = .ok u v''∧J (G (c.finish u) cs) v'') → J (G { b.at a todo with mode:=.returning } (c :: cs)) v
abbrev Al {P:Program} (J:JdOf P):Prop:=Nonempty (J.al = true)
theorem Al.al {P:Program} {J:JdOf P} [h:Al J]:J.al = true:=h.elim id
variable {P:Program} {J:JdOf P}
def Cont (J:JdOf P):List Frame → Value → World → Prop
  | [],u,v=>∀ v',Ext v v' → J.Fin u v'
  | c :: cs,u,v=>J.J (G (c.finish u) cs) v
def XCalls (J:JdOf P) (f:FuncId) (args:Array Value) (v:World) (R:Ending → World → Prop):Prop :=
  ∀ (cs:List Frame),(cs = [] → P.inits.idxOf? f = none) → (∀ u v',R (.returned u) v' → Cont J cs u v') → J.J (G (Frame.enter P f args .normal) cs) v
theorem XCalls.mono {f:FuncId} {args:Array Value} {v:World} {R R':Ending → World → Prop} (h:XCalls J f args v R) (hr:∀ e w',R e w' → R' e w'):XCalls J f args v R' :=
  fun cs hi k=>h cs hi fun u v' hu=>k u v' (hr _ _ hu)
def CallForm (P:Program) (o:Oper) (a:Act) (f:FuncId) (args:Array Value):Prop :=
  ∃ x xs tys first cap fn,o.op = .call { callee:=.value x,args:=xs,argTypes:=tys }∧a.eval x = .func (.func f) first cap∧args = first ++ xs.map a.eval ++ cap ∧
    P.funcs[f]? = some fn ∧ (fn.name == "runtime.NumGoroutine") = false ∧ fn.body.isNone = false
theorem run_callForm {o:Oper} {a:Act} {f:FuncId} {args:Array Value} (h:CallForm P o a f args) (w:World):(execOp a.eval o).run P w = .ok (.enter f args) w:=by
  obtain ⟨x,xs,tys,first,cap,fn,ho,hx,rfl,hf,hname,hb⟩:=h
  have h1 : ¬ fn.name = "runtime.NumGoroutine" := by simpa using hname
  have h2:¬ fn.body = none:=by cases hx:fn.body <;> simp_all
  unfold execOp
  simp [ho,resolve,Deferred.ofValue,invoke,callFunc,hf,h1,h2,hx]
theorem events_callForm {o:Oper} {a:Act} {f:FuncId} {args:Array Value} (h:CallForm P o a f args) (w:World) (es:Array Event):(execOp a.eval o).events P w es = es:=by
  obtain ⟨x,xs,tys,first,cap,fn,ho,hx,rfl,hf,hname,hb⟩:=h
  have h1 : ¬ fn.name = "runtime.NumGoroutine" := by simpa using hname
  have h2:¬ fn.body = none:=by cases hx:fn.body <;> simp_all
  unfold execOp
  simp [ho,resolve,Deferred.ofValue,invoke,callFunc,hf,h1,h2,hx]
theorem JdOf.call {b:Frame} {a:Act} {ops:Array Oper} {i:Nat} {rest:List Nat} {k:List Item} {cs:List Frame} {o:Oper} {v:World} {f:FuncId} {args:Array Value} (ho:ops[i]? = some o) (hw:Region.wanted o (yielded ops a.tmps) = true) (hk:b.kind ≠ .early)
    (h:CallForm P o a f args) (hj:J.J (G (Frame.enter P f args .normal) (b.at a (.inRegion ops (i :: rest) :: k) :: cs)) v):J.J (G (b.at a (.inRegion ops (i :: rest) :: k)) cs) v:=by
  refine J.ctl (fun w=>?_) hj
  rw [Go.Conc.stepG_enter ho hw hk (run_callForm h w)]
  have:Go.Conc.listed P b.fn a o w = #[]:=by unfold Go.Conc.listed;rw [events_callForm h];exact Go.Conc.seen_none P _
  rw [this]
def Oper.xupon (J:JdOf P) (o:Oper) (a:Act) (K:Act → World → Prop):Result Next → Prop
  | .ok (.value u) v'=>Qo a.eval o.op = true∧K (a.put o.dst u) v'
  | .ok .skip v'=>Qo a.eval o.op = true∧K (a.put o.dst undef) v'
  | .ok (.enter f args) v'=>CallForm P o a f args∧XCalls J f args v' fun | .returned u,v''=>K (a.put o.dst u) v'' | _,_=>False
  | _=>False
def Oper.xwp (J:JdOf P) (o:Oper) (a:Act) (v:World) (K:Act → World → Prop):Prop :=
  Oper.xupon J o a K ((execOp a.eval o).run P v)∧(isVal o.op = true → ∃ f args,CallForm P o a f args)
theorem JV {o:Oper} {a:Act} {v:World} {K:Act → World → Prop} (hv:isVal o.op = false) (h:Oper.xupon J o a K ((execOp a.eval o).run P v)):Oper.xwp J o a v K:=⟨h,fun e=>by rw [hv] at e;cases e⟩
theorem xwp_call {o:Oper} {a:Act} {v:World} {K:Act → World → Prop} {f:FuncId} {args:Array Value} (hf:CallForm P o a f args) (h:XCalls J f args v fun | .returned u,v''=>K (a.put o.dst u) v'' | _,_=>False):Oper.xwp J o a v K :=
  ⟨by rw [run_callForm hf];exact ⟨hf,h⟩,fun _=>⟨f,args,hf⟩⟩
theorem xop {b:Frame} {a:Act} {ops:Array Oper} {i:Nat} {rest:List Nat} {k:List Item} {cs:List Frame} {o:Oper} {v:World} {K:Act → World → Prop} (ho:ops[i]? = some o) (hw:Region.wanted o (yielded ops a.tmps) = true) (hk:b.kind ≠ .early) (hcl:clB P J.al o = true)
    (h:∀ v',Ext v v' → Oper.xwp J o a v' K) (hK:∀ a' v',K a' v' → J.J (G (b.at a' (.inRegion ops rest :: k)) cs) v'):J.J (G (b.at a (.inRegion ops (i :: rest) :: k)) cs) v:=by
  have hfin:∀ u,(b.at a (.inRegion ops (i :: rest) :: k)).finish u = b.at (a.put o.dst u) (.inRegion ops rest :: k):=fun u=>by rw [Frame.finish_at,ho];rfl
  by_cases hv:isVal o.op = true
  · obtain ⟨f,args,hf⟩:=(h v (.refl v)).2 hv
    have h1:=(h v (.refl v)).1
    rw [run_callForm hf] at h1
    refine JdOf.call ho hw hk hf (h1.2 (_ :: _) (fun e=>by cases e) fun u v' hu=>?_)
    show J.J (G (Frame.finish _ u) _) _
    rw [hfin]
    exact hK _ _ hu
  · have hv':isVal o.op = false:=by simpa using hv
    have hcool:Qo a.eval o.op = true:=by
      have h1:=(h v (.refl v)).1
      unfold Oper.xupon at h1
      split at h1
      · exact h1.1
      · exact h1.1
      · rename_i f args v1 e
        obtain ⟨x,xs,tys,first,cap,fn,e1,_⟩:=h1.1
        rw [e1] at hv';cases hv'
      · exact h1.elim
    refine J.opr ho hw hk (frm_op hcl hcool hv') fun v' hv1=>?_
    have h1:=(h v' hv1).1
    generalize (execOp a.eval o).run P v' = r at h1
    unfold Oper.xupon at h1
    split at h1
    · rename_i u v1
      exact ⟨_,v1,rfl,u,.inl rfl,hK _ _ h1.2⟩
    · rename_i v1
      exact ⟨_,v1,rfl,undef,.inr ⟨rfl,rfl⟩,hK _ _ h1.2⟩
    · rename_i f args v1
      obtain ⟨x,xs,tys,first,cap,fn,e1,_⟩:=h1.1
      rw [e1] at hv';cases hv'
    · exact h1.elim
def XK (J:JdOf P) (b:Frame) (k:List Item) (cs:List Frame):Exit → Act → World → Prop
  | .normal,a,v=>J.J (G (b.at a k) cs) v
  | .exit id,a,v=>∃ k',exitTo id k = some k'∧J.J (G (b.at a k') cs) v
  | .ret,a,v=>∀ todo,J.J (G { b.at a todo with mode:=.returning } cs) v
  | _,_,_=>False
def Code.xwp (J:JdOf P) (c:Code) (Q:Exit → Act → World → Prop) (a:Act) (v:World):Prop :=
  ∀ (b:Frame) (k:List Item) (cs:List Frame),(b.kind ≠ .early∧(P.funcs[b.fn]?).any (·.norace) = false) → (∀ e a' v',Q e a' v' → XK J b k cs e a' v') → J.J (G (b.at a (.code c :: k)) cs) v
theorem Code.xwp_mono {c:Code} {a:Act} {v:World} {Q Q':Exit → Act → World → Prop} (hq:∀ e a v,Q e a v → Q' e a v) (h:Code.xwp J c Q a v):Code.xwp J c Q' a v:=fun b k cs hk H=>h b k cs hk fun e a' v' he=>H e a' v' (hq _ _ _ he)
section
variable {Q:Exit → Act → World → Prop} {a:Act} {v:World}
theorem Jf (h:Q .normal a v):Code.xwp J .skip Q a v:=fun b k cs _ H=>J.ctl (fun w=>Go.Conc.stepG_skip) (H _ _ _ h)
theorem Jv {id:Nat} (h:Q (.exit id) a v):Code.xwp J (.exit id) Q a v:=fun b k cs _ H=>by
  obtain ⟨k',hk,hj⟩:=H _ _ _ h
  exact J.ctl (fun w=>Go.Conc.stepG_exit hk) hj
theorem Ji (h:Q .ret a v):Code.xwp J .ret Q a v:=fun b k cs _ H=>J.ctl (fun w=>Go.Conc.stepG_ret') (H _ _ _ h _)
theorem Ja {x y:Code} (h:Code.xwp J x (Exit.then (Code.xwp J y Q) Q) a v):Code.xwp J (.seq x y) Q a v:=fun b k cs hk H =>
  J.ctl (fun w=>Go.Conc.stepG_seq) (h b (.code y :: k) cs hk fun e a' v' he=>by
    cases e with
    | normal=>exact he b k cs hk H
    | exit id =>
      obtain ⟨k',h1,h2⟩:=H (.exit id) a' v' he
      exact ⟨k',by simpa [exitTo] using h1,h2⟩
    | ret=>exact H .ret a' v' he
    | goto l=>exact H (.goto l) a' v' he
    | panic c=>exact H (.panic c) a' v' he
    | outgrown=>exact H .outgrown a' v' he)
theorem xp_cond {c:Operand} {x y:Code} {t:Bool} (hc:a.eval c = .bool t) (h:Code.xwp J (if t then x else y) Q a v):Code.xwp J (.cond c x y) Q a v:=fun b k cs hk H =>
  J.ctl (fun w=>Go.Conc.stepG_cond hc) (h b k cs hk H)
theorem xp_cond_split {c:Operand} {x y:Code} {t:Bool} (hc:a.eval c = .bool t) (ht:t = true → Code.xwp J x Q a v) (hf:t = false → Code.xwp J y Q a v):Code.xwp J (.cond c x y) Q a v:=by
  cases t
  · exact xp_cond hc (hf rfl)
  · exact xp_cond hc (ht rfl)
theorem Je {id:Nat} {c:Code} (h:Code.xwp J c (Exit.inBlock id Q) a v):Code.xwp J (.block id c) Q a v:=fun b k cs hk H =>
  J.ctl (fun w=>Go.Conc.stepG_block) (h b (.inBlock id :: k) cs hk fun e a' v' he=>by
    cases e with
    | normal=>exact J.ctl (fun w=>Go.Conc.stepG_inBlock) (H .normal a' v' he)
    | exit id' =>
      by_cases hid:id' = id
      · simp only [Exit.inBlock,hid,if_true] at he
        exact ⟨k,by simp [exitTo,hid],H .normal a' v' he⟩
      · simp only [Exit.inBlock,hid,if_false] at he
        obtain ⟨k',h1,h2⟩:=H (.exit id') a' v' he
        have:(id == id') = false:=by simp;exact fun h=>hid h.symm
        exact ⟨k',by simp [exitTo,this,h1],h2⟩
    | ret=>exact H .ret a' v' he
    | goto l=>exact H (.goto l) a' v' he
    | panic c=>exact H (.panic c) a' v' he
    | outgrown=>exact H .outgrown a' v' he)
theorem JY {c:Code} (I:Nat → Act → World → Prop) (n:Nat) (h0:I n a v) (round:∀ n a v,I n a v → Code.xwp J c (Exit.then (fun a' v'=>∃ m,m < n∧I m a' v') Q) a v):Code.xwp J (.loop c) Q a v:=fun b k cs hk H=>by
  have key:∀ n a v,I n a v → J.J (G (b.at a (.code c :: .inLoop c :: k)) cs) v:=by
    intro n
    induction n using Nat.strongRecOn with
    | _ n ih =>
    intro a v hI
    refine round n a v hI b (.inLoop c :: k) cs hk fun e a' v' he=>?_
    cases e with
    | normal =>
      obtain ⟨m,hm,hi⟩:=he
      exact J.ctl (fun w=>Go.Conc.stepG_inLoop) (ih m hm a' v' hi)
    | exit id =>
      obtain ⟨k',h1,h2⟩:=H (.exit id) a' v' he
      exact ⟨k',by simpa [exitTo] using h1,h2⟩
    | ret=>exact H .ret a' v' he
    | goto l=>exact H (.goto l) a' v' he
    | panic c=>exact H (.panic c) a' v' he
    | outgrown=>exact H .outgrown a' v' he
  exact J.ctl (fun w=>Go.Conc.stepG_loop) (key n a v h0)
end
def Qe (P:Program) (fn:Func) (R:Ending → World → Prop):Exit → Act → World → Prop
  | .normal,a,v | .ret,a,v=>a.defers = []∧((∃ u,(∀ w es,(results fn a.tmps).run P w = .ok u w∧(results fn a.tmps).events P w es = es)∧R (.returned u) v) ∨
      ∀ v',Ext v v' → ∃ u v'',(results fn a.tmps).run P v' = .ok u v''∧R (.returned u) v'')
  | _,_,_=>False
theorem frm_results {al:Bool} (fn:Func) (tmps:Array Value):Frm al P (results fn tmps):=by
  unfold results
  refine Frm.bind (f_mapM _ (fun r=>?_) _) (fun _=>Frm.pure _)
  cases r with
  | tmp t=>exact Frm.pure _
  | cell x t=>exact Frm.bind (Kq _) (fun _=>Km _ _)
theorem xcalls_of_wp {f:FuncId} {fn:Func} {c:Code} {args:Array Value} {v:World} {R:Ending → World → Prop} (hf:P.funcs[f]? = some fn) (hb:fn.body = some c)
    (h:Code.xwp J c (Qe P fn R) { tmps:=args ++ Array.replicate (fn.ntmps - args.size) undef,defers:=[] } v) (hnr:fn.norace = false):XCalls J f args v R:=by
  intro cs hi hR
  rw [Go.Conc.enter_at args hf hb]
  have leave:∀ a' v' todo,Qe P fn R .ret a' v' → J.J (G { (Go.Conc.base f).at a' todo with mode:=.returning } cs) v':=by
    cases cs with
    | nil =>
      rintro a' v' todo ⟨hd,⟨u,hu,hr⟩ | h⟩
      · refine J.out (hi rfl) rfl hd hf (frm_results fn _) fun v'' hv=>⟨u,v'',(hu v'' #[]).1,hR u v' hr v'' hv⟩
      · refine J.out (hi rfl) rfl hd hf (frm_results fn _) fun v'' hv=>?_
        obtain ⟨u,v3,h1,h2⟩:=h v'' hv
        exact ⟨u,v3,h1,hR u v3 h2 v3 (.refl _)⟩
    | cons c' cs =>
      rintro a' v' todo ⟨hd,⟨u,hu,hr⟩ | h⟩
      · refine J.ctl (fun w=>?_) (hR u v' hr)
        exact Go.Conc.stepG_leave rfl hd hf (hu w #[]).1 (hu w #[]).2
      · refine J.ret rfl hd hf (frm_results fn _) fun v'' hv=>?_
        obtain ⟨u,v3,h1,h2⟩:=h v'' hv
        exact ⟨u,v3,h1,hR u v3 h2⟩
  refine h (Go.Conc.base f) [] cs ⟨by simp [Go.Conc.base],by show (P.funcs[f]?).any (·.norace) = false;rw [hf];exact hnr⟩ fun e a' v' he=>?_
  cases e with
  | normal=>exact J.ctl (fun w=>Go.Conc.stepG_end) (leave a' v' [] he)
  | ret=>exact fun todo=>leave a' v' todo he
  | _=>exact he.elim
end Go.KL
namespace Go.KL
structure GW where
  w:World
  st:Nat → Nat
  lt:∀ b,st b ≠ 0 → b < w.heap.size
structure GW.Le (σ τ:GW):Prop where
  st:∀ b,σ.st b = 1 → τ.st b = 1
  blk:∀ b,σ.st b = 1 → τ.w.heap[b]? = σ.w.heap[b]?
theorem GW.Le.trans {σ τ ρ:GW} (h:σ.Le τ) (k:τ.Le ρ):σ.Le ρ :=
  ⟨fun b hb=>k.st b (h.st b hb),fun b hb=>(k.blk b (h.st b hb)).trans (h.blk b hb)⟩
def lax:Prop:=True
def Dr (m n:Nat):Prop:=m ≤ n ∨ lax
theorem Dr.refl (n:Nat):Dr n n:=.inl (Nat.le_refl n)
theorem Dr.trans {m n k:Nat} (h:Dr m n) (g:Dr n k):Dr m k:=h.elim (fun h=>g.elim (fun g=>.inl (Nat.le_trans h g)) .inr) .inr
def gho {α:Type} (p:Prop) [Decidable p] (x:α):Option α:=if p then none else some x
theorem gho_no {α:Type} {p:Prop} [Decidable p] {x y:α} (h:gho p x = gho p y) (hp:¬ p):x = y:=by unfold gho at h;rw [if_neg hp,if_neg hp] at h;exact Option.some.inj h
theorem gho_eq {α:Type} {p:Prop} [Decidable p] {x y:α} (h:x = y):gho p x = gho p y:=by rw [h]
theorem gho_to {α:Type} {p q:Prop} [Decidable p] [Decidable q] {x y:α} (h:gho p x = gho p y) (hpq:p → q):gho q x = gho q y:=by
  by_cases hq:q
  · unfold gho;rw [if_pos hq,if_pos hq]
  · exact gho_eq (gho_no h fun hp=>hq (hpq hp))
structure Stp (m:Nat) (σ τ:GW):Prop where
  os:τ.w.os = σ.w.os
  tape:() = ()
  output:gho (m = 999) τ.w.output = gho (m = 999) σ.w.output
  dr:Dr σ.w.drawn τ.w.drawn
  size:σ.w.heap.size ≤ τ.w.heap.size
  blk:∀ b,b < σ.w.heap.size → (m = 0 ∨ σ.st b ≠ m) → τ.w.heap[b]? = σ.w.heap[b]?
  st:∀ b,b < σ.w.heap.size → (m = 0 ∨ σ.st b ≠ m) → τ.st b = σ.st b
theorem Stp.refl (m:Nat) (σ:GW):Stp m σ σ:=⟨rfl,rfl,rfl,Dr.refl _,Nat.le_refl _,fun _ _ _=>rfl,fun _ _ _=>rfl⟩
theorem Stp.trans {m:Nat} {σ τ ρ:GW} (h:Stp m σ τ) (k:Stp m τ ρ):Stp m σ ρ :=
  ⟨k.os.trans h.os,k.tape.trans h.tape,k.output.trans h.output,h.dr.trans k.dr,Nat.le_trans h.size k.size,
   fun b hb hm=>(k.blk b (Nat.lt_of_lt_of_le hb h.size) (by rw [h.st b hb hm];exact hm)).trans (h.blk b hb hm),
   fun b hb hm=>(k.st b (Nat.lt_of_lt_of_le hb h.size) (by rw [h.st b hb hm];exact hm)).trans (h.st b hb hm)⟩
theorem Stp.of0 {m:Nat} {σ τ:GW} (h:Stp 0 σ τ):Stp m σ τ :=
  ⟨h.os,h.tape,gho_to h.output (fun e=>absurd e (by decide)),h.dr,h.size,fun b hb _=>h.blk b hb (.inl rfl),fun b hb _=>h.st b hb (.inl rfl)⟩
theorem Stp.le {m:Nat} {σ τ:GW} (h:Stp m σ τ) (hm:m ≠ 1):σ.Le τ :=
  ⟨fun b hb=>(h.st b (σ.lt b (by omega)) (.inr (by omega))).trans hb,fun b hb=>h.blk b (σ.lt b (by omega)) (.inr (by omega))⟩
theorem Stp.le0 {σ τ:GW} (h:Stp 0 σ τ):σ.Le τ:=h.le (by decide)
structure From (σ τ:GW):Prop where
  os:τ.w.os = σ.w.os
  tape:() = ()
  output:τ.w.output = σ.w.output
  dr:Dr σ.w.drawn τ.w.drawn
  size:σ.w.heap.size ≤ τ.w.heap.size
  blk:∀ b,b < σ.w.heap.size → τ.w.heap[b]? = σ.w.heap[b]?
  st:∀ b,b < σ.w.heap.size → τ.st b = σ.st b∧τ.st b ≤ 1
theorem From.step {m:Nat} {σ τ ρ:GW} (h:From σ τ) (k:Stp m τ ρ) (hm:m ≠ 1) (h9:m ≠ 999:=by decide):From σ ρ :=
  have hx:∀ b,b < σ.w.heap.size → m = 0 ∨ τ.st b ≠ m:=fun b hb=>by have:=(h.st b hb).2;omega
  ⟨k.os.trans h.os,k.tape.trans h.tape,(gho_no k.output h9).trans h.output,h.dr.trans k.dr,Nat.le_trans h.size k.size,
   fun b hb=>(k.blk b (Nat.lt_of_lt_of_le hb h.size) (hx b hb)).trans (h.blk b hb),
   fun b hb=>by
    have e:=k.st b (Nat.lt_of_lt_of_le hb h.size) (hx b hb)
    rw [e];exact h.st b hb⟩
theorem From.step0 {σ τ ρ:GW} (h:From σ τ) (k:Stp 0 τ ρ):From σ ρ:=h.step k (by decide)
structure Pr where
  has:GW → Value → Prop
  up:∀ {σ τ:GW} {v:Value},Stp 0 σ τ → has σ v → has τ v
structure Ty where
  has:GW → Value → Prop
  up:∀ {σ τ:GW} {v:Value},σ.Le τ → has σ v → has τ v
abbrev Ty.pr (T:Ty):Pr:=⟨T.has,fun h=>T.up h.le0⟩
def Pr.any:Pr:=⟨fun _ _=>True,fun _ h=>h⟩
def Ty.val (v:Value):Ty:=⟨fun _ u=>u = v,fun _ h=>h⟩
abbrev Ty.int (n:Int):Ty:=.val (.int .i64 n)
abbrev Ty.nat (n:Nat):Ty:=.int (n:Int)
abbrev Ty.bool (b:Bool):Ty:=.val (.bool b)
def Ty.grd (p:Prop) (T:Ty):Ty:=⟨fun σ u=>(p → T.has σ u)∧(¬ p → u = undef),fun h k=>⟨fun hp=>T.up h (k.1 hp),k.2⟩⟩
def Ty.tup2 (T U:Ty):Ty:=⟨fun σ u=>∃ x y,u = .tuple #[x,y]∧T.has σ x∧U.has σ y,fun h ⟨x,y,e,a,b⟩=>⟨x,y,e,T.up h a,U.up h b⟩⟩
def Ty.tup3 (T U V:Ty):Ty:=⟨fun σ u=>∃ x y z,u = .tuple #[x,y,z]∧T.has σ x∧U.has σ y∧V.has σ z,fun h ⟨x,y,z,e,a,b,c⟩=>⟨x,y,z,e,T.up h a,U.up h b,V.up h c⟩⟩
def Cells (σ:GW) (b o:Nat) (ts:List Ty):Prop :=
  ∀ j T,ts[j]? = some T → ∃ u,σ.w.cell? ⟨b,o + j,none⟩ = some u∧T.has σ u
theorem Cells.up {σ τ:GW} {b o:Nat} {ts:List Ty} (h:σ.Le τ) (hb:ts = [] ∨ σ.st b = 1) (hc:Cells σ b o ts):Cells τ b o ts:=by
  intro j T hj
  obtain ⟨u,hu,hT⟩:=hc j T hj
  rcases hb with rfl | hb
  · simp at hj
  · exact ⟨u,by rw [World.cell?_of_block (w:=σ.w) (h.blk b hb)];exact hu,T.up h hT⟩
def Ty.sl (c n:Nat) (ts:List Ty):Ty where
  has σ v:=∃ a cap b o,v = .slice a n cap∧(n ≤ cap∧cap ≤ 9223372036854775807)∧ts.length = n * c∧(ts = [] ∨ (a = some ⟨b,o,none⟩∧σ.st b = 1))∧Cells σ b o ts
  up h:=by
    rintro ⟨a,cap,b,o,e,hn,hl,hs,hc⟩
    refine ⟨a,cap,b,o,e,hn,hl,hs.imp id (fun x=>⟨x.1,h.st b x.2⟩),hc.up h (hs.imp id (fun x=>x.2))⟩
def Ty.ref (ts:List Ty):Ty where
  has σ v:=∃ b o,v = .pointer (some ⟨b,o,none⟩)∧σ.st b = 1∧Cells σ b o ts
  up h:=by
    rintro ⟨b,o,e,hs,hc⟩
    exact ⟨b,o,e,h.st b hs,hc.up h (.inr hs)⟩
abbrev Ty.lst {α:Type} (f:α → Ty) (xs:List α):Ty:=.sl 1 xs.length (xs.map f)
abbrev Ty.ints (xs:List Int):Ty:=.lst .int xs
abbrev Ty.rows (xss:List (List Int)):Ty:=.lst .ints xss
structure Ok (N:Nat) (D:List Deferred) (a:Act):Prop where
  size:a.tmps.size = N
  defers:a.defers = D
abbrev At (T:Ty) (σ:GW) (a:Act) (x:Operand):Prop:=T.has σ (a.eval x)
theorem Ok.put {N:Nat} {D:List Deferred} {a:Act} (h:Ok N D a) (d:Option Tmp) (v:Value):Ok N D (a.put d v):=by
  cases d with
  | none=>exact h
  | some d=>exact ⟨by simp [Act.put,h.size],h.defers⟩
theorem KB {N:Nat} {D:List Deferred} {a:Act} (h:Ok N D a) {d:Nat} (hd:d < N) (v:Value):(a.put (some d) v).eval (.tmp d) = v:=by
  simp [Act.eval,Act.put,h.size,hd]
theorem KF {a:Act} {d:Option Nat} {t:Nat} (hd:d ≠ some t) (v:Value):(a.put d v).eval (.tmp t) = a.eval (.tmp t):=by
  cases d with
  | none=>rfl
  | some d=>exact Act.eval_put (fun e he=>by cases he;intro h;cases h;exact hd rfl)
variable {P:Program} {J:JdOf P}
def Yld (J:JdOf P) (o:Oper) (a:Act) (σ:GW) (R:Pr):Prop :=
  ∀ (K:Act → World → Prop) (Q:Exit → Act → World → Prop),(∀ v τ,Stp 0 σ τ → R.has τ v → K (a.put o.dst v) τ.w) → Oper.xwp J o a σ.w K
theorem Yld.of_run {o:Oper} {a:Act} {σ:GW} {R:Pr} {v:Value} (hr:(execOp a.eval o).run P σ.w = .ok (.value v) σ.w) (h:R.has σ v) (hv:isVal o.op = false:=by rfl) (hc:Qo a.eval o.op = true:=by first | rfl | (simp [Qo,QN,sly, *];done)):Yld J o a σ R:=by
  intro K Q hk
  refine JV hv ?_
  rw [hr]
  exact ⟨hc,hk v σ (Stp.refl _ _) h⟩
def Kf (ops:Array Oper) (j:Nat):Option Tmp:=(ops.toList[j]?).bind (·.dst)
def rd (ops:Array Oper) (Φ:Nat → Pr) (j:Nat) (a:Act) (σ:GW):Prop:=match Kf ops j with | some d=>(Φ j).has σ (a.eval (.tmp d)) | none=>True
def free (ops:Array Oper) (i t:Nat):Bool:=ops.toList.all fun o=>o.dst != some t || o.after.toList.any fun e=>Region.binds .any e && e.on == i
def Deps (ops:Array Oper) (Φ:Nat → Pr) (a:Act) (σ:GW):List Edge → Prop → Prop
  | [],R=>R
  | e :: es,R=>(Region.binds .any e = true → rd ops Φ e.on a σ) → Deps ops Φ a σ es R
def YS (J:JdOf P) (o:Oper) (a:Act) (σ:GW) (R:Pr):Prop:=Yld J o a σ R ∨ ∃ u,J.sp o a σ.w.output u∧∀ τ,R.has τ u
def Run (J:JdOf P) (ops:Array Oper) (o:Oper) (a:Act) (σ:GW) (R:Pr):Prop :=
  (Region.wanted o (yielded ops a.tmps) = true → YS J o a σ R)∧(Region.wanted o (yielded ops a.tmps) = false → R.has σ undef)
def Obl (J:JdOf P) (N:Nat) (D:List Deferred) (ops:Array Oper) (Φ:Nat → Pr) (a0:Act) (σ0:GW) (i:Nat) (o:Oper):Prop :=
  ∀ a σ,Stp 0 σ0 σ → Ok N D a → (∀ t,free ops i t = true → a.eval (.tmp t) = a0.eval (.tmp t)) → Deps ops Φ a σ o.after.toList (Run J ops o a σ (Φ i))
def Obls (J:JdOf P) (N:Nat) (D:List Deferred) (ops:Array Oper) (Φ:Nat → Pr) (a0:Act) (σ0:GW):Nat → List Oper → Prop
  | _,[]=>True
  | i,o :: l=>Obl J N D ops Φ a0 σ0 i o∧Obls J N D ops Φ a0 σ0 (i + 1) l
def formB (N:Nat) (ops:Array Oper):Bool :=
  (ops.toList.zipIdx.all fun (o,i)=>o.after.toList.all fun e=>!Region.binds .any e || e.on < i) &&
  decide (ops.toList.filterMap (·.dst)).Nodup && (ops.toList.filterMap (·.dst)).all (· < N)
theorem Obls.get {N:Nat} {D:List Deferred} {ops:Array Oper} {Φ:Nat → Pr} {a0:Act} {σ0:GW}:∀ (l:List Oper) (k:Nat),Obls J N D ops Φ a0 σ0 k l → ∀ j o,l[j]? = some o → Obl J N D ops Φ a0 σ0 (k + j) o
  | [],_,_,j,o,h=>by simp at h
  | x :: l,k,h,0,o,hj=>by simp at hj;subst hj;exact h.1
  | x :: l,k,h,j + 1,o,hj=>by
    have:=Obls.get l (k + 1) h.2 j o (by simpa using hj)
    rwa [show k + 1 + j = k + (j + 1) by omega] at this
structure Form (N:Nat) (ops:Array Oper):Prop where
  back:∀ (i:Nat) o,ops[i]? = some o → ∀ e ∈ o.after,Region.binds .any e = true → e.on < i
  uniq:∀ i j d,Kf ops i = some d → Kf ops j = some d → i = j
  lt:∀ i d,Kf ops i = some d → d < N
theorem nodup_filterMap_inj {α:Type} (f:α → Option Nat):∀ (l:List α),(l.filterMap f).Nodup → ∀ (i j:Nat) (d:Nat),(l[i]?).bind f = some d → (l[j]?).bind f = some d → i = j
  | [],_,i,j,d,h,_=>by simp at h
  | x :: l,hn,i,j,d,hi,hj=>by
    have mem:∀ k,(l[k]?).bind f = some d → d ∈ l.filterMap f:=fun k hk=>by
      obtain ⟨y,hy,hf⟩:=Option.bind_eq_some_iff.1 hk
      exact List.mem_filterMap.2 ⟨y,List.mem_of_getElem? hy,hf⟩
    have hn':(l.filterMap f).Nodup:=by
      cases hx:f x <;> simp [hx] at hn
      · exact hn
      · exact hn.2
    match i,j with
    | 0,0=>rfl
    | 0,j + 1 =>
      simp at hi hj
      rw [List.filterMap_cons,hi] at hn
      exact absurd (mem j (by simpa using hj)) (List.nodup_cons.1 hn).1
    | i + 1,0 =>
      simp at hi hj
      rw [List.filterMap_cons,hj] at hn
      exact absurd (mem i (by simpa using hi)) (List.nodup_cons.1 hn).1
    | i + 1,j + 1 =>
      simp at hi hj
      rw [nodup_filterMap_inj f l hn' i j d (by simpa using hi) (by simpa using hj)]
theorem Form.of_B {N:Nat} {ops:Array Oper} (h:formB N ops = true):Form N ops:=by
  simp only [formB,Bool.and_eq_true,decide_eq_true_eq] at h
  obtain ⟨⟨h1,h2⟩,h3⟩:=h
  have hd:∀ i,Kf ops i = (ops.toList[i]?).bind (·.dst):=fun i=>rfl
  refine ⟨fun i o ho e he hb=>?_,fun i j d hi hj=>nodup_filterMap_inj _ _ h2 i j d (by rw [← hd];exact hi) (by rw [← hd];exact hj),fun i d hi=>?_⟩
  · have hm:(o,i) ∈ ops.toList.zipIdx:=by
      rw [List.mk_mem_zipIdx_iff_getElem?];simpa using ho
    have:=(List.all_eq_true.1 ((List.all_eq_true.1 h1) _ hm)) e (by simpa using he)
    simpa [hb] using this
  · rw [hd] at hi
    obtain ⟨y,hy,hf⟩:=Option.bind_eq_some_iff.1 hi
    have:=(List.all_eq_true.1 h3) d (List.mem_filterMap.2 ⟨y,List.mem_of_getElem? hy,hf⟩)
    simpa using this
structure Mid (N:Nat) (D:List Deferred) (ops:Array Oper) (Φ:Nat → Pr) (a0:Act) (σ0:GW) (L:Nat → Bool) (a:Act) (σ:GW):Prop where
  stp:Stp 0 σ0 σ
  ok:Ok N D a
  done:∀ j,L j = true → rd ops Φ j a σ
  same:∀ t,(∀ j,Kf ops j = some t → L j = false) → a.eval (.tmp t) = a0.eval (.tmp t)
theorem Deps.elim {ops:Array Oper} {Φ:Nat → Pr} {a:Act} {σ:GW} {R:Prop}:∀ (l:List Edge),(∀ e ∈ l,Region.binds .any e = true → rd ops Φ e.on a σ) → Deps ops Φ a σ l R → R
  | [],_,h=>h
  | e :: es,hd,h=>Deps.elim es (fun x hx=>hd x (List.mem_cons_of_mem _ hx)) (h (hd e (by simp)))
def GW.ext (σ:GW) (v:World) (h:Ext σ.w v):GW:=⟨v,fun b=>if b < σ.w.heap.size then σ.st b else 0,fun b hb=>by
  split at hb
  · exact Nat.lt_of_lt_of_le (by assumption) h.size
  · exact absurd rfl hb⟩
theorem Stp.ext (σ:GW) {v:World} (h:Ext σ.w v):Stp 0 σ (σ.ext v h):=⟨h.os,rfl,gho_eq h.output,.inr trivial,h.size,fun b hb _=>h.blk b hb,fun b hb _=>by simp [GW.ext,hb]⟩
theorem Stp.toExt {m:Nat} {σ τ:GW} (h:Stp 0 σ τ):Ext σ.w τ.w:=by
  have _:=m
  exact ⟨h.os,gho_no h.output (by decide),h.size,fun b hb=>h.blk b hb (.inl rfl)⟩
theorem Mid.up {N:Nat} {D:List Deferred} {ops:Array Oper} {Φ:Nat → Pr} {a0:Act} {σ0:GW} {L:Nat → Bool} {a:Act} {σ τ:GW} (h:Mid N D ops Φ a0 σ0 L a σ) (hs:Stp 0 σ τ):Mid N D ops Φ a0 σ0 L a τ :=
  ⟨h.stp.trans hs,h.ok,fun j hj=>by
    have h0:=h.done j hj
    unfold rd at h0 ⊢
    split
    · rename_i d hd;rw [hd] at h0;exact (Φ j).up hs h0
    · trivial,h.same⟩
theorem Mid.next {N:Nat} {D:List Deferred} {ops:Array Oper} {Φ:Nat → Pr} {a0:Act} {σ0:GW} {L:Nat → Bool} {a:Act} {σ:GW} {i:Nat} {o:Oper} (hF:Form N ops) (hm:Mid N D ops Φ a0 σ0 L a σ) (ho:ops[i]? = some o) {v:Value} {τ:GW} (hs:Stp 0 σ τ) (hv:(Φ i).has τ v) :
    Mid N D ops Φ a0 σ0 (fun j=>L j || j == i) (a.put o.dst v) τ:=by
  have hdi:Kf ops i = o.dst:=by simp [Kf,ho]
  refine ⟨hm.stp.trans hs,hm.ok.put _ _,fun j hLj=>?_,fun t ht=>?_⟩
  · by_cases hji:j = i
    · subst hji
      unfold rd
      cases hd:Kf ops j with
      | none=>trivial
      | some d =>
        have:o.dst = some d:=by rw [← hdi];exact hd
        simp only [this]
        rw [KB hm.ok (hF.lt j d hd)]
        exact hv
    · have h0:=hm.done j (by simpa [hji] using hLj)
      unfold rd at h0 ⊢
      cases hd:Kf ops j with
      | none=>trivial
      | some d =>
        rw [hd] at h0
        simp only at h0 ⊢
        rw [KF (fun he=>hji (hF.uniq j i d hd (by rw [hdi];exact he)))]
        exact (Φ j).up hs h0
  · have h1:o.dst ≠ some t:=fun he=>by
      have:=ht i (by rw [hdi];exact he)
      simp at this
    rw [KF h1]
    exact hm.same t fun j hj=>by
      have:=ht j hj
      simp at this
      exact this.1
theorem Mid.op {N:Nat} {D:List Deferred} {ops:Array Oper} {Φ:Nat → Pr} {a0:Act} {σ0:GW} {L:Nat → Bool} {a:Act} {σ:GW} {i:Nat} {o:Oper} {b:Frame} {k:List Item} {cs:List Frame} {rest:List Nat}
    (hF:Form N ops) (hm:Mid N D ops Φ a0 σ0 L a σ) (ho:ops[i]? = some o) (hL:L i = false) (hob:Obl J N D ops Φ a0 σ0 i o) (hcl:clB P J.al o = true) (hk:b.kind ≠ .early)
    (hall:∀ e ∈ o.after,Region.binds .any e = true → L e.on = true) (hclosed:∀ (j:Nat) oj,ops[j]? = some oj → L j = true → ∀ e ∈ oj.after,Region.binds .any e = true → L e.on = true)
    (hK:∀ a' σ',Mid N D ops Φ a0 σ0 (fun j=>L j || j == i) a' σ' → J.J (Go.Conc.G (b.at a' (.inRegion ops rest :: k)) cs) σ'.w):J.J (Go.Conc.G (b.at a (.inRegion ops (i :: rest) :: k)) cs) σ.w:=by
  have hsame:∀ t,free ops i t = true → a.eval (.tmp t) = a0.eval (.tmp t):=by
    intro t ht
    refine hm.same t fun j hj=>?_
    cases hLj:L j with
    | false=>rfl
    | true =>
      exfalso
      unfold Kf at hj
      obtain ⟨oj,hoj,hd⟩:=Option.bind_eq_some_iff.1 hj
      unfold free at ht
      have:=(List.all_eq_true.1 ht) oj (List.mem_of_getElem? hoj)
      simp only [hd,bne_self_eq_false,Bool.false_or,List.any_eq_true,Bool.and_eq_true,beq_iff_eq] at this
      obtain ⟨e,he,hb,hon⟩:=this
      have:=hclosed j oj (by simpa using hoj) hLj e (by simpa using he) hb
      rw [hon,hL] at this
      cases this
  have hrun:∀ τ,Stp 0 σ τ → Run J ops o a τ (Φ i):=fun τ hs =>
    Deps.elim o.after.toList (fun e he hb=>(hm.up hs).done e.on (hall e (by simpa using he) hb)) (hob a τ (hm.stp.trans hs) hm.ok hsame)
  by_cases hw:Region.wanted o (yielded ops a.tmps) = true
  · by_cases hsp:∃ u,J.sp o a σ.w.output u∧∀ τ,(Φ i).has τ u
    · obtain ⟨u,h1,h2⟩:=hsp
      exact J.spl ho hw hk h1 (hK _ σ (hm.next hF ho (Stp.refl _ _) (h2 σ)))
    · refine xop (K:=fun a' v'=>∃ σ',σ'.w = v'∧Mid N D ops Φ a0 σ0 (fun j=>L j || j == i) a' σ') ho hw hk hcl (fun v' hv=>?_) (fun a' v' ⟨σ',e,h⟩=>e ▸ hK a' σ' h)
      rcases (hrun _ (Stp.ext σ hv)).1 hw with h | h
      · exact h _ (fun _ _ _=>True) fun u τ hs hu=>⟨τ,rfl,hm.next hF ho ((Stp.ext σ hv).trans hs) hu⟩
      · rw [show (σ.ext v' hv).w.output = σ.w.output from hv.output] at h;exact absurd h hsp
  · have hw':Region.wanted o (yielded ops a.tmps) = false:=by simpa using hw
    exact J.ctl (fun w=>Go.Conc.stepG_unwanted ho hw') (hK _ σ (hm.next hF ho (Stp.refl _ _) ((hrun σ (Stp.refl _ _)).2 hw')))
theorem Mid.start {N:Nat} {D:List Deferred} {ops:Array Oper} {Φ:Nat → Pr} {a:Act} {σ:GW} (ok:Ok N D a):Mid N D ops Φ a σ (fun _=>false) a σ :=
  ⟨Stp.refl _ _,ok,fun _ h=>(by cases h),fun _ _=>rfl⟩
def GW.drew (σ:GW):GW:=⟨σ.w.drew,σ.st,σ.lt⟩
theorem Stp.drew (σ:GW):Stp 0 σ σ.drew:=⟨rfl,rfl,rfl,.inl (Nat.le_succ _),Nat.le_refl _,fun _ _ _=>rfl,fun _ _ _=>rfl⟩
structure Done (N:Nat) (D:List Deferred) (ops:Array Oper) (Φ:Nat → Pr) (a0:Act) (σ0:GW) (a:Act) (σ:GW):Prop where
  stp:Stp 0 σ0 σ
  ok:Ok N D a
  done:∀ j,rd ops Φ j a σ
  same:∀ t,(ops.toList.all fun o=>o.dst != some t) = true → a.eval (.tmp t) = a0.eval (.tmp t)
def left (n:Nat) (l:Array Bool):Nat:=(List.range n).countP fun i=>!l.getD i true
theorem countP_upd (p q:Nat → Bool) (i:Nat):∀ (l:List Nat),l.Nodup → i ∈ l → p i = true → q i = false → (∀ j,j ≠ i → q j = p j) → l.countP q + 1 = l.countP p
  | [],_,h,_,_,_=>by simp at h
  | x :: l,hn,hi,hp,hq,hs=>by
    rw [List.nodup_cons] at hn
    by_cases hx:x = i
    · subst hx
      have:l.countP q = l.countP p:=List.countP_congr fun j hj=>by rw [hs j (fun e=>hn.1 (e ▸ hj))]
      simp [hp,hq,this]
    · have:=countP_upd p q i l hn.2 (by simpa [Ne.symm hx] using hi) hp hq hs
      simp only [List.countP_cons,hs x hx]
      omega
theorem left_set {n i:Nat} {l:Array Bool} (hs:l.size = n) (hi:i < n) (h:l.getD i true = false):left n (l.setIfInBounds i true) + 1 = left n l:=by
  refine countP_upd _ _ i _ List.nodup_range (List.mem_range.2 hi) (by rw [h];rfl) (by simp [hs,hi]) fun j hj=>?_
  rw [getD_set_ne true (Ne.symm hj)]
def edges (o:Oper):List Nat:=(o.after.toList.filter (Region.binds .any)).map (·.on)
def ancs:List Oper → List (List Nat) → List (List Nat)
  | [],acc=>acc
  | o :: l,acc=>ancs l (acc ++ [((edges o).flatMap fun e=>e :: acc.getD e []).eraseDups])
def Xc (m:Nat) (ops:List Oper):Bool:=let t:=ancs ops [];(List.range ops.length).all fun i=>i < m || (List.range i).all fun j=>(t.getD i []).contains j
theorem ancs_spec {all:List Oper} {L:Nat → Bool} (hcl:∀ (j:Nat) o,all[j]? = some o → L j = true → ∀ e ∈ edges o,L e = true) :
    ∀ (l:List Oper) (acc:List (List Nat)),(∀ j,l[j]? = all[acc.length + j]?) → acc.length + l.length = all.length →
    (∀ (i:Nat) o,all[i]? = some o → i < acc.length → (∀ e ∈ edges o,L e = true) → ∀ j ∈ acc.getD i [],L j = true) →
    ∀ (i:Nat) o,all[i]? = some o → (∀ e ∈ edges o,L e = true) → ∀ j ∈ (ancs l acc).getD i [],L j = true
  | [],acc,_,hlen,hacc,i,o,ho,he,j,hj=>hacc i o ho (by have:=(List.getElem?_eq_some_iff.1 ho).1;simp at hlen;omega) he j hj
  | x :: l, acc,hl,hlen,hacc,i,o,ho,he,j,hj=>by
    refine ancs_spec hcl l _ (fun j=>?_) (by simp at hlen ⊢;omega) (fun i o ho hi he j hj=>?_) i o ho he j hj
    · have:=hl (j + 1)
      simp only [List.getElem?_cons_succ] at this
      rw [this];congr 1;simp;omega
    · by_cases hlt:i < acc.length
      · rw [List.getD_eq_getElem?_getD,List.getElem?_append_left hlt,← List.getD_eq_getElem?_getD] at hj
        exact hacc i o ho hlt he j hj
      · have hie:i = acc.length:=by simp at hi;omega
        subst hie
        have hx:x = o:=by
          have:=hl 0
          simp at this;rw [ho] at this;exact Option.some.inj this
        subst hx
        simp only [List.getD_eq_getElem?_getD,List.getElem?_append_right (Nat.le_refl _),Nat.sub_self,List.getElem?_cons_zero,Option.getD_some,List.mem_eraseDups,List.mem_flatMap,List.mem_cons] at hj
        obtain ⟨e,hem,rfl | hj⟩:=hj
        · exact he _ hem
        · by_cases hel:e < acc.length
          · obtain ⟨oe,hoe⟩:∃ oe,all[e]? = some oe:=⟨all[e]'(by omega),by simp⟩
            exact hacc e oe hoe hel (hcl e oe hoe (he e hem)) j (by rw [List.getD_eq_getElem?_getD];exact hj)
          · rw [List.getElem?_eq_none (by omega)] at hj
            simp at hj
theorem mem_edges {o:Oper} {e:Nat}:e ∈ edges o ↔ ∃ x ∈ o.after,Region.binds .any x = true∧x.on = e:=by
  simp [edges,List.mem_map,List.mem_filter,and_assoc]
theorem forced_spec {m:Nat} {ops:Array Oper} {L:Nat → Bool} (hB:Xc m ops.toList = true) (hcl:∀ (j:Nat) oj,ops[j]? = some oj → L j = true → ∀ e ∈ oj.after,Region.binds .any e = true → L e.on = true)
    {i:Nat} {o:Oper} (ho:ops[i]? = some o) (hi:m ≤ i) (hall:∀ e ∈ o.after,Region.binds .any e = true → L e.on = true):∀ j,j < i → L j = true:=by
  intro j hj
  have ho':ops.toList[i]? = some o:=by simpa using ho
  have h1:=(List.all_eq_true.1 hB) i (List.mem_range.2 (List.getElem?_eq_some_iff.1 ho').1)
  have h2:(List.range i).all (fun j=>((ancs ops.toList []).getD i []).contains j) = true:=by
    rw [Bool.or_eq_true] at h1
    refine h1.resolve_left ?_
    simp;omega
  have h3:=(List.all_eq_true.1 h2) j (List.mem_range.2 hj)
  refine ancs_spec (all:=ops.toList) (L:=L) (fun j oj hj hL e he=>?_) ops.toList [] (by simp) (by simp) (fun i o _ h=>by simp at h) i o ho' (fun e he=>?_) j (by simpa using h3)
  · obtain ⟨x,hx,hb,rfl⟩:=mem_edges.1 he
    exact hcl j oj (by simpa using hj) hL x hx hb
  · obtain ⟨x,hx,hb,rfl⟩:=mem_edges.1 he
    exact hall x hx hb
structure Half (m N:Nat) (D:List Deferred) (ops:Array Oper) (Φ:Nat → Pr) (a0:Act) (σ0:GW) (a:Act) (σ:GW):Prop where
  stp:Stp 0 σ0 σ
  ok:Ok N D a
  done:∀ j,j < m → rd ops Φ j a σ
  same:∀ t,((ops.toList.take m).all fun o=>o.dst != some t) = true → a.eval (.tmp t) = a0.eval (.tmp t)
theorem Mid.half {m N:Nat} {D:List Deferred} {ops:Array Oper} {Φ:Nat → Pr} {a0:Act} {σ0:GW} {L:Nat → Bool} {a:Act} {σ:GW} (h:Mid N D ops Φ a0 σ0 L a σ) (hL:∀ j,j < m → L j = true) (hL':∀ j,m ≤ j → L j = false):Half m N D ops Φ a0 σ0 a σ:=by
  refine ⟨h.stp,h.ok,fun j hj=>h.done j (hL j hj),fun t ht=>h.same t fun j hj=>?_⟩
  by_cases hjm:j < m
  · obtain ⟨o,ho,hd⟩:=Option.bind_eq_some_iff.1 hj
    have:=(List.all_eq_true.1 ht) o (List.mem_of_getElem? (i:=j) (by rw [List.getElem?_take,if_pos hjm];exact ho))
    simp [hd] at this
  · exact hL' j (by omega)
theorem Half.done0 {N:Nat} {D:List Deferred} {ops:Array Oper} {Φ:Nat → Pr} {a0:Act} {σ0:GW} {a:Act} {σ:GW} (h:Half ops.size N D ops Φ a0 σ0 a σ):Done N D ops Φ a0 σ0 a σ:=by
  refine ⟨h.stp,h.ok,fun j=>?_,fun t ht=>h.same t ?_⟩
  · by_cases hj:j < ops.size
    · exact h.done j hj
    · unfold rd Kf;rw [List.getElem?_eq_none (by simpa using hj)];trivial
  · rw [List.take_of_length_le (by simp)];exact ht
theorem tail_lin {m N:Nat} {ops:Array Oper} (hF:Form N ops) (hB:Xc m ops.toList = true):∀ (n k f t:Nat) (L:Array Bool),k + n = ops.size → m ≤ k → L.size = ops.size → n ≤ f →
    (∀ j,j < ops.size → L.getD j true = decide (j < k)) → Region.linearise.go .any ops f t L [] = List.range' k n
  | 0,k,f,t,L,hk,_,hs,_,hL=>by
    have hr:Region.ready .any ops L = []:=List.eq_nil_iff_forall_not_mem.2 fun i hi=>by
      obtain ⟨h0,o,ho,_⟩:=mem_ready.1 hi
      have hi':i < ops.size:=(Array.getElem?_eq_some_iff.1 ho).1
      rw [hL i hi'] at h0;simp at h0;omega
    cases f with
    | zero=>simp [Region.linearise.go]
    | succ f =>
      simp only [Region.linearise.go]
      change (match (Region.ready .any ops L)[t % (Region.ready .any ops L).length]? with
        | some i=>Region.linearise.go .any ops f (t / (Region.ready .any ops L).length) (L.setIfInBounds i true) [i]
        | none=>[].reverse) = _
      rw [hr];rfl
  | n + 1,k,f + 1,t,L,hk,hm,hs,hf,hL=>by
    have hkk:k < ops.size:=by omega
    obtain ⟨o,ho⟩:∃ o,ops[k]? = some o:=⟨ops[k],by simp [hkk]⟩
    have hup:∀ j,j < k → L.getD j false = true:=fun j hj=>by
      have:=hL j (by omega)
      simp [hj,show j < L.size by omega] at this ⊢;exact this
    have hrk:k ∈ Region.ready .any ops L:=mem_ready.2 ⟨by rw [hL k hkk];simp,o,ho,fun e he hb=>hup _ (hF.back k o ho e he hb)⟩
    have only:∀ i ∈ Region.ready .any ops L,i = k:=fun i hi=>by
      obtain ⟨h0,oi,hoi,hall⟩:=mem_ready.1 hi
      have hi':i < ops.size:=(Array.getElem?_eq_some_iff.1 hoi).1
      have h1:¬ i < k:=fun hlt=>by rw [hL i hi'] at h0;simp [hlt] at h0
      by_cases h2:k < i
      · exfalso
        have:=forced_spec (L:=fun j=>decide (j < k)) hB (fun j oj hj hlt e he hb=>by have:=hF.back j oj hj e he hb;simp at hlt ⊢;omega) hoi (by omega) (fun e he hb=>by
          have h3:=hall e he hb
          have h4:e.on < ops.size:=by have:=hF.back i oi hoi e he hb;omega
          have h5:=hL e.on h4
          simp [show e.on < L.size by omega] at h3 h5 ⊢
          rw [h3] at h5;simpa using h5.symm) k h2
        simp at this
      · omega
    have hlen:0 < (Region.ready .any ops L).length:=List.length_pos_of_mem hrk
    simp only [Region.linearise.go]
    change (match (Region.ready .any ops L)[t % (Region.ready .any ops L).length]? with
      | some i=>Region.linearise.go .any ops f (t / (Region.ready .any ops L).length) (L.setIfInBounds i true) [i]
      | none=>[].reverse) = _
    cases hi:(Region.ready .any ops L)[t % (Region.ready .any ops L).length]? with
    | none =>
      have:=Nat.mod_lt t hlen
      rw [List.getElem?_eq_none_iff] at hi
      omega
    | some i =>
      obtain rfl:=only i (List.mem_of_getElem? hi)
      simp only []
      rw [linearise_go_acc,List.reverse_singleton,List.singleton_append,List.range'_succ]
      congr 1
      refine tail_lin hF hB n (i + 1) f _ _ (by omega) (by omega) (by simpa using hs) (by omega) fun j hj=>?_
      by_cases hji:j = i
      · subst hji;simp [hs,hj]
      · rw [getD_set_ne true (Ne.symm hji),hL j hj,Bool.eq_iff_iff];simp;omega
theorem all_take {α:Type} {p:α → Bool} {l:List α} (h:l.all p = true) (m:Nat):(l.take m).all p = true:=List.all_eq_true.2 fun x hx=>List.all_eq_true.1 h x (List.mem_of_mem_take hx)
theorem all_drop {α:Type} {p:α → Bool} {l:List α} (h:l.all p = true) (m:Nat):(l.drop m).all p = true:=List.all_eq_true.2 fun x hx=>List.all_eq_true.1 h x (List.mem_of_mem_drop hx)
section
variable {b:Frame} {kk:List Item} {cs:List Frame}
theorem half_any {m N:Nat} {D:List Deferred} {ops:Array Oper} {Φ:Nat → Pr} {a0:Act} {σ0:GW} (hF:Form N ops) (hm:m ≤ ops.size) (hB:Xc m ops.toList = true) (hcl:(ops.toList.take m).all (clB P J.al) = true) (hk:b.kind ≠ .early) (hob:Obls J N D ops Φ a0 σ0 0 (ops.toList.take m))
    (hQ:∀ a σ,Half m N D ops Φ a0 σ0 a σ → J.J (Go.Conc.G (b.at a (.inRegion ops (List.range' m (ops.size - m)) :: kk)) cs) σ.w):∀ (f t:Nat) (L:Array Bool) (a:Act) (σ:GW),L.size = ops.size → left ops.size L ≤ f → (∀ j,j < ops.size → m ≤ j → L.getD j true = false) →
    (∀ (j:Nat) oj,ops[j]? = some oj → L.getD j true = true → ∀ e ∈ oj.after,Region.binds .any e = true → L.getD e.on true = true) → Mid N D ops Φ a0 σ0 (fun j=>decide (j < m) && L.getD j true) a σ → J.J (Go.Conc.G (b.at a (.inRegion ops (Region.linearise.go .any ops f t L []) :: kk)) cs) σ.w:=by
  intro f
  induction f with
  | zero =>
    intro t L a σ hs hf hLm hcl' hmid
    have hnone:∀ j,j < ops.size → L.getD j true = true:=fun j hj=>by
      cases h:L.getD j true with
      | true=>rfl
      | false=>have:=left_set hs hj h;omega
    have hmm:m = ops.size:=by
      rcases Nat.lt_or_ge m ops.size with h | h
      · have:=hnone m h;rw [hLm m h (Nat.le_refl _)] at this;cases this
      · omega
    have:=hQ a σ (hmid.half (fun j hj=>by simp [hj,hnone j (by omega)]) (fun j hj=>by simp;omega))
    simpa [Region.linearise.go,hmm] using this
  | succ f ih =>
    intro t L a σ hs hf hLm hcl' hmid
    by_cases hdone:∀ j,j < m → L.getD j true = true
    · have hL:∀ j,j < ops.size → L.getD j true = decide (j < m):=fun j hj=>by
        by_cases h:j < m
        · rw [hdone j h];simp [h]
        · rw [hLm j hj (by omega)];simp [h]
      rw [tail_lin hF hB (ops.size - m) m (f + 1) t L (by omega) (Nat.le_refl _) hs ?_ hL]
      · exact hQ a σ (hmid.half (fun j hj=>by simp [hj,hdone j hj]) (fun j hj=>by simp;omega))
      · refine Nat.le_trans ?_ hf
        unfold left
        have:(List.range ops.size).countP (fun i=>!L.getD i true) = (List.range ops.size).countP (fun i=>decide (m ≤ i)):=List.countP_congr fun i hi=>by rw [hL i (List.mem_range.1 hi)];simp
        rw [this]
        have hcnt:∀ n,(List.range n).countP (fun i=>decide (m ≤ i)) = n - m:=fun n=>by
          induction n with
          | zero=>simp
          | succ n ihn =>
            rw [List.range_succ,List.countP_append,ihn]
            by_cases h:m ≤ n <;> simp [h] <;> omega
        rw [hcnt]
        exact Nat.le_refl _
    ·
      have hsome:∃ j,j < m∧L.getD j true = false:=by
        refine Classical.byContradiction fun hn=>hdone fun j hj=>?_
        cases h:L.getD j true with
        | true=>rfl
        | false=>exact absurd ⟨j,hj,h⟩ hn
      have up:∀ k,L.getD k false = true → L.getD k true = true:=fun k h=>by
        by_cases hk:k < L.size
        · simp [hk] at h ⊢;exact h
        · simp [hk] at h
      have hlen : 0 < (Region.ready .any ops L).length:=by
        rcases Nat.eq_zero_or_pos (Region.ready .any ops L).length with hr | hr
        · exfalso
          have hr:=List.length_eq_zero_iff.1 hr
          have key:∀ j,j < m → L.getD j true = true:=by
            intro j
            induction j using Nat.strongRecOn with
            | _ j ihj =>
            intro hj
            cases hL:L.getD j true with
            | true=>rfl
            | false =>
              exfalso
              obtain ⟨o,ho⟩:∃ o,ops[j]? = some o:=⟨ops[j]'(by omega),by simp⟩
              have:j ∈ Region.ready .any ops L:=mem_ready.2 ⟨hL,o,ho,fun e he hb=>by
                have hlt:=hF.back j o ho e he hb
                have:=ihj e.on hlt (Nat.lt_trans hlt hj)
                have hsz:e.on < L.size:=by rw [hs];omega
                simp [hsz] at this ⊢;exact this⟩
              rw [hr] at this;cases this
          exact hdone key
        · exact hr
      simp only [Region.linearise.go]
      change J.J (Go.Conc.G (b.at a (.inRegion ops (match (Region.ready .any ops L)[t % (Region.ready .any ops L).length]? with
        | some i=>Region.linearise.go .any ops f (t / (Region.ready .any ops L).length) (L.setIfInBounds i true) [i]
        | none=>[].reverse) :: kk)) cs) σ.w
      cases hri:(Region.ready .any ops L)[t % (Region.ready .any ops L).length]? with
      | none =>
        have:=Nat.mod_lt t hlen
        rw [List.getElem?_eq_none_iff] at hri
        omega
      | some i =>
        have hi:=List.mem_of_getElem? hri
        simp only []
        rw [linearise_go_acc,List.reverse_singleton,List.singleton_append]
        obtain ⟨h0,o,ho,hall⟩:=mem_ready.1 hi
        have hi':i < ops.size:=(Array.getElem?_eq_some_iff.1 ho).1
        have him:i < m:=by
          rcases Nat.lt_or_ge i m with h | h
          · exact h
          · exfalso
            obtain ⟨j,hj,hjL⟩:=hsome
            have:=forced_spec (L:=fun j=>decide (j < ops.size) && L.getD j true) hB (fun j oj hj hLj e he hb=>by
              simp only [Bool.and_eq_true,decide_eq_true_eq] at hLj ⊢
              exact ⟨by have:=hF.back j oj hj e he hb;omega,hcl' j oj hj hLj.2 e he hb⟩) ho h (fun e he hb=>by
              simp only [Bool.and_eq_true,decide_eq_true_eq]
              exact ⟨by have:=hF.back i o ho e he hb;omega,up _ (hall e he hb)⟩) j (by omega)
            simp only [Bool.and_eq_true] at this
            rw [hjL] at this;cases this.2
        have hget:(ops.toList.take m)[i]? = some o:=by rw [List.getElem?_take,if_pos him];simpa using ho
        have hclo:clB P J.al o = true:=(List.all_eq_true.1 hcl) o (List.mem_of_getElem? hget)
        refine Mid.op hF hmid ho (by simp [h0]) (by simpa using Obls.get (ops.toList.take m) 0 hob i o hget) hclo hk (fun e he hb=>?_) (fun j oj hj hLj e he hb=>?_) fun a' σ' hm'=>ih _ _ a' σ' (by simpa using hs) (by have:=left_set hs hi' h0;omega) (fun j hj hmj=>?_) ?_ ?_
        · have:=hF.back i o ho e he hb
          simp only [up _ (hall e he hb),Bool.and_true,decide_eq_true_eq];omega
        · simp only [Bool.and_eq_true,decide_eq_true_eq] at hLj ⊢
          exact ⟨by have:=hF.back j oj hj e he hb;omega,hcl' j oj hj hLj.2 e he hb⟩
        · rw [getD_set_ne true (by omega)];exact hLm j hj hmj
        · intro j oj hj hLj e he hb
          by_cases hji:j = i
          · subst hji
            rw [ho] at hj;cases hj
            have hne:=hF.back j o ho e he hb
            rw [getD_set_ne true (by omega)]
            exact up _ (hall e he hb)
          · rw [getD_set_ne true (Ne.symm hji)] at hLj
            have:=hcl' j oj hj hLj e he hb
            by_cases hei:e.on = i
            · rw [hei,h0] at this;cases this
            · rw [getD_set_ne true (Ne.symm hei)];exact this
        · have:(fun j=>(decide (j < m) && L.getD j true) || j == i) = (fun j=>decide (j < m) && (L.setIfInBounds i true).getD j true):=by
            funext j
            by_cases hji:j = i
            · subst hji;simp [him,hs,hi']
            · rw [getD_set_ne true (Ne.symm hji)];simp [hji]
          rwa [this] at hm'
theorem half_seq {m N:Nat} {D:List Deferred} {ops:Array Oper} {Φ:Nat → Pr} {a0:Act} {σ0:GW} (hF:Form N ops) (hm:m ≤ ops.size) (hcl:(ops.toList.take m).all (clB P J.al) = true) (hkk:b.kind ≠ .early) (hob:Obls J N D ops Φ a0 σ0 0 (ops.toList.take m))
    (hQ:∀ a σ,Half m N D ops Φ a0 σ0 a σ → J.J (Go.Conc.G (b.at a (.inRegion ops (List.range' m (ops.size - m)) :: kk)) cs) σ.w):∀ (n k:Nat) (a:Act) (σ:GW),k + n = m → Mid N D ops Φ a0 σ0 (fun j=>decide (j < k)) a σ → J.J (Go.Conc.G (b.at a (.inRegion ops (List.range' k (n + (ops.size - m))) :: kk)) cs) σ.w
  | 0,k,a,σ,hk,hmid=>by
    obtain rfl:k = m:=by omega
    rw [Nat.zero_add]
    exact hQ a σ (hmid.half (fun j hj=>by simpa using hj) (fun j hj=>by simpa using hj))
  | n + 1,k,a,σ,hk,hmid=>by
    rw [show n + 1 + (ops.size - m) = (n + (ops.size - m)) + 1 by omega,List.range'_succ]
    obtain ⟨o,ho⟩:∃ o,ops[k]? = some o:=⟨ops[k]'(by omega),by simp⟩
    have hget:(ops.toList.take m)[k]? = some o:=by rw [List.getElem?_take,if_pos (by omega)];simpa using ho
    have hclo:clB P J.al o = true:=(List.all_eq_true.1 hcl) o (List.mem_of_getElem? hget)
    refine Mid.op hF hmid ho (by simp) (by simpa using Obls.get (ops.toList.take m) 0 hob k o hget) hclo hkk (fun e he hbi=>by simpa using hF.back k o ho e he hbi)
      (fun j oj hj hlt e he hbi=>by have:=hF.back j oj hj e he hbi;simp at hlt ⊢;omega) fun a' σ' hm'=>half_seq hF hm hcl hkk hob hQ n (k + 1) a' σ' (by omega) ?_
    have:(fun j=>decide (j < k) || j == k) = (fun j=>decide (j < k + 1)):=by
      funext j;rw [Bool.eq_iff_iff];simp;omega
    rwa [this] at hm'
theorem regJ {N:Nat} {D:List Deferred} {ops:Array Oper} {id:Nat} {draw:Bool} {a:Act} {σ:GW} (hP:P.follows .mixedOrders = true) (m:Nat) (Φ:Nat → Pr) (ok:Ok N D a) (hF:formB N ops = true) (hm:m ≤ ops.size) (hB:(!draw || Xc m ops.toList) = true) (hk:b.kind ≠ .early)
    (hcl:(ops.toList.take m).all (clB P J.al) = true) (hob:Obls J N D ops Φ a σ 0 (ops.toList.take m)) (hQ:∀ a' σ',Half m N D ops Φ a σ a' σ' → J.J (Go.Conc.G (b.at a' (.inRegion ops (List.range' m (ops.size - m)) :: kk)) cs) σ'.w):J.J (Go.Conc.G (b.at a (.code (.region id ops draw) :: kk)) cs) σ.w:=by
  have hF':=Form.of_B hF
  cases draw with
  | false =>
    refine J.ctl (fun w=>Go.Conc.stepG_region) ?_
    rw [List.range_eq_range']
    have:=half_seq (J:=J) (kk:=kk) (cs:=cs) hF' hm hcl hk hob hQ m 0 a σ (by simp) (by have:=Mid.start (ops:=ops) (Φ:=Φ) (σ:=σ) ok;simpa using this)
    rwa [show m + (ops.size - m) = ops.size by omega] at this
  | true =>
    refine J.ord fun t=>?_
    simp only [Region.schedule,hP,Bool.true_or,if_true]
    refine half_any (J:=J) hF' hm (by simpa using hB) hcl hk hob hQ ops.size t (Array.replicate ops.size false) a σ (by simp) (Nat.le_trans List.countP_le_length (by simp)) ?_ ?_ ?_
    · intro j hj _;simp [hj]
    · intro j oj hj h
      have:j < ops.size:=(Array.getElem?_eq_some_iff.1 hj).1
      simp [this] at h
    · have:=Mid.start (ops:=ops) (Φ:=Φ) (σ:=σ) ok
      have e:(fun j=>decide (j < m) && (Array.replicate ops.size false).getD j true) = fun _=>false:=by
        funext j;by_cases hj:j < ops.size
        · simp [hj]
        · simp;omega
      rw [e];exact this
end
def Kv (J:JdOf P) (ops:Array Oper) (Q:Exit → Act → World → Prop):List Oper → Act → World → Prop
  | [],a,v=>Q .normal a v
  | o :: rest,a,v=>if Region.wanted o (yielded ops a.tmps) then Oper.xwp J o a v (fun a' v'=>∀ v'',Ext v' v'' → Kv J ops Q rest a' v'') else ∀ v'',Ext v v'' → Kv J ops Q rest (a.put o.dst undef) v''
theorem QG {ops:Array Oper} {Q:Exit → Act → World → Prop} {b:Frame} {kk:List Item} {cs:List Frame} (hk:b.kind ≠ .early) (hQ:∀ a v,Q .normal a v → J.J (Go.Conc.G (b.at a kk) cs) v) :
    ∀ (n i:Nat) (a:Act) (v:World),i + n = ops.size → (ops.toList.drop i).all (clB P J.al) = true → (∀ v',Ext v v' → Kv J ops Q (ops.toList.drop i) a v') → J.J (Go.Conc.G (b.at a (.inRegion ops (List.range' i n) :: kk)) cs) v
  | 0,i,a,v,hi,_,h=>by
    have:=h v (.refl v)
    rw [List.drop_eq_nil_of_le (by simp;omega)] at this
    exact J.ctl (fun w=>Go.Conc.stepG_region_end) (hQ a v this)
  | n + 1,i,a,v,hi,hcl,h=>by
    have hlt:i < ops.size:=by omega
    obtain ⟨o,ho⟩:∃ o,ops[i]? = some o:=⟨ops[i],by simp [hlt]⟩
    have hd:ops.toList.drop i = o :: ops.toList.drop (i + 1):=by
      rw [List.drop_eq_getElem_cons (by simpa using hlt)]
      have:ops[i] = o:=by simpa [hlt] using ho
      simp [this]
    rw [hd] at h hcl
    rw [List.all_cons,Bool.and_eq_true] at hcl
    have hclo:clB P J.al o = true:=hcl.1
    rw [List.range'_succ]
    by_cases hw:Region.wanted o (yielded ops a.tmps) = true
    · refine xop (K:=fun a' v'=>∀ v'',Ext v' v'' → Kv J ops Q (ops.toList.drop (i + 1)) a' v'') ho hw hk hclo (fun v' hv=>?_) (fun a' v' h'=>QG hk hQ n (i + 1) a' v' (by omega) hcl.2 h')
      have:=h v' hv
      unfold Kv at this
      rwa [if_pos hw] at this
    · have hw':Region.wanted o (yielded ops a.tmps) = false:=by simpa using hw
      refine J.ctl (fun w=>Go.Conc.stepG_unwanted ho hw') (QG hk hQ n (i + 1) _ v (by omega) hcl.2 fun v' hv=>?_)
      have:=h v (.refl v)
      unfold Kv at this
      rw [if_neg hw] at this
      exact this v' hv
theorem reg [Al J] {N:Nat} {D:List Deferred} {ops:Array Oper} {id:Nat} {draw:Bool} {Q:Exit → Act → World → Prop} {a:Act} {σ:GW} (hP:P.follows .mixedOrders = true) (Φ:Nat → Pr) (ok:Ok N D a) (hF:formB N ops = true)
    (hob:Obls J N D ops Φ a σ 0 ops.toList) (hQ:∀ a' σ',Done N D ops Φ a σ a' σ' → Q .normal a' σ'.w) (hcl:ops.toList.all (clB P true) = true:=by rfl):Code.xwp J (Code.region id ops draw) Q a σ.w:=fun b k cs hk H =>
  regJ hP ops.size Φ ok hF (Nat.le_refl _) (by cases draw <;> simp [Xc];intro x hx;exact .inl hx) hk.1 (by rw [Al.al,List.take_of_length_le (by simp)];exact hcl) (by rw [List.take_of_length_le (by simp)];exact hob) fun a' σ' h=>by
    rw [Nat.sub_self]
    exact J.ctl (fun w=>Go.Conc.stepG_region_end) (H .normal a' σ'.w (hQ a' σ' h.done0))
theorem regN {N:Nat} {D:List Deferred} {ops:Array Oper} {id:Nat} {draw:Bool} {Q:Exit → Act → World → Prop} {a:Act} {σ:GW} (hP:P.follows .mixedOrders = true) (Φ:Nat → Pr) (ok:Ok N D a) (hF:formB N ops = true)
    (hob:Obls J N D ops Φ a σ 0 ops.toList) (hQ:∀ a' σ',Done N D ops Φ a σ a' σ' → Q .normal a' σ'.w) (hcl:∀ al,ops.toList.all (clB P al) = true:=by intro al;rfl):Code.xwp J (Code.region id ops draw) Q a σ.w:=fun b k cs hk H =>
  regJ hP ops.size Φ ok hF (Nat.le_refl _) (by cases draw <;> simp [Xc];intro x hx;exact .inl hx) hk.1 (by rw [List.take_of_length_le (by simp)];exact hcl _) (by rw [List.take_of_length_le (by simp)];exact hob) fun a' σ' h=>by
    rw [Nat.sub_self]
    exact J.ctl (fun w=>Go.Conc.stepG_region_end) (H .normal a' σ'.w (hQ a' σ' h.done0))
theorem reg2 [Al J] {N:Nat} {D:List Deferred} {ops:Array Oper} {id:Nat} {draw:Bool} {Q:Exit → Act → World → Prop} {a:Act} {σ:GW} (hP:P.follows .mixedOrders = true) (m:Nat) (Φ:Nat → Pr) (ok:Ok N D a) (hF:formB N ops = true) (hm:m ≤ ops.size) (hB:(!draw || Xc m ops.toList) = true)
    (hob:Obls J N D ops Φ a σ 0 (ops.toList.take m)) (hQ:∀ a' σ',Half m N D ops Φ a σ a' σ' → Kv J ops Q (ops.toList.drop m) a' σ'.w) (hcl:ops.toList.all (clB P true) = true:=by rfl):Code.xwp J (Code.region id ops draw) Q a σ.w:=fun b k cs hk H=>by
  have hcl':ops.toList.all (clB P J.al) = true:=by rw [Al.al];exact hcl
  refine regJ hP m Φ ok hF hm hB hk.1 (all_take hcl' m) hob fun a' σ' h=>?_
  refine QG hk.1 (fun a v hq=>H .normal a v hq) (ops.size - m) m a' σ'.w (by omega) (all_drop hcl' m) fun v' hv=>?_
  exact hQ a' (σ'.ext v' hv) ⟨h.stp.trans (Stp.ext σ' hv),h.ok,fun j hj=>by
    have h0:=h.done j hj
    unfold rd at h0 ⊢
    split
    · rename_i d hd;rw [hd] at h0;exact (Φ j).up (Stp.ext σ' hv) h0
    · trivial,h.same⟩
def YldM (m:Nat) (J:JdOf P) (o:Oper) (a:Act) (σ:GW) (R:Value → GW → Prop):Prop :=
  ∀ (K:Act → World → Prop) (Q:Exit → Act → World → Prop),(∀ v τ,Stp m σ τ → R v τ → K (a.put o.dst v) τ.w) → Oper.xwp J o a σ.w K
theorem Yld.toM {o:Oper} {a:Act} {σ:GW} {R:Pr} (h:Yld J o a σ R):YldM 0 J o a σ (fun v τ=>R.has τ v):=h
theorem Jg {ops:Array Oper} {Q:Exit → Act → World → Prop} {a:Act} {v:World} (h:Q .normal a v):Kv J ops Q [] a v:=h
theorem xwpList_plain {ops:Array Oper} {Q:Exit → Act → World → Prop} {o:Oper} {rest:List Oper} {a:Act} {v:World} (hg:o.guard = none) (h:∀ K:Act → World → Prop,(∀ a v,(∀ v',Ext v v' → Kv J ops Q rest a v') → K a v) → Oper.xwp J o a v K):Kv J ops Q (o :: rest) a v:=by
  unfold Kv
  simp only [Region.wanted,hg,if_true]
  exact h _ fun a v h=>h
theorem Ka {m N d:Nat} {D:List Deferred} {ops:Array Oper} {Q:Exit → Act → World → Prop} {o:Oper} {rest:List Oper} {a:Act} {σ:GW} {R:Value → GW → Prop} (hg:o.guard = none) (hd:o.dst = some d) (hN:d < N) (ok:Ok N D a) (hy:YldM m J o a σ R)
    (k:∀ a' τ,Stp m σ τ → Ok N D a' → R (a'.eval (.tmp d)) τ → (∀ t,t ≠ d → a'.eval (.tmp t) = a.eval (.tmp t)) → Kv J ops Q rest a' τ.w) (hR:∀ v τ τ',Stp 0 τ τ' → R v τ → R v τ':=by first | exact fun _ _ _ hs h=>Go.KL.Pr.up _ hs h | exact fun _ _ _ hs h=>Go.KL.Own.keep h hs (by decide) (.inl rfl) | exact fun _ _ _ hs h=>Go.KL.OwnP.keep h hs (by decide) (.inl rfl) | exact fun _ _ _ hs h=>⟨Go.KL.Ty.up _ hs.le0 h.1,Go.KL.Iter.keep h.2 hs (by decide) (.inl rfl)⟩ | exact Go.KL.Qt (fun _ _ _ hs h=>Go.KL.Pr.up _ hs h) | exact Go.KL.Qt (fun _ _ _ hs ⟨z,h1,h2⟩=>⟨z,Go.KL.Ty.up _ hs.le0 h1,Go.KL.Own.keep h2 hs (by decide) (.inl rfl)⟩)):Kv J ops Q (o :: rest) a σ.w:=by
  refine xwpList_plain hg fun K hK=>hy K Q fun v τ hs hr=>hK _ _ fun v' hv=>?_
  rw [hd]
  exact k _ (τ.ext v' hv) (hs.trans (Stp.ext τ hv).of0) (ok.put _ _) (by rw [KB ok hN];exact hR _ _ _ (Stp.ext τ hv) hr) fun t ht=>KF (by simpa using Ne.symm ht) v
theorem tail_step0 {m:Nat} {ops:Array Oper} {Q:Exit → Act → World → Prop} {o:Oper} {rest:List Oper} {a:Act} {σ:GW} {R:Value → GW → Prop} (hg:o.guard = none) (hd:o.dst = none) (hy:YldM m J o a σ R)
    (k:∀ v τ,Stp m σ τ → R v τ → Kv J ops Q rest a τ.w) (hR:∀ v τ τ',Stp 0 τ τ' → R v τ → R v τ':=by first | exact fun _ _ _ hs h=>Go.KL.Pr.up _ hs h | exact fun _ _ _ hs h=>Go.KL.Own.keep h hs (by decide) (.inl rfl) | exact fun _ _ _ hs h=>Go.KL.OwnP.keep h hs (by decide) (.inl rfl) | exact fun _ _ _ hs h=>⟨Go.KL.Ty.up _ hs.le0 h.1,Go.KL.Iter.keep h.2 hs (by decide) (.inl rfl)⟩ | exact Go.KL.Qt (fun _ _ _ hs h=>Go.KL.Pr.up _ hs h) | exact Go.KL.Qt (fun _ _ _ hs ⟨z,h1,h2⟩=>⟨z,Go.KL.Ty.up _ hs.le0 h1,Go.KL.Own.keep h2 hs (by decide) (.inl rfl)⟩)):Kv J ops Q (o :: rest) a σ.w:=by
  refine xwpList_plain hg fun K hK=>hy K Q fun v τ hs hr=>hK _ _ fun v' hv=>?_
  rw [hd]
  exact k v (τ.ext v' hv) (hs.trans (Stp.ext τ hv).of0) (hR _ _ _ (Stp.ext τ hv) hr)
theorem JI {c n:Nat} {ts:List Ty} {σ:GW} {v:Value} (h:(Ty.sl c n ts).has σ v):n ≤ 9223372036854775807:=by
  obtain ⟨_,_,_,_,_,⟨h1,h2⟩,_⟩:=h;omega
theorem xbodyPost_ret {fn:Func} {R:Ending → World → Prop} {a:Act} {v:World} {u:Value} (hr:∀ w es,(results fn a.tmps).run P w = .ok u w∧(results fn a.tmps).events P w es = es) (hd:a.defers = []) (hR:R (.returned u) v):Qe P fn R .ret a v:=⟨hd,.inl ⟨u,hr,hR⟩⟩
theorem xbodyPost_retm {fn:Func} {R:Ending → World → Prop} {a:Act} {v:World} (hd:a.defers = []) (h:∀ v',Ext v v' → ∃ u v'',(results fn a.tmps).run P v' = .ok u v''∧R (.returned u) v''):Qe P fn R .ret a v:=⟨hd,.inr h⟩
theorem xres0 {fn:Func} (h:fn.results = #[]) (tmps:Array Value) (w:World) (es:Array Event):(results fn tmps).run P w = .ok (.tuple #[]) w∧(results fn tmps).events P w es = es:=by simp [results,h]
theorem xres1 {fn:Func} {t:Tmp} (h:fn.results = #[.tmp t]) (tmps:Array Value) (w:World) (es:Array Event):(results fn tmps).run P w = .ok (tmps.getD t undef) w∧(results fn tmps).events P w es = es:=by simp [results,h]
theorem xres2 {fn:Func} {t u:Tmp} (h:fn.results = #[.tmp t,.tmp u]) (tmps:Array Value) (w:World) (es:Array Event):(results fn tmps).run P w = .ok (.tuple #[tmps.getD t undef,tmps.getD u undef]) w∧(results fn tmps).events P w es = es:=by simp [results,h]
def RetPost (σ0:GW) (R:Ty) (e:Ending) (w':World):Prop:=∃ v τ,τ.w = w'∧From σ0 τ∧e = .returned v∧R.has τ v
def FnC (J:JdOf P) (f:FuncId) (args:Array Value) (σ:GW) (R:Ty):Prop :=
  XCalls J f args σ.w fun e w'=>∃ v τ,τ.w = w'∧Stp 0 σ τ∧e = .returned v∧R.has τ v
def GW.hush (σ:GW):GW:=⟨σ.w,fun b=>if σ.st b = 1 then 1 else 0,fun b h=>σ.lt b (by intro e;simp [e] at h)⟩
theorem GW.le_hush (σ:GW):σ.Le σ.hush:=⟨fun b h=>by simp [GW.hush,h],fun _ _=>rfl⟩
theorem From.hush (σ:GW):From σ.hush σ.hush:=⟨rfl,rfl,rfl,Dr.refl _,Nat.le_refl _,fun _ _=>rfl,fun b _=>⟨rfl,by simp only [GW.hush];split <;> omega⟩⟩
def GW.back (σ τ:GW) (h:From σ.hush τ):GW :=
  ⟨τ.w,fun b=>if b < σ.w.heap.size then σ.st b else if τ.st b = 1 then 1 else 0,fun b hb=>by
    by_cases hlt:b < σ.w.heap.size
    · exact Nat.lt_of_lt_of_le hlt h.size
    · simp only [hlt,if_false] at hb
      exact τ.lt b (by intro e;simp [e] at hb)⟩
theorem GW.back_stp (σ τ:GW) (h:From σ.hush τ):Stp 0 σ (σ.back τ h):=⟨h.os,h.tape,gho_eq h.output,h.dr,h.size,fun b hb _=>h.blk b hb,fun b hb _=>by simp [GW.back,hb]⟩
theorem GW.back_le (σ τ:GW) (h:From σ.hush τ):τ.Le (σ.back τ h):=by
  refine ⟨fun b hb=>?_,fun _ _=>rfl⟩
  simp only [GW.back]
  split
  · rename_i hlt
    have:=(h.st b hlt).1
    rw [hb] at this
    simp only [GW.hush] at this
    split at this
    · assumption
    · cases this
  · simp
theorem Kt {f:FuncId} {fn:Func} {c:Code} {N:Nat} {args:Array Value} {σ:GW} {R:Ty} (hf:P.funcs[f]? = some fn) (hb:fn.body = some c) (hn:fn.ntmps = N) (ha:args.size ≤ N)
    (h:∀ σ0 a,σ.Le σ0 → From σ0 σ0 → Ok N [] a → (∀ i v,args.toList[i]? = some v → a.eval (.tmp i) = v) → Code.xwp J c (Qe P fn (RetPost σ0 R)) a σ0.w) (hnr:fn.norace = false:=by rfl):FnC J f args σ R:=by
  refine XCalls.mono (xcalls_of_wp hf hb (h σ.hush _ σ.le_hush (From.hush σ) ⟨by simp;omega,rfl⟩ fun i v hi=>?_) ?_) ?_
  · have hi':args[i]? = some v:=by simpa using hi
    have hlt:i < args.size:=(Array.getElem?_eq_some_iff.1 hi').1
    simp [Act.eval,Array.getD_eq_getD_getElem?,Array.getElem?_append,hlt]
    simpa [hlt] using hi'
  · exact hnr
  · rintro e w' ⟨v,τ,rfl,hF,rfl,hv⟩
    exact ⟨v,σ.back τ hF,rfl,σ.back_stp τ hF,rfl,R.up (σ.back_le τ hF) hv⟩
theorem QD {fn:Func} {σ0 σ:GW} {a:Act} {N d:Nat} {T:Ty} (hr:fn.results = #[.tmp d]) (ok:Ok N [] a) (hF:From σ0 σ) (h:At T σ a (.tmp d)):Qe P fn (RetPost σ0 T) .ret a σ.w :=
  xbodyPost_ret (xres1 hr _) ok.defers ⟨_,σ,rfl,hF,rfl,h⟩
section
variable {Q:Exit → Act → World → Prop} {N:Act → World → Prop} {a:Act} {w:World}
theorem tn (h:N a w):Exit.then N Q .normal a w:=h
theorem tx {i:Nat} (h:Q (.exit i) a w):Exit.then N Q (.exit i) a w:=h
theorem tr (h:Q .ret a w):Exit.then N Q .ret a w:=h
theorem bn {i:Nat} (h:Q .normal a w):Exit.inBlock i Q .normal a w:=h
theorem br {i:Nat} (h:Q .ret a w):Exit.inBlock i Q .ret a w:=h
theorem bx {i:Nat} (h:Q .normal a w):Exit.inBlock i Q (.exit i) a w:=by simp only [Exit.inBlock,if_true];exact h
end
theorem JU {c:Operand} {x y:Code} {Q:Exit → Act → World → Prop} {a:Act} {σ:GW} {b:Bool} (h:At (.bool b) σ a c) (ht:b = true → Code.xwp J x Q a σ.w) (hf:b = false → Code.xwp J y Q a σ.w):Code.xwp J (Code.cond c x y) Q a σ.w :=
  xp_cond_split (t:=b) h ht hf
theorem Jl {c:Operand} {x y:Code} {Q:Exit → Act → World → Prop} {a:Act} {σ:GW} {p:Prop} [Decidable p] (h:At (.bool (decide p)) σ a c) (ht:p → Code.xwp J x Q a σ.w) (hf:¬ p → Code.xwp J y Q a σ.w):Code.xwp J (Code.cond c x y) Q a σ.w :=
  xp_cond_split (t:=decide p) h (fun e=>ht (of_decide_eq_true e)) (fun e=>hf (of_decide_eq_false e))
theorem QV {ops:Array Oper} {o:Oper} {a:Act} {σ:GW} {R:Pr} (hg:o.guard = none) (h:Yld J o a σ R):Run J ops o a σ R :=
  ⟨fun _=>.inl h,fun hw=>by simp [Region.wanted,hg] at hw⟩
theorem yielded_at {N:Nat} {D:List Deferred} {ops:Array Oper} {a:Act} {σ:GW} {j d:Nat} {c:Bool} (ok:Ok N D a) (hd:Kf ops j = some d) (hN:d < N) (h:At (.bool c) σ a (.tmp d)):yielded ops a.tmps j = some c:=by
  have e:a.tmps[d]? = some (.bool c):=by
    have h':a.tmps.getD d undef = .bool c:=h
    have hlt:d < a.tmps.size:=by rw [ok.size];exact hN
    simp [hlt] at h' ⊢
    exact h'
  unfold yielded
  have:(ops[j]?).bind (·.dst) = some d:=by simpa [Kf] using hd
  simp [this,e]
theorem Jd {N:Nat} {D:List Deferred} {ops:Array Oper} {o:Oper} {a:Act} {σ:GW} {T:Ty} {j d:Nat} {want c:Bool} (ok:Ok N D a) (hg:o.guard = some (j,want)) (hd:Kf ops j = some d) (hN:d < N) (h:At (.bool c) σ a (.tmp d))
    (hy:c = want → Yld J o a σ T.pr):Run J ops o a σ (Ty.grd (c = want) T).pr:=by
  have hw:Region.wanted o (yielded ops a.tmps) = (some c == some want):=by simp [Region.wanted,hg,yielded_at ok hd hN h]
  refine ⟨fun e=>?_,fun e=>?_⟩
  · have hc:c = want:=by rw [hw] at e;simpa using e
    refine .inl fun K Q hk=>?_
    exact hy hc K Q fun v τ hs hv=>hk v τ hs ⟨fun _=>hv,fun h=>absurd hc h⟩
  · refine ⟨fun hc=>?_,fun _=>rfl⟩
    rw [hw,hc] at e;simp at e
theorem Qp {N:Nat} {D:List Deferred} {ops:Array Oper} {o:Oper} {a:Act} {σ:GW} {T:Ty} {j d:Nat} {want c:Bool} {p:Prop} (ok:Ok N D a) (hg:o.guard = some (j,want)) (hd:Kf ops j = some d) (hN:d < N) (h:At (.grd p (.bool c)) σ a (.tmp d))
    (hy:p∧c = want → Yld J o a σ T.pr):Run J ops o a σ (Ty.grd (p∧c = want) T).pr:=by
  by_cases hp:p
  · have hb:At (.bool c) σ a (.tmp d):=h.1 hp
    have hw:Region.wanted o (yielded ops a.tmps) = (some c == some want):=by simp [Region.wanted,hg,yielded_at ok hd hN hb]
    refine ⟨fun e=>?_,fun e=>?_⟩
    · have hc:c = want:=by rw [hw] at e;simpa using e
      refine .inl fun K Q hk=>?_
      exact hy ⟨hp,hc⟩ K Q fun v τ hs hv=>hk v τ hs ⟨fun _=>hv,fun h=>absurd ⟨hp,hc⟩ h⟩
    · refine ⟨fun hc=>?_,fun _=>rfl⟩
      rw [hw,hc.2] at e;simp at e
  · have hu:a.eval (.tmp d) = undef:=h.2 hp
    have hw:Region.wanted o (yielded ops a.tmps) = false:=by
      have hd':(ops[j]?).bind (·.dst) = some d:=by simpa [Kf] using hd
      have e:a.tmps.getD d undef = undef:=hu
      simp only [Region.wanted,hg,yielded,hd',Option.bind_some]
      cases ht:a.tmps[d]? with
      | none=>rfl
      | some v =>
        have hlt:=(Array.getElem?_eq_some_iff.1 ht).1
        have:v = undef:=by rw [Array.getD_eq_getD_getElem?,ht] at e;simpa using e
        subst this;rfl
    exact ⟨fun e=>(by rw [hw] at e;cases e),fun _=>⟨fun h=>absurd h.1 hp,fun _=>rfl⟩⟩
theorem kp {T:Ty} {σ σ':GW} {a a':Act} {x y:Operand} (e:a'.eval x = a.eval y) (hs:Stp 0 σ σ') (h:T.has σ (a.eval y)):T.has σ' (a'.eval x):=by rw [e];exact T.up hs.le0 h
theorem kpo {R:Pr} {σ σ':GW} {a a':Act} {x y:Operand} (e:a'.eval x = a.eval y) (hs:Stp 0 σ σ') (h:R.has σ (a.eval y)):R.has σ' (a'.eval x):=by rw [e];exact R.up hs h
theorem Done.kt {N:Nat} {D:List Deferred} {ops:Array Oper} {Φ:Nat → Pr} {a0 a:Act} {σ0 σ:GW} {T:Ty} {t:Nat} (D:Done N D ops Φ a0 σ0 a σ) (h:T.has σ0 (a0.eval (.tmp t))) (ht:(ops.toList.all fun o=>o.dst != some t) = true):T.has σ (a.eval (.tmp t)):=kp (D.same t ht) D.stp h
theorem Done.ko {N:Nat} {D:List Deferred} {ops:Array Oper} {Φ:Nat → Pr} {a0 a:Act} {σ0 σ:GW} {R:Pr} {t:Nat} (D:Done N D ops Φ a0 σ0 a σ) (h:R.has σ0 (a0.eval (.tmp t))) (ht:(ops.toList.all fun o=>o.dst != some t) = true):R.has σ (a.eval (.tmp t)):=kpo (D.same t ht) D.stp h
theorem Half.kt {m N:Nat} {D:List Deferred} {ops:Array Oper} {Φ:Nat → Pr} {a0 a:Act} {σ0 σ:GW} {T:Ty} {t:Nat} (D:Half m N D ops Φ a0 σ0 a σ) (h:T.has σ0 (a0.eval (.tmp t))) (ht:((ops.toList.take m).all fun o=>o.dst != some t) = true):T.has σ (a.eval (.tmp t)):=kp (D.same t ht) D.stp h
theorem cvt {T U:Ty} {σ:GW} {v:Value} (e:T = U) (h:T.has σ v):U.has σ v:=e ▸ h
theorem cvi {m n:Int} {k:IntKind} {σ:GW} {v:Value} (e:m = n) (h:(Ty.val (.int k m)).has σ v):(Ty.val (.int k n)).has σ v:=e ▸ h
theorem cvb {m n:Bool} {σ:GW} {v:Value} (e:m = n) (h:(Ty.bool m).has σ v):(Ty.bool n).has σ v:=e ▸ h
theorem Jw {α:Type} (f:α → Ty) (xs:List α) (d:α) (k:Nat) (h:k < xs.length):(xs.map f)[k]? = some (f (xs.getD k d)):=by simp [h]
end Go.KL
namespace Go.KL
variable {P:Program} {J:JdOf P} {d:Option Tmp} {ty:TypeId} {pos:String} {af:Array Edge} {g:Option (Nat × Bool)} {a:Act} {σ:GW}
theorem Jc {x:Operand} {R:Pr} (h:R.has σ (a.eval x)):Yld J ⟨d,.move x,ty,pos,af,g⟩ a σ R:=Yld.of_run rfl h
theorem Qg {x:Operand} {R:Pr} (h:R.has σ (a.eval x)):Yld J ⟨d,.assign x,ty,pos,af,g⟩ a σ R:=Yld.of_run rfl h
section ints
variable {t u:TypeId} {x y:Operand} {k:IntKind} {m n:Int} (hx:a.eval x = .int k m) (hy:a.eval y = .int k n)
include hx hy
theorem Qc:Yld J ⟨d,.binOp .eql t x y u,ty,pos,af,g⟩ a σ (Ty.bool (decide (m = n))).pr :=
  Yld.of_run (v:=.bool (m == n)) (by simp only [execOp,hx,hy];simp [go_sem]) (by show Value.bool (m == n) = _;congr 1)
theorem Qx:Yld J ⟨d,.binOp .neq t x y u,ty,pos,af,g⟩ a σ (Ty.bool (decide (m ≠ n))).pr :=
  Yld.of_run (v:=.bool (m != n)) (by simp only [execOp,hx,hy];simp [go_sem]) (by show Value.bool (m != n) = _;congr 1;rw [Bool.eq_iff_iff];simp)
theorem Jx:Yld J ⟨d,.binOp .lss t x y u,ty,pos,af,g⟩ a σ (Ty.bool (decide (m < n))).pr :=
  Yld.of_run (by simp only [execOp,hx,hy];simp [go_sem]) rfl
theorem y_leq:Yld J ⟨d,.binOp .leq t x y u,ty,pos,af,g⟩ a σ (Ty.bool (decide (m ≤ n))).pr :=
  Yld.of_run (by simp only [execOp,hx,hy];simp [go_sem]) rfl
theorem KJ:Yld J ⟨d,.binOp .gtr t x y u,ty,pos,af,g⟩ a σ (Ty.bool (decide (n < m))).pr :=
  Yld.of_run (by simp only [execOp,hx,hy];simp [go_sem]) rfl
theorem QB:Yld J ⟨d,.binOp .geq t x y u,ty,pos,af,g⟩ a σ (Ty.bool (decide (n ≤ m))).pr :=
  Yld.of_run (by simp only [execOp,hx,hy];simp [go_sem]) rfl
theorem JA (h:k.wrap (m + n) = m + n):Yld J ⟨d,.binOp .add t x y u,ty,pos,af,g⟩ a σ (Ty.val (.int k (m + n))).pr :=
  Yld.of_run (by simp only [execOp,hx,hy];simp [go_sem];rfl) (by rw [h];rfl)
theorem Xn (h:k.wrap (m - n) = m - n):Yld J ⟨d,.binOp .sub t x y u,ty,pos,af,g⟩ a σ (Ty.val (.int k (m - n))).pr :=
  Yld.of_run (by simp only [execOp,hx,hy];simp [go_sem];rfl) (by rw [h];rfl)
theorem y_mul (h:k.wrap (m * n) = m * n):Yld J ⟨d,.binOp .mul t x y u,ty,pos,af,g⟩ a σ (Ty.val (.int k (m * n))).pr :=
  Yld.of_run (by simp only [execOp,hx,hy];simp [go_sem];rfl) (by rw [h];rfl)
end ints
theorem w64 {n:Int} (h1:-9223372036854775808 ≤ n) (h2:n ≤ 9223372036854775807):IntKind.i64.wrap n = n:=IntWalk.i64_in n ⟨h1,h2⟩
theorem y_remN {t u:TypeId} {x y:Operand} {m n:Nat} (hx:a.eval x = .int .i64 m) (hy:a.eval y = .int .i64 n) (hn:0 < n):Yld J ⟨d,.binOp .rem t x y u,ty,pos,af,g⟩ a σ (Ty.nat (m % n)).pr:=by
  refine Yld.of_run (v:=.int .i64 ((m:Int).tmod n)) ?_ ?_
  · simp only [execOp,hx,hy];simp [go_sem];omega
  · show Value.int .i64 ((m:Int).tmod n) = .int .i64 ((m % n:Nat):Int)
    rw [Int.tmod_eq_emod_of_nonneg (by omega)];rfl
theorem y_quoN {t u:TypeId} {x y:Operand} {m n:Nat} (hx:a.eval x = .int .i64 m) (hy:a.eval y = .int .i64 n) (hn:0 < n) (hm:m ≤ 9223372036854775807):Yld J ⟨d,.binOp .quo t x y u,ty,pos,af,g⟩ a σ (Ty.nat (m / n)).pr:=by
  refine Yld.of_run (v:=.int .i64 (IntKind.i64.wrap ((m:Int).tdiv n))) ?_ ?_
  · simp only [execOp,hx,hy];simp [go_sem];omega
  · show Value.int .i64 (IntKind.i64.wrap ((m:Int).tdiv n)) = .int .i64 ((m / n:Nat):Int)
    have h1:(m:Int).tdiv n = ((m / n:Nat):Int):=by rw [Int.tdiv_eq_ediv_of_nonneg (by omega)];rfl
    have h2:m / n ≤ m:=Nat.div_le_self _ _
    rw [h1]
    generalize m / n = q at *
    rw [w64 (by omega) (by omega)]
theorem y_neg {t:TypeId} {x:Operand} {m:Int} (hx:a.eval x = .int .i64 m) (h:IntKind.i64.wrap (-m) = -m):Yld J ⟨d,.unOp .neg t x,ty,pos,af,g⟩ a σ (Ty.int (-m)).pr :=
  Yld.of_run (v:=.int .i64 (IntKind.i64.wrap (-m))) (by simp only [execOp,hx];simp [go_sem]) (by rw [h];rfl)
theorem y_not {t:TypeId} {x:Operand} {b:Bool} (hx:a.eval x = .bool b):Yld J ⟨d,.unOp .not t x,ty,pos,af,g⟩ a σ (Ty.bool (!b)).pr :=
  Yld.of_run (v:=.bool (!b)) (by simp only [execOp,hx];simp [go_sem]) rfl
theorem Jk {c x y:Operand} {b e:Bool} (hc:a.eval c = .bool b) (hx:a.eval x = .bool true) (hy:(Ty.grd (b = false) (.bool e)).has σ (a.eval y)) :
    Yld J ⟨d,.pick c x y,ty,pos,af,g⟩ a σ (Ty.bool (b || e)).pr:=by
  cases b with
  | true=>exact Yld.of_run (v:=.bool true) (by simp only [execOp,hc,hx];simp [go_sem]) rfl
  | false =>
    have h:a.eval y = .bool e:=hy.1 rfl
    exact Yld.of_run (v:=.bool e) (by simp only [execOp,hc,h];simp [go_sem]) rfl
theorem Jr {c x y:Operand} {b e:Bool} (hc:a.eval c = .bool b) (hx:(Ty.grd (b = true) (.bool e)).has σ (a.eval x)) (hy:a.eval y = .bool false) :
    Yld J ⟨d,.pick c x y,ty,pos,af,g⟩ a σ (Ty.bool (b && e)).pr:=by
  cases b with
  | true =>
    have h:a.eval x = .bool e:=hx.1 rfl
    exact Yld.of_run (v:=.bool e) (by simp only [execOp,hc,h];simp [go_sem]) rfl
  | false=>exact Yld.of_run (v:=.bool false) (by simp only [execOp,hc,hy];simp [go_sem]) rfl
theorem Xq {b:Builtin} {x:Operand} {v u:Value} {t:TypeId} {w w':World} (hx:a.eval x = v) (h:∀ cs,(builtin b #[t] ty cs #[v]).run P w = .ok (.value u) w'):(execOp a.eval ⟨d,.call ⟨.builtin b,#[x],#[t]⟩,ty,pos,af,g⟩).run P w = .ok (.value u) w':=by
  simp only [execOp,resolve,Sem.run_bind,Sem.run_pure,Result.andThen_ok,invoke,List.map_toArray,List.map_cons,List.map_nil,hx]
  exact h _
theorem Jt {x:Operand} {c n:Nat} {ts:List Ty} {t e:TypeId} (ht:P.underlying t = some (.slice e)) (hx:At (.sl c n ts) σ a x) :
    Yld J ⟨d,.call ⟨.builtin .len,#[x],#[t]⟩,ty,pos,af,g⟩ a σ (Ty.int n).pr:=by
  obtain ⟨ad,cap,b,o,e1,_⟩:=hx
  exact Yld.of_run (v:=.int .i64 n) (Xq e1 (fun cs=>by simp [builtin,Builtin.len_,run_underlying ht,goInt])) rfl
theorem y_len_str {x:Operand} {s:ByteArray} {t:TypeId} (ht:P.underlying t = some .string) (hx:a.eval x = .string s) :
    Yld J ⟨d,.call ⟨.builtin .len,#[x],#[t]⟩,ty,pos,af,g⟩ a σ (Ty.int s.size).pr :=
  Yld.of_run (v:=.int .i64 s.size) (Xq hx (fun cs=>by simp [builtin,Builtin.len_,run_underlying ht,goInt])) rfl
def Info (P:Program) (e:TypeId) (z:Value) (c b:Nat):Prop:=(P.info? e).map (fun i=>(i.zero,i.size,i.bytes)) = some (some z,c,b)
theorem Info.size {e:TypeId} {z:Value} {c b:Nat} (h:Info P e z c b) (w:World):(sizeOf e).run P w = .ok c w:=by
  unfold Info at h
  cases hi:P.info? e with
  | none=>simp [hi] at h
  | some i =>
    rw [hi] at h;simp at h
    simp [sizeOf,typeInfo,hi,h.2.1]
theorem Info.zero {e:TypeId} {z:Value} {c b:Nat} (h:Info P e z c b) (w:World):(zeroValue e).run P w = .ok z w:=by
  unfold Info at h
  cases hi:P.info? e with
  | none=>simp [hi] at h
  | some i =>
    rw [hi] at h;simp at h
    simp [zeroValue,typeInfo,hi,h.1]
theorem y_indexAddr {x y:Operand} {c n:Nat} {ts us:List Ty} {t e:TypeId} {z:Value} {b:Nat} {k:IntKind} {i:Int} (ht:P.underlying t = some (.slice e)) (he:Info P e z c b)
    (hx:At (.sl c n ts) σ a x) (hy:a.eval y = .int k i) (h0:0 ≤ i) (h1:i < n) (hc:0 < c) (hu:∀ j,j < c → ts[i.toNat * c + j]? = us[j]?) (hl:us.length = c) :
    Yld J ⟨d,.indexAddr t x y,ty,pos,af,g⟩ a σ (Ty.ref us).pr:=by
  obtain ⟨ad,cap,b,o,e1,hn,hlen,hs,hcl⟩:=hx
  have hne:ts ≠ []:=by
    intro h;subst h
    have hp:0 < n * c:=Nat.mul_pos (by omega) hc
    simp at hlen;omega
  obtain ⟨rfl,hst⟩:=hs.resolve_left hne
  refine Yld.of_run (v:=.pointer (some ⟨b,o + i.toNat * c,none⟩)) ?_ ⟨b,o + i.toNat * c,rfl,hst,fun j T hj=>?_⟩
  · simp only [execOp,e1,hy]
    simp [Instr.indexAt,asIntOf,run_underlying ht,h0,h1,he.size,Addr.add_lit]
  · have hj':j < c:=by rw [← hl];exact (List.getElem?_eq_some_iff.1 hj).1
    have:=hcl (i.toNat * c + j) T (by rw [hu j hj'];exact hj)
    rwa [← Nat.add_assoc] at this
theorem Jy {x y:Operand} {n:Nat} {ts:List Ty} {T:Ty} {t e:TypeId} {z:Value} {b:Nat} {k:IntKind} {i:Int} (ht:P.underlying t = some (.slice e)) (he:Info P e z 1 b)
    (hx:At (.sl 1 n ts) σ a x) (hy:a.eval y = .int k i) (h0:0 ≤ i) (hT:ts[i.toNat]? = some T) :
    Yld J ⟨d,.indexAddr t x y,ty,pos,af,g⟩ a σ (Ty.ref [T]).pr:=by
  have hlt:=(List.getElem?_eq_some_iff.1 hT).1
  have hn:ts.length = n:=by obtain ⟨_,_,_,_,_,_,h,_⟩:=hx;omega
  exact y_indexAddr ht he hx hy h0 (by omega) (by decide) (fun j hj=>by
    obtain rfl:j = 0:=by omega
    simpa using hT) rfl
theorem Jo {x:Operand} {ts:List Ty} {T:Ty} {t:TypeId} {dd:TypeDesc} (ht:P.underlying t = some dd) (hd:dd.isRow = false) (hx:At (.ref ts) σ a x) (hT:ts[0]? = some T) :
    Yld J ⟨d,.load t x,ty,pos,af,g⟩ a σ T.pr:=by
  obtain ⟨b,o,e1,hst,hc⟩:=hx
  obtain ⟨u,hu,hT⟩:=hc 0 T hT
  refine Yld.of_run (v:=u) ?_ hT
  have hagg:(isAgg t).run P σ.w = .ok false σ.w:=by
    unfold isAgg
    rw [Sem.run_bind,run_underlying ht σ.w]
    cases dd <;> simp_all
  have hu':σ.w.cell? ⟨b,o,none⟩ = some u:=hu
  simp only [execOp,e1]
  simp [Instr.loadAt,Instr.sureAddr,loadVar,Sem.run_bind,hagg,load,Sem.run,hu']
theorem JB {f : FuncId} {fn : Func} {xs : Array Operand} {tys : Array TypeId} {R : Ty} (args : Array Value) (hf : P.funcs[f]? = some fn) (hn : (fn.name == "runtime.NumGoroutine") = false) (hb : fn.body.isNone = false) (hargs : xs.map a.eval = args) (hc : FnC J f args σ R) :
    Yld J ⟨d,.call ⟨.value (.func f),xs,tys⟩,ty,pos,af,g⟩ a σ R.pr:=by
  intro K Q hk
  refine xwp_call (f:=f) (args:=args) ⟨_,_,_,#[],#[],fn,rfl,rfl,by simp [hargs],hf,hn,hb⟩ ?_
  refine XCalls.mono hc ?_
  rintro e w' ⟨v,τ,rfl,hs,rfl,hv⟩
  exact hk v τ hs hv
theorem y_ext2_0 {x:Operand} {T U:Ty} (hx:At (.tup2 T U) σ a x):Yld J ⟨d,.extract x 0,ty,pos,af,g⟩ a σ T.pr:=by
  obtain ⟨v,w,e,h,_⟩:=hx
  exact Yld.of_run (v:=v) (by simp only [execOp,e];simp [Instr.extract]) h
theorem y_ext2_1 {x:Operand} {T U:Ty} (hx:At (.tup2 T U) σ a x):Yld J ⟨d,.extract x 1,ty,pos,af,g⟩ a σ U.pr:=by
  obtain ⟨v,w,e,_,h⟩:=hx
  exact Yld.of_run (v:=w) (by simp only [execOp,e];simp [Instr.extract]) h
theorem y_ext3_0 {x:Operand} {T U V:Ty} (hx:At (.tup3 T U V) σ a x):Yld J ⟨d,.extract x 0,ty,pos,af,g⟩ a σ T.pr:=by
  obtain ⟨v,w,z,e,h,_⟩:=hx
  exact Yld.of_run (v:=v) (by simp only [execOp,e];simp [Instr.extract]) h
theorem y_ext3_2 {x:Operand} {T U V:Ty} (hx:At (.tup3 T U V) σ a x):Yld J ⟨d,.extract x 2,ty,pos,af,g⟩ a σ V.pr:=by
  obtain ⟨v,w,z,e,_,_,h⟩:=hx
  exact Yld.of_run (v:=z) (by simp only [execOp,e];simp [Instr.extract]) h
def GW.seal (σ:GW) (o:Obj):GW:=⟨σ.w.alloc o,fun b=>if b = σ.w.heap.size then 1 else σ.st b,fun b hb=>by
  by_cases e:b = σ.w.heap.size
  · subst e;simp
  · simp only [e,if_false] at hb
    have:=σ.lt b hb
    simp;omega⟩
theorem Stp.seal (σ:GW) (o:Obj):Stp 0 σ (σ.seal o) :=
  ⟨rfl,rfl,rfl,Dr.refl _,by simp [GW.seal],fun b hb _=>heap_alloc_old σ.w o hb,fun b hb _=>by simp only [GW.seal];rw [if_neg (by omega)]⟩
theorem y_build1 {x:Operand} {t e:TypeId} {T:Ty} {z:Value} {b:Nat} (ht:P.underlying t = some (.slice e)) (he:Info P e z 1 b) (hz:z.cells.size = 1) (hx:At T σ a x) (h1:(a.eval x).cells = #[a.eval x]) :
    Yld J ⟨d,.buildSlice t 1 #[(0,x)],ty,pos,af,g⟩ a σ (Ty.sl 1 1 [T]).pr:=by
  intro K Q hk
  have hr:(execOp a.eval ⟨d,.buildSlice t 1 #[(0,x)],ty,pos,af,g⟩).run P σ.w = .ok (.value (.slice (some ⟨σ.w.heap.size,0,none⟩) 1 1)) (σ.w.alloc (.cells #[a.eval x] e)):=by
    simp only [execOp,List.map_toArray,List.map_cons,List.map_nil]
    generalize a.eval x = v at h1 ⊢
    have hr:Array.range 1 = #[0]:=rfl
    simp [Instr.buildSlice,run_underlying ht,he.size,he.zero,Instr.fill,h1,hz,newRow,newObj,Sem.run,Sem.run_bind,hr]
  refine JV rfl ?_
  rw [hr]
  refine ⟨by first | rfl | simp [Qo,QN,sly, *],?_⟩
  refine hk _ (σ.seal (.cells #[a.eval x] e)) (Stp.seal _ _) ⟨_,1,σ.w.heap.size,0,rfl,⟨Nat.le_refl _,by decide⟩,rfl,.inr ⟨rfl,by simp [GW.seal]⟩,fun j U hj=>?_⟩
  match j,hj with
  | 0,hj =>
    simp at hj;subst hj
    refine ⟨a.eval x,?_,T.up (Stp.seal _ _).le0 hx⟩
    show World.cell? (σ.w.alloc _) _ = _
    simp only [World.cell?,heap_alloc_new]
    rfl
end Go.KL
namespace Go.KL
open Go.RowKit
variable {P:Program} {J:JdOf P}
def Own (σ:GW) (k:Nat) (e:TypeId) (c:Nat) (v:Value) (n:Nat) (ts:List Ty):Prop :=
  ∃ us,σ.w.ownsRow 0 e c v n us∧us.length = ts.length∧(∀ (j:Nat) (T:Ty) (u:Value),ts[j]? = some T → us[j]? = some u → T.has σ u)∧∀ g,v.ownBlock = some g → σ.st g = k
theorem ownsRow_same {w w':World} {base:Nat} {e:TypeId} {c:Nat} {v:Value} {n:Nat} {us:List Value} (h:w.ownsRow base e c v n us) (hb:∀ g,v.ownBlock = some g → w'.heap[g]? = w.heap[g]?):w'.ownsRow base e c v n us:=by
  refine ⟨h.1,?_⟩
  rcases h.2 with hn | ⟨g,cap,cur,rfl,hbg,hg,rest⟩
  · exact .inl hn
  · exact .inr ⟨g,cap,cur,rfl,hbg,by rw [hb g rfl];exact hg,rest⟩
theorem Own.keep {m k:Nat} {σ τ:GW} {e:TypeId} {c:Nat} {v:Value} {n:Nat} {ts:List Ty} (h:Own σ k e c v n ts) (hs:Stp m σ τ) (hm:m ≠ 1) (hk:m = 0 ∨ k ≠ m):Own τ k e c v n ts:=by
  obtain ⟨us,h1,h2,h3,h4⟩:=h
  have hlt:∀ g,v.ownBlock = some g → g < σ.w.heap.size:=fun g hg=>(h1.lt g hg).2
  have hq:∀ g,v.ownBlock = some g → m = 0 ∨ σ.st g ≠ m:=fun g hg=>by rw [h4 g hg];omega
  exact ⟨us,ownsRow_same h1 (fun g hg=>hs.blk g (hlt g hg) (hq g hg)),h2,fun j T u hj hu=>T.up (hs.le hm) (h3 j T u hj hu),fun g hg=>(hs.st g (hlt g hg) (hq g hg)).trans (h4 g hg)⟩
def Pr.own (k:Nat) (e:TypeId) (c n:Nat) (ts:List Ty):Pr:=⟨fun σ v=>Own σ k e c v n ts,fun hs h=>h.keep hs (by decide) (.inl rfl)⟩
theorem Own.nil (σ:GW) (k:Nat) (e:TypeId) (c:Nat):Own σ k e c (.slice none 0 0) 0 [] :=
  ⟨[],World.ownsRow_nil _ _ _ _,rfl,fun _ _ _ h=>by simp at h,fun g h=>by simp [Value.ownBlock] at h⟩
theorem Own.len {σ:GW} {k:Nat} {e:TypeId} {c:Nat} {v:Value} {n:Nat} {ts:List Ty} (h:Own σ k e c v n ts):ts.length = n * c:=by
  obtain ⟨us,h1,h2,_⟩:=h
  rw [← h2];exact h1.1
def GW.shut (σ:GW) (g:Option Nat):GW:=⟨σ.w,fun b=>if g = some b∧σ.st b ≠ 0 then 1 else σ.st b,fun b h=>σ.lt b (by
  intro e;simp [e] at h)⟩
theorem Own.seal {σ:GW} {k:Nat} {e:TypeId} {c:Nat} {v:Value} {n:Nat} {ts:List Ty} (h:Own σ k e c v n ts) (hk:2 ≤ k):∃ τ:GW,τ.w = σ.w∧Stp k σ τ∧(Ty.sl c n ts).has τ v:=by
  obtain ⟨us,h1,h2,h3,h4⟩:=h
  have hs:Stp k σ (σ.shut v.ownBlock):=⟨rfl,rfl,rfl,Dr.refl _,Nat.le_refl _,fun _ _ _=>rfl,fun b hb hm=>by
    have:σ.st b ≠ k:=by omega
    simp only [GW.shut]
    rw [if_neg]
    rintro ⟨hg,_⟩
    exact this (h4 b hg)⟩
  refine ⟨σ.shut v.ownBlock,rfl,hs,?_⟩
  have hle:=hs.le (by omega)
  rcases h1.2 with ⟨rfl,rfl⟩ | ⟨g,cap,cur,rfl,hb,hg,hn,hm,hcs,ht⟩
  · have hus:us = []:=List.eq_nil_of_length_eq_zero (by rw [h1.1];simp)
    have hts:ts = []:=List.eq_nil_of_length_eq_zero (by rw [← h2,hus];rfl)
    subst hts
    exact ⟨none,0,0,0,rfl,⟨Nat.le_refl _,by decide⟩,by simp,.inl rfl,fun j T hj=>by simp at hj⟩
  · refine ⟨some ⟨g,0,none⟩,cap,g,0,rfl,⟨hn,hm⟩,by rw [← h2];exact h1.1,.inr ⟨rfl,?_⟩,fun j T hj=>?_⟩
    · have:=h4 g rfl
      simp only [GW.shut,Value.ownBlock]
      rw [if_pos ⟨trivial,by omega⟩]
    · obtain ⟨u,hu⟩:∃ u,us[j]? = some u:=⟨us[j]'(by rw [h2];exact (List.getElem?_eq_some_iff.1 hj).1),by simp⟩
      refine ⟨u,?_,T.up hle (h3 j T u hj hu)⟩
      have:=h1.cells (g:=g) rfl j u hu
      rwa [Addr.add_lit] at this
def One (T:Ty):Prop:=∀ σ v,T.has σ v → v.oneCell' = true
theorem Jn {v:Value} (h:v.oneCell' = true):One (.val v):=fun _ u hu=>by
  have:u = v:=hu
  rw [this];exact h
theorem KG {c n:Nat} {ts:List Ty}:One (.sl c n ts):=fun _ u ⟨_,_,_,_,e,_⟩=>by rw [e];rfl
theorem KS {v:Value} (h:v.oneCell' = true):v.cells = #[v]:=by cases v <;> first | rfl | simp [Value.oneCell'] at h
theorem KE {d:Option Tmp} {ty:TypeId} {pos:String} {af:Array Edge} {g:Option (Nat × Bool)} {a:Act} {σ:GW} {x:Operand} {t e:TypeId} {T:Ty} {z:Value} {b:Nat} (ht:P.underlying t = some (.slice e)) (he:Info P e z 1 b) (hz:z.cells.size = 1) (h1:One T) (hx:At T σ a x) :
    Yld J ⟨d,.buildSlice t 1 #[(0,x)],ty,pos,af,g⟩ a σ (Ty.sl 1 1 [T]).pr:=y_build1 ht he hz hx (KS (h1 _ _ hx))
def GW.setRow (σ:GW) (g:Nat) (cs:Array Value):GW:=⟨σ.w.setRow g cs,σ.st,fun b h=>by have:=σ.lt b h;simpa [World.setRow] using this⟩
theorem Stp.setRow {σ:GW} {g k:Nat} {cs:Array Value} (hg:σ.st g = k) (hk:k ≠ 0):Stp k σ (σ.setRow g cs) :=
  ⟨rfl,rfl,rfl,Dr.refl _,by simp [GW.setRow,World.setRow],fun b _ hm=>setRow_other σ.w g b cs (by rintro rfl;omega),fun _ _ _=>rfl⟩
def GW.mk' (σ:GW) (k:Nat) (o:Obj):GW:=⟨σ.w.alloc o,fun b=>if b = σ.w.heap.size then k else σ.st b,fun b hb=>by
  by_cases e:b = σ.w.heap.size
  · subst e;simp
  · simp only [e,if_false] at hb
    have:=σ.lt b hb
    simp;omega⟩
theorem Stp.mk' (σ:GW) (k:Nat) (o:Obj):Stp 0 σ (σ.mk' k o) :=
  ⟨rfl,rfl,rfl,Dr.refl _,by simp [GW.mk'],fun b hb _=>heap_alloc_old σ.w o hb,fun b hb _=>by simp only [GW.mk'];rw [if_neg (by omega)]⟩
theorem Info.get {e:TypeId} {z:Value} {c by_:Nat} (he:Info P e z c by_):∃ i,P.info? e = some i∧i.zero = some z∧i.size = c∧i.bytes = by_:=by
  unfold Info at he
  cases hi:P.info? e with
  | none=>simp [hi] at he
  | some i=>rw [hi] at he;simp at he;exact ⟨i,rfl,he⟩
theorem Own.intro {σ:GW} {k:Nat} {e:TypeId} {c n cap g:Nat} {cur:Array Value} {us:List Value} {ts:List Ty} (hg:σ.w.heap[g]? = some (.cells cur e (0,0))) (hst:σ.st g = k) (hn:n ≤ cap) (hcap:cap ≤ maxLen) (hcur:cur.size = cap * c) (hus:cur.toList.take (n * c) = us)
    (hl:us.length = ts.length) (ht:∀ (j:Nat) (T:Ty) (u:Value),ts[j]? = some T → us[j]? = some u → T.has σ u):Own σ k e c (.slice (some ⟨g,0,none⟩) n cap) n ts :=
  ⟨us,⟨by rw [← hus,List.length_take,Array.length_toList,hcur];exact Nat.min_eq_left (Nat.mul_le_mul_right _ hn),.inr ⟨g,cap,cur,rfl,Nat.zero_le _,hg,hn,hcap,hcur,hus⟩⟩,hl,ht,fun b hb=>by simp [Value.ownBlock] at hb;subst hb;exact hst⟩
theorem typed_append {σ:GW} {ts us:List Ty} {vs ws:List Value} (hl:vs.length = ts.length) (h1:∀ (j:Nat) (T:Ty) (u:Value),ts[j]? = some T → vs[j]? = some u → T.has σ u) (h2:∀ (j:Nat) (T:Ty) (u:Value),us[j]? = some T → ws[j]? = some u → T.has σ u) :
    ∀ (j:Nat) (T:Ty) (u:Value),(ts ++ us)[j]? = some T → (vs ++ ws)[j]? = some u → T.has σ u:=by
  intro j T u hT hu
  by_cases hj:j < ts.length
  · rw [List.getElem?_append_left hj] at hT
    rw [List.getElem?_append_left (by omega)] at hu
    exact h1 j T u hT hu
  · rw [List.getElem?_append_right (by omega)] at hT
    rw [List.getElem?_append_right (by omega),hl] at hu
    exact h2 _ T u hT hu
theorem sl_news {σ:GW} {us:List Ty} {b o:Nat} (hcl:Cells σ b o us):∃ ws:List Value,ws.length = us.length∧(∀ (j:Nat) (u:Value),ws[j]? = some u → σ.w.cell? ⟨b,o + j,none⟩ = some u)∧∀ (j:Nat) (T:Ty) (u:Value),us[j]? = some T → ws[j]? = some u → T.has σ u:=by
  refine ⟨(List.range us.length).map fun j=>(σ.w.cell? ⟨b,o + j,none⟩).getD undef,by simp,fun j u hj=>?_,fun j T u hT hu=>?_⟩
  · rw [List.getElem?_map] at hj
    cases hr:(List.range us.length)[j]? with
    | none=>simp [hr] at hj
    | some x =>
      have hlt:j < us.length:=by have:=(List.getElem?_eq_some_iff.1 hr).1;simpa using this
      have hx:x = j:=by
        have:=List.getElem?_range hlt
        rw [hr] at this;exact Option.some.inj this
      subst hx
      obtain ⟨v,hv,_⟩:=hcl x us[x] (by simp [hlt])
      rw [hr] at hj;simp [hv] at hj
      rw [hv,hj]
  · have hlt:=(List.getElem?_eq_some_iff.1 hT).1
    obtain ⟨v,hv,hTv⟩:=hcl j T hT
    rw [List.getElem?_map,List.getElem?_range hlt] at hu
    simp [hv] at hu
    rw [← hu];exact hTv
theorem own_append {σ:GW} {k:Nat} {t ty e:TypeId} {z:Value} {c by_:Nat} {v src:Value} {n m:Nat} {ts us:List Ty} (hk:2 ≤ k) (ht:P.underlying t = some (.slice e)) (he:Info P e z c by_) (hz:z.cells.size = c) (hc:0 < c)
    (h:Own σ k e c v n ts) (hx:(Ty.sl c m us).has σ src) (h1:∀ U,U ∈ us → One U) (hlen:n + m ≤ 9223372036854775807) (hbytes:(n + m) * by_ ≤ 140737488355328) :
    ∃ v' τ,(Builtin.append_ #[t,t] ty #[v,src]).run P σ.w = .ok v' τ.w∧Stp k σ τ∧Own τ k e c v' (n + m) (ts ++ us):=by
  have h0:=h
  obtain ⟨vs,r1,r2,r3,r4⟩:=h
  obtain ⟨ad,cap0,b,o,rfl,hcap0,hl,hs,hcl⟩:=hx
  obtain ⟨i,hi,hi1,rfl,rfl⟩:=he.get
  obtain ⟨ws,w1,w2,w3⟩:=sl_news hcl
  have hone:∀ u ∈ ws,u.oneCell' = true:=fun u hu=>by
    obtain ⟨j,hj⟩:=List.mem_iff_getElem?.1 hu
    obtain ⟨T,hT⟩:∃ T,us[j]? = some T:=⟨us[j]'(by rw [← w1];exact (List.getElem?_eq_some_iff.1 hj).1),by simp⟩
    exact h1 T (List.mem_of_getElem? hT) σ u (w3 j T u hT hj)
  have hlw:ws.length = m * i.size:=by rw [w1];exact hl
  have hl':(vs ++ ws).length = (ts ++ us).length:=by simp [r2,w1]
  have new:∀ (old:Nat) (τw:World),old < n + m → τw = σ.w.drew.alloc (.cells (vs.toArray ++ ws.toArray ++ Builtin.zeroCells z.cells (grownCap σ.w (n + m) old e - (n + m))) e) →
      ∃ τ:GW,τ.w = τw∧Stp k σ τ∧Own τ k e i.size (.slice (some ⟨σ.w.heap.size,0,none⟩) (n + m) (grownCap σ.w (n + m) old e)) (n + m) (ts ++ us):=by
    intro old τw _ hτ
    subst hτ
    have hge:=grownCap_ge σ.w (n + m) old e
    have hcm:grownCap σ.w (n + m) old e ≤ maxLen:=grownCap_le_maxLen σ.w (n + m) old e hlen
    have hstp:Stp 0 σ (σ.drew.mk' k (.cells (vs.toArray ++ ws.toArray ++ Builtin.zeroCells z.cells (grownCap σ.w (n + m) old e - (n + m))) e)):=(Stp.drew σ).trans (Stp.mk' σ.drew k _)
    refine ⟨_,rfl,hstp.of0,Own.intro (us:=vs ++ ws) (heap_alloc_new σ.w.drew _) (by show (if _ = _ then k else _) = k;rw [if_pos];rfl) hge hcm ?_ ?_ hl' ?_⟩
    · simp only [Array.size_append,List.size_toArray,size_zeroCells,hz,r1.1,hlw,← Nat.add_mul]
      congr 1;omega
    · simp only [Array.toList_append,List.append_assoc]
      rw [← List.append_assoc,show (n + m) * i.size = (vs ++ ws).length by rw [List.length_append,r1.1,hlw,Nat.add_mul]]
      exact List.take_left
    · exact typed_append r2 (fun j T u hT hu=>T.up hstp.le0 (r3 j T u hT hu)) (fun j T u hT hu=>T.up hstp.le0 (w3 j T u hT hu))
  rcases r1.2 with ⟨rfl,rfl⟩ | ⟨g,cap,cur,rfl,_,hg,hn,hm,hcs,htk⟩
  · have hvs:vs = []:=List.eq_nil_of_length_eq_zero (by rw [r1.1];simp)
    by_cases hm0:m = 0
    · subst hm0
      have hus:us = []:=List.eq_nil_of_length_eq_zero (by rw [hl];simp)
      subst hus
      refine ⟨.slice none 0 0,σ,?_,Stp.refl _ _,by simpa using h0⟩
      cases ad <;> simp [Builtin.append_,run_underlying ht,sizeOf,typeInfo,hi,Builtin.lenOf,Builtin.firstCells,loadCells,loadCellsFrom]
    · have hus:us ≠ []:=by
        intro e;subst e
        have:0 < m * i.size:=Nat.mul_pos (by omega) hc
        simp only [List.length_nil] at hl
        omega
      obtain ⟨rfl,hst⟩:=hs.resolve_left hus
      have hr:=run_append_nil (P:=P) σ.w t ty e i z ht hi hi1 ⟨b,o,none⟩ m cap0 ws hlw (fun j u hj=>by rw [Addr.add_lit];exact w2 j u hj) (by omega) (by omega) (by simp only [Nat.zero_add] at hbytes;omega)
      obtain ⟨τ,e1,e2,e3⟩:=new 0 _ (by omega) rfl
      simp only [Nat.zero_add] at e1 e3 ⊢
      exact ⟨_,τ,by rw [hr,e1,hvs];simp,e2,e3⟩
  · have hlt:g < σ.w.heap.size:=(Array.getElem?_eq_some_iff.1 hg).1
    have hgk:=r4 g rfl
    by_cases hnone:ad = none
    · subst hnone
      have hus:us = []:=hs.resolve_right (fun h=>by cases h.1)
      have hm0:m = 0:=by
        subst hus
        rcases Nat.eq_zero_or_pos m with h | h
        · exact h
        · have:0 < m * i.size:=Nat.mul_pos h hc
          simp only [List.length_nil] at hl
          omega
      subst hm0;subst hus
      refine ⟨_,σ,?_,Stp.refl _ _,by simpa using h0⟩
      simp [Builtin.append_,run_underlying ht,sizeOf,typeInfo,hi,Builtin.lenOf,Builtin.firstCells,hn,storeCells,loadCells]
    · obtain ⟨ad',rfl⟩:=Option.ne_none_iff_exists'.1 hnone
      have hnews:∀ (j:Nat) (u:Value),ws[j]? = some u → σ.w.cell? (ad'.add j) = some u:=fun j u hj=>by
        rcases hs with rfl | ⟨he',_⟩
        · have:ws = []:=List.eq_nil_of_length_eq_zero w1
          subst this;simp at hj
        · cases he';rw [Addr.add_lit];exact w2 j u hj
      by_cases hroom:n + m ≤ cap
      · have hfit:n * i.size + ws.length ≤ cur.size:=by rw [hlw,hcs,← Nat.add_mul];exact Nat.mul_le_mul_right _ hroom
        have hr:=run_append_room (P:=P) σ.w t ty e i ht hi g n cap cur hg ad' m cap0 ws hlw hnews hone hroom hfit
        have hstp:Stp k σ (σ.setRow g (cur.toList.take (n * i.size) ++ ws ++ cur.toList.drop (n * i.size + ws.length)).toArray):=Stp.setRow hgk (by omega)
        refine ⟨_,_,hr,hstp,Own.intro (us:=vs ++ ws) (setRow_heap σ.w g cur _ e (0,0) hg) hgk hroom hm ?_ ?_ hl' ?_⟩
        · simp only [List.size_toArray,List.length_append,List.length_take,List.length_drop,Array.length_toList]
          omega
        · rw [htk,show (n + m) * i.size = (vs ++ ws).length by rw [List.length_append,r1.1,hlw,Nat.add_mul]]
          exact List.take_left
        · exact typed_append r2 (fun j T u hT hu=>T.up (hstp.le (by omega)) (r3 j T u hT hu)) (fun j T u hT hu=>T.up (hstp.le (by omega)) (w3 j T u hT hu))
      · have holds:∀ (j:Nat) (u:Value),vs[j]? = some u → σ.w.cell? ((⟨g,0,none⟩:Addr).add j) = some u:=r1.cells (g:=g) rfl
        have hr:=run_append_grow (P:=P) σ.w t ty e i z ht hi hi1 ⟨g,0,none⟩ n cap vs r1.1 holds ad' m cap0 ws hlw hnews (by omega) (by omega) (growslice_fits (by omega) hbytes)
        obtain ⟨τ,e1,e2,e3⟩:=new cap _ (by omega) rfl
        exact ⟨_,τ,by rw [hr,e1],e2,e3⟩
variable {d:Option Tmp} {ty:TypeId} {pos:String} {af:Array Edge} {g:Option (Nat × Bool)} {a:Act} {σ:GW}
theorem y_build2 {x y:Operand} {t e:TypeId} {T U:Ty} {z:Value} {b:Nat} (ht:P.underlying t = some (.slice e)) (he:Info P e z 1 b) (hz:z.cells.size = 1) (oT:One T) (oU:One U) (hx:At T σ a x) (hy:At U σ a y) :
    Yld J ⟨d,.buildSlice t 2 #[(0,x),(1,y)],ty,pos,af,g⟩ a σ (Ty.sl 1 2 [T,U]).pr:=by
  intro K Q hk
  have h1:=KS (oT _ _ hx)
  have h2:=KS (oU _ _ hy)
  have hr:(execOp a.eval ⟨d,.buildSlice t 2 #[(0,x),(1,y)],ty,pos,af,g⟩).run P σ.w = .ok (.value (.slice (some ⟨σ.w.heap.size,0,none⟩) 2 2)) (σ.w.alloc (.cells #[a.eval x,a.eval y] e)):=by
    simp only [execOp,List.map_toArray,List.map_cons,List.map_nil]
    generalize a.eval x = v at h1 ⊢
    generalize a.eval y = v' at h2 ⊢
    have hr:Array.range 2 = #[0,1]:=rfl
    simp [Instr.buildSlice,run_underlying ht,he.size,he.zero,Instr.fill,h1,h2,hz,newRow,newObj,Sem.run,Sem.run_bind,hr]
  refine JV rfl ?_
  rw [hr]
  refine ⟨by first | rfl | simp [Qo,QN,sly, *],?_⟩
  refine hk _ (σ.seal (.cells #[a.eval x,a.eval y] e)) (Stp.seal _ _) ⟨_,2,σ.w.heap.size,0,rfl,⟨Nat.le_refl _,by decide⟩,rfl,.inr ⟨rfl,by simp [GW.seal]⟩,fun j V hj=>?_⟩
  match j,hj with
  | 0,hj =>
    simp at hj;subst hj
    refine ⟨a.eval x,?_,T.up (Stp.seal _ _).le0 hx⟩
    show World.cell? (σ.w.alloc _) _ = _
    simp only [World.cell?,heap_alloc_new]
    rfl
  | 1,hj =>
    simp at hj;subst hj
    refine ⟨a.eval y,?_,U.up (Stp.seal _ _).le0 hy⟩
    show World.cell? (σ.w.alloc _) _ = _
    simp only [World.cell?,heap_alloc_new]
    rfl
theorem Kp {k:Nat} {t e:TypeId} {z:Value} {c by_:Nat} {x y:Operand} {n m:Nat} {ts us:List Ty} (ht:P.underlying t = some (.slice e)) (he:Info P e z c by_) (hk:2 ≤ k) (hz:z.cells.size = c) (hc:0 < c)
    (h:Own σ k e c (a.eval x) n ts) (hx:At (.sl c m us) σ a y) (h1:∀ U,U ∈ us → One U) (hlen:n + m ≤ 9223372036854775807) (hbytes:(n + m) * by_ ≤ 140737488355328) :
    YldM k J ⟨d,.call ⟨.builtin .append,#[x,y],#[t,t]⟩,ty,pos,af,g⟩ a σ (fun v τ=>Own τ k e c v (n + m) (ts ++ us)):=by
  intro K Q hk'
  obtain ⟨v',τ,hr,hs,ho⟩:=own_append (ty:=ty) hk ht he hz hc h hx h1 hlen hbytes
  have hr':(execOp a.eval ⟨d,.call ⟨.builtin .append,#[x,y],#[t,t]⟩,ty,pos,af,g⟩).run P σ.w = .ok (.value v') τ.w:=by
    simp only [execOp,resolve,Sem.run_bind,Sem.run_pure,Result.andThen_ok,invoke,List.map_toArray,List.map_cons,List.map_nil,builtin,hr]
  refine JV rfl ?_
  rw [hr']
  refine ⟨by first | rfl | simp [Qo,QN,sly, *],?_⟩
  exact hk' v' τ hs ho
theorem y_make {k:Nat} {t e:TypeId} {z:Value} {by_:Nat} {x y:Operand} {kx ky:IntKind} {n:Nat} {T:Ty} (ht:P.underlying t = some (.slice e)) (he:Info P e z 1 by_) (hz:z.cells = #[z]) (hT:∀ σ,T.has σ z)
    (hx:a.eval x = .int kx n) (hy:a.eval y = .int ky n) (hb:by_ * n ≤ 281474976710656) (hn:n ≤ 9223372036854775807) :
    Yld J ⟨d,.makeSlice t x y,ty,pos,af,g⟩ a σ (Pr.own k e 1 n (List.replicate n T)):=by
  obtain ⟨i,hi,hi1,hi2,rfl⟩:=he.get
  have hb':(i.bytes:Int) * (n:Int) ≤ 281474976710656:=by
    have h3:((i.bytes * n:Nat):Int) ≤ 281474976710656:=by omega
    rw [← Int.natCast_mul];exact h3
  have hr:=run_make (P:=P) σ.w t e i z ht hi hi1 kx ky n n (by omega) (Int.le_refl _) hb' (by omega)
  intro K Q hk
  have hr':(execOp a.eval ⟨d,.makeSlice t x y,ty,pos,af,g⟩).run P σ.w = .ok (.value (.slice (some ⟨σ.w.heap.size,0,none⟩) n n)) (σ.w.alloc (.cells (madeCells z.cells (n * 1)) e)):=by
    simp only [execOp,hx,hy,Sem.run_bind,hr,Result.andThen_ok,Sem.run_pure,Int.toNat_natCast,hi2]
  refine JV rfl ?_
  rw [hr']
  refine ⟨by first | rfl | simp [Qo,QN,sly, *],?_⟩
  have hl:(madeCells z.cells (n * 1)).toList = List.replicate n z:=by rw [hz,Nat.mul_one];exact toList_madeCells_one z n
  refine hk _ (σ.mk' k (.cells (madeCells z.cells (n * 1)) e)) (Stp.mk' σ k _) ?_
  refine Own.intro (us:=List.replicate n z) (heap_alloc_new σ.w _) (by show (if _ = _ then k else _) = k;rw [if_pos rfl]) (Nat.le_refl _) hn ?_ ?_ (by simp) ?_
  · rw [← Array.length_toList,hl];simp
  · rw [hl];simp
  · intro j U u hU hu
    simp only [List.getElem?_replicate] at hU hu
    split at hU
    · cases hU;rw [if_pos (by assumption)] at hu;cases hu;exact hT _
    · cases hU
theorem own_len {k:Nat} {x:Operand} {c n:Nat} {ts:List Ty} {t e e':TypeId} (ht:P.underlying t = some (.slice e)) (h:Own σ k e' c (a.eval x) n ts) :
    Yld J ⟨d,.call ⟨.builtin .len,#[x],#[t]⟩,ty,pos,af,g⟩ a σ (Ty.int n).pr:=by
  have:∃ ad cap,a.eval x = .slice ad n cap:=by
    obtain ⟨us,h1,_⟩:=h
    rcases h1.2 with ⟨e1,e2⟩ | ⟨g,cap,cur,e1,_⟩
    · exact ⟨none,0,by rw [e1,e2]⟩
    · exact ⟨_,cap,e1⟩
  obtain ⟨ad,cap,e1⟩:=this
  exact Yld.of_run (v:=.int .i64 n) (Xq e1 (fun cs=>by simp [builtin,Builtin.len_,run_underlying ht,goInt])) rfl
def JW (v:Value) (i:Nat):Value:=match v with
  | .slice (some a) _ _=>.pointer (some ⟨a.block,i,none⟩)
  | _=>undef
theorem Own.at {k:Nat} {e:TypeId} {c n:Nat} {v:Value} {ts:List Ty} (h:Own σ k e c v n ts) (hn:0 < n):∃ g cap,v = .slice (some ⟨g,0,none⟩) n cap∧σ.st g = k∧g < σ.w.heap.size:=by
  obtain ⟨us,h1,_,_,h4⟩:=h
  rcases h1.2 with ⟨_,e2⟩ | ⟨g,cap,cur,rfl,_,hg,_⟩
  · omega
  · exact ⟨g,cap,rfl,h4 g rfl,(Array.getElem?_eq_some_iff.1 hg).1⟩
theorem own_index {k:Nat} {x y:Operand} {c n:Nat} {ts:List Ty} {t e:TypeId} {z v:Value} {b:Nat} {ki:IntKind} {i:Int} (ht:P.underlying t = some (.slice e)) (he:Info P e z c b)
    (h:Own σ k e c v n ts) (hx:a.eval x = v) (hy:a.eval y = .int ki i) (h0:0 ≤ i) (h1:i < n) :
    Yld J ⟨d,.indexAddr t x y,ty,pos,af,g⟩ a σ (Ty.val (JW v (i.toNat * c))).pr:=by
  obtain ⟨g,cap,rfl,_,_⟩:=h.at (by omega)
  refine Yld.of_run (v:=.pointer (some ⟨g,i.toNat * c,none⟩)) ?_ rfl
  simp only [execOp,hx,hy]
  simp [Instr.indexAt,asIntOf,run_underlying ht,h0,h1,he.size,Addr.add_lit]
theorem QZ {k:Nat} {x:Operand} {c n i:Nat} {ts:List Ty} {T:Ty} {t e:TypeId} {v:Value} {dd:TypeDesc} (ht:P.underlying t = some dd) (hd:dd.isRow = false) (h:Own σ k e c v n ts) (hx:a.eval x = JW v i) (hT:ts[i]? = some T) :
    Yld J ⟨d,.load t x,ty,pos,af,g⟩ a σ T.pr:=by
  have hlt:=(List.getElem?_eq_some_iff.1 hT).1
  have hlen:=h.len
  have hn:0 < n:=by
    rcases Nat.eq_zero_or_pos n with h | h
    · subst h;omega
    · exact h
  obtain ⟨g,cap,rfl,_,_⟩:=h.at hn
  obtain ⟨us,r1,r2,r3,_⟩:=h
  obtain ⟨u,hu⟩:∃ u,us[i]? = some u:=⟨us[i]'(by omega),by simp⟩
  have hc:=r1.cellAt i (by omega)
  rw [hu] at hc
  refine Yld.of_run (v:=u) ?_ (r3 i T u hT hu)
  have hagg:(isAgg t).run P σ.w = .ok false σ.w:=by
    unfold isAgg
    rw [Sem.run_bind,run_underlying ht σ.w]
    cases dd <;> simp_all
  have hx':a.eval x = .pointer (some ⟨g,i,none⟩):=hx
  simp only [execOp,hx']
  simp [Instr.loadAt,Instr.sureAddr,loadVar,Sem.run_bind,hagg,load,Sem.run,hc]
theorem m_store {k:Nat} {x y:Operand} {c n i:Nat} {ts:List Ty} {T:Ty} {t e:TypeId} {z v:Value} {by_:Nat} (he:Info P t z 1 by_) (hk:2 ≤ k) (h:Own σ k e c v n ts) (hx:a.eval x = JW v i) (hi:i < ts.length) (hy:At T σ a y) (h1:One T) :
    YldM k J ⟨d,.store t x y,ty,pos,af,g⟩ a σ (fun _ τ=>Own τ k e c v n (ts.set i T)):=by
  have hlen:=h.len
  have hn:0 < n:=by
    rcases Nat.eq_zero_or_pos n with h | h
    · subst h;omega
    · exact h
  obtain ⟨g,cap,rfl,hst,hg⟩:=h.at hn
  obtain ⟨us,r1,r2,r3,r4⟩:=h
  have ho:=h1 _ _ hy
  have hc:=r1.cellAt i (by omega)
  rw [List.getElem?_eq_getElem (by omega)] at hc
  have hf:=r1.frozenAt i
  intro K Q hK
  have hx':a.eval x = .pointer (some ⟨g,i,none⟩):=hx
  have hr:(execOp a.eval ⟨d,.store t x y,ty,pos,af,‹_›⟩).run P σ.w = .ok .skip (σ.w.setCell ⟨g,i,none⟩ (a.eval y)):=by
    simp only [execOp,hx']
    have hst:(store ⟨g,i,none⟩ (a.eval y)).run P σ.w = .ok () (σ.w.setCell ⟨g,i,none⟩ (a.eval y)):=by
      rw [run_store P σ.w _ _ _ ho,hc,hf];rfl
    simp [Instr.storeAt,Instr.sureAddr,storeVar,Sem.run_bind,KS ho,he.size,storeCells,Addr.add_zero',hst]
  refine JV rfl ?_
  rw [hr]
  refine ⟨by first | rfl | simp [Qo,QN,sly, *],?_⟩
  have hstp:Stp k σ ⟨σ.w.setCell ⟨g,i,none⟩ (a.eval y),σ.st,fun b h=>by have:=σ.lt b h;simpa using this⟩ :=
    ⟨rfl,rfl,rfl,Dr.refl _,by simp,fun b hb hm=>Below.heap_setCell σ.w _ _ b (by rintro rfl;simp at hm;omega),fun _ _ _=>rfl⟩
  refine hK undef _ hstp ⟨us.set i (a.eval y),(r1.stored i (a.eval y)).1,by simp [r2],fun j U u hU hu=>?_,r4⟩
  by_cases hji:j = i
  · subst hji
    rw [List.getElem?_set_self (by omega)] at hU hu
    cases hU;cases hu
    exact T.up (hstp.le (by omega)) hy
  · rw [List.getElem?_set_ne (Ne.symm hji)] at hU hu
    exact U.up (hstp.le (by omega)) (r3 j U u hU hu)
theorem cvo {k:Nat} {e:TypeId} {c n n':Nat} {ts us:List Ty} {σ:GW} {v:Value} (h1:n = n') (h2:ts = us) (h:(Pr.own k e c n ts).has σ v):(Pr.own k e c n' us).has σ v:=h1 ▸ h2 ▸ h
theorem kpm {m:Nat} {T:Ty} {σ σ':GW} {a a':Act} {x:Operand} (hs:Stp m σ σ') (hm:m ≠ 1) (e:a'.eval x = a.eval x) (h:T.has σ (a.eval x)):T.has σ' (a'.eval x):=by rw [e];exact T.up (hs.le hm) h
theorem kpmo {m k:Nat} {e':TypeId} {c n:Nat} {ts:List Ty} {σ σ':GW} {a a':Act} {x:Operand} (hs:Stp m σ σ') (hm:m ≠ 1) (hk:m = 0 ∨ k ≠ m) (e:a'.eval x = a.eval x) (h:Own σ k e' c (a.eval x) n ts):Own σ' k e' c (a'.eval x) n ts:=by rw [e];exact h.keep hs hm hk
theorem al {R:Pr} {σ:GW} {v w:Value} (e:v = w) (h:R.has σ w):R.has σ v:=e ▸ h
def OwnP (σ:GW) (k:Nat) (v:Value) (ts:List Ty):Prop :=
  ∃ g e cur,v = .pointer (some ⟨g,0,none⟩)∧σ.st g = k∧σ.w.heap[g]? = some (.cells cur e (0,0))∧cur.size = ts.length∧∀ (j:Nat) (T:Ty) (u:Value),ts[j]? = some T → cur[j]? = some u → T.has σ u
theorem OwnP.keep {m k:Nat} {σ τ:GW} {v:Value} {ts:List Ty} (h:OwnP σ k v ts) (hs:Stp m σ τ) (hm:m ≠ 1) (hk:m = 0 ∨ k ≠ m):OwnP τ k v ts:=by
  obtain ⟨g,e,cur,h1,h2,h3,h4,h5⟩:=h
  have hlt:=(Array.getElem?_eq_some_iff.1 h3).1
  have hq:m = 0 ∨ σ.st g ≠ m:=by rw [h2];omega
  exact ⟨g,e,cur,h1,(hs.st g hlt hq).trans h2,(hs.blk g hlt hq).trans h3,h4,fun j T u hj hu=>T.up (hs.le hm) (h5 j T u hj hu)⟩
def Pr.ownp (k:Nat) (ts:List Ty):Pr:=⟨fun σ v=>OwnP σ k v ts,fun hs h=>h.keep hs (by decide) (.inl rfl)⟩
theorem OwnP.seal {σ:GW} {k:Nat} {v:Value} {ts:List Ty} (h:OwnP σ k v ts) (hk:2 ≤ k):∃ τ:GW,τ.w = σ.w∧Stp k σ τ∧(Ty.ref ts).has τ v:=by
  obtain ⟨g,e,cur,rfl,h2,h3,h4,h5⟩:=h
  have hs:Stp k σ (σ.shut (some g)):=⟨rfl,rfl,rfl,Dr.refl _,Nat.le_refl _,fun _ _ _=>rfl,fun b hb hm=>by
    have:σ.st b ≠ k:=by omega
    simp only [GW.shut]
    rw [if_neg]
    rintro ⟨hg,_⟩
    cases hg
    exact this h2⟩
  refine ⟨σ.shut (some g),rfl,hs,g,0,rfl,?_,fun j T hj=>?_⟩
  · simp only [GW.shut];rw [if_pos ⟨trivial,by omega⟩]
  · have hlt:j < cur.size:=by rw [h4];exact (List.getElem?_eq_some_iff.1 hj).1
    refine ⟨cur[j],?_,T.up (hs.le (by omega)) (h5 j T _ hj (by simp [hlt]))⟩
    have h3':(σ.shut (some g)).w.heap[g]? = some (.cells cur e (0,0)):=h3
    simp [World.cell?,h3',hlt]
theorem Xo {k:Nat} {e:TypeId} {z:Value} {c b:Nat} {ts:List Ty} (he:Info P e z c b) (hl:ts.length = z.cells.size) (hT:∀ (j:Nat) (T:Ty) (u:Value),ts[j]? = some T → z.cells[j]? = some u → ∀ σ,T.has σ u) :
    Yld J ⟨d,.alloc e,ty,pos,af,g⟩ a σ (Pr.ownp k ts):=by
  intro K Q hk
  have hr':(execOp a.eval ⟨d,.alloc e,ty,pos,af,g⟩).run P σ.w = .ok (.value (.pointer (some ⟨σ.w.heap.size,0,none⟩))) (σ.w.alloc (.cells z.cells e)):=by
    simp only [execOp]
    simp [Instr.alloc,he.zero,newVar,newRow,newObj,Sem.run,Sem.run_bind]
  refine JV rfl ?_
  rw [hr']
  refine ⟨by first | rfl | simp [Qo,QN,sly, *],?_⟩
  exact hk _ (σ.mk' k (.cells z.cells e)) (Stp.mk' σ k _) ⟨σ.w.heap.size,e,z.cells,rfl,by show (if _ = _ then k else _) = k;rw [if_pos rfl],heap_alloc_new σ.w _,hl.symm,fun j T u hj hu=>hT j T u hj hu _⟩
def Kd (v:Value) (i:Nat):Value:=match v with
  | .pointer (some a)=>.pointer (some ⟨a.block,i,none⟩)
  | _=>undef
theorem Jq {k:Nat} {x:Operand} {i:Nat} {ts:List Ty} {T:Ty} {t:TypeId} {v:Value} {dd:TypeDesc} (ht:P.underlying t = some dd) (hd:dd.isRow = false) (h:OwnP σ k v ts) (hx:a.eval x = Kd v i) (hT:ts[i]? = some T) :
    Yld J ⟨d,.load t x,ty,pos,af,g⟩ a σ T.pr:=by
  obtain ⟨gg,e',cur,rfl,h2,h3,h4,h5⟩:=h
  have hlt:i < cur.size:=by rw [h4];exact (List.getElem?_eq_some_iff.1 hT).1
  refine Yld.of_run (v:=cur[i]) ?_ (h5 i T _ hT (by simp [hlt]))
  have hagg:(isAgg t).run P σ.w = .ok false σ.w:=by
    unfold isAgg
    rw [Sem.run_bind,run_underlying ht σ.w]
    cases dd <;> simp_all
  have hx':a.eval x = .pointer (some ⟨gg,i,none⟩):=hx
  have hc:σ.w.cell? ⟨gg,i,none⟩ = some cur[i]:=by simp [World.cell?,h3,hlt]
  simp only [execOp,hx']
  simp [Instr.loadAt,Instr.sureAddr,loadVar,Sem.run_bind,hagg,load,Sem.run,hc]
theorem m_storep {k:Nat} {x y:Operand} {i:Nat} {ts:List Ty} {T:Ty} {t:TypeId} {z v:Value} {by_:Nat} (he:Info P t z 1 by_) (hk:2 ≤ k) (h:OwnP σ k v ts) (hx:a.eval x = Kd v i) (hi:i < ts.length) (hy:At T σ a y) (h1:One T) :
    YldM k J ⟨d,.store t x y,ty,pos,af,g⟩ a σ (fun _ τ=>OwnP τ k v (ts.set i T)):=by
  obtain ⟨gg,e',cur,rfl,h2,h3,h4,h5⟩:=h
  have ho:=h1 _ _ hy
  have hlt:i < cur.size:=by omega
  have hg:=(Array.getElem?_eq_some_iff.1 h3).1
  have hc:σ.w.cell? ⟨gg,i,none⟩ = some cur[i]:=by simp [World.cell?,h3,hlt]
  have hf:σ.w.frozen? ⟨gg,i,none⟩ = false:=by simp [World.frozen?,h3]
  have hx':a.eval x = .pointer (some ⟨gg,i,none⟩):=hx
  intro K Q hK
  have hr:(execOp a.eval ⟨d,.store t x y,ty,pos,af,g⟩).run P σ.w = .ok .skip (σ.w.setCell ⟨gg,i,none⟩ (a.eval y)):=by
    simp only [execOp,hx']
    have hst:(store ⟨gg,i,none⟩ (a.eval y)).run P σ.w = .ok () (σ.w.setCell ⟨gg,i,none⟩ (a.eval y)):=by
      rw [run_store P σ.w _ _ _ ho,hc,hf];rfl
    simp [Instr.storeAt,Instr.sureAddr,storeVar,Sem.run_bind,KS ho,he.size,storeCells,Addr.add_zero',hst]
  refine JV rfl ?_
  rw [hr]
  refine ⟨by first | rfl | simp [Qo,QN,sly, *],?_⟩
  have hstp:Stp k σ ⟨σ.w.setCell ⟨gg,i,none⟩ (a.eval y),σ.st,fun b h=>by have:=σ.lt b h;simpa using this⟩ :=
    ⟨rfl,rfl,rfl,Dr.refl _,by simp,fun b hb hm=>Below.heap_setCell σ.w _ _ b (by rintro rfl;simp at hm;omega),fun _ _ _=>rfl⟩
  have hh:(σ.w.setCell ⟨gg,i,none⟩ (a.eval y)).heap[gg]? = some (.cells (cur.setIfInBounds i (a.eval y)) e' (0,0)):=by
    unfold World.setCell
    rw [Array.getElem?_modify,if_pos rfl,h3]
    rfl
  refine hK undef _ hstp ⟨gg,e',_,rfl,h2,hh,by simp [h4],fun j U u hU hu=>?_⟩
  by_cases hji:j = i
  · subst hji
    rw [List.getElem?_set_self (by omega)] at hU
    rw [Array.getElem?_setIfInBounds_self_of_lt hlt] at hu
    cases hU;cases hu
    exact T.up (hstp.le (by omega)) hy
  · rw [List.getElem?_set_ne (Ne.symm hji)] at hU
    rw [Array.getElem?_setIfInBounds_ne (Ne.symm hji)] at hu
    exact U.up (hstp.le (by omega)) (h5 j U u hU hu)
theorem cells_drop {σ:GW} {b o:Nat} {ts:List Ty} (h:Cells σ b o ts) (l n:Nat):Cells σ b (o + l) ((ts.drop l).take n):=by
  intro j T hj
  rw [List.getElem?_take] at hj
  split at hj
  · rw [List.getElem?_drop] at hj
    have:=h (l + j) T hj
    rwa [← Nat.add_assoc] at this
  · cases hj
theorem sl_cut {σ:GW} {c n l h:Nat} {ts:List Ty} {ad:Option Addr} {cap:Nat} (hv:(Ty.sl c n ts).has σ (.slice ad n cap)) (h1:l ≤ h) (h2:h ≤ n):(Ty.sl c (h - l) ((ts.drop (l * c)).take ((h - l) * c))).has σ (sliced ad l h cap c):=by
  obtain ⟨ad',cap',b,o,e1,⟨hn,hcap⟩,hl,hs,hc⟩:=hv
  cases e1
  have hlc:(h - l) * c ≤ ts.length - l * c:=by rw [hl,← Nat.sub_mul];exact Nat.mul_le_mul_right _ (by omega)
  refine ⟨if cap = l then ad else ad.map (·.add (l * c)),cap - l,b,o + l * c,rfl,⟨by omega,by omega⟩,by rw [List.length_take,List.length_drop];omega,?_,cells_drop hc _ _⟩
  by_cases he:(ts.drop (l * c)).take ((h - l) * c) = []
  · exact .inl he
  · have hne:ts ≠ []:=by rintro rfl;simp at he
    obtain ⟨rfl,hst⟩:=hs.resolve_left hne
    refine .inr ⟨?_,hst⟩
    by_cases hcl:cap = l
    · have:h - l = 0:=by omega
      rw [this] at he;simp at he
    · simp [hcl,Addr.add_lit]
theorem elem_of {t e:TypeId} (ht:P.underlying t = some (.slice e)):P.underlying t = some (.slice (P.elem t)):=by
  rw [ht];simp [Program.elem,ht]
theorem elem_eq {t e:TypeId} (ht:P.underlying t = some (.slice e)):P.elem t = e:=by
  simp [Program.elem,ht]
theorem y_cut_l {x y:Operand} {c n:Nat} {ts:List Ty} {t e:TypeId} {z:Value} {b:Nat} {k:IntKind} {l:Nat} (ht:P.underlying t = some (.slice e)) (he:Info P e z c b) (hx:At (.sl c n ts) σ a x) (hy:a.eval y = .int k l) (hl:l ≤ n) :
    Yld J ⟨d,.slice t x (some y) none none,ty,pos,af,g⟩ a σ (Ty.sl c (n - l) ((ts.drop (l * c)).take ((n - l) * c))).pr:=by
  have hx0:=hx
  obtain ⟨ad,cap,b',o,e1,⟨hn,hcap⟩,_⟩:=hx
  have hx1:(Ty.sl c n ts).has σ (.slice ad n cap):=by rw [← e1];exact hx0
  refine Yld.of_run (v:=sliced ad l n cap c) ?_ (sl_cut hx1 hl (Nat.le_refl _))
  have h1:=run_slice_l (P:=P) σ.w t ad n cap (elem_of ht) k (l:Int) (by omega) (by omega)
  rw [elem_eq ht,he.size] at h1
  simp only [execOp,e1,hy,Option.map_some,Option.map_none,Sem.run_bind,run_sliceAt_slice σ.w t _ _ _ _ (elem_of ht),h1,Result.andThen_ok,Sem.run_pure,Int.toNat_natCast]
theorem y_cut_h {x y:Operand} {c n:Nat} {ts:List Ty} {t e:TypeId} {z:Value} {b:Nat} {k:IntKind} {h:Nat} (ht:P.underlying t = some (.slice e)) (he:Info P e z c b) (hx:At (.sl c n ts) σ a x) (hy:a.eval y = .int k h) (hl:h ≤ n) :
    Yld J ⟨d,.slice t x none (some y) none,ty,pos,af,g⟩ a σ (Ty.sl c h (ts.take (h * c))).pr:=by
  have hx0:=hx
  obtain ⟨ad,cap,b',o,e1,⟨hn,hcap⟩,_⟩:=hx
  have hx1:(Ty.sl c n ts).has σ (.slice ad n cap):=by rw [← e1];exact hx0
  have hv:=sl_cut hx1 (Nat.zero_le h) hl
  simp only [Nat.zero_mul,List.drop_zero,Nat.sub_zero] at hv
  refine Yld.of_run (v:=sliced ad 0 h cap c) ?_ hv
  have h1:=run_slice_h (P:=P) σ.w t ad n cap (elem_of ht) k (h:Int) (by omega) (by omega)
  rw [elem_eq ht,he.size] at h1
  simp only [execOp,e1,hy,Option.map_some,Option.map_none,Sem.run_bind,run_sliceAt_slice σ.w t _ _ _ _ (elem_of ht),h1,Result.andThen_ok,Sem.run_pure,Int.toNat_natCast]
theorem lst_drop {α:Type} {f:α → Ty} {xs:List α} {l:Nat} {σ:GW} {v:Value} (h:(Ty.sl 1 (xs.length - l) (((xs.map f).drop (l * 1)).take ((xs.length - l) * 1))).has σ v):(Ty.lst f (xs.drop l)).has σ v:=by
  rw [Nat.mul_one,Nat.mul_one,← List.map_drop,← List.map_take,List.take_of_length_le (by simp)] at h
  simpa [Ty.lst] using h
theorem lst_take {α:Type} {f:α → Ty} {xs:List α} {l:Nat} {σ:GW} {v:Value} (hl:l ≤ xs.length) (h:(Ty.sl 1 l ((xs.map f).take (l * 1))).has σ v):(Ty.lst f (xs.take l)).has σ v:=by
  rw [Nat.mul_one,← List.map_take] at h
  simpa [Ty.lst,Nat.min_eq_left hl] using h
theorem Yld.mono {o:Oper} {R R':Pr} (h:Yld J o a σ R) (hr:∀ τ v,R.has τ v → R'.has τ v):Yld J o a σ R':=fun K Q hk=>h K Q fun v τ hs hv=>hk v τ hs (hr τ v hv)
theorem y_drop {α:Type} {f:α → Ty} {xs:List α} {x y:Operand} {t e:TypeId} {z:Value} {b:Nat} {k:IntKind} {l:Nat} (ht:P.underlying t = some (.slice e)) (he:Info P e z 1 b) (hx:At (.lst f xs) σ a x) (hy:a.eval y = .int k l) (hl:l ≤ xs.length) :
    Yld J ⟨d,.slice t x (some y) none none,ty,pos,af,g⟩ a σ (Ty.lst f (xs.drop l)).pr:=(y_cut_l ht he hx hy hl).mono fun _ _ h=>lst_drop h
theorem y_take {α:Type} {f:α → Ty} {xs:List α} {x y:Operand} {t e:TypeId} {z:Value} {b:Nat} {k:IntKind} {l:Nat} (ht:P.underlying t = some (.slice e)) (he:Info P e z 1 b) (hx:At (.lst f xs) σ a x) (hy:a.eval y = .int k l) (hl:l ≤ xs.length) :
    Yld J ⟨d,.slice t x none (some y) none,ty,pos,af,g⟩ a σ (Ty.lst f (xs.take l)).pr:=(y_cut_h ht he hx hy hl).mono fun _ _ h=>lst_take hl h
theorem toN {σ:GW} {v:Value} {k:IntKind} {i:Int} {n:Nat} (h:(Ty.val (.int k i)).has σ v) (e:i = n):v = .int k n:=by
  have h':v = .int k i:=h
  rw [h',e]
theorem cvop {k:Nat} {ts us:List Ty} {σ:GW} {v:Value} (h2:ts = us) (h:OwnP σ k v ts):OwnP σ k v us:=h2 ▸ h
theorem sl_nil {c:Nat} {σ:GW}:(Ty.sl c 0 []).has σ (.slice none 0 0):=⟨none,0,0,0,rfl,⟨Nat.le_refl _,by decide⟩,by simp,.inl rfl,fun j T hj=>by simp at hj⟩
theorem Kr {k:Nat} {x y:Operand} {n:Nat} {ts:List Ty} {t e:TypeId} {z v:Value} {b:Nat} {ki:IntKind} {i:Int} (ht:P.underlying t = some (.slice e)) (he:Info P e z 1 b)
    (h:Own σ k e 1 v n ts) (hx:a.eval x = v) (hy:a.eval y = .int ki i) (h0:0 ≤ i) (h1:i < n) :
    Yld J ⟨d,.indexAddr t x y,ty,pos,af,g⟩ a σ (Ty.val (JW v i.toNat)).pr:=by
  have:=own_index (J:=J) (d:=d) (ty:=ty) (pos:=pos) (af:=af) (g:=g) ht he h hx hy h0 h1
  rwa [Nat.mul_one] at this
theorem nil_lst {α:Type} {f:α → Ty} {xs:List α} {σ:GW} {v:Value} (e:xs = []) (h:(Ty.val (.slice none 0 0)).has σ v):(Ty.lst f xs).has σ v:=by
  subst e
  have h':v = .slice none 0 0:=h
  rw [h'];exact sl_nil
theorem y_lit0 {k:Nat} {t e:TypeId} {z:Value} {b:Nat} (ht:P.underlying t = some (.slice e)) (he:Info P e z 1 b) :
    Yld J ⟨d,.buildSlice t 0 #[],ty,pos,af,g⟩ a σ (Pr.own k e 1 0 []):=by
  intro K Q hk
  have hr:(execOp a.eval ⟨d,.buildSlice t 0 #[],ty,pos,af,g⟩).run P σ.w = .ok (.value (.slice (some ⟨σ.w.heap.size,0,none⟩) 0 0)) (σ.w.alloc (.cells #[] e)):=by
    simp only [execOp,List.map_toArray,List.map_nil]
    simp [Instr.buildSlice,run_underlying ht,he.size,Instr.fill,newRow,newObj,Sem.run,Sem.run_bind,Array.range_zero']
  refine JV rfl ?_
  rw [hr]
  refine ⟨by first | rfl | simp [Qo,QN,sly, *],?_⟩
  exact hk _ (σ.mk' k (.cells #[] e)) (Stp.mk' σ k _) (Own.intro (us:=[]) (heap_alloc_new σ.w _) (by show (if _ = _ then k else _) = k;rw [if_pos rfl]) (Nat.le_refl _) (Nat.zero_le _) rfl rfl rfl (fun j T u h=>by simp at h))
theorem y_lit1 {k:Nat} {x:Operand} {t e:TypeId} {T:Ty} {z:Value} {b:Nat} (ht:P.underlying t = some (.slice e)) (he:Info P e z 1 b) (hz:z.cells.size = 1) (hone:One T) (hx:At T σ a x) :
    Yld J ⟨d,.buildSlice t 1 #[(0,x)],ty,pos,af,g⟩ a σ (Pr.own k e 1 1 [T]):=by
  have h1:=KS (hone _ _ hx)
  intro K Q hk
  have hr:(execOp a.eval ⟨d,.buildSlice t 1 #[(0,x)],ty,pos,af,g⟩).run P σ.w = .ok (.value (.slice (some ⟨σ.w.heap.size,0,none⟩) 1 1)) (σ.w.alloc (.cells #[a.eval x] e)):=by
    simp only [execOp,List.map_toArray,List.map_cons,List.map_nil]
    generalize a.eval x = v at h1 ⊢
    have hr:Array.range 1 = #[0]:=rfl
    simp [Instr.buildSlice,run_underlying ht,he.size,he.zero,Instr.fill,h1,hz,newRow,newObj,Sem.run,Sem.run_bind,hr]
  refine JV rfl ?_
  rw [hr]
  refine ⟨by first | rfl | simp [Qo,QN,sly, *],?_⟩
  refine hk _ (σ.mk' k (.cells #[a.eval x] e)) (Stp.mk' σ k _) (Own.intro (us:=[a.eval x]) (heap_alloc_new σ.w _) (by show (if _ = _ then k else _) = k;rw [if_pos rfl]) (Nat.le_refl _) (by decide) rfl rfl rfl (fun j U u hU hu=>?_))
  match j,hU,hu with
  | 0,hU,hu=>simp at hU hu;subst hU;subst hu;exact T.up (Stp.mk' σ k _).le0 hx
end Go.KL
namespace Go.KL
open Go.RowKit
variable {P:Program} {J:JdOf P}
def Ty.agg (ts:List Ty):Ty where
  has σ v:=∃ cs:Array Value,v = .agg cs∧cs.size = ts.length∧∀ (j:Nat) (T:Ty) (u:Value),ts[j]? = some T → cs[j]? = some u → T.has σ u
  up h:=by
    rintro ⟨cs,e,hl,hc⟩
    exact ⟨cs,e,hl,fun j T u hj hu=>T.up h (hc j T u hj hu)⟩
def KR (P:Program) (t:TypeId) (f:Nat):Option (TypeId × Nat) :=
  match P.underlying t with
  | some (.struct fs)=>(fs[f]?).map fun x=>(x.type,x.offset)
  | _=>none
theorem fieldOf_iff {t:TypeId} {f off:Nat} {ft:TypeId} (h:KR P t f = some (ft,off)):∃ fs x,P.underlying t = some (.struct fs)∧fs[f]? = some x∧x.type = ft∧x.offset = off:=by
  unfold KR at h
  split at h
  · rename_i fs hu
    cases hx:fs[f]? with
    | none=>rw [hx] at h;simp at h
    | some x=>rw [hx] at h;simp at h;exact ⟨fs,x,hu,hx,h.1,h.2⟩
  · cases h
variable {d:Option Tmp} {ty:TypeId} {pos:String} {af:Array Edge} {g:Option (Nat × Bool)} {a:Act} {σ:GW}
theorem run_fieldAt {t ft:TypeId} {f off b o c by_:Nat} {z:Value} (hf:KR P t f = some (ft,off)) (he:Info P ft z c by_) (hc:0 < c) (w:World) :
    (Instr.fieldAt t (.pointer (some ⟨b,o,none⟩)) f).run P w = .ok (.pointer (some ⟨b,o + off,none⟩)) w:=by
  obtain ⟨fs,x,hu,hx,rfl,rfl⟩:=fieldOf_iff hf
  have hz:(sizeOf x.type).run P w = .ok c w:=he.size w
  simp [Instr.fieldAt,Sem.run_bind,run_underlying hu,hx,Instr.sureAddr,fieldPlace,he.size,show c ≠ 0 by omega,Addr.add_lit]
theorem JG {x:Operand} {ts us:List Ty} {t ft:TypeId} {f off c by_:Nat} {z:Value} (hf:KR P t f = some (ft,off)) (he:Info P ft z c by_) (hc:0 < c) (hx:At (.ref ts) σ a x) (hu:ts.drop off = us) :
    Yld J ⟨d,.fieldAddr t x f,ty,pos,af,g⟩ a σ (Ty.ref us).pr:=by
  subst hu
  obtain ⟨b,o,e1,hst,hcl⟩:=hx
  refine Yld.of_run (v:=.pointer (some ⟨b,o + off,none⟩)) ?_ ⟨b,o + off,rfl,hst,fun j T hj=>?_⟩
  · simp only [execOp,e1]
    simp [run_fieldAt hf he hc]
  · rw [List.getElem?_drop] at hj
    rw [Nat.add_assoc];exact hcl _ T hj
theorem Jp {k:Nat} {x:Operand} {ts:List Ty} {t ft:TypeId} {f off c by_:Nat} {z v:Value} (hf:KR P t f = some (ft,off)) (he:Info P ft z c by_) (hc:0 < c) (h:OwnP σ k v ts) (hx:a.eval x = v) :
    Yld J ⟨d,.fieldAddr t x f,ty,pos,af,g⟩ a σ (Ty.val (Kd v off)).pr:=by
  obtain ⟨gg,e',cur,rfl,_⟩:=h
  refine Yld.of_run (v:=.pointer (some ⟨gg,off,none⟩)) ?_ rfl
  simp only [execOp,hx]
  have:=run_fieldAt (o:=0) (b:=gg) hf he hc σ.w
  rw [Nat.zero_add] at this
  simp [this]
theorem run_loadCellsFrom {w:World} {ad:Addr}:∀ (us:List Value) (i:Nat) (acc:Array Value),(∀ j u,us[j]? = some u → w.cell? (ad.add (i + j)) = some u) →
    (loadCellsFrom ad i us.length acc).run P w = .ok (acc ++ us.toArray) w
  | [],i,acc,_=>by simp [loadCellsFrom]
  | u :: us,i,acc,h=>by
    have h0:w.cell? (ad.add i) = some u:=h 0 u rfl
    have hl:(load (ad.add i)).run P w = .ok u w:=by simp [load,Sem.run,h0]
    have ih:=run_loadCellsFrom us (i + 1) (acc.push u) (fun j v hj=>by rw [show i + 1 + j = i + (j + 1) by omega];exact h (j + 1) v hj)
    simp only [List.length_cons,loadCellsFrom,Sem.run_bind,hl,Result.andThen_ok,ih]
    simp
theorem run_loadVar {t:TypeId} {fs:Array Field} {z:Value} {c by_:Nat} (ht:P.underlying t = some (.struct fs)) (he:Info P t z c by_) {w:World} {ad:Addr} {us:List Value} (hl:us.length = c) (h:∀ j u,us[j]? = some u → w.cell? (ad.add j) = some u) :
    (loadVar t ad).run P w = .ok (.agg us.toArray) w:=by
  have hagg:(isAgg t).run P w = .ok true w:=by
    unfold isAgg
    rw [Sem.run_bind,run_underlying ht w]
    simp
  have hc:=run_loadCellsFrom (P:=P) us 0 #[] (fun j u hj=>by rw [Nat.zero_add];exact h j u hj)
  rw [hl] at hc
  simp [loadVar,Sem.run_bind,hagg,he.size,loadCells,hc]
theorem Qd {x:Operand} {ts:List Ty} {t:TypeId} {fs:Array Field} {z:Value} {by_:Nat} (ht:P.underlying t = some (.struct fs)) (he:Info P t z ts.length by_) (hx:At (.ref ts) σ a x) :
    Yld J ⟨d,.load t x,ty,pos,af,g⟩ a σ (Ty.agg ts).pr:=by
  obtain ⟨b,o,e1,hst,hc⟩:=hx
  let us:List Value:=(List.range ts.length).map fun j=>(σ.w.cell? ⟨b,o + j,none⟩).getD undef
  have hu:∀ j T,ts[j]? = some T → us[j]? = σ.w.cell? ⟨b,o + j,none⟩∧∃ u,us[j]? = some u∧T.has σ u:=fun j T hj=>by
    obtain ⟨u,hu,hT⟩:=hc j T hj
    have hlt:=(List.getElem?_eq_some_iff.1 hj).1
    have:us[j]? = some u:=by simp [us,hlt,hu]
    exact ⟨by rw [this,hu],u,this,hT⟩
  have hl:us.length = ts.length:=by simp [us]
  refine Yld.of_run (v:=.agg us.toArray) ?_ ⟨us.toArray,rfl,by simp [hl],fun j T u hj hu'=>?_⟩
  · simp only [execOp,e1]
    have:=run_loadVar (P:=P) ht he (w:=σ.w) (ad:=⟨b,o,none⟩) hl (fun j u hj=>by
      have hlt:=(List.getElem?_eq_some_iff.1 hj).1
      have hT:ts[j]? = some ts[j]:=by simp [show j < ts.length by omega]
      rw [Addr.add_lit,← (hu j _ hT).1];exact hj)
    simp [Instr.loadAt,Instr.sureAddr,this]
  · obtain ⟨_,u',e,hT⟩:=hu j T hj
    simp at hu'
    rw [hu'] at e
    cases e;exact hT
theorem Qm {k:Nat} {x:Operand} {ts:List Ty} {t:TypeId} {fs:Array Field} {z v:Value} {by_:Nat} (ht:P.underlying t = some (.struct fs)) (he:Info P t z ts.length by_) (h:OwnP σ k v ts) (hx:a.eval x = v) :
    Yld J ⟨d,.load t x,ty,pos,af,g⟩ a σ (Ty.agg ts).pr:=by
  obtain ⟨gg,e',cur,rfl,h2,h3,h4,h5⟩:=h
  refine Yld.of_run (v:=.agg cur) ?_ ⟨cur,rfl,h4,h5⟩
  simp only [execOp,hx]
  have:=run_loadVar (P:=P) ht he (w:=σ.w) (ad:=⟨gg,0,none⟩) (us:=cur.toList) (by simp [h4]) (fun j u hj=>by
    rw [Addr.add_lit,Nat.zero_add]
    simp at hj
    simp [World.cell?,h3,hj])
  simp [Instr.loadAt,Instr.sureAddr,this]
theorem run_box {t:TypeId} {v:Value} (w:World):(Instr.box t v).run P w = .ok (.pointer (some ⟨w.heap.size,0,none⟩)) (w.alloc (.cells v.cells t)):=by
  simp [Instr.box,newVar,newRow,newObj,Sem.run]
theorem QC {x:Operand} {ts:List Ty} {t:TypeId} (hx:At (.agg ts) σ a x):Yld J ⟨d,.box t x,ty,pos,af,g⟩ a σ (Ty.ref ts).pr:=by
  intro K Q hk
  obtain ⟨cs,e1,hl,hc⟩:=hx
  have hr:(execOp a.eval ⟨d,.box t x,ty,pos,af,g⟩).run P σ.w = .ok (.value (.pointer (some ⟨σ.w.heap.size,0,none⟩))) (σ.w.alloc (.cells cs t)):=by
    simp only [execOp,e1]
    simp [run_box,Value.cells]
  refine JV rfl ?_
  rw [hr]
  refine ⟨by first | rfl | simp [Qo,QN,sly, *],?_⟩
  refine hk _ (σ.seal (.cells cs t)) (Stp.seal _ _) ⟨σ.w.heap.size,0,rfl,by simp [GW.seal],fun j T hj=>?_⟩
  have hlt:=(List.getElem?_eq_some_iff.1 hj).1
  refine ⟨cs[j]'(by omega),?_,T.up (Stp.seal _ _).le0 (hc j T _ hj (by simp [show j < cs.size by omega]))⟩
  show World.cell? (σ.w.alloc _) _ = _
  simp only [World.cell?,heap_alloc_new]
  simp [show j < cs.size by omega]
theorem y_boxo (k:Nat) {x:Operand} {ts:List Ty} {t:TypeId} (hx:At (.agg ts) σ a x):Yld J ⟨d,.box t x,ty,pos,af,g⟩ a σ (Pr.ownp k ts):=by
  intro K Q hk
  obtain ⟨cs,e1,hl,hc⟩:=hx
  have hr:(execOp a.eval ⟨d,.box t x,ty,pos,af,g⟩).run P σ.w = .ok (.value (.pointer (some ⟨σ.w.heap.size,0,none⟩))) (σ.w.alloc (.cells cs t)):=by
    simp only [execOp,e1]
    simp [run_box,Value.cells]
  refine JV rfl ?_
  rw [hr]
  refine ⟨by first | rfl | simp [Qo,QN,sly, *],?_⟩
  exact hk _ (σ.mk' k (.cells cs t)) (Stp.mk' σ k _) ⟨σ.w.heap.size,t,cs,rfl,by show (if _ = _ then k else _) = k;rw [if_pos rfl],heap_alloc_new σ.w _,hl,fun j T u hj hu=>T.up (Stp.mk' σ k _).le0 (hc j T u hj hu)⟩
def placesOk (P:Program) (t:TypeId) (l:List (Nat × Nat)):Bool :=
  match P.underlying t with
  | some (.struct fs)=>(fs.toList.map fun f=>(P.info? f.type).map fun i=>(f.offset,i.size)) == l.map some
  | _=>false
theorem run_mapM {α β:Type} {w:World} (f:α → Sem β):∀ (xs:List α) (ys:List β),xs.length = ys.length → (∀ (j:Nat) x y,xs[j]? = some x → ys[j]? = some y → (f x).run P w = .ok y w) → (xs.mapM f).run P w = .ok ys w
  | [],[],_,_=>by simp
  | x :: xs,y :: ys,hl,h=>by
    have h0:=h 0 x y rfl rfl
    have ih:=run_mapM f xs ys (by simpa using hl) (fun j x' y' hx hy=>h (j + 1) x' y' hx hy)
    rw [List.mapM_cons]
    simp [Sem.run_bind,h0,ih]
  | [],_ :: _,hl,_=>by simp at hl
  | _ :: _,[],hl,_=>by simp at hl
theorem run_build {t:TypeId} {l:List (Nat × Nat)} {z:Value} {c by_:Nat} {parts:Array (Nat × Value)} {cells:Array Value} (hp:placesOk P t l = true) (he:Info P t z c by_) (hf:Instr.fill (fun i=>l[i]?) z.cells parts.toList = some cells) (w:World) :
    (Instr.build t parts).run P w = .ok (.agg cells) w:=by
  unfold placesOk at hp
  split at hp
  · rename_i fs hu
    have hq:(fs.mapM fun (f:Field)=>do pure (f.offset,← sizeOf f.type)).run P w = .ok l.toArray w:=by
      rw [Array.mapM_eq_mapM_toList]
      have hp:=LawfulBEq.eq_of_beq hp
      have:=run_mapM (P:=P) (w:=w) (fun f:Field=>do pure (f.offset,← sizeOf f.type)) fs.toList l (by simpa using congrArg List.length hp) (fun j x y hx hy=>by
        have e:=congrArg (fun q=>q[j]?) hp
        simp only [List.getElem?_map,hx,hy,Option.map_some,Option.some.injEq] at e
        cases hi:P.info? x.type with
        | none=>rw [hi] at e;simp at e
        | some i =>
          rw [hi] at e;simp at e
          have:(sizeOf x.type).run P w = .ok i.size w:=by simp [sizeOf,typeInfo,Sem.run_bind,program,Sem.run,hi]
          rw [Sem.run_bind,this]
          simp [e])
      rw [Sem.run_map,this];rfl
    have hf':Instr.fill (fun i=>l.toArray[i]?) z.cells parts.toList = some cells:=by
      rw [← hf];congr 1;funext i;simp
    simp only [Instr.build,Sem.run_bind,he.zero,Result.andThen_ok,run_underlying hu,hq,hf',Sem.run_pure]
  · cases hp
theorem y_build3s {x y z':Operand} {t:TypeId} {A B C:Ty} {z a0 b0 c0:Value} {by_:Nat} (hp:placesOk P t [(0,1),(1,1),(2,1)] = true) (he:Info P t z 3 by_) (hz:z.cells = #[a0,b0,c0]) (oA:One A) (oB:One B) (oC:One C) (hx:At A σ a x) (hy:At B σ a y) (hw:At C σ a z') :
    Yld J ⟨d,.build t #[(0,x),(1,y),(2,z')],ty,pos,af,g⟩ a σ (Ty.agg [A,B,C]).pr:=by
  have h1:=KS (oA _ _ hx)
  have h2:=KS (oB _ _ hy)
  have h3:=KS (oC _ _ hw)
  refine Yld.of_run (v:=.agg #[a.eval x,a.eval y,a.eval z']) ?_ ⟨_,rfl,rfl,fun j T u hj hu=>?_⟩
  · simp only [execOp,List.map_toArray,List.map_cons,List.map_nil]
    have:=run_build (P:=P) (parts:=#[(0,a.eval x),(1,a.eval y),(2,a.eval z')]) (cells:=#[a.eval x,a.eval y,a.eval z']) hp he (by
      rw [hz]
      generalize a.eval x = v1 at h1 ⊢
      generalize a.eval y = v2 at h2 ⊢
      generalize a.eval z' = v3 at h3 ⊢
      simp [Instr.fill,h1,h2,h3]) σ.w
    simp [this]
  · match j,hj with
    | 0,hj=>simp at hj hu;subst hj hu;exact hx
    | 1,hj=>simp at hj hu;subst hj hu;exact hy
    | 2,hj=>simp at hj hu;subst hj hu;exact hw
end Go.KL
namespace Go.KL
open Go.RowKit
variable {P:Program} {J:JdOf P} {d:Option Tmp} {ty:TypeId} {pos:String} {af:Array Edge} {g:Option (Nat × Bool)} {a:Act} {σ:GW}
theorem KX {p q:Prop} {T:Ty} {σ:GW} {v:Value} (hp:p) (h:(Ty.grd (p∧q) T).has σ v):(Ty.grd q T).has σ v:=⟨fun hq=>h.1 ⟨hp,hq⟩,fun hq=>h.2 fun k=>hq k.2⟩
theorem y_sindex {x y:Operand} {t:TypeId} {s:ByteArray} {k:IntKind} {i:Int} (ht:P.underlying t = some .string) (hx:a.eval x = .string s) (hy:a.eval y = .int k i) (h0:0 ≤ i) (h1:i < s.size) :
    Yld J ⟨d,.index t x y,ty,pos,af,g⟩ a σ (Ty.val (.int .u8 ((s.get! i.toNat).toNat:Int))).pr:=by
  have hlt:i.toNat < s.size:=by omega
  have e:s[i.toNat]? = some (s.get! i.toNat):=by
    rw [getElem?_pos s i.toNat hlt]
    congr 1
    show s.get _ hlt = _
    have hlt':i.toNat < s.data.size:=hlt
    simp [ByteArray.get!,ByteArray.get]
    exact (getElem!_pos s.data i.toNat hlt').symm
  refine Yld.of_run (v:=.int .u8 ((s.get! i.toNat).toNat:Int)) ?_ rfl
  simp only [execOp,hx,hy]
  simp [Instr.index,Sem.run_bind,asIntOf,run_underlying ht,h0,e]
def Iter (σ:GW) (k:Nat) (v:Value) (s:ByteArray) (p:Nat):Prop :=
  ∃ g,v = .pointer (some ⟨g,0,none⟩)∧σ.st g = k∧σ.w.heap[g]? = some (.stringIter s p)
theorem Iter.keep {m k:Nat} {σ τ:GW} {v:Value} {s:ByteArray} {p:Nat} (h:Iter σ k v s p) (hs:Stp m σ τ) (_hm:m ≠ 1) (hk:m = 0 ∨ k ≠ m):Iter τ k v s p:=by
  obtain ⟨g,h1,h2,h3⟩:=h
  have hlt:=(Array.getElem?_eq_some_iff.1 h3).1
  have hq:m = 0 ∨ σ.st g ≠ m:=by rw [h2];omega
  exact ⟨g,h1,(hs.st g hlt hq).trans h2,(hs.blk g hlt hq).trans h3⟩
def Pr.iter (k:Nat) (s:ByteArray) (p:Nat):Pr:=⟨fun σ v=>Iter σ k v s p,fun hs h=>h.keep hs (by decide) (.inl rfl)⟩
theorem y_range (k:Nat) {x:Operand} {t:TypeId} {s:ByteArray} (ht:P.underlying t = some .string) (hx:a.eval x = .string s) :
    Yld J ⟨d,.range t x,ty,pos,af,g⟩ a σ (Pr.iter k s 0):=by
  intro K Q hk
  have hr:(execOp a.eval ⟨d,.range t x,ty,pos,af,g⟩).run P σ.w = .ok (.value (.pointer (some ⟨σ.w.heap.size,0,none⟩))) (σ.w.alloc (.stringIter s 0)):=by
    simp only [execOp,hx]
    simp [Instr.range,Sem.run_bind,run_underlying ht,newObj,Sem.run]
  refine JV rfl ?_
  rw [hr]
  refine ⟨by first | rfl | simp [Qo,QN,sly, *],?_⟩
  exact hk _ (σ.mk' k (.stringIter s 0)) (Stp.mk' σ k _) ⟨σ.w.heap.size,rfl,by show (if _ = _ then k else _) = k;rw [if_pos rfl],heap_alloc_new σ.w _⟩
def Ty.nxt (b:Bool) (p:Nat) (c:Nat):Ty:=.val (if b then .tuple #[.bool true,.int .i64 p,.int .i32 c] else .tuple #[.bool false])
theorem y_ext_n0 {x:Operand} {b:Bool} {p c:Nat} (hx:At (.nxt b p c) σ a x):Yld J ⟨d,.extract x 0,ty,pos,af,g⟩ a σ (Ty.bool b).pr:=by
  have e:a.eval x = _:=hx
  cases b with
  | true=>exact Yld.of_run (v:=.bool true) (by simp only [execOp,e];simp [Instr.extract]) rfl
  | false=>exact Yld.of_run (v:=.bool false) (by simp only [execOp,e];simp [Instr.extract]) rfl
theorem y_ext_n2 {x:Operand} {b:Bool} {p c:Nat} (hx:At (.nxt b p c) σ a x) (hb:b = true):Yld J ⟨d,.extract x 2,ty,pos,af,g⟩ a σ (Ty.val (.int .i32 (c:Int))).pr:=by
  subst hb
  have e:a.eval x = _:=hx
  exact Yld.of_run (v:=.int .i32 c) (by simp only [execOp,e];simp [Instr.extract]) rfl
def wid (s:ByteArray) (p:Nat):Nat:=(Utf8.decode s p).2
def run1 (s:ByteArray) (p:Nat):Nat:=(Utf8.decode s p).1
theorem wid_pos (s:ByteArray) (p:Nat):1 ≤ wid s p:=by
  unfold wid Utf8.decode
  simp only
  repeat' split
  all_goals (show 1 ≤ _;simp)
def stepTo (s:ByteArray) (p:Nat):Nat:=if p < s.size then p + wid s p else p
theorem m_next {k:Nat} {x:Operand} {s:ByteArray} {p:Nat} {v:Value} (hk:2 ≤ k) (h:Iter σ k v s p) (hx:a.eval x = v) :
    YldM k J ⟨d,.next x true,ty,pos,af,g⟩ a σ (fun u τ=>(Ty.nxt (decide (p < s.size)) p (run1 s p)).has τ u∧Iter τ k v s (stepTo s p)):=by
  obtain ⟨gg,rfl,h2,h3⟩:=h
  have hg:=(Array.getElem?_eq_some_iff.1 h3).1
  intro K Q hK
  by_cases hp:p < s.size
  · have hr:(execOp a.eval ⟨d,.next x true,ty,pos,af,g⟩).run P σ.w = .ok (.value (.tuple #[.bool true,.int .i64 p,.int .i32 (run1 s p)])) { σ.w with heap:=σ.w.heap.setIfInBounds gg (.stringIter s (p + wid s p)) }:=by
      simp only [execOp,hx]
      simp [Instr.next,Sem.run_bind,getObj,setObj,Sem.run,h3,hp,goInt,run1,wid]
    refine JV rfl ?_
    rw [hr]
    refine ⟨by first | rfl | simp [Qo,QN,sly, *],?_⟩
    have hstp:Stp k σ ⟨{ σ.w with heap:=σ.w.heap.setIfInBounds gg (.stringIter s (p + wid s p)) },σ.st,fun b hb=>by have:=σ.lt b hb;simpa using this⟩ :=
      ⟨rfl,rfl,rfl,Dr.refl _,by simp,fun b hb hm=>by simp only [];rw [Array.getElem?_setIfInBounds_ne (by rintro rfl;omega)],fun _ _ _=>rfl⟩
    refine hK _ _ hstp ⟨by rw [decide_eq_true hp];rfl,gg,rfl,h2,?_⟩
    simp only [stepTo,if_pos hp]
    simp [hg]
  · have hr:(execOp a.eval ⟨d,.next x true,ty,pos,af,g⟩).run P σ.w = .ok (.value (.tuple #[.bool false])) σ.w:=by
      simp only [execOp,hx]
      simp [Instr.next,Sem.run_bind,getObj,Sem.run,h3,hp]
    refine JV rfl ?_
    rw [hr]
    refine ⟨by first | rfl | simp [Qo,QN,sly, *],?_⟩
    refine hK _ σ ⟨rfl,rfl,rfl,Dr.refl _,Nat.le_refl _,fun _ _ _=>rfl,fun _ _ _=>rfl⟩ ⟨by rw [decide_eq_false hp];rfl,gg,rfl,h2,?_⟩
    rw [stepTo,if_neg hp];exact h3
def runesF (s:ByteArray):Nat → Nat → List Nat
  | 0,_=>[]
  | f + 1,p=>if p < s.size then run1 s p :: runesF s f (p + wid s p) else []
def runesL (s:ByteArray):List Nat:=runesF s s.size 0
theorem runesF_end {s:ByteArray} {f p:Nat} (h:s.size ≤ p):runesF s f p = []:=by cases f <;> simp [runesF,show ¬ p < s.size by omega]
theorem runesF_step {s:ByteArray} {f p:Nat} {xs zs:List Nat} (h:xs ++ runesF s f p = zs) (hp:p < s.size) (hf:s.size ≤ f + p):(xs ++ [run1 s p]) ++ runesF s (f - 1) (p + wid s p) = zs:=by
  obtain ⟨f,rfl⟩:∃ g,f = g + 1:=⟨f - 1,by omega⟩
  rw [runesF,if_pos hp] at h
  rw [← h];simp
end Go.KL
namespace Go.KL
theorem cvit {σ:GW} {k:Nat} {v:Value} {s:ByteArray} {p q:Nat} (e:p = q) (h:Iter σ k v s p):Iter σ k v s q:=e ▸ h
theorem wid_le (s:ByteArray) (p:Nat):wid s p ≤ 4:=by
  unfold wid Utf8.decode
  simp only
  repeat' split
  all_goals (show _ ≤ 4;simp)
def Qa (c:Int):Bool:=((((decide (65 ≤ c) && decide (c ≤ 90)) || (decide (97 ≤ c) && decide (c ≤ 122))) || (decide (48 ≤ c) && decide (c ≤ 57))) || decide (c = 32)) || (((decide (192 ≤ c) && decide (c ≤ 382)) && decide (c ≠ 215)) && decide (c ≠ 247))
def nameL (s:ByteArray):Bool:=(runesL s).all (fun (c:Nat)=>Qa (c:Int)) && (decide ((1:Int) ≤ (((runesL s).length:Nat):Int)) && decide ((((runesL s).length:Nat):Int) ≤ (20:Int)) && decide ((((s.get! 0).toNat:Nat):Int) ≠ 32) && decide ((((s.get! (s.size - 1)).toNat:Nat):Int) ≠ 32))
theorem nameL_no {s:ByteArray} {xs:List Nat} {f p:Nat} (h:xs ++ runesF s f p = runesL s) (hp:p < s.size) (hf:s.size ≤ f + p) (hb:Qa (run1 s p:Nat) = false):nameL s = false:=by
  obtain ⟨f,rfl⟩:∃ g,f = g + 1:=⟨f - 1,by omega⟩
  rw [runesF,if_pos hp] at h
  unfold nameL
  rw [← h]
  simp [hb]
theorem nameL_all {s:ByteArray} (h:∀ c ∈ runesL s,Qa ((c:Nat):Int) = true):nameL s = (decide ((1:Int) ≤ (((runesL s).length:Nat):Int)) && decide ((((runesL s).length:Nat):Int) ≤ (20:Int)) && decide ((((s.get! 0).toNat:Nat):Int) ≠ 32) && decide ((((s.get! (s.size - 1)).toNat:Nat):Int) ≠ 32)):=by
  unfold nameL
  rw [List.all_eq_true.2 h,Bool.true_and]
def KV (n:Int):List (List Int) → Int
  | []=>0
  | p :: l=>if Qh n p ≠ 0 then Qh n p else KV n l
def KP (s:ByteArray) (n:Int) (l:List (List Int)):Int :=
  if nameL s = false then 7 else if n < 2 ∨ 12 < n ∨ l.length < 1 ∨ 200 < l.length then 1 else KV n l
theorem drop_cons0 {l:List (List Int)} {k:Nat} (h:k < l.length):l.drop k = l.getD k [] :: l.drop (k + 1):=by
  rw [List.drop_eq_getElem_cons h];simp [h]
theorem allMay_step {n:Int} {l:List (List Int)} {k:Nat} {e:Int} (h:KV n (l.drop k) = e) (hk:k < l.length) (hc:¬ Qh n (l.getD k []) ≠ 0):KV n (l.drop (k + 1)) = e:=by
  rw [drop_cons0 hk,KV,if_neg hc] at h;exact h
theorem allMay_stop {n:Int} {l:List (List Int)} {k:Nat} {e:Int} (h:KV n (l.drop k) = e) (hk:k < l.length) (hc:Qh n (l.getD k []) ≠ 0):e = Qh n (l.getD k []):=by
  rw [drop_cons0 hk,KV,if_pos hc] at h;exact h.symm
theorem allMay_end {n:Int} {l:List (List Int)} {k:Nat} {e:Int} (h:KV n (l.drop k) = e) (hk:l.length ≤ k):e = 0:=by
  rw [List.drop_eq_nil_of_le hk] at h;exact h.symm
theorem allMay_zero {n:Int}:∀ {l:List (List Int)},KV n l = 0 ↔ ∀ p ∈ l,Qh n p = 0
  | []=>by simp [KV]
  | p :: l=>by
    rw [KV]
    split
    · rename_i h;simp [h]
    · rename_i h
      have h:=Classical.not_not.1 h
      rw [allMay_zero];simp [h]
structure MethOk (s:ByteArray) (n:Nat) (l:List (List Int)):Prop where
  name:nameL s = true
  n1:2 ≤ n
  n2:n ≤ 12
  l1:1 ≤ l.length
  l2:l.length ≤ 200
  ok:∀ k,k < l.length → okL 0 (l.getD k []) n
theorem methMay_ok {s:ByteArray} {n:Int} {l:List (List Int)}:KP s n l = 0 ↔ ∃ m:Nat,n = m∧MethOk s m l:=by
  unfold KP
  constructor
  · intro h
    split at h
    · omega
    · rename_i h1
      split at h
      · omega
      · rename_i h2
        refine ⟨n.toNat,by omega,by simpa using h1,by omega,by omega,by omega,by omega,fun k hk=>?_⟩
        have:=allMay_zero.1 h (l.getD k []) (by rw [List.getD_eq_getElem?_getD];simp [hk])
        have:=okL_of_chgMay this
        rwa [show ((n.toNat:Nat):Int) = n by omega]
  · rintro ⟨m,rfl,h⟩
    rw [if_neg (by rw [h.name];simp),if_neg (by have:=h.n1;have:=h.n2;have:=h.l1;have:=h.l2;omega),allMay_zero]
    intro p hp
    obtain ⟨k,hk,rfl⟩:=List.getElem_of_mem hp
    have:=h.ok k hk
    rw [List.getD_eq_getElem?_getD] at this
    simp [hk] at this
    exact chgMay_of_okL (by have:=h.n1;have:=h.n2;omega) this
def curL (r:List Int) (l:List (List Int)) (k:Nat):List Int:=(l.take k).foldl (fun r p=>byL r (JQ r.length p)) r
def QX (r:List Int) (l:List (List Int)) (k:Nat):List (List Int):=(List.range (k + 1)).map (curL r l)
def fromL (r:List Int) (l:List (List Int)):List (List Int):=QX r l l.length
theorem fromTo_len (r:List Int) (l:List (List Int)) (k:Nat):(QX r l k).length = k + 1:=by simp [QX]
theorem fromTo_zero (r:List Int) (l:List (List Int)):QX r l 0 = [r]:=by simp [QX,curL]
theorem curL_succ (r:List Int) (l:List (List Int)) (k:Nat) (hk:k < l.length):curL r l (k + 1) = byL (curL r l k) (JQ (curL r l k).length (l.getD k [])):=by
  unfold curL
  rw [take_snoc l [] k hk,List.foldl_append];rfl
theorem fromTo_succ (r:List Int) (l:List (List Int)) (k:Nat):QX r l (k + 1) = QX r l k ++ [curL r l (k + 1)]:=by
  unfold QX;rw [List.range_succ,List.map_append];rfl
theorem curL_len {r:List Int} {l:List (List Int)} (h:∀ k,k < l.length → okL 0 (l.getD k []) r.length):∀ k,k ≤ l.length → (curL r l k).length = r.length
  | 0,_=>rfl
  | k + 1,hk=>by
    have ih:=curL_len h k (by omega)
    rw [curL_succ r l k (by omega),byL_len,ih,QT (h k (by omega))]
theorem chgRow_bd {n:Nat} {l:List Int} (h:okL 0 l n) {i:Nat} (hi:i < (JQ n l).length):0 ≤ (JQ n l).getD i 0∧(JQ n l).getD i 0 < n:=by
  have hl:=QT h
  have:=(chgRow_piece h).1.bd i (by omega) (by omega)
  simpa using this
def KC (raw:List Int) (k:Nat):Int:=if raw.length = 0 then 0 else raw.getD (k % raw.length) 0
theorem rawAt_bd {raw:List Int} (h:∀ x ∈ raw,-9223372036854775808 ≤ x∧x ≤ 9223372036854775807) (k:Nat):-9223372036854775808 ≤ KC raw k∧KC raw k ≤ 9223372036854775807:=by
  unfold KC
  split
  · omega
  · rename_i h0
    have hlt:=Nat.mod_lt k (show 0 < raw.length by omega)
    apply h
    rw [List.getD_eq_getElem?_getD];simp [hlt]
def Jm (raw:List Int) (b n many:Nat):List (List Int):=(List.range many).map fun i=>KM (KC raw (b + i)) n
theorem QJ (raw:List Int) (b n many:Nat):(Jm raw b n many).length = many:=by simp [Jm]
theorem changesOf_succ (raw:List Int) (b n k:Nat):Jm raw b n (k + 1) = Jm raw b n k ++ [KM (KC raw (b + k)) n]:=by simp [Jm,List.range_succ]
end Go.KL
namespace Go.KL
theorem byL_row {a b:List Int} (ha:IsRow a) (hb:IsRow b) (hl:a.length = b.length):IsRow (byL a b):=by
  apply rowMay_ok.1
  refine rowMay_of (by rw [byL_len];exact hb.pos) (by rw [byL_len];exact hb.le) ?_ ?_
  · unfold byL
    rw [List.nodup_iff_pairwise_ne,List.pairwise_iff_getElem]
    intro i j hi hj hij e
    simp only [List.length_map] at hi hj
    simp only [List.getElem_map] at e
    rw [gd b i hi,gd b j hj] at e
    have bi:=hb.at hi
    have bj:=hb.at hj
    have h1:=idxOf_at ha.nodup (k:=(b.getD i 0).toNat) (by omega)
    have h2:=idxOf_at ha.nodup (k:=(b.getD j 0).toNat) (by omega)
    rw [e] at h1
    have e2:b.getD i 0 = b.getD j 0:=by omega
    have h3:=idxOf_at hb.nodup hi
    have h4:=idxOf_at hb.nodup hj
    rw [e2] at h3;omega
  · intro x hx
    unfold byL at hx
    obtain ⟨y,hy,rfl⟩:=List.mem_map.1 hx
    have:=hb.bound y hy
    have:=ha.at (i:=y.toNat) (by omega)
    rw [byL_len];omega
theorem methMay_ok' {s:ByteArray} {n:Int} {l:List (List Int)} (h:KP s n l = 0):MethOk s n.toNat l∧((n.toNat:Nat):Int) = n:=by
  obtain ⟨m,rfl,hm⟩:=methMay_ok.1 h
  exact ⟨by rwa [Int.toNat_natCast],rfl⟩
theorem fromL_len (r:List Int) (l:List (List Int)):(fromL r l).length = l.length + 1:=fromTo_len r l _
end Go.KL
namespace Go.KL
open Go.RowKit
variable {P:Program} {J:JdOf P} {d:Option Tmp} {ty:TypeId} {pos:String} {af:Array Edge} {g:Option (Nat × Bool)} {a:Act} {σ:GW}
theorem drawn_setCells {b:Nat}:∀ (vs:List Value) (o:Nat) (w:World),(w.setCells b o vs).drawn = w.drawn
  | [],_,_=>rfl
  | v :: vs,o,w=>by rw [World.setCells,drawn_setCells vs];rfl
theorem heap_setCells {b:Nat} {e:TypeId}:∀ (vs:List Value) (o:Nat) (w:World) (cur:Array Value),w.heap[b]? = some (.cells cur e (0,0)) → o + vs.length ≤ cur.size →
    ∃ cur',(w.setCells b o vs).heap[b]? = some (.cells cur' e (0,0))∧cur'.size = cur.size∧(∀ j,j < vs.length → cur'[o + j]? = vs[j]?)∧(∀ i,i < o → cur'[i]? = cur[i]?)∧(w.setCells b o vs).heap.size = w.heap.size∧(w.setCells b o vs).tape = w.tape
  | [],o,w,cur,h,_=>⟨cur,h,rfl,fun j hj=>by simp at hj,fun _ _=>rfl,rfl,rfl⟩
  | v :: vs,o,w,cur,h,hl=>by
    simp only [List.length_cons] at hl
    have h2:(w.setCell ⟨b,o,none⟩ v).heap[b]? = some (.cells (cur.setIfInBounds o v) e (0,0)):=by
      unfold World.setCell
      rw [Array.getElem?_modify,if_pos rfl,h]
      rfl
    obtain ⟨cur',h3,h4,h5,h6,h7,h8⟩:=heap_setCells vs (o + 1) (w.setCell ⟨b,o,none⟩ v) _ h2 (by simp;omega)
    refine ⟨cur',h3,by simpa using h4,fun j hj=>?_,fun i hi=>?_,by rw [World.setCells,h7];simp [World.setCell],by rw [World.setCells,h8];rfl⟩
    · cases j with
      | zero =>
        rw [Nat.add_zero,h6 o (by omega)]
        simp [show o < cur.size by omega]
      | succ j =>
        have:=h5 j (by simpa using hj)
        rw [show o + (j + 1) = o + 1 + j by omega,this];rfl
    · rw [h6 i (by omega),Array.getElem?_setIfInBounds_ne (by omega)]
theorem QA {k:Nat} {x y:Operand} {ts us:List Ty} {t:TypeId} {z v:Value} {by_:Nat} (he:Info P t z us.length by_) (hk:2 ≤ k) (h:OwnP σ k v ts) (hx:a.eval x = v) (hl:ts.length = us.length) (hy:At (.agg us) σ a y) (h1:∀ U,U ∈ us → One U) :
    YldM k J ⟨d,.store t x y,ty,pos,af,g⟩ a σ (fun _ τ=>OwnP τ k v us):=by
  obtain ⟨gg,e',cur,rfl,h2,h3,h4,h5⟩:=h
  obtain ⟨cs,ey,hcl,hc⟩:=hy
  have hg:=(Array.getElem?_eq_some_iff.1 h3).1
  have hone:cs.all (·.oneCell') = true:=by
    rw [Array.all_eq_true]
    intro i hi
    have hT:us[i]? = some us[i]:=by simp [show i < us.length by omega]
    exact h1 us[i] (List.getElem_mem _) _ _ (hc i _ cs[i] hT (by simp [hi]))
  intro K Q hK
  have hst:(storeVar t ⟨gg,0,none⟩ (.agg cs)).run P σ.w = .ok () (σ.w.setCells gg 0 cs.toList):=by
    refine run_storeVar_mid σ.w gg 0 t cs (fun j hj=>?_) ?_ hone
    · rw [Nat.zero_add]
      exact ⟨by simp [World.cell?,h3,show j < cur.size by omega],by simp [World.frozen?,h3]⟩
    · obtain ⟨i,hi,_,hs,_⟩:=he.get
      rw [hi];simp [hs,hcl]
  have hr:(execOp a.eval ⟨d,.store t x y,ty,pos,af,g⟩).run P σ.w = .ok .skip (σ.w.setCells gg 0 cs.toList):=by
    simp only [execOp,hx,ey]
    simp [Instr.storeAt,Instr.sureAddr,hst]
  refine JV rfl ?_
  rw [hr]
  refine ⟨by first | rfl | simp [Qo,QN,sly, *],?_⟩
  obtain ⟨cur',c1,c2,c3,_,c5,c6⟩:=heap_setCells (b:=gg) (e:=e') cs.toList 0 σ.w cur h3 (by simp;omega)
  have hstp:Stp k σ ⟨σ.w.setCells gg 0 cs.toList,σ.st,fun b hb=>by rw [c5];exact σ.lt b hb⟩ :=
    ⟨World.os_setCells _ _ _ _,rfl,gho_eq (World.output_setCells _ _ _ _),by (refine .inl ?_;show _ ≤ (σ.w.setCells gg 0 cs.toList).drawn;rw [drawn_setCells];exact Nat.le_refl _),by rw [c5];exact Nat.le_refl _,fun b hb hm=>World.heap_setCells_other _ _ _ _ hb (by rintro rfl;omega),fun _ _ _=>rfl⟩
  refine hK _ _ hstp ⟨gg,e',cur',rfl,h2,c1,by rw [c2,h4,hl],fun j T u hj hu=>?_⟩
  have hlt:=(List.getElem?_eq_some_iff.1 hj).1
  have:=c3 j (by simp;omega)
  rw [Nat.zero_add] at this
  rw [this] at hu
  exact T.up (hstp.le (by omega)) (hc j T u hj (by simpa using hu))
theorem JX {vs:List Value} {z:Value} (h:z.cells = vs.toArray):∀ (j:Nat) (T:Ty) (u:Value),(vs.map Ty.val)[j]? = some T → z.cells[j]? = some u → ∀ σ,T.has σ u:=by
  intro j T u h1 h2 σ
  rw [h] at h2
  simp at h1 h2
  obtain ⟨v,e,rfl⟩:=h1
  rw [e] at h2;cases h2;rfl
theorem ret1s {fn:Func} {σ0 σ:GW} {N t k:Nat} {T:TypeId} {fs:Array Field} {z:Value} {by_:Nat} {ts:List Ty} (hr:fn.results = #[.cell t T]) (ok:Ok N [] a) (hF:From σ0 σ) (hT:P.underlying T = some (.struct fs)) (he:Info P T z ts.length by_) (h:OwnP σ k (a.eval (.tmp t)) ts):Qe P fn (RetPost σ0 (.agg ts)) .ret a σ.w:=by
  refine xbodyPost_retm ok.defers fun v' hv=>?_
  obtain ⟨gg,e',cur,e1,h2,h3,h4,h5⟩:=(Pr.ownp k ts).up (Stp.ext σ hv) h
  have e2:a.tmps.getD t undef = .pointer (some ⟨gg,0,none⟩):=e1
  have hl:=run_loadVar (P:=P) hT he (w:=(σ.ext v' hv).w) (ad:=⟨gg,0,none⟩) (us:=cur.toList) (by simp [h4]) (fun j u hj=>by
    rw [Addr.add_lit,Nat.zero_add]
    simp at hj
    simp [World.cell?,h3,hj])
  refine ⟨.agg cur,(σ.ext v' hv).w,?_,_,σ.ext v' hv,rfl,hF.step0 (Stp.ext σ hv),rfl,cur,rfl,h4,h5⟩
  have e3:a.tmps[t]?.getD undef = .pointer (some ⟨gg,0,none⟩):=by rw [← e2,Array.getD_eq_getD_getElem?]
  have hl':(loadVar T ⟨gg,0,none⟩).run P (σ.ext v' hv).w = .ok (.agg cur) (σ.ext v' hv).w:=by simpa using hl
  show (results fn a.tmps).run P (σ.ext v' hv).w = _
  simp [results,hr,e3,asAddr,hl']
end Go.KL
