/- How many rows there are: the document's product of places counts the closure. -/
import Derived.Test.YtkjifbgofckfeaaColourSaysK2
import Derived.Test.YtkjifbgofckfeaaColourSaysK1
import Derived.ProofKit
import Derived.JoinedCond
import Derived.SizedLaws
import Derived.Deep.Slices
import Derived.Deep.CondSized
import Derived.Shelf.GgSortFunc.Insertion
import Derived.Shelf.SlSortCmp.Whole1
import Derived.Laws.CopyRow
import Derived.Laws.Bits64b
import Derived.Lib.AppendStr
import Derived.Laws.BitsLemmas
import Derived.Lib.IndexLaws
import Derived.Below
import Derived.Lib.Overlaps
namespace Go.KL
open Go.RowKit
open Classical
section
variable {n k:Nat} {S:List Int → Prop} {E:List (List Int)}
theorem ind_sum (a:Nat):∀ n,((List.range n).map fun p=>if a = p then 1 else 0).sum = if a < n then 1 else 0
  | 0=>by simp
  | n + 1=>by
    rw [List.range_succ,List.map_append,List.sum_append,ind_sum a n]
    simp only [List.map_cons,List.map_nil,List.sum_cons,List.sum_nil]
    by_cases h:a < n
    · simp [if_pos h,show ¬ a = n by omega,show a < n + 1 by omega]
    · by_cases h2:a = n
      · simp [h2]
      · simp [h,h2,show ¬ a < n + 1 by omega]
theorem map_sum_add (f g:Nat → Nat):∀ n,((List.range n).map fun p=>f p + g p).sum = ((List.range n).map f).sum + ((List.range n).map g).sum
  | 0=>rfl
  | n + 1=>by
    rw [List.range_succ,List.map_append,List.sum_append,map_sum_add f g n,List.map_append,List.sum_append,List.map_append,List.sum_append]
    simp only [List.map_cons,List.map_nil,List.sum_cons,List.sum_nil];omega
theorem zero_sum:∀ n,((List.range n).map fun _=>0).sum = 0
  | 0=>rfl
  | n + 1=>by rw [List.range_succ,List.map_append,List.sum_append,zero_sum n];rfl
theorem if_sum (P:Nat → Prop) (C:Nat):∀ n,((List.range n).map fun p=>if P p then C else 0).sum = (List.range n).countP (fun p=>decide (P p)) * C
  | 0=>by simp
  | n + 1=>by
    rw [List.range_succ,List.map_append,List.sum_append,if_sum P C n,List.countP_append,Nat.add_mul]
    by_cases h:P n <;> simp [h]
theorem part_count (hk:k < n) (P:List Int → Prop):∀ l:List (List Int),(∀ r ∈ l,RowN n r) → l.countP (fun r=>decide (P r)) = ((List.range n).map fun (p:Nat)=>l.countP fun r=>decide (P r∧r.getD k 0 = ((p:Nat):Int))).sum
  | [],_=>by simp only [List.countP_nil];rw [zero_sum]
  | r :: l,h=>by
    have ih:=part_count hk P l fun x hx=>h x (by simp [hx])
    have hb:=(h r (by simp)).at hk
    have e:(fun p:Nat=>(r :: l).countP fun r=>decide (P r∧r.getD k 0 = (p:Int))) = fun (p:Nat)=>(l.countP fun r=>decide (P r∧r.getD k 0 = (p:Int))) + if P r∧r.getD k 0 = (p:Int) then 1 else 0:=by
      funext p
      rw [List.countP_cons]
      by_cases h:P r∧r.getD k 0 = (p:Int)
      · rw [if_pos (decide_eq_true h),if_pos h]
      · rw [if_neg (by simpa using h),if_neg h]
    rw [e,map_sum_add,← ih,List.countP_cons]
    congr 1
    by_cases hP:P r
    · have e2:(fun p:Nat=>if P r∧r.getD k 0 = (p:Int) then 1 else 0) = fun p:Nat=>if (r.getD k 0).toNat = p then 1 else 0:=by
        funext p
        by_cases h2:(r.getD k 0).toNat = p
        · rw [if_pos h2,if_pos ⟨hP,by omega⟩]
        · rw [if_neg h2,if_neg fun h3=>h2 (by omega)]
      rw [e2,if_pos (decide_eq_true hP),ind_sum,if_pos (show (r.getD k 0).toNat < n by omega)]
    · have e2:(fun p:Nat=>if P r∧r.getD k 0 = (p:Int) then 1 else 0) = fun _=>0:=by
        funext p;exact if_neg fun h=>hP h.1
      rw [e2,zero_sum,if_neg (by simpa using hP)]
theorem class_count (hn:1 ≤ n∧n ≤ 12) (hS:∀ x,S x → RowN n x) (hnd:E.Nodup) (hm:∀ x,x ∈ E ↔ Cl n S x) (hk:k < n) {t:List Int} (ht:Cl n S t) (htf:Fx k t):E.countP (fun r=>decide (Fx k r∧r.getD k 0 = t.getD k 0)) = E.countP (fun r=>decide (Fx (k + 1) r)):=by
  have htr:=ht.row hn hS
  rw [List.countP_eq_length_filter,List.countP_eq_length_filter]
  apply Nat.le_antisymm
  · have:=nd_sub (a:=(E.filter fun r=>decide (Fx k r∧r.getD k 0 = t.getD k 0)).map (byL (undoL t))) (b:=E.filter fun r=>decide (Fx (k + 1) r)) (by
      refine List.pairwise_map.2 ((List.Pairwise.filter _ hnd).imp_of_mem fun {a b} ha hb hne e=>hne ?_)
      have ha':=((hm a).1 (List.mem_filter.1 ha).1).row hn hS
      have hb':=((hm b).1 (List.mem_filter.1 hb).1).row hn hS
      have:=back_row ha' htr
      rw [e,back_row hb' htr] at this
      exact this.symm) fun x hx=>by
      obtain ⟨r,hr,rfl⟩:=List.mem_map.1 hx
      obtain ⟨h1,h2⟩:=List.mem_filter.1 hr
      have h2:=of_decide_eq_true h2
      have hrc:=(hm r).1 h1
      obtain ⟨_,h4⟩:=rest_row hk (hrc.row hn hS) h2.1 htr htf h2.2.symm
      exact List.mem_filter.2 ⟨(hm _).2 ((ht.undo hn hS).prod hn hS hrc),decide_eq_true h4⟩
    rwa [List.length_map] at this
  · have:=nd_sub (a:=(E.filter fun r=>decide (Fx (k + 1) r)).map (byL t)) (b:=E.filter fun r=>decide (Fx k r∧r.getD k 0 = t.getD k 0)) (by
      refine List.pairwise_map.2 ((List.Pairwise.filter _ hnd).imp_of_mem fun {a b} ha hb hne e=>hne ?_)
      have ha':=((hm a).1 (List.mem_filter.1 ha).1).row hn hS
      have hb':=((hm b).1 (List.mem_filter.1 hb).1).row hn hS
      have:=fore_row ha' htr
      rw [e,fore_row hb' htr] at this
      exact this.symm) fun x hx=>by
      obtain ⟨r,hr,rfl⟩:=List.mem_map.1 hx
      obtain ⟨h1,h2⟩:=List.mem_filter.1 hr
      have h2:Fx (k + 1) r:=of_decide_eq_true h2
      have hrc:=(hm r).1 h1
      have hrr:=hrc.row hn hS
      refine List.mem_filter.2 ⟨(hm _).2 (ht.prod hn hS hrc),decide_eq_true ⟨Fx.by (by omega) hrr htf (h2.le (by omega)),?_⟩⟩
      rw [by_at hrr hk,h2 k (by omega),Int.toNat_natCast]
    rwa [List.length_map] at this
theorem osz_count (hn:1 ≤ n∧n ≤ 12) (hS:∀ x,S x → RowN n x) (hnd:E.Nodup) (hm:∀ x,x ∈ E ↔ Cl n S x) (hk:k < n):E.countP (fun r=>decide (Fx k r)) = osz n S k * E.countP (fun r=>decide (Fx (k + 1) r)):=by
  rw [part_count hk (Fx k) E fun r hr=>((hm r).1 hr).row hn hS]
  have e:(fun p:Nat=>E.countP fun r=>decide (Fx k r∧r.getD k 0 = (p:Int))) = fun p:Nat=>if ∃ r,Cl n S r∧Fx k r∧r.getD k 0 = (p:Int) then E.countP (fun r=>decide (Fx (k + 1) r)) else 0:=by
    funext p
    by_cases h:∃ r,Cl n S r∧Fx k r∧r.getD k 0 = (p:Int)
    · rw [if_pos h]
      obtain ⟨t,h1,h2,h3⟩:=h
      rw [← h3];exact class_count hn hS hnd hm hk h1 h2
    · rw [if_neg h,List.countP_eq_zero]
      intro r hr hd
      have hd:=of_decide_eq_true hd
      exact h ⟨r,(hm r).1 hr,hd.1,hd.2⟩
  rw [e,if_sum];rfl
theorem sz_count (hn:1 ≤ n∧n ≤ 12) (hS:∀ x,S x → RowN n x) (hnd:E.Nodup) (hm:∀ x,x ∈ E ↔ Cl n S x):E.length = szTo n S n:=by
  have key:∀ k,k ≤ n → szTo n S k * E.countP (fun r=>decide (Fx k r)) = E.length:=by
    intro k
    induction k with
    | zero =>
      intro _
      rw [szTo,Nat.one_mul,List.countP_eq_length]
      intro r _;exact decide_eq_true fun i hi=>by omega
    | succ k ih =>
      intro h
      rw [szTo,Nat.mul_assoc,← osz_count hn hS hnd hm (by omega)];exact ih (by omega)
  have h1:=key n (Nat.le_refl _)
  have h2:E.countP (fun r=>decide (Fx n r)) = 1:=by
    rw [List.countP_eq_length_filter]
    apply Nat.le_antisymm
    · exact nd_sub (b:=[roundsL n]) (List.Pairwise.filter _ hnd) fun x hx=>by
        obtain ⟨h3,h4⟩:=List.mem_filter.1 hx
        rw [Fx.all (((hm x).1 h3).row hn hS) (of_decide_eq_true h4)];simp
    · exact List.length_pos_of_mem (List.mem_filter.2 ⟨(hm _).2 Cl.one,decide_eq_true (Fx.rounds (Nat.le_refl _))⟩)
  rw [h2] at h1;omega
end
end Go.KL
namespace Go.KL
open Go.RowKit
section
variable {n:Nat} {E gens Q:List (List Int)} {x y ch:List Int}
end
end Go.KL
namespace Go.KL
open Go.ChangeShapes Go.WideShapes Go.ChangeAt Go.RowKit Go.Deep
variable {P:Program}
def GW.all (W:World):GW:=⟨W,fun b=>if b < W.heap.size then 1 else 0,fun b h=>by
  by_cases hb:b < W.heap.size
  · exact hb
  · simp [hb] at h⟩
structure Bulk {H:Type} (B:DataW H → Nat) (BA:List (DataW H) → Nat):Prop where
  one:∀ d,1 ≤ B d
  str:∀ l,B (.lit (.string l)) = l.length + 1
  slice:∀ es sp,B (.slice es sp) = BA es + BA sp + 1
  agg:∀ ps,B (.agg ps) = BA ps + 1
  nil:BA [] = 0
  cons:∀ d r,BA (d :: r) = B d + BA r
def Rd (P:Program) (t:TypeId) {α:Type} (cells:α → List Ty) (wf:α → Prop) (sz:α → Nat) (rc:α → Prop):Prop :=
  ∀ (H:Type) (enc:TypeId × Value → H) (B:DataW H → Nat) (BA:List (DataW H) → Nat),Bulk B BA → ∀ (W:World) (fuel:Nat) (cs:List Value) (d:DataW H) (ps:List MemPlace),
    DataW.trod enc P W 0 (fun _=>true) true fuel t cs = some (d,ps) → ∃ x:α,wf x∧sz x ≤ B d∧((d.weights P t).all (· ≤ reachBytes) = true → rc x)∧cs.length = (cells x).length ∧
      ∀ (j:Nat) (T:Ty) (u:Value),(cells x)[j]? = some T → cs[j]? = some u → T.has (GW.all W) u
theorem one_cell {T:Ty} {v:Value} {σ:GW} (h:T.has σ v):∀ (j:Nat) (U:Ty) (u:Value),[T][j]? = some U → [v][j]? = some u → U.has σ u:=by
  intro j U u h1 h2
  match j with
  | 0=>simp at h1 h2;subst h1;subst h2;exact h
  | j + 1=>simp at h1
theorem rd_int {t:TypeId} {k:IntKind} (ht:P.underlying t = some (.int k)):Rd P t (fun n:Int=>[Ty.val (.int k n)]) (fun n=>(Lit.int k n).wf = true) (fun _=>1) (fun _=>True):=by
  intro H enc B BA hB W fuel cs d ps h
  obtain ⟨n,rfl,e,hw⟩:=DataW.trod_int ht h
  obtain ⟨rfl,rfl⟩:=Prod.mk.inj e
  exact ⟨n,hw,hB.one _,fun _=>trivial,rfl,one_cell rfl⟩
theorem BA_map {H:Type} {B:DataW H → Nat} {BA:List (DataW H) → Nat} (hB:Bulk B BA) {α:Type} (sz:α → Nat):∀ (xs:List α) (D:List (DataW H)),xs.length = D.length → (∀ (i:Nat) x d,xs[i]? = some x → D[i]? = some d → sz x ≤ B d) → (xs.map sz).sum ≤ BA D
  | [],[],_,_=>by simp
  | x :: xs,d :: D,hl,h=>by
    rw [hB.cons,List.map_cons,List.sum_cons]
    have h0:=h 0 x d rfl rfl
    have:=BA_map hB sz xs D (by simpa using hl) (fun i y e hy he=>h (i + 1) y e (by simpa using hy) (by simpa using he))
    omega
theorem weightsAll_mem {H:Type} {e:TypeId}:∀ {D:List (DataW H)} {d:DataW H},d ∈ D → ∀ n,n ∈ d.weights P e → n ∈ DataW.weightsAll P e D
  | x :: D,d,h,n,hn=>by
    simp only [DataW.weightsAll,List.mem_append]
    rcases List.mem_cons.1 h with rfl | h
    · exact .inl hn
    · exact .inr (weightsAll_mem h n hn)
theorem spot_none {w:World} {a:Addr} {v:Value} (h:w.cell? a = some v):a.spot = none:=by
  unfold World.cell? at h
  split at h
  · split at h
    · cases h
    · rename_i hs;simpa using hs
  · cases h
theorem rd_slice {t e c:TypeId} {α:Type} {cells:α → List Ty} {wf:α → Prop} {sz:α → Nat} {rc:α → Prop} (ht:P.underlying t = some (.slice e)) (hc:P.cellsOf e = c) (hc0:0 < c) (he:Rd P e cells wf sz rc) (hcl:∀ x,wf x → (cells x).length = c) :
    Rd P t (fun xs:List α=>[Ty.sl c xs.length (xs.flatMap cells)]) (fun xs=>xs.length ≤ maxLen∧∀ x ∈ xs,wf x) (fun xs=>(xs.map sz).sum + 1) (fun xs=>xs.length * P.bytesOf e ≤ reachBytes∧∀ x ∈ xs,rc x):=by
  intro H enc B BA hB W fuel cs d ps h
  rcases open_slice ht h with ⟨rfl,e1⟩ | ⟨a,len,cap,m,n,D,Pl,rfl,_,hlen,hcap,hm,e1,hel⟩
  · obtain ⟨rfl,rfl⟩:=Prod.mk.inj e1
    exact ⟨[],⟨Nat.zero_le _,fun x h=>by cases h⟩,by simpa using hB.one _,fun _=>⟨by simp,fun x h=>by cases h⟩,rfl,one_cell ⟨none,0,0,0,rfl,⟨Nat.le_refl _,by decide⟩,by simp,.inl rfl,fun j T hj=>by simp at hj⟩⟩
  · obtain ⟨rfl,rfl⟩:=Prod.mk.inj e1
    subst hc
    simp only [if_true] at hm
    subst hm
    have hx:∀ i:Fin len,∃ x:α,∃ cs':List Value,W.cells? 0 (a.add (i * P.cellsOf e)) (P.cellsOf e) = some cs'∧wf x∧sz x ≤ B (D i)∧(((D i).weights P e).all (· ≤ reachBytes) = true → rc x)∧cs'.length = (cells x).length ∧
        ∀ (j:Nat) (T:Ty) (u:Value),(cells x)[j]? = some T → cs'[j]? = some u → T.has (GW.all W) u:=by
      intro i
      obtain ⟨cs',h1,h2⟩:=hel i (by omega)
      obtain ⟨x,hx⟩:=he H enc B BA hB W n cs' _ _ h2
      exact ⟨x,cs',h1,hx⟩
    let f:Fin len → α:=fun i=>Classical.choose (hx i)
    have hf:∀ i:Fin len,∃ cs':List Value,W.cells? 0 (a.add (i * P.cellsOf e)) (P.cellsOf e) = some cs'∧wf (f i)∧sz (f i) ≤ B (D i)∧(((D i).weights P e).all (· ≤ reachBytes) = true → rc (f i))∧cs'.length = (cells (f i)).length ∧
        ∀ (j:Nat) (T:Ty) (u:Value),(cells (f i))[j]? = some T → cs'[j]? = some u → T.has (GW.all W) u:=fun i=>Classical.choose_spec (hx i)
    have hlf:(List.ofFn f).length = len:=by simp
    have hget:∀ (i:Nat) (x:α),(List.ofFn f)[i]? = some x → ∃ hi:i < len,x = f ⟨i,hi⟩:=fun i x h=>by
      have hi:i < len:=by have:=(List.getElem?_eq_some_iff.1 h).1;simpa using this
      refine ⟨hi,?_⟩
      rw [List.getElem?_ofFn] at h
      simp [hi] at h
      exact h.symm
    have hmem:∀ x ∈ List.ofFn f,∃ i:Fin len,x = f i:=fun x h=>by
      obtain ⟨i,hi⟩:=List.mem_iff_getElem?.1 h
      obtain ⟨hi',rfl⟩:=hget i x hi
      exact ⟨⟨i,hi'⟩,rfl⟩
    have hwf:∀ x ∈ List.ofFn f,wf x:=fun x h=>by
      obtain ⟨i,rfl⟩:=hmem x h
      obtain ⟨_,_,h1,_⟩:=hf i
      exact h1
    have hflat:∀ (xs:List α),(∀ x ∈ xs,wf x) → (xs.flatMap cells).length = xs.length * P.cellsOf e:=fun xs h=>by
      induction xs with
      | nil=>simp
      | cons x xs ih =>
        rw [List.flatMap_cons,List.length_append,hcl x (h x (by simp)),ih (fun y hy=>h y (by simp [hy])),List.length_cons,Nat.succ_mul];omega
    refine ⟨List.ofFn f,⟨by rw [hlf];omega,hwf⟩,?_,fun hr=>⟨?_,fun x h=>?_⟩,rfl,one_cell ?_⟩
    · rw [hB.slice]
      have:=BA_map hB sz (List.ofFn f) ((List.range len).map D) (by simp) (fun i x d hx hd=>by
        obtain ⟨hi,rfl⟩:=hget i x hx
        obtain ⟨_,_,_,h2,_⟩:=hf ⟨i,hi⟩
        rw [List.getElem?_map,List.getElem?_range hi] at hd
        simp at hd;subst hd;exact h2)
      show (List.map sz (List.ofFn f)).sum + 1 ≤ _
      omega
    · rw [hlf]
      have:(((List.range len).map D).length + ((List.range (m - len)).map fun j=>D (len + j)).length) * P.bytesOf e ≤ reachBytes:=by
        have:=List.all_eq_true.1 hr _ (by simp only [DataW.weights,ht];exact List.mem_cons_self)
        simpa using this
      refine Nat.le_trans (Nat.mul_le_mul_right _ ?_) this
      simp
    · obtain ⟨i,rfl⟩:=hmem x h
      obtain ⟨_,_,_,_,h3,_⟩:=hf i
      refine h3 (List.all_eq_true.2 fun k hk=>?_)
      refine List.all_eq_true.1 hr k ?_
      simp only [DataW.weights,ht]
      refine List.mem_cons_of_mem _ (List.mem_append.2 (.inl (weightsAll_mem (D:=List.map D (List.range len)) (d:=D i.val) (List.mem_map.2 ⟨i.val,List.mem_range.2 i.2,rfl⟩) k hk)))
    ·
      by_cases h0:len = 0
      · have e0:List.ofFn f = []:=List.eq_nil_of_length_eq_zero (by rw [hlf,h0])
        rw [e0,h0]
        exact ⟨some a,m,0,0,rfl,⟨Nat.zero_le _,hcap⟩,by simp,.inl rfl,fun j T hj=>by simp at hj⟩
      · have hcell:∀ (i:Fin len) (k:Nat) (T:Ty),(cells (f i))[k]? = some T → ∃ u,W.cell? ((a.add (i * P.cellsOf e)).add k) = some u∧T.has (GW.all W) u:=fun i k T hT=>by
          obtain ⟨cs',h1,h2,_,_,h5,h6⟩:=hf i
          have hk:k < cs'.length:=by rw [h5];exact (List.getElem?_eq_some_iff.1 hT).1
          refine ⟨cs'[k],?_,h6 k T _ hT (by simp [hk])⟩
          have hkc:k < P.cellsOf e:=by rw [← hcl _ h2,← h5];exact hk
          unfold World.cells? at h1
          rw [if_pos (Nat.zero_le _)] at h1
          have:=mapM_some_get h1 k k (by rw [List.getElem?_range hkc])
          rw [this];simp [hk]
        have hspot:a.spot = none:=by
          obtain ⟨cs',h1,h2,_,_,h5,h6⟩:=hf ⟨0,by omega⟩
          have h7:0 < (cells (f ⟨0,by omega⟩)).length:=by rw [hcl _ h2];exact hc0
          obtain ⟨u,hu,_⟩:=hcell ⟨0,by omega⟩ 0 _ (List.getElem?_eq_getElem h7)
          simp [Addr.add] at hu
          exact spot_none hu
        obtain ⟨ab,ao,asp⟩:=a
        simp only at hspot
        subst hspot
        have hlt:ab < W.heap.size:=by
          obtain ⟨cs',h1,h2,_,_,h5,h6⟩:=hf ⟨0,by omega⟩
          have h7:0 < (cells (f ⟨0,by omega⟩)).length:=by rw [hcl _ h2];exact hc0
          obtain ⟨u,hu,_⟩:=hcell ⟨0,by omega⟩ 0 _ (List.getElem?_eq_getElem h7)
          simp [Addr.add] at hu
          exact World.block_lt_of_cell? _ _ hu
        refine ⟨some ⟨ab,ao,none⟩,m,ab,ao,by rw [hlf],⟨by omega,hcap⟩,hflat _ hwf,.inr ⟨rfl,by simp [GW.all,hlt]⟩,fun j T hj=>?_⟩
        have key:∀ (xs:List α) (o:Nat),(∀ x ∈ xs,wf x) → (∀ (i:Nat) x,xs[i]? = some x → ∀ (k:Nat) (T:Ty),(cells x)[k]? = some T → ∃ u,W.cell? ⟨ab,o + i * P.cellsOf e + k,none⟩ = some u∧T.has (GW.all W) u) →
            ∀ (j:Nat) (T:Ty),(xs.flatMap cells)[j]? = some T → ∃ u,W.cell? ⟨ab,o + j,none⟩ = some u∧T.has (GW.all W) u:=by
          intro xs
          induction xs with
          | nil=>intro o _ _ j T hj;simp at hj
          | cons x xs ih =>
            intro o hw hc j T hj
            rw [List.flatMap_cons] at hj
            have hlx:=hcl x (hw x (by simp))
            by_cases hjl:j < (cells x).length
            · rw [List.getElem?_append_left hjl] at hj
              have:=hc 0 x rfl j T hj
              simpa using this
            · rw [List.getElem?_append_right (by omega)] at hj
              have:=ih (o + P.cellsOf e) (fun y hy=>hw y (by simp [hy])) (fun i y hy k T hT=>by
                have:=hc (i + 1) y (by simpa using hy) k T hT
                rw [Nat.succ_mul] at this
                rw [show o + P.cellsOf e + i * P.cellsOf e + k = o + (i * P.cellsOf e + P.cellsOf e) + k by omega]
                exact this) _ T hj
              rw [hlx] at this hjl
              rwa [show o + P.cellsOf e + (j - P.cellsOf e) = o + j by omega] at this
        refine key (List.ofFn f) ao hwf (fun i x hx k T hT=>?_) j T hj
        obtain ⟨hi,rfl⟩:=hget i x hx
        have:=hcell ⟨i,hi⟩ k T hT
        simp only [Addr.add_lit] at this
        exact this
theorem Rd.conv {t:TypeId} {α β:Type} {cells:α → List Ty} {wf:α → Prop} {sz:α → Nat} {rc:α → Prop} {cells':β → List Ty} {wf':β → Prop} {sz':β → Nat} {rc':β → Prop} (h:Rd P t cells wf sz rc) (g:α → β)
    (hg:∀ x,wf x → wf' (g x)∧sz' (g x) ≤ sz x∧(rc x → rc' (g x))∧cells' (g x) = cells x):Rd P t cells' wf' sz' rc':=by
  intro H enc B BA hB W fuel cs d ps ht
  obtain ⟨x,h1,h2,h3,h4,h5⟩:=h H enc B BA hB W fuel cs d ps ht
  obtain ⟨g1,g2,g3,g4⟩:=hg x h1
  exact ⟨g x,g1,Nat.le_trans g2 h2,fun h=>g3 (h3 h),by rw [g4];exact h4,by rw [g4];exact h5⟩
theorem flatMap_one {α:Type} (f:α → Ty) (xs:List α):xs.flatMap (fun x=>[f x]) = xs.map f:=by
  induction xs with
  | nil=>rfl
  | cons x xs ih=>simp [ih]
theorem rd_lst {t e:TypeId} {α:Type} {f:α → Ty} {wf:α → Prop} {sz:α → Nat} {rc:α → Prop} (ht:P.underlying t = some (.slice e)) (hc:P.cellsOf e = 1) (he:Rd P e (fun x=>[f x]) wf sz rc) :
    Rd P t (fun xs:List α=>[Ty.lst f xs]) (fun xs=>xs.length ≤ maxLen∧∀ x ∈ xs,wf x) (fun xs=>(xs.map sz).sum + 1) (fun xs=>xs.length * P.bytesOf e ≤ reachBytes∧∀ x ∈ xs,rc x) :=
  (rd_slice ht hc (by decide) he (fun _ _=>rfl)).conv id fun x h=>⟨h,Nat.le_refl _,id,by simp [flatMap_one,Ty.lst]⟩
theorem trodAll_stays {H:Type} {enc:TypeId × Value → H} (hl:laidOutB P = true) {W W':World} (hb:Below W.heap.size W W'):∀ {ts:List TypeId} {vs:List Value} {ds:List (DataW H)} {ps:List MemPlace},
    DataW.TrodAll enc P W 0 (fun _=>true) true ts vs ds ps → (ts.all fun t=>P.readableRec t && decide (t < P.types.size)) = true → (∀ x ∈ ps,x.block < W.heap.size) → DataW.TrodAll enc P W' 0 (fun b=>decide (b < W.heap.size)) true ts vs ds ps
  | [],[],[],ps,h,_,_=>h
  | t :: ts,v :: vs,d :: ds,ps,h,ha,hp=>by
    obtain ⟨p,q,h1,h2,rfl⟩:=h
    simp only [List.all_cons,Bool.and_eq_true,decide_eq_true_eq] at ha
    exact ⟨p,q,Below.trod hl ha.1.1 ha.1.2 h1 hb (fun x hx=>hp x (List.mem_append.2 (.inl hx))),trodAll_stays hl hb h2 ha.2 (fun x hx=>hp x (List.mem_append.2 (.inr hx))),rfl⟩
  | [],[],_ :: _,_,h,_,_=>h.elim
  | [],_ :: _,_,_,h,_,_=>h.elim
  | _ :: _,[],_,_,h,_,_=>h.elim
  | _ :: _,_ :: _,[],_,h,_,_=>h.elim
theorem law_post {H:Type} {enc:TypeId × Value → H} {fn:Func} {f:FuncId} {s:ChangeSpec} {W:World} {args:Array Value} {ds gs:List (DataW H)} {before:List MemPlace} {tb:TypeId}
    (hres:fn.resultTypes = #[tb]) (hb:P.underlying tb = some .bool) (hl:laidOutB P = true) (hr:(fn.params.toList.all fun t=>P.readableRec t && decide (t < P.types.size)) = true)
    (hW:DataW.Whole enc P fn.params.toList s.vars false W args.toList ds gs before) (hv:s.vars = []) (hs:s.fn H (ds ++ gs) = { results:=[.lit (.bool true)],args:=ds })
    (hc:FnC P f args (GW.all W) (Ty.bool true)):Calls P f args W fun e W'=>∃ v,e = .returned v∧s.post enc P fn false true false false W args v W':=by
  refine Calls.mono hc ?_
  rintro e W' ⟨v,τ,rfl,hstp,rfl,hvv⟩
  have hbel:Below W.heap.size W τ.w:=⟨hstp.os,hstp.tape,hstp.output,hstp.size,fun k hk=>hstp.blk k hk (.inl rfl)⟩
  have hW':=hW
  obtain ⟨p,q,hA,hV,rfl,_,_⟩:=hW
  have hq:q = []:=by
    rw [hv] at hV
    cases gs with
    | nil=>exact hV
    | cons _ _=>exact hV.elim
  subst hq
  have hgs:gs = []:=by
    rw [hv] at hV
    cases gs with
    | nil=>rfl
    | cons _ _=>exact hV.elim
  subst hgs
  have hvv':v = .bool true:=hvv
  subst hvv'
  refine ⟨_,rfl,ds,[],_,[],p,[],hW',?_,?_,?_,hbel.frame _,fun h=>by cases h⟩
  · rw [hs,hres]
    exact trodAll_mk1 (shut_bool hb true)
  · rw [hs]
    exact trodAll_stays hl hbel hA hr (fun x hx=>hW'.lt x (List.mem_append.2 (.inl hx)))
  · rw [hs,hv];rfl
theorem arg_one {H:Type} {enc:TypeId × Value → H} {B:DataW H → Nat} {BA:List (DataW H) → Nat} (hB:Bulk B BA) {W:World} {t:TypeId} {v:Value} {d:DataW H} {ps:List MemPlace} {α:Type} {T:α → Ty} {wf:α → Prop} {sz:α → Nat} {rc:α → Prop}
    (h:Rd P t (fun x=>[T x]) wf sz rc) (hone:v.cells = #[v]) (ht:DataW.Trod enc P W 0 (fun _=>true) true t v d ps):∃ x:α,wf x∧sz x ≤ B d∧((d.weights P t).all (· ≤ reachBytes) = true → rc x)∧(T x).has (GW.all W) v:=by
  obtain ⟨fuel,hf⟩:=ht
  rw [hone] at hf
  obtain ⟨x,h1,h2,h3,_,h5⟩:=h H enc B BA hB W fuel _ d ps hf
  exact ⟨x,h1,h2,h3,h5 0 _ _ rfl rfl⟩
theorem one_slice {e:TypeId} {w:World} {r:Reach} {base:Nat} {t:TypeId} {v:Value} (ht:P.underlying t = some (.slice e)) (h:Value.okWide P w r base t v):v.cells = #[v]:=by
  obtain ⟨a,l,c,rfl⟩:=okWide_slice ht h;rfl
theorem one_int {k:IntKind} {w:World} {r:Reach} {base:Nat} {t:TypeId} {v:Value} (ht:P.underlying t = some (.int k)) (h:Value.okWide P w r base t v):v.cells = #[v]:=by
  obtain ⟨s,rfl⟩:=okWide_int ht h;rfl
theorem weightsEach_cons {H:Type} {t:TypeId} {ts:List TypeId} {d:DataW H} {ds:List (DataW H)} (h:(DataW.weightsEach P (t :: ts) (d :: ds)).all (· ≤ reachBytes) = true):(d.weights P t).all (· ≤ reachBytes) = true∧(DataW.weightsEach P ts ds).all (· ≤ reachBytes) = true:=by
  simpa [DataW.weightsEach,List.all_append] using h
end Go.KL
namespace Go.KL.Pm
open Go.KL
structure IsRow (r:List Int):Prop where
  pos:1 ≤ r.length
  one:∀ b,b < r.length → r.count (b:Int) = 1
theorem IsRow.bound {r:List Int} (h:IsRow r):∀ x ∈ r,0 ≤ x∧x < r.length:=by
  have h1:=countP_lt r.length r h.one
  have h2:=List.countP_eq_length.1 h1
  intro x hx
  simpa using h2 x hx
theorem IsRow.nodup {r:List Int} (h:IsRow r):r.Nodup:=by
  rw [List.nodup_iff_count]
  intro x
  by_cases hx:x ∈ r
  · have hb:=h.bound x hx
    have:=h.one x.toNat (by omega)
    rw [show ((x.toNat:Nat):Int) = x by omega] at this
    omega
  · rw [List.count_eq_zero_of_not_mem hx];omega
theorem IsRow.at {r:List Int} (h:IsRow r) {i:Nat} (hi:i < r.length):0 ≤ r.getD i 0∧r.getD i 0 < r.length:=by
  have:r.getD i 0 = r[i]:=by simp [hi]
  rw [this];exact h.bound _ (List.getElem_mem hi)
theorem IsRow.mem {r:List Int} (h:IsRow r) {b:Nat} (hb:b < r.length):(b:Int) ∈ r:=List.count_pos_iff.1 (by rw [h.one b hb];omega)
theorem roundsL_row {n:Nat} (h1:1 ≤ n):IsRow (roundsL n):=by
  refine ⟨by rw [roundsL_len];exact h1,row_all ?_ fun x hx=>?_⟩
  · refine List.Pairwise.map _ (R:=fun a b=>a ≠ b) (fun a b h e=>h (by omega)) List.nodup_range
  · rw [roundsL_len]
    simp only [roundsL,List.mem_map,List.mem_range] at hx
    obtain ⟨i,hi,rfl⟩:=hx;omega
theorem nxt_lt {r:List Int} (h:IsRow r) {k:Nat} (hk:k < r.length):nxt r k < r.length:=by
  have:=h.at hk;unfold nxt;omega
theorem nxt_int {r:List Int} (h:IsRow r) {k:Nat} (hk:k < r.length):((nxt r k:Nat):Int) = r.getD k 0:=by
  have:=h.at hk;unfold nxt;omega
theorem nxt_inj {r:List Int} (h:IsRow r) {j k:Nat} (hj:j < r.length) (hk:k < r.length) (e:nxt r j = nxt r k):j = k:=by
  have e':r.getD j 0 = r.getD k 0:=by rw [← nxt_int h hj,← nxt_int h hk,e]
  rw [← idxOf_at h.nodup hj,← idxOf_at h.nodup hk,e']
theorem itr_lt {r:List Int} (h:IsRow r) {b:Nat} (hb:b < r.length):∀ m,itr r b m < r.length
  | 0=>hb
  | m + 1=>nxt_lt h (itr_lt h hb m)
theorem itr_cancel {r:List Int} (h:IsRow r) {b:Nat} (hb:b < r.length):∀ (i d:Nat),itr r b i = itr r b (i + d) → b = itr r b d
  | 0,d,e=>by simpa [itr] using e
  | i + 1,d,e=>by
    refine itr_cancel h hb i d ?_
    rw [show i + 1 + d = (i + d) + 1 by omega] at e
    exact nxt_inj h (itr_lt h hb i) (itr_lt h hb (i + d)) e
theorem back_exists {r:List Int} (h:IsRow r) {b:Nat} (hb:b < r.length):∃ m,m < r.length∧itr r b (m + 1) = b:=by
  obtain ⟨i,j,hij,hj,e⟩:=collide (itr r b) (itr_lt h hb)
  refine ⟨j - i - 1,by omega,?_⟩
  have:=itr_cancel h hb i (j - i) (by rw [show i + (j - i) = j by omega];exact e)
  rw [show j - i - 1 + 1 = j - i by omega];exact this.symm
theorem per_spec {r:List Int} (h:IsRow r) {b:Nat} (hb:b < r.length):1 ≤ per r b∧per r b ≤ r.length∧itr r b (per r b) = b∧∀ m,0 < m → m < per r b → itr r b m ≠ b:=by
  obtain ⟨m,hm,e⟩:=back_exists h hb
  have hx:(List.range r.length).findIdx (fun m=>itr r b (m + 1) == b) < (List.range r.length).length:=List.findIdx_lt_length_of_exists ⟨m,List.mem_range.2 hm,by simp [e]⟩
  have hx':(List.range r.length).findIdx (fun m=>itr r b (m + 1) == b) < r.length:=by simpa using hx
  refine ⟨by unfold per;omega,by unfold per;omega,?_,fun m h0 hm=>?_⟩
  · have:=List.findIdx_getElem (w:=hx)
    simp only [List.getElem_range,beq_iff_eq] at this
    exact this
  · have:=List.not_of_lt_findIdx (p:=fun m=>itr r b (m + 1) == b) (xs:=List.range r.length) (i:=m - 1) (by unfold per at hm;omega)
    simp only [List.getElem_range,beq_eq_false_iff_ne] at this
    rwa [show m - 1 + 1 = m by omega] at this
theorem itr_inj {r:List Int} (h:IsRow r) {b:Nat} (hb:b < r.length) {i j:Nat} (hij:i < j) (hj:j < per r b):itr r b i ≠ itr r b j:=by
  intro e
  have:=itr_cancel h hb i (j - i) (by rw [show i + (j - i) = j by omega];exact e)
  exact (per_spec h hb).2.2.2 (j - i) (by omega) (by omega) this.symm
def Leads (r:List Int) (b k:Nat):Prop:=∃ m,itr r b m = k
theorem Leads.small {r:List Int} (h:IsRow r) {b k:Nat} (hb:b < r.length) (hl:Leads r b k):∃ m,m < per r b∧itr r b m = k:=by
  obtain ⟨m,e⟩:=hl
  induction m using Nat.strongRecOn generalizing k with
  | _ m ih =>
  by_cases hm:m < per r b
  · exact ⟨m,hm,e⟩
  · have hp:=per_spec h hb
    refine ih (m - per r b) (by omega) ?_
    have:=itr_add r b (per r b) (m - per r b)
    rw [hp.2.2.1,show per r b + (m - per r b) = m by omega] at this
    rw [← this];exact e
theorem Leads.symm {r:List Int} (h:IsRow r) {b k:Nat} (hb:b < r.length) (hl:Leads r b k):Leads r k b:=by
  obtain ⟨m,hm,e⟩:=hl.small h hb
  have hp:=per_spec h hb
  refine ⟨per r b - m,?_⟩
  have:=itr_add r b m (per r b - m)
  rw [show m + (per r b - m) = per r b by omega,hp.2.2.1,e] at this
  exact this.symm
theorem Leads.trans {r:List Int} {a b c:Nat} (h:Leads r a b) (k:Leads r b c):Leads r a c:=by
  obtain ⟨m,rfl⟩:=h
  obtain ⟨n,rfl⟩:=k
  exact ⟨m + n,itr_add r a m n⟩
theorem Leads.lt {r:List Int} (h:IsRow r) {b k:Nat} (hb:b < r.length) (hl:Leads r b k):k < r.length:=by
  obtain ⟨m,rfl⟩:=hl;exact itr_lt h hb m
theorem least_iff {r:List Int} (h:IsRow r) {b:Nat} (hb:b < r.length):least r b = true ↔ ∀ k,Leads r b k → b ≤ k:=by
  unfold least
  rw [List.all_eq_true]
  constructor
  · intro hh k hk
    obtain ⟨m,hm,rfl⟩:=hk.small h hb
    exact of_decide_eq_true (hh m (List.mem_range.2 hm))
  · intro hh m _
    exact decide_eq_true (hh _ ⟨m,rfl⟩)
theorem doneL_iff {r:List Int} (h:IsRow r) {i m k:Nat} (hi:i ≤ r.length) (hk:k < r.length):(doneL r i m).getD k 0 ≠ 0 ↔ (∃ j,j < i∧Leads r j k) ∨ ∃ x,x < m∧itr r i x = k:=by
  rw [← gd _ k (by rw [doneL_len];exact hk)]
  simp only [doneL,List.getElem_map,List.getElem_range]
  have key:((List.range i).any (fun j=>(List.range (per r j)).any fun x=>itr r j x == k) || (List.range m).any (fun x=>itr r i x == k)) = true ↔ ((∃ j,j < i∧Leads r j k) ∨ ∃ x,x < m∧itr r i x = k):=by
    simp only [Bool.or_eq_true,List.any_eq_true,List.mem_range,beq_iff_eq]
    constructor
    · rintro (⟨j,hj,x,_,e⟩ | ⟨x,hx,e⟩)
      · exact .inl ⟨j,hj,x,e⟩
      · exact .inr ⟨x,hx,e⟩
    · rintro (⟨j,hj,hl⟩ | ⟨x,hx,e⟩)
      · obtain ⟨x,hx,e⟩:=hl.small h (by omega)
        exact .inl ⟨j,hj,x,hx,e⟩
      · exact .inr ⟨x,hx,e⟩
  rw [← key]
  split <;> simp_all
theorem doneL_step {r:List Int} (h:IsRow r) {i m:Nat} (hi:i < r.length) (h0:(doneL r i m).getD (itr r i m) 0 = 0):(doneL r i m).set (itr r i m) 1 = doneL r i (m + 1):=by
  have hlt:=itr_lt h hi m
  have hget:∀ k,k < r.length → ((doneL r i m).set (itr r i m) 1).getD k 0 = if itr r i m = k then 1 else (doneL r i m).getD k 0:=fun k hk=>by
    rw [← gd _ k (by simp [doneL_len,hk]),List.getElem_set]
    split
    · rfl
    · rw [gd]
  refine eq_of_01 (by simp [doneL_len]) (fun k=>?_) (doneL_01 _ _ _) fun k hk=>?_
  · by_cases hk:k < r.length
    · rw [hget k hk];have:=doneL_01 r i m k;split <;> omega
    · rw [List.getD_eq_getElem?_getD,List.getElem?_eq_none (by simp [doneL_len];omega)];simp
  · have hk':k < r.length:=by simpa [doneL_len] using hk
    rw [hget k hk',doneL_iff h (by omega) hk']
    by_cases e:itr r i m = k
    · rw [if_pos e]
      exact ⟨fun _=>.inr ⟨m,by omega,e⟩,fun _=>by omega⟩
    · rw [if_neg e,doneL_iff h (by omega) hk']
      constructor
      · rintro (h1 | ⟨x,hx,e'⟩)
        · exact .inl h1
        · exact .inr ⟨x,by omega,e'⟩
      · rintro (h1 | ⟨x,hx,e'⟩)
        · exact .inl h1
        · by_cases hxm:x = m
          · subst hxm;exact absurd e' e
          · exact .inr ⟨x,by omega,e'⟩
theorem done_start {r:List Int} (h:IsRow r) {i:Nat} (hi:i < r.length):(doneL r i 0).getD i 0 = 0 ↔ least r i = true:=by
  have h1:=doneL_iff h (m:=0) (Nat.le_of_lt hi) hi
  rw [least_iff h hi]
  constructor
  · intro h0 k hk
    refine Nat.le_of_not_lt fun hlt=>?_
    exact h1.2 (.inl ⟨k,hlt,hk.symm h hi⟩) h0
  · intro hh
    refine Classical.byContradiction fun hne=>?_
    rcases h1.1 hne with ⟨j,hj,hl⟩ | ⟨x,hx,_⟩
    · have:=hh j (hl.symm h (by omega));omega
    · omega
theorem done_mid {r:List Int} (h:IsRow r) {i m:Nat} (hi:i < r.length) (hl:least r i = true) (hm:m ≤ per r i):(doneL r i m).getD (itr r i m) 0 = 0 ↔ m < per r i:=by
  have hp:=per_spec h hi
  have h1:=doneL_iff h (i:=i) (m:=m) (Nat.le_of_lt hi) (itr_lt h hi m)
  constructor
  · intro h0
    refine Classical.byContradiction fun hge=>?_
    have:m = per r i:=by omega
    subst this
    exact h1.2 (.inr ⟨0,by omega,by rw [hp.2.2.1];rfl⟩) h0
  · intro hlt
    refine Classical.byContradiction fun hne=>?_
    rcases h1.1 hne with ⟨j,hj,hl'⟩ | ⟨x,hx,e⟩
    · have:=(least_iff h hi).1 hl j (Leads.trans ⟨m,rfl⟩ (hl'.symm h (by omega)));omega
    · exact itr_inj h hi hx hlt e
theorem done_next {r:List Int} (h:IsRow r) {i:Nat} (hi:i < r.length):doneL r i (per r i) = doneL r (i + 1) 0:=by
  refine eq_of_01 (by simp [doneL_len]) (doneL_01 _ _ _) (doneL_01 _ _ _) fun k hk=>?_
  have hk':k < r.length:=by simpa [doneL_len] using hk
  rw [doneL_iff h (by omega) hk',doneL_iff h (by omega) hk']
  constructor
  · rintro (⟨j,hj,hl⟩ | ⟨x,hx,e⟩)
    · exact .inl ⟨j,by omega,hl⟩
    · exact .inl ⟨i,by omega,x,e⟩
  · rintro (⟨j,hj,hl2⟩ | ⟨x,hx,e⟩)
    · by_cases hji:j = i
      · subst hji
        obtain ⟨x,hx,e⟩:=hl2.small h hi
        exact .inr ⟨x,hx,e⟩
      · exact .inl ⟨j,by omega,hl2⟩
    · omega
theorem done_skip {r:List Int} (h:IsRow r) {i:Nat} (hi:i < r.length) (hl:least r i = false):doneL r i 0 = doneL r (i + 1) 0:=by
  refine eq_of_01 (by simp [doneL_len]) (doneL_01 _ _ _) (doneL_01 _ _ _) fun k hk=>?_
  have hk':k < r.length:=by simpa [doneL_len] using hk
  have hex:∃ j,j < i∧Leads r i j:=by
    refine Classical.byContradiction fun hn=>?_
    have:least r i = true:=(least_iff h hi).2 fun k hk=>Nat.le_of_not_lt fun hlt=>hn ⟨k,hlt,hk⟩
    rw [hl] at this;cases this
  obtain ⟨j0,hj0,hl0⟩:=hex
  rw [doneL_iff h (by omega) hk',doneL_iff h (by omega) hk']
  constructor
  · rintro (⟨j,hj,hl⟩ | ⟨x,hx,e⟩)
    · exact .inl ⟨j,by omega,hl⟩
    · omega
  · rintro (⟨j,hj,hl2⟩ | ⟨x,hx,e⟩)
    · by_cases hji:j = i
      · subst hji
        exact .inl ⟨j0,hj0,(hl0.symm h hi).trans hl2⟩
      · exact .inl ⟨j,by omega,hl2⟩
    · omega
theorem cyc_least {r:List Int} (h:IsRow r) {i m:Nat} (hi:i < r.length) (hml:m = 0 ∨ least r i = true) (h0:(doneL r i m).getD (itr r i m) 0 = 0):least r i = true:=by
  rcases hml with rfl | hl
  · exact (done_start h hi).1 h0
  · exact hl
theorem cyc_some {r:List Int} (h:IsRow r) {i m:Nat} (hi:i < r.length) (hm:m ≤ per r i) (hml:m = 0 ∨ least r i = true) (h0:¬ (doneL r i m).getD (itr r i m) 0 = 0) (hp:0 < m):least r i = true∧m = per r i:=by
  have hl:=hml.resolve_left (by omega)
  refine ⟨hl,?_⟩
  have:¬ m < per r i:=fun hlt=>h0 ((done_mid h hi hl hm).2 hlt)
  omega
theorem cyc_none {r:List Int} (h:IsRow r) {i m:Nat} (hi:i < r.length) (_hm:m ≤ per r i) (h0:¬ (doneL r i m).getD (itr r i m) 0 = 0) (hp:m = 0):least r i = false∧m = 0:=by
  subst hp
  refine ⟨?_,rfl⟩
  cases hl:least r i with
  | false=>rfl
  | true=>exact absurd ((done_start h hi).2 hl) h0
theorem least_of {r:List Int} (hr:IsRow r):∀ (b:Nat),b < r.length → ∃ k,k < r.length∧least r k = true∧Leads r k b:=by
  intro b
  induction b using Nat.strongRecOn with
  | ind b ih =>
    intro hb
    by_cases hl:least r b = true
    · exact ⟨b,hb,hl,0,rfl⟩
    · rw [least_iff hr hb] at hl
      obtain ⟨k,hk⟩:=Classical.not_forall.1 hl
      obtain ⟨h1,h2⟩:=Classical.not_imp.1 hk
      obtain ⟨m,h3,h4,h5⟩:=ih k (by omega) (h1.lt hr hb)
      exact ⟨m,h3,h4,h5.trans (h1.symm hr hb)⟩
theorem byL_row {a b:List Int} (ha:IsRow a) (hb:IsRow b) (hl:a.length = b.length):IsRow (byL a b):=by
  refine ⟨by rw [byL_len];exact hb.pos,row_all ?_ ?_⟩
  · unfold byL
    rw [List.nodup_iff_pairwise_ne,List.pairwise_iff_getElem]
    intro i j hi hj hij e
    simp only [List.length_map] at hi hj
    simp only [List.getElem_map] at e
    rw [gd b i hi,gd b j hj] at e
    have bi:=hb.at hi
    have bj:=hb.at hj
    have h1:=idxOf_at ha.nodup (k:=(b.getD i 0).toNat) (by omega)
    have h2:=idxOf_at ha.nodup (k:=(b.getD j 0).toNat) (by omega)
    rw [e] at h1
    have e2:b.getD i 0 = b.getD j 0:=by omega
    have h3:=idxOf_at hb.nodup hi
    have h4:=idxOf_at hb.nodup hj
    rw [e2] at h3;omega
  · intro x hx
    unfold byL at hx
    obtain ⟨y,hy,rfl⟩:=List.mem_map.1 hx
    have:=hb.bound y hy
    have:=ha.at (i:=y.toNat) (by omega)
    rw [byL_len];omega
theorem row_perm {r:List Int} (h:IsRow r):r.Perm (roundsL r.length):=by
  rw [List.perm_ext_iff_of_nodup h.nodup (roundsL_row h.pos).nodup]
  intro x
  constructor
  · intro hx
    have:=h.bound x hx
    exact List.mem_map.2 ⟨x.toNat,List.mem_range.2 (by omega),by omega⟩
  · intro hx
    obtain ⟨k,hk,rfl⟩:=List.mem_map.1 hx
    exact h.mem (List.mem_range.1 hk)
theorem orb_nodup {r:List Int} (hr:IsRow r) {b:Nat} (hb:b < r.length):(orb r b).Nodup:=by
  unfold orb
  rw [List.nodup_iff_pairwise_ne,List.pairwise_map]
  refine List.Pairwise.imp_of_mem ?_ List.pairwise_lt_range
  intro i j hi hj hij e
  exact itr_inj hr hb hij (List.mem_range.1 hj) (by omega)
theorem cycles_perm {r:List Int} (hr:IsRow r):(cyclesL r).flatten.Perm (roundsL r.length):=by
  rw [List.perm_ext_iff_of_nodup ?_ (roundsL_row hr.pos).nodup]
  · intro x
    rw [List.mem_flatten]
    constructor
    · rintro ⟨c,hc,hx⟩
      obtain ⟨b,hb,_,rfl⟩:=cyc_mem hc
      obtain ⟨m,_,rfl⟩:=orb_mem.1 hx
      exact List.mem_map.2 ⟨itr r b m,List.mem_range.2 (itr_lt hr hb m),rfl⟩
    · intro hx
      obtain ⟨k,hk,rfl⟩:=List.mem_map.1 hx
      have hk:=List.mem_range.1 hk
      obtain ⟨b,hb,hl,hle⟩:=least_of hr k hk
      obtain ⟨m,hm,e⟩:=hle.small hr hb
      exact ⟨orb r b,List.mem_map.2 ⟨b,List.mem_filter.2 ⟨List.mem_range.2 hb,hl⟩,rfl⟩,orb_mem.2 ⟨m,hm,by rw [e]⟩⟩
  · rw [List.nodup_iff_pairwise_ne,List.pairwise_flatten]
    constructor
    · intro c hc
      obtain ⟨b,hb,_,rfl⟩:=cyc_mem hc
      exact List.nodup_iff_pairwise_ne.1 (orb_nodup hr hb)
    · unfold cyclesL cyclesTo
      rw [List.pairwise_map]
      refine List.Pairwise.imp_of_mem ?_ (List.Pairwise.filter _ List.pairwise_lt_range)
      intro b c hb hc hbc x hx y hy e
      subst e
      obtain ⟨hb1,hb2⟩:=List.mem_filter.1 hb
      obtain ⟨hc1,hc2⟩:=List.mem_filter.1 hc
      have hb1:=List.mem_range.1 hb1
      have hc1:=List.mem_range.1 hc1
      obtain ⟨m,_,e1⟩:=orb_mem.1 hx
      obtain ⟨m',_,e2⟩:=orb_mem.1 hy
      have e3:itr r b m = itr r c m':=by omega
      have h1:Leads r b (itr r c m'):=⟨m,e3⟩
      have h2:Leads r c b:=Leads.trans ⟨m',rfl⟩ (h1.symm hr hb1)
      have:=(least_iff hr hc1).1 hc2 b h2
      omega
end Go.KL.Pm
namespace Go.KL
open Go.RowKit
section
variable {n k:Nat} {c:Nat → Lev} {gens L:List (List Int)}
end
section
variable {n:Nat} {x y c r:List Int} {E gens:List (List Int)}
end
section
variable {N i m f:Nat} {r:List Int}
end
end Go.KL
namespace Go.KL
open Go.RowKit
section
variable {n i j k m T:Nat} {G H R W F:List (List Int)} {r r' x y z:List Int} {f g:Int → Option Int}
end
end Go.KL
namespace Go.KL
open Go.RowKit
section
variable {n i j k T:Nat} {G H R W N R2 W2 F:List (List Int)} {l2 r:List Int} {f:Int → Option Int}
end
section
variable {n:Nat} {H R:List (List Int)} {r:List Int}
end
section
variable {n:Nat} {G S H F:List (List Int)} {c:Nat → Lev} {x:List Int}
end
end Go.KL
namespace Go.KL
open Go.RowKit
section
variable {n k m T T2 most:Nat} {G S H D R W N R2 W2 N2 F L V:List (List Int)} {r:List Int}
end
section
variable {n:Nat} {z:Int} {G S:List (List Int)}
theorem may_nat (h:gensMay (n:Int) G = 0):(1 ≤ n∧n ≤ 12)∧G.length ≤ 8∧∀ x ∈ G,RowN n x:=by
  obtain ⟨⟨h1,h2,h3⟩,h4⟩:=gensMay_ok h
  refine ⟨by omega,h3,fun x hx=>?_⟩
  obtain ⟨a,ha,rfl⟩:=List.getElem_of_mem hx
  obtain ⟨h5,h6⟩:=h4 a ha
  rw [show G.getD a [] = G[a] by simp [ha]] at h5 h6
  exact ⟨h5,by omega⟩
theorem may_int (h:gensMay z G = 0):∃ m:Nat,z = (m:Int):=by
  obtain ⟨⟨h1,_,_⟩,_⟩:=gensMay_ok h
  exact ⟨z.toNat,by omega⟩
end
end Go.KL
namespace Go.KL
open Go.RowKit
section
variable {n i j k T:Nat} {G H R W N R2 W2 F:List (List Int)} {w l2 r x y z:List Int}
end
end Go.KL
namespace Go.KL
open Go.RowKit
section
variable {n i j k T:Nat} {G R W N R2 W2 L:List (List Int)} {r w w' l2:List Int}
end
end Go.KL
namespace Go.KL
open Go.RowKit
section
variable {P:Program} {d:Option Tmp} {ty t:TypeId} {pos:String} {af:Array Edge} {g:Option (Nat × Bool)} {a:Act} {σ:GW} {x:Operand} {m:Int}
end
end Go.KL
namespace Go.KL
open Go.RowKit
abbrev Spt:=List Int × Int × Int
section
variable {n i j k T:Nat} {G R W L:List (List Int)} {r w:List Int} {c:Nat → Lev} {f:Int → Option Int} {SP:List Spt}
end
end Go.KL
namespace Go.KL
open Go.RowKit Go.Sort
def cmpI (x y:Int):Int:=if x < y then -1 else if y < x then 1 else 0
def cmpL:List Int → List Int → Int
  | [],[]=>0
  | [],_ :: _=>-1
  | _ :: _,[]=>1
  | x :: a,y :: b=>if cmpI x y ≠ 0 then cmpI x y else cmpL a b
theorem cmpI_zero {x y:Int}:cmpI x y = 0 ↔ x = y:=by unfold cmpI;split <;> (try split) <;> omega
theorem cmpI_neg {x y:Int}:cmpI x y < 0 ↔ x < y:=by unfold cmpI;split <;> (try split) <;> omega
theorem cmpL_lt:∀ a b:List Int,decide (cmpL a b < 0) = belowL a b
  | [],[]=>rfl
  | [],_ :: _=>by simp [cmpL,belowL]
  | _ :: _,[]=>by simp [cmpL,belowL]
  | x :: a,y :: b=>by
    rw [cmpL,belowL]
    by_cases h:x = y
    · rw [if_neg (by rw [Classical.not_not];exact cmpI_zero.2 h),if_pos h];exact cmpL_lt a b
    · rw [if_pos (fun e=>h (cmpI_zero.1 e)),if_neg h,decide_eq_decide];exact cmpI_neg
theorem cmp_step {a b:List Int} {i:Nat} {z:Int} (h:cmpL (a.drop i) (b.drop i) = z) (h1:i < a.length) (h2:i < b.length) (e:¬ cmpI (a.getD i 0) (b.getD i 0) ≠ 0):cmpL (a.drop (i + 1)) (b.drop (i + 1)) = z:=by
  rw [drop_consD 0 h1,drop_consD 0 h2,cmpL,if_neg e] at h;exact h
theorem cmp_ne {a b:List Int} {i:Nat} {z:Int} (h:cmpL (a.drop i) (b.drop i) = z) (h1:i < a.length) (h2:i < b.length) (e:cmpI (a.getD i 0) (b.getD i 0) ≠ 0):cmpI (a.getD i 0) (b.getD i 0) = z:=by
  rw [drop_consD 0 h1,drop_consD 0 h2,cmpL,if_pos e] at h;exact h
theorem cmp_long {a b:List Int} {i:Nat} {z:Int} (h:cmpL (a.drop i) (b.drop i) = z) (h1:i < a.length) (h2:b.length ≤ i):z = 1:=by
  rw [drop_consD 0 h1,List.drop_eq_nil_of_le h2,cmpL] at h;exact h.symm
theorem cmp_short {a b:List Int} {i:Nat} {z:Int} (h:cmpL (a.drop i) (b.drop i) = z) (h1:a.length ≤ i) (h2:i < b.length):z = -1:=by
  rw [drop_consD 0 h2,List.drop_eq_nil_of_le h1,cmpL] at h;exact h.symm
theorem cmp_same {a b:List Int} {i:Nat} {z:Int} (h:cmpL (a.drop i) (b.drop i) = z) (h1:a.length ≤ i) (h2:b.length ≤ i):z = 0:=by
  rw [List.drop_eq_nil_of_le h1,List.drop_eq_nil_of_le h2,cmpL] at h;exact h.symm
end Go.KL
namespace Go.KL
open Go.RowKit Go.Sort Go.Shelf Go.Lib Go.Proofs
variable {P:Program}
def Elt (σ:GW):Type:={ p:Value × List Int // (Ty.ints p.2).has σ p.1 }
instance (σ:GW):Inhabited (Elt σ):=⟨⟨(.slice none 0 0,[]),nil_has rfl⟩⟩
def Elt.enc {σ:GW} (x:Elt σ):Value:=x.1.1
def Elt.cf {σ:GW} (x y:Elt σ):Int:=cmpL x.1.2 y.1.2
theorem Elt.lt {σ:GW} (x y:Elt σ):ltOf Elt.cf x y = belowL x.1.2 y.1.2:=cmpL_lt _ _
theorem Elt.swo (σ:GW):SWO (ltOf (Elt.cf (σ:=σ))) where
  irrefl x:=by rw [Elt.lt,below_irr]
  trans x y z h1 h2:=by rw [Elt.lt] at *;exact below_trans h1 h2
  ntrans x y z h1 h2:=by
    rw [Elt.lt] at *
    have:=leL_trans z.1.2 y.1.2 x.1.2 (by unfold leL;rw [h2];rfl) (by unfold leL;rw [h1];rfl)
    unfold leL at this;simpa using this
theorem Elt.one {σ:GW}:OneCell (Elt.enc (σ:=σ)):=fun x=>by
  obtain ⟨_,_,_,_,e,_⟩:=x.2
  unfold Elt.enc;rw [e];rfl
theorem heap_sortWorld {α:Type} [Inhabited α] {enc:α → Value} {w:World} {blk off m:Nat} {dk:Array α} {os:Array Obj} {b:Nat} (hb:b < w.heap.size):(sortWorld enc w blk off m dk os).heap[b]? = if blk = b then (w.heap[b]?).map (onCells (putCells enc off dk)) else w.heap[b]?:=by
  unfold sortWorld
  rw [heap_grow_old _ _ (by simpa using hb)]
  unfold putRow mapBlock
  simp only [Array.getElem?_modify,heap_ahead]
theorem size_sortWorld {α:Type} [Inhabited α] {enc:α → Value} {w:World} {blk off m:Nat} {dk:Array α} {os:Array Obj}:w.heap.size ≤ (sortWorld enc w blk off m dk os).heap.size:=by
  unfold sortWorld;rw [size_grow,Sort.size_putRow];simp only [heap_ahead];omega
theorem m_sortP {d:Option Tmp} {ty:TypeId} {pos:String} {af:Array Edge} {gd:Option (Nat × Bool)} {a:Act} {σ:GW} {f g:FuncId} {fn:Func} {x:Operand} {tys:Array TypeId} {k:Nat} {e:TypeId} {v:Value} {D:List (List Int)} (hk:2 ≤ k) (h:Own σ k e 1 v D.length (D.map Ty.ints)) (hx:a.eval x = v) (hD:D.length < 4611686018427387904)
    (hf : P.funcs[f]? = some fn) (hn : (fn.name == "runtime.NumGoroutine") = false) (hb : fn.body.isSome = true)
    (hS:∀ (α:Type) [Inhabited α] (enc:α → Value),OneCell enc → ∀ (cf:α → α → Int),SWO (ltOf cf) → ∀ (blk off cap:Nat) (d:Array α) (w:World),CmpLays1 P g #[] enc cf blk off d.size w → Holds enc w blk off d → blk < w.heap.size → d.size < 4611686018427387904 →
      Calls P f #[.slice (some ⟨blk,off,none⟩) d.size cap,.func (.func g) #[] #[]] w fun e w'=>e = .returned (.tuple #[])∧∃ d' n os,PermIn 0 d.size d d'∧SortedIn (ltOf cf) 0 d.size d'∧w' = sortWorld enc w blk off n d' os)
    (hN:∀ (p:Option Addr) (cap:Nat) (fv:Value) (w:World),Calls P f #[.slice p 0 cap,fv] w fun e w'=>e = .returned (.tuple #[])∧w' = w)
    (hcmp:∀ (σ:GW) (u w:Value) (xs ys:List Int),(Ty.ints xs).has σ u → (Ty.ints ys).has σ w → Calls P g #[u,w] σ.w fun e w'=>e = .returned (.int .i64 (cmpL xs ys))∧w' = σ.w) :
    YldL [k] P ⟨d,.call ⟨.value (.func f),#[x,.func g],tys⟩,ty,pos,af,gd⟩ a σ (fun _ τ=>∃ S:List (List Int),S.Perm D∧S.Pairwise (fun x y=>leL x y = true)∧Own τ k e 1 v D.length (S.map Ty.ints)):=by
  intro K Q hk'
  have hr:(execOp a.eval ⟨d,.call ⟨.value (.func f),#[x,.func g],tys⟩,ty,pos,af,gd⟩).run P σ.w = .ok (.enter f #[v,.func (.func g) #[] #[]]) σ.w:=by
    have hn' : ¬ fn.name = "runtime.NumGoroutine" := by simpa using hn
    have hb':¬ fn.body = none:=by intro e;simp [e] at hb
    simp only [execOp,resolve,List.map_toArray,List.map_cons,List.map_nil,hx]
    simp [Act.eval,Deferred.ofValue,invoke,callFunc,hf,hn',hb',program,Sem.run,Sem.run_bind]
  unfold Oper.wp
  rw [hr]
  obtain ⟨us,⟨hl,hc⟩,hl2,hty,hst⟩:=h
  rcases hc with ⟨rfl,hn0⟩ | ⟨gb,cap,cur,rfl,_,hg,hnc,hcm,hcs,htk⟩
  · refine Calls.mono (hN none 0 _ σ.w) ?_
    rintro e' w' ⟨rfl,rfl⟩
    have hD0:D = []:=List.eq_nil_of_length_eq_zero hn0
    subst hD0
    exact hk' _ σ (StpL.refl _ _) ⟨[],List.Perm.refl _,List.Pairwise.nil,us,⟨hl,.inl ⟨rfl,rfl⟩⟩,hl2,hty,hst⟩
  · have hgk:=hst gb rfl
    have hgs:=(Array.getElem?_eq_some_iff.1 hg).1
    rw [Nat.mul_one] at hl hcs htk
    rw [List.length_map] at hl2
    have hel:∀ i:Fin D.length,(Ty.ints (D[i.1]'i.2)).has σ (us[i.1]'(by omega)):=fun i=>hty i.1 _ _ (by simp) (by simp [hl])
    let dd:Array (Elt σ):=(List.ofFn fun i:Fin D.length=>(⟨(us[i.1]'(by omega),D[i.1]'i.2),hel i⟩:Elt σ)).toArray
    have hds:dd.size = D.length:=by show (List.ofFn _).length = _;exact List.length_ofFn
    have hdg:∀ j (hj:j < D.length),dd[j]! = ⟨(us[j]'(by omega),D[j]),hel ⟨j,hj⟩⟩:=fun j hj=>by
      rw [getElem!_pos dd j (by omega)];show (List.ofFn _)[j]'_ = _;exact List.getElem_ofFn _
    have hcu:∀ j,j < D.length → cur[j]? = us[j]?:=fun j hj=>by
      rw [← htk,List.getElem?_take,if_pos hj];simp
    have hH:Holds (Elt.enc (σ:=σ)) σ.w gb 0 dd:=fun j hj=>by
      rw [hds] at hj
      rw [Nat.zero_add]
      constructor
      · rw [hdg j hj]
        simp only [World.cell?,hg]
        rw [hcu j hj]
        simp [Elt.enc,show j < us.length by omega]
      · simp [World.frozen?,hg]
    have hC:CmpLays1 P g #[] (Elt.enc (σ:=σ)) Elt.cf gb 0 dd.size σ.w:=fun m os dk _ x y=>by
      let σ':GW:=⟨sortWorld Elt.enc σ.w gb 0 m dk os,fun b=>if σ.st b = 1 then 1 else 0,fun b hb=>by
        refine Nat.lt_of_lt_of_le (σ.lt b ?_) size_sortWorld
        intro e;rw [e] at hb;simp at hb⟩
      have hle:σ.Le σ':=⟨fun b hb=>by show (if σ.st b = 1 then 1 else 0) = 1;rw [if_pos hb],fun b hb=>by
        have:=σ.lt b (by omega)
        show (sortWorld _ _ _ _ _ _ _).heap[b]? = _
        rw [heap_sortWorld this,if_neg (by rintro rfl;omega)]⟩
      refine Calls.mono (hcmp σ' x.1.1 y.1.1 x.1.2 y.1.2 (Ty.up _ hle x.2) (Ty.up _ hle y.2)) ?_
      rintro e' w' ⟨rfl,rfl⟩
      exact ⟨rfl,0,#[],by rw [grow_empty];rfl⟩
    have hcon:=hS (Elt σ) Elt.enc Elt.one Elt.cf (Elt.swo σ) gb 0 cap dd σ.w hC hH hgs (by omega)
    rw [hds] at hcon
    refine Calls.mono hcon ?_
    rintro e' w' ⟨rfl,d',n',os,⟨p1,_,p3⟩,hso,rfl⟩
    have hex:∀ q:Array (Elt σ),q.size = D.length → (q.extract 0 D.length).toList = q.toList:=fun q hq=>by
      rw [← hq,Array.extract_size]
    rw [hex d' (by omega),hex dd hds] at p3
    have hmap:dd.toList.map (fun z=>z.1.2) = D:=by
      apply List.ext_getElem
      · rw [List.length_map];exact hds
      · intro i h1 h2
        have h3:=hdg i h2
        rw [getElem!_pos dd i (by omega)] at h3
        rw [List.getElem_map,Array.getElem_toList,h3]
    have hlt:∀ b,b < σ.w.heap.size → b < (sortWorld Elt.enc σ.w gb 0 n' d' os).heap.size:=fun b hb=>Nat.lt_of_lt_of_le hb size_sortWorld
    let ρ:GW:=⟨sortWorld Elt.enc σ.w gb 0 n' d' os,fun b=>σ.st b,fun b hb=>hlt b (σ.lt b hb)⟩
    have hne:∀ b,σ.st b ≠ k → gb ≠ b:=fun b hb e=>hb (e ▸ hgk)
    have hst2:StpL [k] σ ρ:=⟨rfl,rfl,rfl,by (refine .inl ?_;show σ.w.drawn ≤ σ.w.drawn + n';omega),size_sortWorld,fun b hb hm=>by
      show (sortWorld _ _ _ _ _ _ _).heap[b]? = _
      rw [heap_sortWorld hb,if_neg (hne b (by simpa using hm))],fun _ _ _=>rfl⟩
    refine hk' _ ρ hst2 ⟨d'.toList.map (fun z=>z.1.2),?_,?_,?_⟩
    · have:=p3.map (fun z:Elt σ=>z.1.2)
      rwa [hmap] at this
    · rw [List.pairwise_map,List.pairwise_iff_getElem]
      intro i j hi hj hij
      have hj':j < d'.size:=by simpa using hj
      have:=hso i j (Nat.zero_le _) hij (by omega)
      rw [getElem!_pos d' i (by omega),getElem!_pos d' j hj',Elt.lt] at this
      unfold leL
      simp only [Array.getElem_toList,this,Bool.not_false]
    · have hd's:d'.size = D.length:=by omega
      have hg2:ρ.w.heap[gb]? = some (.cells (putCells Elt.enc 0 d' cur) e (0,0)):=by
        show (sortWorld _ _ _ _ _ _ _).heap[gb]? = _
        rw [heap_sortWorld hgs,if_pos rfl,hg];rfl
      have htake:(putCells Elt.enc 0 d' cur).toList.take (D.length * 1) = d'.toList.map Elt.enc:=by
        rw [Nat.mul_one]
        apply List.ext_getElem
        · simp [putCells];omega
        · intro i h1 h2
          simp only [List.length_map,Array.length_toList] at h2
          simp [putCells,h2]
      refine Own.intro (us:=d'.toList.map Elt.enc) hg2 hgk hnc hcm (by simp [putCells,hcs]) htake (by simp) fun j T u hT hu=>?_
      rw [List.getElem?_map,List.getElem?_map] at hT
      rw [List.getElem?_map] at hu
      obtain ⟨z,hz⟩:∃ z,d'.toList[j]? = some z:=by
        cases hq:d'.toList[j]? with
        | none=>rw [hq] at hu;simp at hu
        | some z=>exact ⟨z,rfl⟩
      rw [hz] at hT hu
      simp at hT hu
      subst hT;subst hu
      exact Ty.up _ (hst2.le (by simp;omega)) z.2
end Go.KL
namespace Go.KL
open Go.RowKit Go.Sort Go.Shelf Go.Lib Go.Proofs
end Go.KL
namespace Go.KL
open Go.RowKit
section
variable {n i j k b q:Nat} {G L R:List (List Int)} {o S:List Int} {r:List Int}
end
end Go.KL
namespace Go.KL
open Go.RowKit
section
variable {n b i j:Nat} {G K:List (List Int)} {x y r:List Int} {c d tc:Nat → Lev}
variable (hn:1 ≤ n∧n ≤ 12) (hb:b < n)
include hn hb
end
end Go.KL
namespace Go.KL
open Go.RowKit
section
variable {n b i:Nat} {G K R W E F:List (List Int)} {r w:List Int} {c d:Nat → Lev} {z:Int}
end
end Go.KL
namespace Go.KL
open Go.RowKit
variable {P:Program}
variable {d:Option Tmp} {ty:TypeId} {pos:String} {af:Array Edge} {g:Option (Nat × Bool)} {a:Act} {σ:GW}
end Go.KL
namespace Go.KL
open Go.RowKit
variable {P:Program}
variable {d:Option Tmp} {ty:TypeId} {pos:String} {af:Array Edge} {g:Option (Nat × Bool)} {a:Act} {σ:GW}
end Go.KL
namespace Go.KL
open Go.RowKit
variable {P:Program}
theorem half_any3 {m N:Nat} {ops:Array Oper} {Q:Exit → Act → World → Prop} (hF:Form N ops) (hm:m ≤ ops.size) (hB:forcedB m ops.toList = true) (M:(Nat → Bool) → Act → GW → Prop)
    (hstep:∀ (i:Nat) o (L:Nat → Bool) a σ (K:Act → World → Prop),ops[i]? = some o → i < m → M L a σ → L i = false → (∀ e ∈ o.after,Region.binds .any e = true → L e.on = true) →
      (∀ (j:Nat) oj,ops[j]? = some oj → L j = true → ∀ e ∈ oj.after,Region.binds .any e = true → L e.on = true) → (∀ a' σ',M (fun j=>L j || j == i) a' σ' → K a' σ'.w) → wpOp P ops Q i K a σ.w)
    (hQ:∀ a σ,M (fun j=>decide (j < m)) a σ → wpList P ops Q (ops.toList.drop m) a σ.w):∀ (f:Nat) (L:Array Bool) (a:Act) (σ:GW),L.size = ops.size → left ops.size L ≤ f → (∀ j,j < ops.size → m ≤ j → L.getD j true = false) →
    (∀ (j:Nat) oj,ops[j]? = some oj → L.getD j true = true → ∀ e ∈ oj.after,Region.binds .any e = true → L.getD e.on true = true) → M (fun j=>decide (j < m) && L.getD j true) a σ → wpAny P .any ops Q f L a σ.w:=by
  intro f
  induction f with
  | zero =>
    intro L a σ hs hf hLm hcl hmid
    have hnone:∀ j,j < ops.size → L.getD j true = true:=fun j hj=>by
      cases h:L.getD j true with
      | true=>rfl
      | false=>have:=left_set hs hj h;omega
    have hmm:m = ops.size:=by
      rcases Nat.lt_or_ge m ops.size with h | h
      · have:=hnone m h;rw [hLm m h (Nat.le_refl _)] at this;cases this
      · omega
    have e:(fun j=>decide (j < m) && L.getD j true) = (fun j=>decide (j < m)):=by
      funext j
      by_cases h:j < m
      · rw [hnone j (by omega)];simp
      · simp [h]
    rw [e] at hmid
    exact tail_any hF hB 0 m 0 L a σ.w (by omega) (Nat.le_refl _) hs (Nat.le_refl _) (fun j hj=>by rw [hnone j hj];simp;omega) (hQ a σ hmid)
  | succ f ih =>
    intro L a σ hs hf hLm hcl hmid
    by_cases hdone:∀ j,j < m → L.getD j true = true
    · have hL:∀ j,j < ops.size → L.getD j true = decide (j < m):=fun j hj=>by
        by_cases h:j < m
        · rw [hdone j h];simp [h]
        · rw [hLm j hj (by omega)];simp [h]
      have e:(fun j=>decide (j < m) && L.getD j true) = (fun j=>decide (j < m)):=by
        funext j
        by_cases h:j < m
        · rw [hdone j h];simp
        · simp [h]
      rw [e] at hmid
      refine tail_any hF hB (ops.size - m) m (f + 1) L a σ.w (by omega) (Nat.le_refl _) hs ?_ hL (hQ a σ hmid)
      refine Nat.le_trans ?_ hf
      unfold left
      have:(List.range ops.size).countP (fun i=>!L.getD i true) = (List.range ops.size).countP (fun i=>decide (m ≤ i)):=List.countP_congr fun i hi=>by rw [hL i (List.mem_range.1 hi)];simp
      rw [this]
      have hcnt:∀ n,(List.range n).countP (fun i=>decide (m ≤ i)) = n - m:=fun n=>by
        induction n with
        | zero=>simp
        | succ n ihn =>
          rw [List.range_succ,List.countP_append,ihn]
          by_cases h:m ≤ n <;> simp [h] <;> omega
      rw [hcnt]
      exact Nat.le_refl _
    · have hsome:∃ j,j < m∧L.getD j true = false:=by
        refine Classical.byContradiction fun hn=>hdone fun j hj=>?_
        cases h:L.getD j true with
        | true=>rfl
        | false=>exact absurd ⟨j,hj,h⟩ hn
      have up:∀ k,L.getD k false = true → L.getD k true = true:=fun k h=>by
        by_cases hk:k < L.size
        · simp [hk] at h ⊢;exact h
        · simp [hk] at h
      refine ⟨fun hr=>?_,fun i hi=>?_⟩
      · exfalso
        have key:∀ j,j < m → L.getD j true = true:=by
          intro j
          induction j using Nat.strongRecOn with
          | _ j ihj =>
          intro hj
          cases hL:L.getD j true with
          | true=>rfl
          | false =>
            exfalso
            obtain ⟨o,ho⟩:∃ o,ops[j]? = some o:=⟨ops[j]'(by omega),by simp⟩
            have:j ∈ Region.ready .any ops L:=mem_ready.2 ⟨hL,o,ho,fun e he hb=>by
              have hlt:=hF.back j o ho e he hb
              have:=ihj e.on hlt (Nat.lt_trans hlt hj)
              have hsz:e.on < L.size:=by rw [hs];omega
              simp [hsz] at this ⊢;exact this⟩
            rw [hr] at this;cases this
        exact hdone key
      · obtain ⟨h0,o,ho,hall⟩:=mem_ready.1 hi
        have hi':i < ops.size:=(Array.getElem?_eq_some_iff.1 ho).1
        have him:i < m:=by
          rcases Nat.lt_or_ge i m with h | h
          · exact h
          · exfalso
            obtain ⟨j,hj,hjL⟩:=hsome
            have:=forced_spec (L:=fun j=>decide (j < ops.size) && L.getD j true) hB (fun j oj hj hLj e he hb=>by
              simp only [Bool.and_eq_true,decide_eq_true_eq] at hLj ⊢
              exact ⟨by have:=hF.back j oj hj e he hb;omega,hcl j oj hj hLj.2 e he hb⟩) ho h (fun e he hb=>by
              simp only [Bool.and_eq_true,decide_eq_true_eq]
              exact ⟨by have:=hF.back i o ho e he hb;omega,up _ (hall e he hb)⟩) j (by omega)
            simp only [Bool.and_eq_true] at this
            rw [hjL] at this;cases this.2
        refine hstep i o _ a σ _ ho him hmid (by simp [h0]) (fun e he hb=>?_) (fun j oj hj hLj e he hb=>?_) fun a' σ' hm'=>ih _ a' σ' (by simpa using hs) (by have:=left_set hs hi' h0;omega) (fun j hj hmj=>?_) ?_ ?_
        · have:=hF.back i o ho e he hb
          simp only [up _ (hall e he hb),Bool.and_true,decide_eq_true_eq];omega
        · simp only [Bool.and_eq_true,decide_eq_true_eq] at hLj ⊢
          exact ⟨by have:=hF.back j oj hj e he hb;omega,hcl j oj hj hLj.2 e he hb⟩
        · rw [getD_set_ne true (by omega)];exact hLm j hj hmj
        · intro j oj hj hLj e he hb
          by_cases hji:j = i
          · subst hji
            rw [ho] at hj;cases hj
            have hne:=hF.back j o ho e he hb
            rw [getD_set_ne true (by omega)]
            exact up _ (hall e he hb)
          · rw [getD_set_ne true (Ne.symm hji)] at hLj
            have:=hcl j oj hj hLj e he hb
            by_cases hei:e.on = i
            · rw [hei,h0] at this;cases this
            · rw [getD_set_ne true (Ne.symm hei)];exact this
        · have:(fun j=>(decide (j < m) && L.getD j true) || j == i) = (fun j=>decide (j < m) && (L.setIfInBounds i true).getD j true):=by
            funext j
            by_cases hji:j = i
            · subst hji;simp [him,hs,hi']
            · rw [getD_set_ne true (Ne.symm hji)];simp [hji]
          rwa [this] at hm'
theorem half_seq3 {m N:Nat} {ops:Array Oper} {Q:Exit → Act → World → Prop} (hF:Form N ops) (hm:m ≤ ops.size) (M:(Nat → Bool) → Act → GW → Prop)
    (hstep:∀ (i:Nat) o (L:Nat → Bool) a σ (K:Act → World → Prop),ops[i]? = some o → i < m → M L a σ → L i = false → (∀ e ∈ o.after,Region.binds .any e = true → L e.on = true) →
      (∀ (j:Nat) oj,ops[j]? = some oj → L j = true → ∀ e ∈ oj.after,Region.binds .any e = true → L e.on = true) → (∀ a' σ',M (fun j=>L j || j == i) a' σ' → K a' σ'.w) → wpOp P ops Q i K a σ.w)
    (hQ:∀ a σ,M (fun j=>decide (j < m)) a σ → wpOps P ops Q (List.range' m (ops.size - m)) a σ.w):∀ (n k:Nat) (a:Act) (σ:GW),k + n = m → M (fun j=>decide (j < k)) a σ → wpOps P ops Q (List.range' k (n + (ops.size - m))) a σ.w
  | 0,k,a,σ,hk,hmid=>by
    obtain rfl:k = m:=by omega
    rw [Nat.zero_add]
    exact hQ a σ hmid
  | n + 1,k,a,σ,hk,hmid=>by
    rw [show n + 1 + (ops.size - m) = (n + (ops.size - m)) + 1 by omega,List.range'_succ,wpOps_cons]
    obtain ⟨o,ho⟩:∃ o,ops[k]? = some o:=⟨ops[k]'(by omega),by simp⟩
    refine hstep k o _ a σ _ ho (by omega) hmid (by simp) (fun e he hbi=>by simpa using hF.back k o ho e he hbi)
      (fun j oj hj hlt e he hbi=>by have:=hF.back j oj hj e he hbi;simp at hlt ⊢;omega) fun a' σ' hm'=>half_seq3 hF hm M hstep hQ n (k + 1) a' σ' (by omega) ?_
    have:(fun j=>decide (j < k) || j == k) = (fun j=>decide (j < k + 1)):=by
      funext j;rw [Bool.eq_iff_iff];simp;omega
    rwa [this] at hm'
def Ty.any:Ty:=⟨fun _ _=>True,fun _ h=>h⟩
structure Mid3 (p d N:Nat) (D:List Deferred) (W:List Nat) (B:Pr) (ops:Array Oper) (Φ:Nat → Ty) (a0:Act) (σ0:GW) (L:Nat → Bool) (a:Act) (σ:GW):Prop where
  stp:StpL W σ0 σ
  stp0:L p = false → Stp 0 σ0 σ
  ok:Ok N D a
  done:∀ j,L j = true → j ≠ p → rd ops (fun i=>(Φ i).pr) j a σ
  donep:L p = true → B.has σ (a.eval (.tmp d))
  same:∀ t,(∀ j,dstOf ops j = some t → L j = false) → a.eval (.tmp t) = a0.eval (.tmp t)
def Obl3 (P:Program) (N:Nat) (D:List Deferred) (W:List Nat) (ops:Array Oper) (Φ:Nat → Ty) (a0:Act) (σ0:GW) (i:Nat) (o:Oper):Prop :=
  ∀ a σ,StpL W σ0 σ → Ok N D a → (∀ t,free ops i t = true → a.eval (.tmp t) = a0.eval (.tmp t)) → Deps ops (fun i=>(Φ i).pr) a σ o.after.toList (Run P ops o a σ (Φ i).pr)
def OblW (P:Program) (N:Nat) (D:List Deferred) (W:List Nat) (B:Pr) (ops:Array Oper) (Φ:Nat → Ty) (a0:Act) (σ0:GW) (i:Nat) (o:Oper):Prop :=
  ∀ a σ,Stp 0 σ0 σ → Ok N D a → (∀ t,free ops i t = true → a.eval (.tmp t) = a0.eval (.tmp t)) → Deps ops (fun i=>(Φ i).pr) a σ o.after.toList (YldL W P o a σ (fun v τ=>B.has τ v))
def Obls3 (P:Program) (p N:Nat) (D:List Deferred) (W:List Nat) (B:Pr) (ops:Array Oper) (Φ:Nat → Ty) (a0:Act) (σ0:GW):Nat → List Oper → Prop
  | _,[]=>True
  | i,o :: l=>(if i = p then OblW P N D W B ops Φ a0 σ0 i o else Obl3 P N D W ops Φ a0 σ0 i o)∧Obls3 P p N D W B ops Φ a0 σ0 (i + 1) l
theorem Obls3.get {p N:Nat} {D:List Deferred} {W:List Nat} {B:Pr} {ops:Array Oper} {Φ:Nat → Ty} {a0:Act} {σ0:GW}:∀ (l:List Oper) (k:Nat),Obls3 P p N D W B ops Φ a0 σ0 k l → ∀ j o,l[j]? = some o → (if k + j = p then OblW P N D W B ops Φ a0 σ0 (k + j) o else Obl3 P N D W ops Φ a0 σ0 (k + j) o)
  | [],_,_,j,o,h=>by simp at h
  | x :: l,k,h,0,o,hj=>by simp at hj;subst hj;exact h.1
  | x :: l,k,h,j + 1,o,hj=>by
    have:=Obls3.get l (k + 1) h.2 j o (by simpa using hj)
    rwa [show k + 1 + j = k + (j + 1) by omega] at this
theorem Obls3.up {p N:Nat} {D:List Deferred} {W:List Nat} {B:Pr} {ops:Array Oper} {Φ:Nat → Ty} {a0:Act} {σ0 σ1:GW} (hs:Stp 0 σ0 σ1):∀ (l:List Oper) (k:Nat),Obls3 P p N D W B ops Φ a0 σ0 k l → Obls3 P p N D W B ops Φ a0 σ1 k l
  | [],_,_=>trivial
  | x :: l,k,h=>by
    refine ⟨?_,Obls3.up hs l (k + 1) h.2⟩
    have h1:=h.1
    split at h1
    · rename_i e;rw [if_pos e];exact fun a σ hs'=>h1 a σ (hs.trans hs')
    · rename_i e;rw [if_neg e];exact fun a σ hs'=>h1 a σ (hs.toL0.trans hs')
theorem Mid3.op {p d N:Nat} {D:List Deferred} {W:List Nat} {B:Pr} {ops:Array Oper} {Φ:Nat → Ty} {a0:Act} {σ0:GW} {L:Nat → Bool} {a:Act} {σ:GW} {i:Nat} {o:Oper} {Q:Exit → Act → World → Prop} {K:Act → World → Prop}
    (hF:Form N ops) (h1:1 ∉ W) (hp:dstOf ops p = some d) (hΦ:∀ e v,(Φ p).has e v) (hpg:∀ o,ops[p]? = some o → o.guard = none) (hm:Mid3 p d N D W B ops Φ a0 σ0 L a σ) (ho:ops[i]? = some o) (hL:L i = false)
    (hob:if i = p then OblW P N D W B ops Φ a0 σ0 i o else Obl3 P N D W ops Φ a0 σ0 i o)
    (hall:∀ e ∈ o.after,Region.binds .any e = true → L e.on = true) (hclosed:∀ (j:Nat) oj,ops[j]? = some oj → L j = true → ∀ e ∈ oj.after,Region.binds .any e = true → L e.on = true)
    (hK:∀ a' σ',Mid3 p d N D W B ops Φ a0 σ0 (fun j=>L j || j == i) a' σ' → K a' σ'.w):wpOp P ops Q i K a σ.w:=by
  have hdi:dstOf ops i = o.dst:=by simp [dstOf,ho]
  have hsame:∀ t,free ops i t = true → a.eval (.tmp t) = a0.eval (.tmp t):=by
    intro t ht
    refine hm.same t fun j hj=>?_
    cases hLj:L j with
    | false=>rfl
    | true =>
      exfalso
      unfold dstOf at hj
      obtain ⟨oj,hoj,hd⟩:=Option.bind_eq_some_iff.1 hj
      unfold free at ht
      have:=(List.all_eq_true.1 ht) oj (List.mem_of_getElem? hoj)
      simp only [hd,bne_self_eq_false,Bool.false_or,List.any_eq_true,Bool.and_eq_true,beq_iff_eq] at this
      obtain ⟨e,he,hb,hon⟩:=this
      have:=hclosed j oj (by simpa using hoj) hLj e (by simpa using he) hb
      rw [hon,hL] at this
      cases this
  have hdeps:∀ e ∈ o.after.toList,Region.binds .any e = true → rd ops (fun i=>(Φ i).pr) e.on a σ:=fun e he hb=>by
    by_cases hep:e.on = p
    · rw [hep];unfold rd;rw [hp];exact hΦ _ _
    · exact hm.done e.on (hall e (by simpa using he) hb) hep
  have done':∀ v (τ:GW),σ.Le τ → (i ≠ p → (Φ i).has τ v) → ∀ j,(L j || j == i) = true → j ≠ p → rd ops (fun i=>(Φ i).pr) j (a.put o.dst v) τ:=by
    intro v τ hle hv j hLj hjp
    by_cases hji:j = i
    · subst hji
      unfold rd
      cases hd:dstOf ops j with
      | none=>trivial
      | some d =>
        have:o.dst = some d:=by rw [← hdi];exact hd
        simp only [this]
        rw [eval_put_same hm.ok (hF.lt j d hd)]
        exact hv hjp
    · have hLj':L j = true:=by simpa [hji] using hLj
      have h0:=hm.done j hLj' hjp
      unfold rd at h0 ⊢
      cases hd:dstOf ops j with
      | none=>trivial
      | some d =>
        rw [hd] at h0
        simp only at h0 ⊢
        rw [eval_put_ne (fun he=>hji (hF.uniq j i d hd (by rw [hdi];exact he)))]
        exact (Φ j).up hle h0
  have same':∀ v t,(∀ j,dstOf ops j = some t → (L j || j == i) = false) → (a.put o.dst v).eval (.tmp t) = a0.eval (.tmp t):=by
    intro v t ht
    have h1:o.dst ≠ some t:=fun he=>by
      have:=ht i (by rw [hdi];exact he)
      simp at this
    rw [eval_put_ne h1]
    exact hm.same t fun j hj=>by
      have:=ht j hj
      simp at this
      exact this.1
  by_cases hip:i = p
  · subst hip
    rw [if_pos rfl] at hob
    have hy:=Deps.elim o.after.toList hdeps (hob a σ (hm.stp0 hL) hm.ok hsame)
    unfold wpOp
    simp only [ho]
    have hw:Region.wanted o (yielded ops a.tmps) = true:=by simp [Region.wanted,hpg o ho]
    rw [if_pos hw]
    refine .inl (hy K Q fun v τ hs hr=>hK _ τ ⟨hm.stp.trans hs,fun h=>(by simp at h),hm.ok.put _ _,done' v τ (hs.le h1) (fun h=>absurd rfl h),fun _=>?_,same' v⟩)
    have:o.dst = some d:=by rw [← hdi];exact hp
    rw [this,eval_put_same hm.ok (hF.lt i d hp)]
    exact hr
  · rw [if_neg hip] at hob
    have hrun:=Deps.elim o.after.toList hdeps (hob a σ hm.stp hm.ok hsame)
    have next:∀ v τ,Stp 0 σ τ → (Φ i).has τ v → K (a.put o.dst v) τ.w:=by
      intro v τ hs hv
      refine hK _ τ ⟨hm.stp.trans hs.toL0,fun h=>?_,hm.ok.put _ _,done' v τ hs.le0 (fun _=>hv),fun h=>?_,same' v⟩
      · simp at h;exact (hm.stp0 h.1).trans hs
      · have hLp:L p = true:=by simpa [Ne.symm hip] using h
        rw [eval_put_ne (fun he=>hip (hF.uniq i p d (by rw [hdi];exact he) hp))]
        exact B.up hs (hm.donep hLp)
    unfold wpOp
    simp only [ho]
    by_cases hw:Region.wanted o (yielded ops a.tmps) = true
    · rw [if_pos hw]
      exact .inl (hrun.1 hw K Q next)
    · rw [if_neg hw]
      exact next undef σ (Stp.refl _ _) (hrun.2 (by simpa using hw))
theorem obR3 {i p:Nat} {A B:Prop} (h:i ≠ p) (k:B):if i = p then A else B:=by rw [if_neg h];exact k
theorem obR3w {i p:Nat} {A B:Prop} (h:i = p) (k:A):if i = p then A else B:=by rw [if_pos h];exact k
structure Half3 (m d N:Nat) (D:List Deferred) (W:List Nat) (B:Pr) (ops:Array Oper) (Φ:Nat → Ty) (a0:Act) (σ0:GW) (a:Act) (σ:GW):Prop where
  stp:StpL W σ0 σ
  ok:Ok N D a
  done:∀ j,j < m → rd ops (fun i=>(Φ i).pr) j a σ
  donep:B.has σ (a.eval (.tmp d))
  same:∀ t,((ops.toList.take m).all fun o=>o.dst != some t) = true → a.eval (.tmp t) = a0.eval (.tmp t)
theorem Mid3.half {m p d N:Nat} {D:List Deferred} {W:List Nat} {B:Pr} {ops:Array Oper} {Φ:Nat → Ty} {a0:Act} {σ0:GW} {a:Act} {σ:GW} (h:Mid3 p d N D W B ops Φ a0 σ0 (fun j=>decide (j < m)) a σ) (hpm:p < m) (hp:dstOf ops p = some d) (hΦ:∀ e v,(Φ p).has e v):Half3 m d N D W B ops Φ a0 σ0 a σ:=by
  refine ⟨h.stp,h.ok,fun j hj=>?_,h.donep (by simpa using hpm),fun t ht=>h.same t fun j hj=>?_⟩
  · by_cases hjp:j = p
    · rw [hjp];unfold rd;rw [hp];exact hΦ _ _
    · exact h.done j (by simpa using hj) hjp
  · by_cases hjm:j < m
    · obtain ⟨o,ho,hd⟩:=Option.bind_eq_some_iff.1 hj
      have:=(List.all_eq_true.1 ht) o (List.mem_of_getElem? (i:=j) (by rw [List.getElem?_take,if_pos hjm];exact ho))
      simp [hd] at this
    · simpa using hjm
theorem reg3 {N:Nat} {D:List Deferred} {ops:Array Oper} {id:Nat} {draw:Bool} {Q:Exit → Act → World → Prop} {a:Act} {σ:GW} (hP:P.follows .mixedOrders = true) (m p d:Nat) (W:List Nat) (h1:1 ∉ W) (B:Pr) (Φ:Nat → Ty) (ok:Ok N D a) (hF:formB N ops = true) (hm:m ≤ ops.size) (hB:(!draw || forcedB m ops.toList) = true)
    (hpm:p < m) (hp:dstOf ops p = some d) (hΦ:∀ e v,(Φ p).has e v) (hpg:(ops.toList[p]?).all (fun o=>o.guard.isNone) = true) (hob:Obls3 P p N D W B ops Φ a σ 0 (ops.toList.take m))
    (hQ:∀ a' σ',Half3 m d N D W B ops Φ a σ a' σ' → wpList P ops Q (ops.toList.drop m) a' σ'.w):(Code.region id ops draw).wp P Q a σ.w:=by
  have hF':=Form.of_B hF
  have hpg':∀ o,ops[p]? = some o → o.guard = none:=fun o ho=>by
    rw [show ops.toList[p]? = some o by simpa using ho] at hpg
    simpa using hpg
  have step:∀ σ0,Stp 0 σ σ0 → ∀ (i:Nat) o (L:Nat → Bool) a' σ' (K:Act → World → Prop),ops[i]? = some o → i < m → Mid3 p d N D W B ops Φ a σ0 L a' σ' → L i = false → (∀ e ∈ o.after,Region.binds .any e = true → L e.on = true) →
      (∀ (j:Nat) oj,ops[j]? = some oj → L j = true → ∀ e ∈ oj.after,Region.binds .any e = true → L e.on = true) → (∀ a' σ',Mid3 p d N D W B ops Φ a σ0 (fun j=>L j || j == i) a' σ' → K a' σ'.w) → wpOp P ops Q i K a' σ'.w :=
    fun σ0 hs i o L a' σ' K ho him hmid hL hall hcl hK=>Mid3.op hF' h1 hp hΦ hpg' hmid ho hL
      (by simpa using Obls3.get (ops.toList.take m) 0 (Obls3.up hs _ _ hob) i o (by rw [List.getElem?_take,if_pos him];simpa using ho)) hall hcl hK
  have start:∀ σ0,Mid3 p d N D W B ops Φ a σ0 (fun _=>false) a σ0:=fun σ0=>⟨StpL.refl _ _,fun _=>Stp.refl _ _,ok,fun _ h=>(by cases h),fun h=>(by cases h),fun _ _=>rfl⟩
  cases draw with
  | false =>
    refine wp_region ?_
    rw [List.range_eq_range']
    have:=half_seq3 (Q:=Q) hF' hm (Mid3 p d N D W B ops Φ a σ) (step σ (Stp.refl _ _)) (fun a' σ' h=>?_) m 0 a σ (by simp) (by have:=start σ;simpa using this)
    · rwa [show m + (ops.size - m) = ops.size by omega] at this
    · have:=wpOps_eq_wpList (P:=P) (ops:=ops) (Q:=Q) (ops.toList.drop m) m (fun j=>by rw [List.getElem?_drop];simp)
      rw [show (ops.toList.drop m).length = ops.size - m by simp] at this
      rw [this]
      exact hQ a' σ' (h.half hpm hp hΦ)
  | true =>
    refine wp_region_any hP ?_
    have hd:=Stp.drew σ
    refine half_any3 hF' hm (by simpa using hB) (Mid3 p d N D W B ops Φ a σ.drew) (step σ.drew hd) (fun a' σ' h=>?_) _ _ a σ.drew (by simp) (Nat.le_trans List.countP_le_length (by simp)) ?_ ?_ ?_
    · have h2:=h.half hpm hp hΦ
      exact hQ a' σ' ⟨hd.toL0.trans h2.stp,h2.ok,h2.done,h2.donep,h2.same⟩
    · intro j hj _;simp [hj]
    · intro j oj hj h
      have:j < ops.size:=(Array.getElem?_eq_some_iff.1 hj).1
      simp [this] at h
    · have e:(fun j=>decide (j < m) && (Array.replicate ops.size false).getD j true) = fun _=>false:=by
        funext j;by_cases hj:j < ops.size
        · simp [hj]
        · simp;omega
      rw [e];exact start σ.drew
theorem Half3.kt {m d N:Nat} {D:List Deferred} {W:List Nat} {B:Pr} {ops:Array Oper} {Φ:Nat → Ty} {a0 a:Act} {σ0 σ:GW} {T:Ty} {t:Nat} (h:Half3 m d N D W B ops Φ a0 σ0 a σ) (h1:1 ∉ W) (k:T.has σ0 (a0.eval (.tmp t))) (ht:((ops.toList.take m).all fun o=>o.dst != some t) = true):T.has σ (a.eval (.tmp t)):=by
  rw [h.same t ht];exact T.up (h.stp.le h1) k
end Go.KL
namespace Go.KL
open Go.RowKit
variable {P:Program}
def OblQ (P:Program) (N:Nat) (D:List Deferred) (A:Pr) (ops:Array Oper) (Φ:Nat → Ty) (a0:Act) (σ0:GW) (i:Nat) (o:Oper):Prop :=
  ∀ a σ,Stp 0 σ0 σ → Ok N D a → (∀ t,free ops i t = true → a.eval (.tmp t) = a0.eval (.tmp t)) → Deps ops (fun i=>(Φ i).pr) a σ o.after.toList (Run P ops o a σ A)
theorem obR4 {i p q:Nat} {A B C:Prop} (h:i ≠ p) (h2:i ≠ q) (k:C):if i = p then A else if i = q then B else C:=by rw [if_neg h,if_neg h2];exact k
theorem obR4q {i p q:Nat} {A B C:Prop} (h:i ≠ p) (h2:i = q) (k:B):if i = p then A else if i = q then B else C:=by rw [if_neg h,if_pos h2];exact k
theorem obR4w {i p q:Nat} {A B C:Prop} (h:i = p) (k:A):if i = p then A else if i = q then B else C:=by rw [if_pos h];exact k
end Go.KL
namespace Go.KL
open Go.RowKit
variable {P:Program}
end Go.KL
namespace Go.KL
open Go.RowKit
variable {P:Program}
end Go.KL
namespace Go.KL
open Go.RowKit
variable {P:Program}
def Pr.st (k:Nat) (e:TypeId) (c:Nat) (v:Value) (n:Nat) (ts:List Ty):Pr:=⟨fun σ _=>Own σ k e c v n ts,fun hs h=>h.keep hs (by decide) (.inl rfl)⟩
end Go.KL
namespace Go.KL
open Go.RowKit
section
variable {P:Program} {d:Option Tmp} {ty:TypeId} {pos:String} {af:Array Edge} {g:Option (Nat × Bool)} {a:Act} {σ:GW}
end
end Go.KL
namespace Go.KL
structure ItP where
  err:Int
  out:List Int
  rest:List Int
section
variable {sg:List Int}
end
abbrev Ty.rune (n:Int):Ty:=.val (.int .i32 n)
section
variable {sg:List Int} {deep:Nat} {l s:List Int}
end
section
variable {sg:List Int} {s:ByteArray} {X:ItP}
end
end Go.KL
namespace Go.KL
open Go.RowKit
variable {P:Program} {d:Option Tmp} {ty:TypeId} {pos:String} {af:Array Edge} {g:Option (Nat × Bool)} {a:Act} {σ:GW}
def SlForm (v:Value) (n:Nat):Prop:=∃ ad cap,v = .slice ad n cap∧n ≤ cap∧cap ≤ 9223372036854775807
section
variable {x y:Operand} {n:Nat} {t e':TypeId} {z v:Value} {b:Nat} {ki:IntKind} (ht:P.underlying t = some (.slice e')) (he:Info P e' z 1 b) (ho:SlForm v n) (hx:a.eval x = v)
include ht he ho hx
end
theorem wrap_u64 {c:Int} (h0:0 ≤ c) (h1:c < 18446744073709551616):IntKind.u64.wrap c = c:=by
  simp [IntKind.wrap,IntKind.bits,IntKind.signed];omega
end Go.KL
namespace Go.KL
open Go.RowKit
variable {P:Program} {d:Option Tmp} {ty:TypeId} {pos:String} {af:Array Edge} {g:Option (Nat × Bool)} {a:Act} {σ:GW}
end Go.KL
namespace Go.KL
open Go.RowKit
section
variable {P:Program} {d:Option Tmp} {ty:TypeId} {pos:String} {af:Array Edge} {g:Option (Nat × Bool)} {a:Act} {σ:GW}
theorem y_idxc {k:Nat} {x y:Operand} {c n i:Nat} {ts:List Ty} {t e:TypeId} {z v:Value} {b:Nat} {ki:IntKind} (ht:P.underlying t = some (.slice e)) (he:Info P e z c b)
    (h:Own σ k e c v n ts) (hx:a.eval x = v) (hy:a.eval y = .int ki (i:Int)) (h1:i < n) :
    Yld P ⟨d,.indexAddr t x y,ty,pos,af,g⟩ a σ (Ty.val (cellPtr v (i * c))).pr:=by
  have:=own_index (d:=d) (ty:=ty) (pos:=pos) (af:=af) (g:=g) (i:=(i:Int)) ht he h hx hy (by omega) (by omega)
  rwa [Int.toNat_natCast] at this
theorem y_fieldcc {k:Nat} {x:Operand} {n i:Nat} {ts:List Ty} {e t ft:TypeId} {f off c c2 by_:Nat} {z v:Value} (hf:fieldOf P t f = some (ft,off)) (he:Info P ft z c by_) (hc:0 < c) (h:Own σ k e c2 v n ts) (hn:0 < n) (hx:a.eval x = cellPtr v i) :
    Yld P ⟨d,.fieldAddr t x f,ty,pos,af,g⟩ a σ (Ty.val (cellPtr v (i + off))).pr:=by
  obtain ⟨gg,cap,rfl,_,_⟩:=h.at hn
  refine Yld.of_run (v:=.pointer (some ⟨gg,i + off,none⟩)) ?_ rfl
  simp only [execOp,hx,cellPtr]
  have:=run_fieldAt (o:=i) (b:=gg) hf he hc σ.w
  simp [this]
theorem own_loadst {k o n c m:Nat} {x:Operand} {ts:List Ty} {t e:TypeId} {fs:Array Field} {z v:Value} {by_:Nat} (ht:P.underlying t = some (.struct fs)) (he:Info P t z c by_) (hl:o + c ≤ ts.length) (hc:0 < c) (h:Own σ k e m v n ts) (hx:a.eval x = cellPtr v o) :
    Yld P ⟨d,.load t x,ty,pos,af,g⟩ a σ (Ty.agg ((ts.drop o).take c)).pr:=by
  have hlen:=h.len
  have hn:0 < n:=by
    rcases Nat.eq_zero_or_pos n with h0 | h0
    · subst h0;omega
    · exact h0
  obtain ⟨gg,cap,rfl,_,_⟩:=h.at hn
  obtain ⟨us,r1,r2,r3,_⟩:=h
  have hx':a.eval x = .pointer (some ⟨gg,o,none⟩):=hx
  have hlen2:((us.drop o).take c).length = c:=by rw [List.length_take,List.length_drop];omega
  have hget:∀ j,j < c → ((us.drop o).take c)[j]? = us[o + j]?:=fun j hj=>by rw [List.getElem?_take_of_lt hj,List.getElem?_drop]
  refine Yld.of_run (v:=.agg ((us.drop o).take c).toArray) ?_ ⟨_,rfl,?_,fun j T u hj hu=>?_⟩
  · simp only [execOp,hx']
    have:=run_loadVar (P:=P) ht he (w:=σ.w) (ad:=⟨gg,o,none⟩) (us:=(us.drop o).take c) hlen2 (fun j u hj=>by
      have hlt:j < c:=by have:=(List.getElem?_eq_some_iff.1 hj).1;omega
      rw [hget j hlt] at hj
      rw [Addr.add_lit]
      have hc':=r1.cellAt (o + j) (by omega)
      rw [hj] at hc'
      exact hc')
    simp [Instr.loadAt,Instr.sureAddr,this]
  · simp only [List.size_toArray,hlen2];rw [List.length_take,List.length_drop];omega
  · have hlt:j < c:=by have:=(List.getElem?_eq_some_iff.1 hj).1;rw [List.length_take] at this;omega
    rw [List.getElem?_take_of_lt hlt,List.getElem?_drop] at hj
    have hu2:((us.drop o).take c)[j]? = some u:=by simpa using hu
    rw [hget j hlt] at hu2
    exact r3 _ T u hj hu2
end
theorem yld_agg {P:Program} {o:Oper} {a:Act} {σ:GW} {ts us:List Ty} (e:ts = us) (h:Yld P o a σ (Ty.agg ts).pr):Yld P o a σ (Ty.agg us).pr:=e ▸ h
end Go.KL
namespace Go.KL
open Go.RowKit
variable {P:Program} {d:Option Tmp} {ty:TypeId} {pos:String} {af:Array Edge} {g:Option (Nat × Bool)} {a:Act} {σ:GW}
end Go.KL
namespace Go.KL
theorem rounds_mem {n:Nat} {x:Int}:x ∈ roundsL n ↔ 0 ≤ x∧x < n:=by
  unfold roundsL
  simp only [List.mem_map,List.mem_range]
  constructor
  · rintro ⟨k,hk,rfl⟩;omega
  · rintro ⟨h0,h1⟩;exact ⟨x.toNat,by omega,by omega⟩
end Go.KL
namespace Go.KL
section
variable {P:Program} {d:Option Tmp} {ty:TypeId} {pos:String} {af:Array Edge} {g:Option (Nat × Bool)} {a:Act} {σ:GW}
end
section
variable (raw r:List Int) (star:Nat)
end
section
variable {raw r:List Int} {star:Nat}
end
end Go.KL
namespace Go.KL
open Go.RowKit Go.Lib
variable {P:Program} {d:Option Tmp} {ty:TypeId} {pos:String} {af:Array Edge} {g:Option (Nat × Bool)} {a:Act} {σ:GW}
section
variable {cs:List BCall} {s T:ByteArray} {l:List Int} {i n:Nat}
end
end Go.KL
namespace Go.KL
open Go.RowKit Go.Lib
section
variable {P:Program} {d:Option Tmp} {ty:TypeId} {pos:String} {af:Array Edge} {g:Option (Nat × Bool)} {a:Act} {σ:GW}
end
end Go.KL
namespace Go.KL
open Go.RowKit Go.Lib
section
variable {cs:List BCall}
end
end Go.KL
namespace Go.KL
open Go.Lib
end Go.KL
namespace Go.KL
section
variable {P:Program} {d:Option Tmp} {ty:TypeId} {pos:String} {af:Array Edge} {g:Option (Nat × Bool)} {a:Act} {σ:GW}
end
end Go.KL
namespace Go.KL
open Go.Lib
variable {ys T:List ByteArray} {l:List UInt8} {i m:Nat} {c:UInt8} {v:ByteArray}
end Go.KL
namespace Go.KL
variable {ys T:List ByteArray} {L:List UInt8} {i j:Nat} {s:ByteArray}
end Go.KL
namespace Go.KL
variable {ys T:List ByteArray} {L:List UInt8} {i j:Nat} {s:ByteArray}
end Go.KL
namespace Go.KL
variable {P:Program}
def GW.grow (σ:GW) (w':World) (h:σ.w.heap.size ≤ w'.heap.size):GW:=⟨w',fun b=>if b < σ.w.heap.size then σ.st b else 0,fun b hb=>by
  by_cases hlt:b < σ.w.heap.size
  · omega
  · simp [hlt] at hb⟩
end Go.KL
namespace Go.KL
open Go.RowKit
variable {P:Program} {d:Option Tmp} {ty:TypeId} {pos:String} {af:Array Edge} {g:Option (Nat × Bool)} {a:Act} {σ:GW}
def capOf (v:Value):Nat:=match v with | .slice _ _ cap=>cap | _=>0
def sufC (c:Nat) (v:Value) (j:Nat):Value:=match v with | .slice ad n cap=>sliced ad j n cap c | u=>u
theorem Own.formC {k c:Nat} {e:TypeId} {n:Nat} {v:Value} {ts:List Ty} (h:Own σ k e c v n ts):SlForm v n:=by
  obtain ⟨us,r1,_⟩:=h
  rcases r1.2 with ⟨rfl,rfl⟩ | ⟨gg,cap,cur,rfl,_,_,hn,hm,_⟩
  · exact ⟨none,0,rfl,Nat.le_refl _,by decide⟩
  · exact ⟨_,cap,rfl,hn,hm⟩
theorem SlForm.cap {v:Value} {n:Nat} (h:SlForm v n):n ≤ capOf v∧capOf v ≤ 9223372036854775807:=by
  obtain ⟨ad,cap,rfl,hn,hm⟩:=h;exact ⟨hn,hm⟩
theorem SlForm.pre {v:Value} {n h:Nat} (hv:SlForm v n) (hh:h ≤ capOf v):SlForm (preOf v h) h:=by
  obtain ⟨ad,cap,rfl,_,hm⟩:=hv
  exact ⟨ad,cap,rfl,hh,hm⟩
theorem y_capF {x:Operand} {n:Nat} {t e':TypeId} {v:Value} (ht:P.underlying t = some (.slice e')) (ho:SlForm v n) (hx:a.eval x = v):Yld P ⟨d,.call ⟨.builtin .cap,#[x],#[t]⟩,ty,pos,af,g⟩ a σ (Ty.nat (capOf v)).pr:=by
  obtain ⟨ad,cap,rfl,hn,hm⟩:=ho
  refine Yld.of_run (v:=.int .i64 cap) ?_ rfl
  simp only [execOp,resolve,Sem.run_bind,Sem.run_pure,Result.andThen_ok,invoke,List.map_toArray,List.map_cons,List.map_nil,hx]
  simp [builtin,Builtin.cap_,run_underlying ht,goInt]
section
variable {x y:Operand} {n c:Nat} {t e':TypeId} {z v:Value} {b:Nat} {ki:IntKind} (ht:P.underlying t = some (.slice e')) (he:Info P e' z c b) (ho:SlForm v n) (hx:a.eval x = v)
include ht he ho hx
theorem y_preC {i:Nat} (hy:a.eval y = .int ki i) (hi:i ≤ capOf v):Yld P ⟨d,.slice t x none (some y) none,ty,pos,af,g⟩ a σ (Ty.val (preOf v i)).pr:=by
  obtain ⟨ad,cap,rfl,hn,hm⟩:=ho
  have hi:i ≤ cap:=hi
  refine Yld.of_run (v:=sliced ad 0 i cap c) ?_ ?_
  · have h1:=run_slice_h (P:=P) σ.w t ad n cap (elem_of ht) ki (i:Int) (by omega) (by omega)
    rw [elem_eq ht,he.size] at h1
    simp only [execOp,hx,hy,Option.map_some,Option.map_none,Sem.run_bind,run_sliceAt_slice σ.w t _ _ _ _ (elem_of ht),h1,Result.andThen_ok,Sem.run_pure,Int.toNat_natCast]
  · show sliced ad 0 i cap c = preOf _ i
    unfold sliced preOf
    cases ad <;> simp [Addr.add_zero']
theorem y_sufC {j:Nat} (hy:a.eval y = .int ki j) (hj:j ≤ n):Yld P ⟨d,.slice t x (some y) none none,ty,pos,af,g⟩ a σ (Ty.val (sufC c v j)).pr:=by
  obtain ⟨ad,cap,rfl,hn,hm⟩:=ho
  refine Yld.of_run (v:=sliced ad j n cap c) ?_ rfl
  have h1:=run_slice_l (P:=P) σ.w t ad n cap (elem_of ht) ki (j:Int) (by omega) (by omega)
  rw [elem_eq ht,he.size] at h1
  simp only [execOp,hx,hy,Option.map_some,Option.map_none,Sem.run_bind,run_sliceAt_slice σ.w t _ _ _ _ (elem_of ht),h1,Result.andThen_ok,Sem.run_pure,Int.toNat_natCast]
end
theorem sufC_at {c gg n cap j:Nat} (h:j < cap):sufC c (.slice (some ⟨gg,0,none⟩) n cap) j = .slice (some ⟨gg,j * c,none⟩) (n - j) (cap - j):=by
  show sliced (some ⟨gg,0,none⟩) j n cap c = _
  unfold sliced
  rw [if_neg (by omega)]
  simp [Addr.add_lit]
theorem Own.extC {k c:Nat} {e:TypeId} {n h:Nat} {v:Value} {ts:List Ty} (ho:Own σ k e c v n ts) (hn0:0 < n) (hnh:n ≤ h) (hh:h ≤ capOf v):Own σ k e c (preOf v h) h (ts ++ List.replicate ((h - n) * c) Ty.any):=by
  have hlen:=ho.len
  obtain ⟨vs,r1,r2,r3,r4⟩:=ho
  rcases r1.2 with ⟨rfl,h0⟩ | ⟨gg,cap,cur,rfl,_,hg,hn,hmm,hcz,htk⟩
  · omega
  have hh':h ≤ cap:=hh
  have hm1:h * c ≤ cap * c:=Nat.mul_le_mul_right _ hh'
  have hm2:n * c + (h - n) * c = h * c:=by rw [← Nat.add_mul,Nat.add_sub_cancel' hnh]
  refine Own.intro (us:=cur.toList.take (h * c)) hg (r4 gg rfl) hh' hmm hcz rfl ?_ ?_
  · rw [List.length_take,Array.length_toList,hcz,List.length_append,List.length_replicate];omega
  · intro j T u hT hu
    rw [List.getElem?_take] at hu
    split at hu
    · by_cases hj:j < ts.length
      · rw [List.getElem?_append_left hj] at hT
        refine r3 j T u hT ?_
        rw [← htk,List.getElem?_take,if_pos (by omega)];exact hu
      · rw [List.getElem?_append_right (by omega),List.getElem?_replicate] at hT
        split at hT
        · cases hT;trivial
        · cases hT
    · cases hu
theorem m_appnC {k kx:Nat} {t u e:TypeId} {z:Value} {c by_:Nat} {x y:Operand} {i m n:Nat} {ki:IntKind} {v:Value} {ts:List Ty} (ht:P.underlying t = some (.slice e)) (hu:P.underlying u = some (.int ki)) (he:Info P e z c by_) (hz:z.cells.size = c) (hc:0 < c)
    (ho:Own σ kx e c v n ts) (hn0:0 < n) (hi:i ≤ n) (hx:a.eval x = preOf v i) (hy:a.eval y = .int .i64 ((m:Nat):Int)) (hm0:0 < m) (hn:capOf v < i + m) (hlen:i + m ≤ 9223372036854775807) (hb:(i + m) * by_ ≤ 140737488355328) :
    YldM k P ⟨d,.call ⟨.builtin .append,#[x,y],#[t,u]⟩,ty,pos,af,g⟩ a σ (fun v τ=>Own τ k e c v (i + m) (ts.take (i * c) ++ List.replicate (m * c) Ty.any)):=by
  intro K Q hk'
  have hlent:=ho.len
  obtain ⟨vs,r1,r2,r3,r4⟩:=ho
  obtain ⟨i',hi',hi1,hi2,rfl⟩:=he.get
  rcases r1.2 with ⟨rfl,h0⟩ | ⟨gg,cap,cur,rfl,_,hg,hnc,hmm,hcz,htk⟩
  · omega
  have hn':cap < i + m:=hn
  have hx':a.eval x = .slice (some ⟨gg,0,none⟩) i cap:=hx
  have hil:i * c ≤ n * c:=Nat.mul_le_mul_right _ hi
  have hvl:vs.length = n * c:=by rw [r2];exact hlent
  have hcap:grownCap σ.w (i + m) cap e ≥ i + m:=grownCap_ge σ.w (i + m) cap e
  have hcm:grownCap σ.w (i + m) cap e ≤ maxLen:=grownCap_le_maxLen σ.w (i + m) cap e hlen
  have htl:(vs.take (i * c)).length = i * c:=by rw [List.length_take];omega
  have hr : (Builtin.append_ #[t,u] ty #[.slice (some ⟨gg,0,none⟩) i cap,.int .i64 ((m:Nat):Int)]).run P σ.w = .ok (.slice (some ⟨σ.w.heap.size,0,none⟩) (i + m) (grownCap σ.w (i + m) cap e)) (σ.w.drew.alloc (.cells ((vs.take (i * c)).toArray ++ Builtin.zeroCells z.cells m ++ Builtin.zeroCells z.cells (grownCap σ.w (i + m) cap e - (i + m))) e)):=by
    have hm1:m ≠ 0:=by omega
    have hc1:¬ m * c = 0:=Nat.ne_of_gt (Nat.mul_pos hm0 hc)
    have hbm:m * i'.bytes ≤ (i + m) * i'.bytes:=Nat.mul_le_mul_right _ (by omega)
    have hw:IntKind.i64.wrap ((m:Nat):Int) = m:=w64 (by omega) (by omega)
    have h1:¬ ((m:Nat):Int) < 0:=by omega
    have h2:¬ (281474976710656 < ((m:Nat):Int) * (i'.bytes:Int)):=by
      have h3:((m * i'.bytes:Nat):Int) ≤ 281474976710656:=by omega
      rw [Int.natCast_mul] at h3;omega
    have h48:=growslice_fits (need:=i + m) (old:=cap) (bytes:=i'.bytes) (by omega) (by omega)
    have h63:¬ (9223372036854775807 < ((i:Int) + (m:Int))):=by omega
    have hnc2:¬ i + m ≤ cap:=by omega
    have hf:(Builtin.firstCells c i (.slice (some ⟨gg,0,none⟩) i cap)).run P σ.w.drew = .ok (vs.take (i * c)).toArray σ.w.drew :=
      run_firstCells_some (P:=P) σ.w.drew c i ⟨gg,0,none⟩ i cap (vs.take (i * c)) htl (fun j u hj=>by
        rw [List.getElem?_take] at hj
        split at hj
        · have:=r1.cells (g:=gg) rfl j u hj
          exact this
        · cases hj)
    have h48':¬ (281474976710656 < Builtin.nextslicecap (i + m) cap * i'.bytes):=by omega
    simp [Builtin.append_,run_underlying ht,run_underlying hu,sizeOf,typeInfo,zeroValue,hi',hi1,hi2,asInt,asIntOf,hw,h1,h2,hm1,hc1,h48',h63,hnc2,Question.forced,newRow,grownCap,hf]
  have hr':(execOp a.eval ⟨d,.call ⟨.builtin .append,#[x,y],#[t,u]⟩,ty,pos,af,g⟩).run P σ.w = .ok (.value (.slice (some ⟨σ.w.heap.size,0,none⟩) (i + m) (grownCap σ.w (i + m) cap e))) (σ.w.drew.alloc (.cells ((vs.take (i * c)).toArray ++ Builtin.zeroCells z.cells m ++ Builtin.zeroCells z.cells (grownCap σ.w (i + m) cap e - (i + m))) e)):=by
    simp only [execOp,resolve,Sem.run_bind,Sem.run_pure,Result.andThen_ok,invoke,List.map_toArray,List.map_cons,List.map_nil,builtin,hx',hy,hr]
  unfold Oper.wp
  rw [hr']
  have hstp:Stp 0 σ (σ.drew.mk' k (.cells ((vs.take (i * c)).toArray ++ Builtin.zeroCells z.cells m ++ Builtin.zeroCells z.cells (grownCap σ.w (i + m) cap e - (i + m))) e)):=(Stp.drew σ).trans (Stp.mk' σ.drew k _)
  have hzl:(Builtin.zeroCells z.cells m).toList.length = m * c:=by rw [Array.length_toList,size_zeroCells,hz]
  refine hk' _ _ hstp.of0 (Own.intro (us:=vs.take (i * c) ++ (Builtin.zeroCells z.cells m).toList) (heap_alloc_new σ.w.drew _) (by show (if _ = _ then k else _) = k;rw [if_pos];rfl) hcap hcm ?_ ?_ ?_ ?_)
  · simp only [Array.size_append,List.size_toArray,size_zeroCells,hz,htl,← Nat.add_mul]
    congr 1;omega
  · simp only [Array.toList_append,List.append_assoc]
    rw [← List.append_assoc,show (i + m) * c = (vs.take (i * c) ++ (Builtin.zeroCells z.cells m).toList).length by rw [List.length_append,htl,hzl,Nat.add_mul]]
    exact List.take_left
  · rw [List.length_append,List.length_append,htl,hzl,List.length_replicate,List.length_take];omega
  · refine typed_append (by rw [htl,List.length_take];omega) (fun j T u hT hu=>?_) (fun j T u hT hu=>?_)
    · rw [List.getElem?_take] at hT hu
      split at hT
      · rename_i hq
        rw [if_pos hq] at hu
        exact T.up hstp.le0 (r3 j T u hT hu)
      · cases hT
    · rw [List.getElem?_replicate] at hT
      split at hT
      · cases hT;trivial
      · cases hT
theorem run_copy_rowC (w:World) (dT sT ty elem:TypeId) (g o dLen dCap:Nat) (ad:Addr) (sLen sCap m c:Nat) (cur:Array Value) (t:TypeId) (cs:List Value)
    (hu:P.underlying dT = some (.slice elem)) (hs:(P.info? elem).map (·.size) = some c)
    (hg:w.heap[g]? = some (.cells cur t (0,0))) (hn:m = Nat.min sLen dLen) (hm:cs.length = m * c)
    (hsrc:∀ j v,cs[j]? = some v → w.cell? (ad.add j) = some v) (hfit:o + cs.length ≤ cur.size) (h1:∀ v ∈ cs,v.oneCell' = true) :
    (Builtin.copy_ #[dT,sT] ty #[.slice (some ⟨g,o,none⟩) dLen dCap,.slice (some ad) sLen sCap]).run P w =
      .ok (goInt m) (w.setRow g (cur.toList.take o ++ cs ++ cur.toList.drop (o + cs.length)).toArray):=by
  have hl:=run_loadCells_list (P:=P) w ad cs hsrc
  have hst:=run_storeCells_at P g o t cs 0 cur w hg (by simpa using hfit) h1
  cases hq:P.info? elem with
  | none=>simp [hq] at hs
  | some i =>
    have hi:i.size = c:=by simpa [hq] using hs
    simp [Builtin.copy_,run_underlying hu,Builtin.lenOf,Builtin.firstCells,sizeOf,typeInfo,hq,hi,← hn,← hm,hl,hst]
theorem own_copyC {k:Nat} {t e:TypeId} {z:Value} {c by_:Nat} {v:Value} {n:Nat} {ts us:List Ty} {j m sLen sCap:Nat} {ad:Addr} {cs:List Value} (hk:2 ≤ k) (ht:P.underlying t = some (.slice e)) (he:Info P e z c by_) (ho:Own σ k e c v n ts) (hj:j < n)
    (hm:m = Nat.min sLen (n - j)) (hcs:cs.length = m * c) (hl:cs.length = us.length) (hsrc:∀ q u,cs[q]? = some u → σ.w.cell? (ad.add q) = some u) (hT:∀ (q:Nat) (T:Ty) (u:Value),us[q]? = some T → cs[q]? = some u → T.has σ u) (h1:∀ u ∈ cs,u.oneCell' = true) :
    ∃ τ:GW,(Builtin.copy_ #[t,t] ty #[sufC c v j,.slice (some ad) sLen sCap]).run P σ.w = .ok (goInt m) τ.w∧Stp k σ τ∧Own τ k e c v n (ts.take (j * c) ++ us ++ ts.drop (j * c + us.length)):=by
  have hlen:=ho.len
  obtain ⟨vs,r1,r2,r3,r4⟩:=ho
  rcases r1.2 with ⟨rfl,h0⟩ | ⟨gg,cap,cur,rfl,_,hg,hn,hmm,hcz,htk⟩
  · omega
  have hx:sufC c (.slice (some ⟨gg,0,none⟩) n cap) j = .slice (some ⟨gg,j * c,none⟩) (n - j) (cap - j):=sufC_at (by omega)
  have hmin:m ≤ n - j:=by rw [hm];exact Nat.min_le_right _ _
  have hmc:j * c + m * c ≤ n * c:=by rw [← Nat.add_mul];exact Nat.mul_le_mul_right _ (by omega)
  have hnc:n * c ≤ cap * c:=Nat.mul_le_mul_right _ hn
  have hr:=run_copy_rowC (P:=P) σ.w t t ty e gg (j * c) (n - j) (cap - j) ad sLen sCap m c cur e cs ht (by obtain ⟨i,hi,_,hi2,_⟩:=he.get;rw [hi];simp [hi2]) hg hm hcs hsrc (by omega) h1
  rw [hx]
  refine ⟨σ.setRow gg (cur.toList.take (j * c) ++ cs ++ cur.toList.drop (j * c + cs.length)).toArray,hr,Stp.setRow (r4 gg rfl) (by omega),?_⟩
  have hstp:Stp k σ (σ.setRow gg (cur.toList.take (j * c) ++ cs ++ cur.toList.drop (j * c + cs.length)).toArray):=Stp.setRow (r4 gg rfl) (by omega)
  have hle:=hstp.le (by omega)
  have hvs:vs = cur.toList.take (n * c):=htk.symm
  have hcl:cur.toList.length = cap * c:=by rw [Array.length_toList,hcz]
  refine Own.intro (us:=vs.take (j * c) ++ cs ++ vs.drop (j * c + cs.length)) (setRow_heap σ.w gg cur _ e (0,0) hg) (r4 gg rfl) hn hmm ?_ ?_ ?_ ?_
  · simp only [List.size_toArray,List.length_append,List.length_take,List.length_drop];omega
  · rw [hvs]
    apply List.ext_getElem?
    intro q
    simp only [List.getElem?_append,List.getElem?_take,List.getElem?_drop,List.length_append,List.length_take,List.length_drop,hcl,Nat.min_eq_left (show j * c ≤ cap * c by omega),Nat.min_eq_left (show j * c ≤ min (n * c) (cap * c) by omega)]
    repeat' split
    all_goals first | rfl | (exfalso;omega) | (congr 1;omega) | (rw [List.getElem?_eq_none (by simp only [Array.length_toList,hcz];omega)])
  · simp only [List.length_append,List.length_take,List.length_drop];omega
  · have hvT:∀ (q:Nat) (T:Ty) (u:Value),ts[q]? = some T → vs[q]? = some u → T.has (σ.setRow gg (cur.toList.take (j * c) ++ cs ++ cur.toList.drop (j * c + cs.length)).toArray) u:=fun q T u h1 h2=>T.up hle (r3 q T u h1 h2)
    refine typed_append (by simp only [List.length_append,List.length_take];omega) (typed_append (by simp only [List.length_take];omega) ?_ (fun q T u h1 h2=>T.up hle (hT q T u h1 h2))) ?_
    · intro q T u h1 h2
      rw [List.getElem?_take] at h1 h2
      split at h1
      · rename_i hq;rw [if_pos hq] at h2;exact hvT q T u h1 h2
      · cases h1
    · intro q T u h1 h2
      rw [List.getElem?_drop] at h1 h2
      rw [← hl] at h1
      exact hvT _ T u h1 h2
theorem m_copyOC {k k2:Nat} {t e:TypeId} {z:Value} {c by_:Nat} {x y:Operand} {w w2:Value} {n n2 i j:Nat} {ts us:List Ty} (ht:P.underlying t = some (.slice e)) (he:Info P e z c by_) (hk:2 ≤ k) (ho:Own σ k e c w n ts) (ho2:Own σ k2 e c w2 n2 us) (hx:a.eval x = sufC c w j) (hy:a.eval y = sufC c w2 i) (h1:∀ U,U ∈ us → One U) (hi:i < n2) (hj:j < n) (hmn:j + (n2 - i) ≤ n) :
    YldM k P ⟨d,.call ⟨.builtin .copy,#[x,y],#[t,t]⟩,ty,pos,af,g⟩ a σ (fun _ τ=>Own τ k e c w n (ts.take (j * c) ++ us.drop (i * c) ++ ts.drop ((j + (n2 - i)) * c))):=by
  have hlen2:=ho2.len
  obtain ⟨vs,r1,r2,r3,r4⟩:=ho2
  rcases r1.2 with ⟨rfl,h0⟩ | ⟨gg,cap,cur,rfl,_,hg,hn,hmm,hcz,htk⟩
  · omega
  have hy':a.eval y = .slice (some ⟨gg,i * c,none⟩) (n2 - i) (cap - i):=by rw [hy];exact sufC_at (by omega)
  have hone:∀ u ∈ vs.drop (i * c),u.oneCell' = true:=fun u hu=>by
    obtain ⟨q,hq⟩:=List.mem_iff_getElem?.1 (List.mem_of_mem_drop hu)
    obtain ⟨T,hT⟩:∃ T,us[q]? = some T:=⟨us[q]'(by rw [← r2];exact (List.getElem?_eq_some_iff.1 hq).1),by simp⟩
    exact h1 T (List.mem_of_getElem? hT) _ u (r3 q T u hT hq)
  have hsub:(n2 - i) * c = n2 * c - i * c:=Nat.sub_mul ..
  have hvl:(vs.drop (i * c)).length = (n2 - i) * c:=by rw [List.length_drop];omega
  have hul:(us.drop (i * c)).length = (n2 - i) * c:=by rw [List.length_drop];omega
  obtain ⟨τ,hr,hst,hown⟩:=own_copyC (ty:=ty) (j:=j) (m:=n2 - i) (sLen:=n2 - i) (sCap:=cap - i) (ad:=⟨gg,i * c,none⟩) (cs:=vs.drop (i * c)) (us:=us.drop (i * c)) hk ht he ho hj (Nat.min_eq_left (by omega)).symm hvl (by rw [hvl,hul]) (fun q u hq=>by
      rw [List.getElem?_drop] at hq
      have:=r1.cells (g:=gg) rfl (i * c + q) u hq
      rw [Addr.add_lit] at this ⊢
      simpa using this) (fun q T u h2 h3=>by
      rw [List.getElem?_drop] at h2 h3
      exact r3 _ T u h2 h3) hone
  rw [← hx,← hy'] at hr
  have hr':(execOp a.eval ⟨d,.call ⟨.builtin .copy,#[x,y],#[t,t]⟩,ty,pos,af,g⟩).run P σ.w = .ok (.value (goInt ((n2 - i:Nat):Int))) τ.w:=by
    simp only [execOp,resolve,Sem.run_bind,Sem.run_pure,Result.andThen_ok,invoke,List.map_toArray,List.map_cons,List.map_nil,builtin,hr]
  intro K Q hK
  unfold Oper.wp
  rw [hr']
  refine hK _ τ hst ?_
  rw [hul,← Nat.add_mul] at hown
  exact hown
theorem m_copyXC {k:Nat} {t e:TypeId} {z:Value} {c by_:Nat} {x y:Operand} {v:Value} {n i:Nat} {ts:List Ty} (ht:P.underlying t = some (.slice e)) (he:Info P e z c by_) (hk:2 ≤ k) (ho:Own σ k e c v n ts) (hi:i < n) (hc:n + 1 ≤ capOf v) (hx:a.eval x = sufC c (preOf v (n + 1)) (i + 1)) (hy:a.eval y = sufC c (preOf v (n + 1)) i) (h1:∀ U,U ∈ ts → One U) :
    YldM k P ⟨d,.call ⟨.builtin .copy,#[x,y],#[t,t]⟩,ty,pos,af,g⟩ a σ (fun _ τ=>Own τ k e c (preOf v (n + 1)) (n + 1) (ts.take ((i + 1) * c) ++ ts.drop (i * c))):=by
  have hlen:=ho.len
  have he2:=ho.extC (by omega) (Nat.le_succ n) hc
  obtain ⟨gg,cap,rfl,_,_⟩:=ho.at (by omega)
  have hc':n + 1 ≤ cap:=hc
  have hp:preOf (.slice (some ⟨gg,0,none⟩) n cap) (n + 1) = .slice (some ⟨gg,0,none⟩) (n + 1) cap:=rfl
  obtain ⟨vs,r1,r2,r3,r4⟩:=ho
  have hy':a.eval y = .slice (some ⟨gg,i * c,none⟩) (n + 1 - i) (cap - i):=by rw [hy,hp];exact sufC_at (by omega)
  have hone:∀ u ∈ vs.drop (i * c),u.oneCell' = true:=fun u hu=>by
    obtain ⟨q,hq⟩:=List.mem_iff_getElem?.1 (List.mem_of_mem_drop hu)
    obtain ⟨T,hT⟩:∃ T,ts[q]? = some T:=⟨ts[q]'(by rw [← r2];exact (List.getElem?_eq_some_iff.1 hq).1),by simp⟩
    exact h1 T (List.mem_of_getElem? hT) _ u (r3 q T u hT hq)
  have hsub:(n - i) * c = n * c - i * c:=Nat.sub_mul ..
  have hic:(i + 1) * c ≤ n * c:=Nat.mul_le_mul_right _ (by omega)
  have hic2:i * c ≤ n * c:=Nat.mul_le_mul_right _ (by omega)
  have hvl:(vs.drop (i * c)).length = (n - i) * c:=by rw [List.length_drop];omega
  have htl:(ts.drop (i * c)).length = (n - i) * c:=by rw [List.length_drop];omega
  obtain ⟨τ,hr,hst,hown⟩:=own_copyC (ty:=ty) (j:=i + 1) (m:=n - i) (sLen:=n + 1 - i) (sCap:=cap - i) (ad:=⟨gg,i * c,none⟩) (cs:=vs.drop (i * c)) (us:=ts.drop (i * c)) hk ht he he2 (by omega) (by show n - i = min (n + 1 - i) (n + 1 - (i + 1));omega) hvl (by rw [hvl,htl]) (fun q u hq=>by
      rw [List.getElem?_drop] at hq
      have:=r1.cells (g:=gg) rfl (i * c + q) u hq
      rw [Addr.add_lit] at this ⊢
      simpa using this) (fun q T u h2 h3=>by
      rw [List.getElem?_drop] at h2 h3
      exact r3 _ T u h2 h3) hone
  rw [← hx,← hy'] at hr
  have hr':(execOp a.eval ⟨d,.call ⟨.builtin .copy,#[x,y],#[t,t]⟩,ty,pos,af,g⟩).run P σ.w = .ok (.value (goInt ((n - i:Nat):Int))) τ.w:=by
    simp only [execOp,resolve,Sem.run_bind,Sem.run_pure,Result.andThen_ok,invoke,List.map_toArray,List.map_cons,List.map_nil,builtin,hr]
  intro K Q hK
  unfold Oper.wp
  rw [hr']
  refine hK _ τ hst ?_
  have e3:(ts ++ List.replicate ((n + 1 - n) * c) Ty.any).take ((i + 1) * c) ++ ts.drop (i * c) ++ (ts ++ List.replicate ((n + 1 - n) * c) Ty.any).drop ((i + 1) * c + (ts.drop (i * c)).length) = ts.take ((i + 1) * c) ++ ts.drop (i * c):=by
    have h5:(i + 1) * c + (n - i) * c = (n + 1) * c:=by rw [← Nat.add_mul];congr 1;omega
    have h6:(n + 1) * c = n * c + c:=Nat.succ_mul ..
    have h7:(ts ++ List.replicate ((n + 1 - n) * c) Ty.any).drop ((i + 1) * c + (ts.drop (i * c)).length) = []:=List.drop_eq_nil_of_le (by rw [List.length_append,List.length_replicate,htl,show n + 1 - n = 1 by omega];omega)
    rw [List.take_append_of_le_length (by omega),h7,List.append_nil]
  rw [e3] at hown
  exact hown
theorem y_ovlC {f:FuncId} {fn:Func} {k k2:Nat} {t e tr:TypeId} {z:Value} {c by_:Nat} {x y:Operand} {v w:Value} {n n2 h j:Nat} {ts us:List Ty} (ht:P.underlying t = some (.slice e)) (he:Info P e z c by_) (hc:0 < c) (ho:Own σ k e c v n ts) (ho2:Own σ k2 e c w n2 us) (hkk:k ≠ k2) (hn:0 < n) (hn2:0 < n2) (hx:a.eval x = v) (hy:a.eval y = sufC c (preOf w h) j) (hj:j < capOf w)
    (hr:∀ args w',(callFunc f args).run P w' = (((Extern.SlicesOverlaps.overlaps #[t,t] #[tr]) args).run P w').andThen fun v w'=>.ok (.value v) w') (hf:P.funcs[f]? = some fn) {tys:Array TypeId} :
    Yld P ⟨d,.call ⟨.value (.func f),#[x,y],tys⟩,ty,pos,af,g⟩ a σ (Ty.bool false).pr:=by
  obtain ⟨us1,r1,_,_,r4⟩:=ho
  obtain ⟨us2,q1,_,_,q4⟩:=ho2
  rcases r1.2 with ⟨_,h0⟩ | ⟨gg,cap,cur,rfl,_,hg,hn',hmm,hcz,htk⟩
  · omega
  rcases q1.2 with ⟨_,h0⟩ | ⟨g2,cap2,cur2,rfl,_,hg2,hn2',hmm2,hcz2,htk2⟩
  · omega
  have hj':j < cap2:=hj
  have hne:gg ≠ g2:=fun e=>by
    have h1:=r4 gg rfl
    have h2:=q4 g2 rfl
    rw [e] at h1
    exact hkk (h1.symm.trans h2)
  have hcz2':cur2.size ≠ 0:=by
    rw [hcz2];exact Nat.ne_of_gt (Nat.mul_pos (by omega) hc)
  have hy':a.eval y = .slice (some ⟨g2,j * c,none⟩) (h - j) (cap2 - j):=by rw [hy];exact sufC_at (n:=h) hj'
  have hrun:=Lib.run_overlaps_apart (P:=P) σ.w t tr e ht c (fun w=>he.size w) ⟨gg,0,none⟩ ⟨g2,j * c,none⟩ n cap (h - j) (cap2 - j) hne e e cur.size cur2.size (by simp [World.shape?,hg]) (by simp [World.shape?,hg2]) hcz2' (by simp [World.frozen?,hg]) (by simp [World.frozen?,hg])
  refine y_extern (R:=Ty.bool false) #[.slice (some ⟨gg,0,none⟩) n cap,.slice (some ⟨g2,j * c,none⟩) (h - j) (cap2 - j)] (by simp only [List.map_toArray,List.map_cons,List.map_nil,hx,hy']) ?_ rfl
  rw [hr,hrun];rfl
end Go.KL
namespace Go.KL
open Go.RowKit
section
variable {α β:Type}
theorem sum_cong {f g:α → Nat} {l:List α} (h:∀ x ∈ l,f x = g x):(l.map f).sum = (l.map g).sum:=congrArg List.sum (List.map_congr_left h)
theorem sum_addf (f g:α → Nat):∀ l:List α,(l.map fun x=>f x + g x).sum = (l.map f).sum + (l.map g).sum
  | []=>rfl
  | a :: l=>by simp only [List.map_cons,List.sum_cons,sum_addf f g l];omega
theorem sum_cst (c:Nat):∀ l:List α,(l.map fun _=>c).sum = l.length * c
  | []=>by simp
  | a :: l=>by simp only [List.map_cons,List.sum_cons,sum_cst c l,List.length_cons,Nat.succ_mul];omega
theorem sum_ind (p:α → Bool):∀ l:List α,(l.map fun x=>if p x = true then 1 else 0).sum = l.countP p
  | []=>rfl
  | a :: l=>by simp only [List.map_cons,List.sum_cons,sum_ind p l,List.countP_cons];omega
theorem sum_comm (f:α → β → Nat):∀ (A:List α) (B:List β),(A.map fun a=>(B.map (f a)).sum).sum = (B.map fun b=>(A.map fun a=>f a b).sum).sum
  | [],B=>by simp only [List.map_nil,List.sum_nil];rw [sum_cst];simp
  | a :: A,B=>by
    simp only [List.map_cons,List.sum_cons]
    rw [sum_comm f A B,sum_addf (f a) (fun b=>(A.map fun a=>f a b).sum) B]
theorem sum_swapP (p:α → β → Bool) (A:List α) (B:List β):(A.map fun a=>B.countP (p a)).sum = (B.map fun b=>A.countP fun a=>p a b).sum:=by
  have h1:(A.map fun a=>B.countP (p a)).sum = (A.map fun a=>(B.map fun b=>if p a b = true then 1 else 0).sum).sum:=sum_cong fun a _=>(sum_ind (p a) B).symm
  rw [h1,sum_comm (fun a b=>if p a b = true then 1 else 0)]
  exact sum_cong fun b _=>sum_ind (fun a=>p a b) A
theorem sum_zero {f:α → Nat}:∀ {l:List α},(∀ x ∈ l,f x = 0) → (l.map f).sum = 0
  | [],_=>rfl
  | a :: l,h=>by rw [List.map_cons,List.sum_cons,h a (by simp),sum_zero fun x hx=>h x (by simp [hx])]
theorem sum_oneN {f:α → Nat} {a:α}:∀ {l:List α},l.Nodup → a ∈ l → (∀ x ∈ l,x ≠ a → f x = 0) → (l.map f).sum = f a
  | [],_,h,_=>by cases h
  | b :: l,hnd,hm,h=>by
    rw [List.nodup_cons] at hnd
    rw [List.map_cons,List.sum_cons]
    by_cases e:b = a
    · rw [sum_zero (f:=f) fun x hx=>h x (by simp [hx]) fun ex=>hnd.1 (by rw [e,← ex];exact hx),e];rfl
    · have hm2:a ∈ l:=by
        rcases List.mem_cons.1 hm with h1 | h1
        · exact absurd h1.symm e
        · exact h1
      rw [h b (by simp) e,sum_oneN hnd.2 hm2 fun x hx=>h x (by simp [hx])];omega
theorem count_one [DecidableEq α] {a:α} {l:List α} (hnd:l.Nodup) (hm:a ∈ l):l.countP (fun y=>decide (a = y)) = 1:=by
  rw [← sum_ind,sum_oneN hnd hm fun x _ hx=>if_neg (by simpa using fun e:a = x=>hx e.symm)]
  exact if_pos (by simp)
end
def fstP (E:List (List Int)) (c:List Int):Bool:=E.all fun g=>!belowL (byL c g) c
theorem fstP_congr {E F:List (List Int)} (h:∀ x,x ∈ E ↔ x ∈ F) (c:List Int):fstP E c = fstP F c:=by
  rw [Bool.eq_iff_iff]
  unfold fstP
  rw [List.all_eq_true,List.all_eq_true]
  exact ⟨fun h1 x hx=>h1 x ((h x).2 hx),fun h1 x hx=>h1 x ((h x).1 hx)⟩
theorem min_ex:∀ l:List (List Int),l ≠ [] → ∃ m ∈ l,∀ x ∈ l,belowL x m = false
  | [],h=>absurd rfl h
  | [a],_=>⟨a,by simp,fun x hx=>by rw [List.mem_singleton.1 hx];exact below_irr a⟩
  | a :: b :: l,_=>by
    obtain ⟨m,hm,h⟩:=min_ex (b :: l) (by simp)
    cases e:belowL a m with
    | true =>
      refine ⟨a,by simp,fun x hx=>?_⟩
      rcases List.mem_cons.1 hx with rfl | hx
      · exact below_irr _
      · cases e2:belowL x a with
        | false=>rfl
        | true=>have:=below_trans e2 e;rw [h x hx] at this;cases this
    | false =>
      refine ⟨m,List.mem_cons_of_mem _ hm,fun x hx=>?_⟩
      rcases List.mem_cons.1 hx with rfl | hx
      · exact e
      · exact h x hx
section
variable {n:Nat} {G E X:List (List Int)} {x y f f1 f2:List Int}
structure ActX (n:Nat) (G X:List (List Int)):Prop where
  nd:X.Nodup
  len:∀ x ∈ X,x.length = n
  cl:∀ x ∈ X,∀ g,Cl n (fun y=>y ∈ G) g → byL x g ∈ X
theorem fst_one (hn:1 ≤ n∧n ≤ 12) (hG:∀ x ∈ G,RowN n x) (hE:EltsOk n G E) (h1:f1.length = n) (k1:fstP E f1 = true) (k2:fstP E f2 = true) {g:List Int} (hg:g ∈ E) (e:byL f1 g = f2):f1 = f2:=by
  refine Classical.byContradiction fun hne=>?_
  have hgc:=(hE.mem g).1 hg
  have hgr:=hgc.row hn hG
  have a1:=List.all_eq_true.1 k1 g hg
  have a2:=List.all_eq_true.1 k2 (undoL g) ((hE.mem _).2 (hgc.undo hn hG))
  rw [e] at a1
  rw [← e,← by_as f1 hgr hgr.undo,undo_right hgr,byL_rounds_right h1,e] at a2
  rcases below_tri hne with h | h
  · rw [h] at a2;cases a2
  · rw [h] at a1;cases a1
theorem fst_ex (hn:1 ≤ n∧n ≤ 12) (hG:∀ x ∈ G,RowN n x) (hE:EltsOk n G E) (y:List Int):∃ g ∈ E,fstP E (byL y g) = true:=by
  have hne:E ≠ []:=fun e=>by have:=(hE.mem _).2 (.one:Cl n (fun y=>y ∈ G) (roundsL n));rw [e] at this;cases this
  obtain ⟨m,hm,h⟩:=min_ex (E.map (byL y)) (by simpa using hne)
  obtain ⟨g,hg,rfl⟩:=List.mem_map.1 hm
  refine ⟨g,hg,List.all_eq_true.2 fun k hk=>?_⟩
  have hgc:=(hE.mem g).1 hg
  have hkc:=(hE.mem k).1 hk
  rw [← by_as y (hgc.row hn hG) (hkc.row hn hG),h _ (List.mem_map.2 ⟨byL g k,(hE.mem _).2 (hgc.prod hn hG hkc),rfl⟩)]
  rfl
theorem stab_same (hn:1 ≤ n∧n ≤ 12) (hG:∀ x ∈ G,RowN n x) (hE:EltsOk n G E) (hx:x.length = n) {g:List Int} (hg:g ∈ E):E.countP (fun h=>decide (byL x h = byL x g)) = E.countP (fun h=>decide (byL (byL x g) h = byL x g)):=by
  have hgc:=(hE.mem g).1 hg
  have hgr:=hgc.row hn hG
  have hr:∀ a ∈ E,RowN n a:=fun a ha=>((hE.mem a).1 ha).row hn hG
  rw [List.countP_eq_length_filter,List.countP_eq_length_filter]
  apply Nat.le_antisymm
  · have:=nd_sub (a:=(E.filter fun h=>decide (byL x h = byL x g)).map (byL (undoL g))) (b:=E.filter fun h=>decide (byL (byL x g) h = byL x g)) (by
      refine List.pairwise_map.2 ((List.Pairwise.filter _ hE.nd).imp_of_mem fun {a b} ha hb hne e=>hne ?_)
      have:=back_row (hr a (List.mem_filter.1 ha).1) hgr
      rw [e,back_row (hr b (List.mem_filter.1 hb).1) hgr] at this
      exact this.symm) fun z hz=>by
      obtain ⟨h,hh,rfl⟩:=List.mem_map.1 hz
      obtain ⟨h1,h2⟩:=List.mem_filter.1 hh
      refine List.mem_filter.2 ⟨(hE.mem _).2 ((hgc.undo hn hG).prod hn hG ((hE.mem h).1 h1)),decide_eq_true ?_⟩
      rw [← by_as x hgr (hgr.undo.by (hr h h1)),back_row (hr h h1) hgr]
      exact of_decide_eq_true h2
    rwa [List.length_map] at this
  · have:=nd_sub (a:=(E.filter fun h=>decide (byL (byL x g) h = byL x g)).map (byL g)) (b:=E.filter fun h=>decide (byL x h = byL x g)) (by
      refine List.pairwise_map.2 ((List.Pairwise.filter _ hE.nd).imp_of_mem fun {a b} ha hb hne e=>hne ?_)
      have:=fore_row (hr a (List.mem_filter.1 ha).1) hgr
      rw [e,fore_row (hr b (List.mem_filter.1 hb).1) hgr] at this
      exact this.symm) fun z hz=>by
      obtain ⟨h,hh,rfl⟩:=List.mem_map.1 hz
      obtain ⟨h1,h2⟩:=List.mem_filter.1 hh
      refine List.mem_filter.2 ⟨(hE.mem _).2 (hgc.prod hn hG ((hE.mem h).1 h1)),decide_eq_true ?_⟩
      rw [by_as x hgr (hr h h1)]
      exact of_decide_eq_true h2
    rwa [List.length_map] at this
theorem burn (hn:1 ≤ n∧n ≤ 12) (hG:∀ x ∈ G,RowN n x) (hE:EltsOk n G E) (hX:ActX n G X):(E.map fun g=>X.countP fun x=>decide (byL x g = x)).sum = (X.filter (fstP E)).length * E.length:=by
  have s1:(E.map fun g=>X.countP fun x=>decide (byL x g = x)).sum = (X.map fun y=>E.countP fun g=>decide (byL y g = y)).sum:=(sum_swapP (fun y g=>decide (byL y g = y)) X E).symm
  have s2:(X.map fun y=>E.countP fun g=>decide (byL y g = y)).sum = (X.map fun y=>((X.filter (fstP E)).map fun f=>E.countP fun g=>decide (byL f g = y)).sum).sum:=by
    refine sum_cong fun y hy=>?_
    obtain ⟨g,hg,hf⟩:=fst_ex hn hG hE y
    have hgc:=(hE.mem g).1 hg
    have hgr:=hgc.row hn hG
    have hyl:=hX.len y hy
    have hfl:(byL y g).length = n:=by rw [byL_len,hgr.len]
    have hgu:undoL g ∈ E:=(hE.mem _).2 (hgc.undo hn hG)
    have hb:byL (byL y g) (undoL g) = y:=by rw [← by_as y hgr hgr.undo,undo_right hgr,byL_rounds_right hyl]
    rw [sum_oneN (f:=fun f=>E.countP fun g=>decide (byL f g = y)) (a:=byL y g) (hX.nd.filter _) (List.mem_filter.2 ⟨hX.cl y hy g hgc,hf⟩) fun f hfm hne=>?_]
    · have:=stab_same hn hG hE (x:=byL y g) hfl hgu
      rw [hb] at this
      exact this.symm
    · rw [List.countP_eq_zero]
      intro k hk hd
      have hd:=of_decide_eq_true hd
      obtain ⟨hfX,hff⟩:=List.mem_filter.1 hfm
      have hkc:=(hE.mem k).1 hk
      refine hne (fst_one hn hG hE (hX.len f hfX) hff hf (g:=byL k g) ((hE.mem _).2 (hkc.prod hn hG hgc)) ?_)
      rw [by_as f (hkc.row hn hG) hgr,hd]
  have s3:∀ f ∈ X.filter (fstP E),(X.map fun y=>E.countP fun g=>decide (byL f g = y)).sum = E.length:=fun f hf=>by
    rw [sum_swapP (fun y g=>decide (byL f g = y)) X E]
    have:∀ g ∈ E,X.countP (fun y=>decide (byL f g = y)) = 1:=fun g hg=>count_one hX.nd (hX.cl f (List.mem_filter.1 hf).1 g ((hE.mem g).1 hg))
    rw [sum_cong this,sum_cst];omega
  rw [s1,s2,sum_comm (fun y f=>E.countP fun g=>decide (byL f g = y)),sum_cong s3,sum_cst]
def colT (n C k j:Nat):List Int:=(List.range n).map fun i=>if n ≤ i + j then ((k / C ^ (n - 1 - i) % C:Nat):Int) else 0
def colAt (n C k:Nat):List Int:=colT n C k n
def colsL (n C:Nat):List (List Int):=(List.range (C ^ n)).map (colAt n C)
theorem colT_len {n C k j:Nat}:(colT n C k j).length = n:=by simp [colT]
theorem colAt_len {n C k:Nat}:(colAt n C k).length = n:=colT_len
theorem colT_zero {n C k:Nat}:colT n C k 0 = List.replicate n 0:=by
  refine List.ext_getElem (by simp [colT]) fun i h1 h2=>?_
  simp only [colT,List.getElem_map,List.getElem_range,List.getElem_replicate]
  rw [colT_len] at h1
  exact if_neg (by omega)
theorem colT_step {n C k j:Nat} (hj:j < n):(colT n C k j).set (n - 1 - j) ((k / C ^ j % C:Nat):Int) = colT n C k (j + 1):=by
  refine List.ext_getElem (by simp [colT]) fun i h1 h2=>?_
  rw [List.getElem_set]
  have hi:i < n:=by rwa [colT_len] at h2
  simp only [colT,List.getElem_map,List.getElem_range]
  by_cases e:n - 1 - j = i
  · rw [if_pos e,if_pos (by omega),show n - 1 - i = j by omega]
  · rw [if_neg e]
    by_cases h:n ≤ i + j
    · rw [if_pos h,if_pos (by omega)]
    · rw [if_neg h,if_neg (by omega)]
theorem colAt_succ {n C k:Nat}:colAt (n + 1) C k = colAt n C (k / C) ++ [((k % C:Nat):Int)]:=by
  unfold colAt colT
  rw [List.range_succ,List.map_append]
  congr 1
  · refine List.map_congr_left fun i hi=>?_
    have hi:=List.mem_range.1 hi
    rw [if_pos (by omega),if_pos (by omega),Nat.div_div_eq_div_mul,← Nat.pow_succ',show (n - 1 - i).succ = n + 1 - 1 - i by omega]
  · simp
theorem colAt_bd {C:Nat} (hC:0 < C):∀ {n k:Nat},∀ v ∈ colAt n C k,0 ≤ v∧v < C
  | 0,k,v,h=>by simp [colAt,colT] at h
  | n + 1,k,v,h=>by
    rw [colAt_succ] at h
    rcases List.mem_append.1 h with h | h
    · exact colAt_bd hC v h
    · rw [List.mem_singleton] at h
      have:=Nat.mod_lt k hC
      omega
theorem colAt_ex {C:Nat}:∀ {n:Nat} {x:List Int},x.length = n → (∀ v ∈ x,0 ≤ v∧v < C) → ∃ k,k < C ^ n∧colAt n C k = x
  | 0,x,hl,_=>⟨0,by simp,by rw [List.length_eq_zero_iff.1 hl];simp [colAt,colT]⟩
  | n + 1,x,hl,hb=>by
    have hne:x ≠ []:=fun e=>by rw [e] at hl;simp at hl
    obtain ⟨k,hk,e⟩:=colAt_ex (n:=n) (x:=x.dropLast) (by simp [hl]) fun v hv=>hb v (List.dropLast_sublist x |>.subset hv)
    have hv:=hb _ (List.getLast_mem hne)
    refine ⟨k * C + (x.getLast hne).toNat,?_,?_⟩
    · rw [Nat.pow_succ]
      calc k * C + (x.getLast hne).toNat < k * C + C:=by omega
        _ = (k + 1) * C:=by rw [Nat.succ_mul]
        _ ≤ C ^ n * C:=Nat.mul_le_mul_right _ hk
    · have hC:0 < C:=by omega
      have h1:(k * C + (x.getLast hne).toNat) / C = k:=by
        rw [Nat.mul_comm,Nat.mul_add_div hC,Nat.div_eq_of_lt (by omega)];rfl
      have h2:(k * C + (x.getLast hne).toNat) % C = (x.getLast hne).toNat:=by
        rw [Nat.mul_comm,Nat.mul_add_mod];exact Nat.mod_eq_of_lt (by omega)
      rw [colAt_succ,h1,h2,e,Int.toNat_of_nonneg hv.1]
      exact List.dropLast_concat_getLast hne
theorem colAt_inj {C:Nat} (hC:0 < C):∀ {n k k':Nat},k < C ^ n → k' < C ^ n → colAt n C k = colAt n C k' → k = k'
  | 0,k,k',h,h',_=>by simp at h h';omega
  | n + 1,k,k',h,h',e=>by
    rw [colAt_succ,colAt_succ] at e
    obtain ⟨e1,e2⟩:=List.append_inj e (by rw [colAt_len,colAt_len])
    have h1:=colAt_inj hC (Nat.div_lt_of_lt_mul (by rw [Nat.pow_succ'] at h;exact h)) (Nat.div_lt_of_lt_mul (by rw [Nat.pow_succ'] at h';exact h')) e1
    have h2:k % C = k' % C:=by
      have h3:((k % C:Nat):Int) = ((k' % C:Nat):Int):=(List.cons.inj e2).1
      exact Int.ofNat.inj h3
    rw [← Nat.div_add_mod k C,← Nat.div_add_mod k' C,h1,h2]
theorem cols_mem {C:Nat} {x:List Int}:x ∈ colsL n C ↔ x.length = n∧∀ v ∈ x,0 ≤ v∧v < C:=by
  unfold colsL
  rw [List.mem_map]
  constructor
  · rintro ⟨k,hk,rfl⟩
    have hk:=List.mem_range.1 hk
    refine ⟨colAt_len,fun v hv=>?_⟩
    rcases Nat.eq_zero_or_pos C with hC | hC
    · subst hC
      cases n with
      | zero=>simp [colAt,colT] at hv
      | succ n=>rw [Nat.pow_succ,Nat.mul_zero] at hk;omega
    · exact colAt_bd hC v hv
  · rintro ⟨h1,h2⟩
    obtain ⟨k,hk,e⟩:=colAt_ex h1 h2
    exact ⟨k,List.mem_range.2 hk,e⟩
theorem cols_nd {C:Nat}:(colsL n C).Nodup:=by
  refine List.pairwise_map.2 (List.nodup_range.imp_of_mem fun {a b} ha hb hne e=>hne ?_)
  have ha:=List.mem_range.1 ha
  rcases Nat.eq_zero_or_pos C with hC | hC
  · subst hC
    have hb:=List.mem_range.1 hb
    cases n with
    | zero=>simp at ha hb;omega
    | succ n=>rw [Nat.pow_succ,Nat.mul_zero] at ha;omega
  · exact colAt_inj hC ha (List.mem_range.1 hb) e
theorem cols_len {C:Nat}:(colsL n C).length = C ^ n:=by simp [colsL]
theorem by_perm {g x:List Int} (hg:RowN n g) (hx:x.length = n):(byL x g).Perm x:=by
  have h1:(byL x g).Perm (byL x (roundsL n)):=by
    have:=row_perm hg.row
    rw [hg.len] at this
    exact this.map _
  rwa [byL_rounds_right hx] at h1
def dist (m:List Int) (x:List Int):Bool:=(List.range m.length).all fun c=>decide (((x.count (c:Int):Nat):Int) = m.getD c 0)
theorem act_cols (hn:1 ≤ n∧n ≤ 12) (hG:∀ x ∈ G,RowN n x) {C:Nat}:ActX n G (colsL n C) where
  nd:=cols_nd
  len x hx:=(cols_mem.1 hx).1
  cl x hx g hg:=by
    obtain ⟨h1,h2⟩:=cols_mem.1 hx
    have hgr:=hg.row hn hG
    have hp:=by_perm hgr h1
    exact cols_mem.2 ⟨by rw [byL_len,hgr.len],fun v hv=>h2 v (hp.mem_iff.1 hv)⟩
theorem act_dist (hn:1 ≤ n∧n ≤ 12) (hG:∀ x ∈ G,RowN n x) {m:List Int} {C:Nat}:ActX n G ((colsL n C).filter (dist m)) where
  nd:=cols_nd.filter _
  len x hx:=(cols_mem.1 (List.mem_filter.1 hx).1).1
  cl x hx g hg:=by
    obtain ⟨h1,h2⟩:=List.mem_filter.1 hx
    have hp:=by_perm (hg.row hn hG) (cols_mem.1 h1).1
    refine List.mem_filter.2 ⟨(act_cols hn hG).cl x h1 g hg,?_⟩
    have:dist m (byL x g) = dist m x:=by
      unfold dist
      refine congrArg _ (funext fun c=>?_)
      rw [hp.count_eq]
    rw [this];exact h2
end
end Go.KL
namespace Go.KL
open Go.RowKit
section
variable {n C:Nat} {r x q m:List Int}
theorem fix_itr (hr:IsRow r) (hx:x.length = r.length) (h:byL x r = x) {b:Nat} (hb:b < r.length):∀ k,x.getD (itr r b k) 0 = x.getD b 0
  | 0=>rfl
  | k + 1=>by
    have hk:=itr_lt hr hb k
    have e:itr r b (k + 1) = nxt r (itr r b k):=rfl
    rw [e,← fix_itr hr hx h hb k]
    have:=byL_get x r (itr r b k) hk
    rw [h] at this
    exact this.symm
def hdsL (r:List Int):List Nat:=(List.range r.length).filter (least r)
theorem cyc_hds:cyclesL r = (hdsL r).map (orb r):=rfl
theorem hds_ex (hr:IsRow r) {i:Nat} (hi:i < r.length):∃ h ∈ hdsL r,h < r.length∧Leads r h i:=by
  have hm:(i:Int) ∈ (cyclesL r).flatten:=(cycles_perm hr).mem_iff.2 (rounds_mem.2 (by omega))
  rw [List.mem_flatten] at hm
  obtain ⟨c,hc,hic⟩:=hm
  rw [cyc_hds] at hc
  obtain ⟨h,hh,rfl⟩:=List.mem_map.1 hc
  obtain ⟨k,_,e⟩:=List.mem_map.1 hic
  exact ⟨h,hh,List.mem_range.1 (List.mem_filter.1 hh).1,k,by omega⟩
def qOf (r x:List Int):List Int:=(hdsL r).map fun h=>x.getD h 0
theorem qOf_len:(qOf r x).length = (cyclesL r).length:=by rw [cyc_hds];simp [qOf]
theorem fix_eq {y:List Int} (hr:IsRow r) (hx:x.length = r.length) (hy:y.length = r.length) (h:byL x r = x) (h':byL y r = y) (e:qOf r x = qOf r y):x = y:=by
  refine list_ext (by rw [hx,hy]) fun i hi=>?_
  rw [hx] at hi
  obtain ⟨b,hb,hbl,k,rfl⟩:=hds_ex hr hi
  rw [fix_itr hr hx h hbl k,fix_itr hr hy h' hbl k]
  have:=List.map_inj_left.1 e b hb
  exact this
open Classical in
noncomputable def paint (r q:List Int):List Int:=(List.range r.length).map fun i=>q.getD ((hdsL r).findIdx fun h=>decide (Leads r h i)) 0
theorem paint_len:(paint r q).length = r.length:=by simp [paint]
theorem leads_nxt (hr:IsRow r) {h i:Nat} (hh:h < r.length) (hi:i < r.length):Leads r h (nxt r i) ↔ Leads r h i:=by
  constructor
  · intro ⟨k,e⟩
    have h1:Leads r i (nxt r i):=⟨1,rfl⟩
    exact Leads.trans ⟨k,e⟩ (h1.symm hr hi)
  · rintro ⟨k,e⟩
    exact ⟨k + 1,by show nxt r (itr r h k) = _;rw [e]⟩
open Classical in
theorem paint_fix (hr:IsRow r):byL (paint r q) r = paint r q:=by
  refine list_ext (by rw [byL_len,paint_len]) fun i hi=>?_
  rw [byL_len] at hi
  rw [byL_get _ _ i hi]
  have hn:=nxt_lt hr hi
  have g:∀ j,j < r.length → (paint r q).getD j 0 = q.getD ((hdsL r).findIdx fun h=>decide (Leads r h j)) 0:=fun j hj=>by simp [paint,hj]
  show (paint r q).getD (nxt r i) 0 = _
  rw [g _ hn,g _ hi]
  congr 1
  have:∀ l:List Nat,(∀ h ∈ l,h < r.length) → (l.findIdx fun h=>decide (Leads r h (nxt r i))) = l.findIdx fun h=>decide (Leads r h i):=by
    intro l
    induction l with
    | nil=>intro _;rfl
    | cons a l ih =>
      intro h
      rw [List.findIdx_cons,List.findIdx_cons,ih fun b hb=>h b (by simp [hb])]
      have:decide (Leads r a (nxt r i)) = decide (Leads r a i):=by
        rw [decide_eq_decide];exact leads_nxt hr (h a (by simp)) hi
      rw [this]
  exact this _ fun h hh=>List.mem_range.1 (List.mem_filter.1 hh).1
theorem hds_nd:(hdsL r).Nodup:=List.Pairwise.filter _ List.nodup_range
open Classical in
theorem paint_q (hr:IsRow r) (hq:q.length = (cyclesL r).length):qOf r (paint r q) = q:=by
  have hl:(hdsL r).length = q.length:=by rw [hq,cyc_hds,List.length_map]
  refine list_ext (by rw [qOf_len,hq]) fun j hj=>?_
  rw [qOf_len,← hq] at hj
  have hjh:j < (hdsL r).length:=by omega
  have hm:=List.getElem_mem hjh
  obtain ⟨hlt,hls⟩:=List.mem_filter.1 hm
  have hlt:=List.mem_range.1 hlt
  have e1:(qOf r (paint r q)).getD j 0 = (paint r q).getD (hdsL r)[j] 0:=by simp [qOf,hjh]
  have e2:(paint r q).getD (hdsL r)[j] 0 = q.getD ((hdsL r).findIdx fun h=>decide (Leads r h (hdsL r)[j])) 0:=by simp [paint,hlt]
  rw [e1,e2]
  congr 1
  rw [List.findIdx_eq hjh]
  refine ⟨decide_eq_true ⟨0,rfl⟩,fun k hk=>?_⟩
  refine decide_eq_false fun hL=>?_
  have hkl:k < (hdsL r).length:=by omega
  obtain ⟨klt,kls⟩:=List.mem_filter.1 (List.getElem_mem hkl)
  have klt:=List.mem_range.1 klt
  have h1:=(least_iff hr klt).1 kls _ hL
  have h2:=(least_iff hr hlt).1 hls _ (hL.symm hr klt)
  have:k = j:=(List.getElem_inj (xs:=hdsL r) hds_nd).1 (by omega)
  omega
open Classical in
theorem fix_count (hr:IsRow r) (p:List Int → Bool) (p':List Int → Bool) (hp:∀ x,x.length = r.length → byL x r = x → p x = p' (qOf r x)) :
    ((colsL r.length C).filter p).countP (fun x=>decide (byL x r = x)) = (colsL (cyclesL r).length C).countP p':=by
  rw [List.countP_eq_length_filter,List.countP_eq_length_filter]
  apply Nat.le_antisymm
  · have:=nd_sub (a:=(((colsL r.length C).filter p).filter fun x=>decide (byL x r = x)).map (qOf r)) (b:=(colsL (cyclesL r).length C).filter p') (by
      refine List.pairwise_map.2 (((cols_nd.filter _).filter _).imp_of_mem fun {a b} ha hb hne e=>hne ?_)
      obtain ⟨a1,a2⟩:=List.mem_filter.1 ha
      obtain ⟨b1,b2⟩:=List.mem_filter.1 hb
      exact fix_eq hr (cols_mem.1 (List.mem_filter.1 a1).1).1 (cols_mem.1 (List.mem_filter.1 b1).1).1 (of_decide_eq_true a2) (of_decide_eq_true b2) e) fun z hz=>by
      obtain ⟨x,hx,rfl⟩:=List.mem_map.1 hz
      obtain ⟨h1,h2⟩:=List.mem_filter.1 hx
      obtain ⟨h1,h3⟩:=List.mem_filter.1 h1
      obtain ⟨h4,h5⟩:=cols_mem.1 h1
      refine List.mem_filter.2 ⟨cols_mem.2 ⟨qOf_len,fun v hv=>?_⟩,by rw [← hp x h4 (of_decide_eq_true h2)];exact h3⟩
      obtain ⟨h,hh,rfl⟩:=List.mem_map.1 hv
      exact h5 _ (mem_atD 0 (by rw [h4];exact List.mem_range.1 (List.mem_filter.1 hh).1))
    rwa [List.length_map] at this
  · have:=nd_sub (a:=((colsL (cyclesL r).length C).filter p').map (paint r)) (b:=((colsL r.length C).filter p).filter fun x=>decide (byL x r = x)) (by
      refine List.pairwise_map.2 ((cols_nd.filter _).imp_of_mem fun {a b} ha hb hne e=>hne ?_)
      have ha:=(cols_mem.1 (List.mem_filter.1 ha).1).1
      have hb:=(cols_mem.1 (List.mem_filter.1 hb).1).1
      rw [← paint_q hr ha,e,paint_q hr hb]) fun z hz=>by
      obtain ⟨q,hq,rfl⟩:=List.mem_map.1 hz
      obtain ⟨h1,h2⟩:=List.mem_filter.1 hq
      obtain ⟨h3,h4⟩:=cols_mem.1 h1
      refine List.mem_filter.2 ⟨List.mem_filter.2 ⟨cols_mem.2 ⟨paint_len,fun v hv=>?_⟩,by rw [hp _ paint_len (paint_fix hr),paint_q hr h3];exact h2⟩,decide_eq_true (paint_fix hr)⟩
      obtain ⟨i,hi,e⟩:=List.mem_map.1 hv
      have hi:=List.mem_range.1 hi
      obtain ⟨h,hh,_,hL⟩:=hds_ex hr hi
      rw [← e]
      refine h4 _ (mem_atD 0 ?_)
      rw [h3,cyc_hds,List.length_map]
      exact List.findIdx_lt_length_of_exists ⟨h,hh,decide_eq_true hL⟩
    rwa [List.length_map] at this
def wtL:List Nat → List Int → Int → Nat
  | l :: ls,v :: q,c=>(if v = c then l else 0) + wtL ls q c
  | _,_,_=>0
def wayN:List Nat → List Int → Nat
  | [],m=>if m.all (fun x=>decide (x = 0)) = true then 1 else 0
  | l :: ls,m=>((List.range m.length).map fun c=>if (l:Int) ≤ m.getD c 0 then wayN ls (m.set c (m.getD c 0 - (l:Int))) else 0).sum
theorem count_flat {c:Int}:∀ l:List (List Int),(l.flatten.count c:Nat) = (l.map fun a=>a.count c).sum
  | []=>rfl
  | a :: l=>by rw [List.flatten_cons,List.count_append,count_flat l];rfl
theorem wt_map {c:Int} {f:List Int → Nat} {g:List Int → Int}:∀ l:List (List Int),wtL (l.map f) (l.map g) c = (l.map fun a=>if g a = c then f a else 0).sum
  | []=>rfl
  | a :: l=>by simp only [List.map_cons,wtL,List.sum_cons,wt_map l]
theorem fix_dist (hr:IsRow r) (hx:x.length = r.length) (h:byL x r = x) (c:Int):x.count c = wtL ((cyclesL r).map List.length) (qOf r x) c:=by
  have e1:x = (roundsL r.length).map fun k=>x.getD k.toNat 0:=by
    have:=byL_rounds_right (n:=r.length) hx
    exact this.symm
  have e2:x.count c = ((cyclesL r).flatten.map fun k=>x.getD k.toNat 0).count c:=by
    conv=>lhs;rw [e1]
    exact (((cycles_perm hr).map _).count_eq c).symm
  rw [e2,List.map_flatten,count_flat]
  have e3:qOf r x = (cyclesL r).map fun a=>x.getD (a.getD 0 0).toNat 0:=by
    rw [cyc_hds,List.map_map]
    refine List.map_congr_left fun b hb=>?_
    have hlt:=List.mem_range.1 (List.mem_filter.1 hb).1
    have hp:=(per_spec hr hlt).1
    show _ = x.getD ((orb r b).getD 0 0).toNat 0
    have:(orb r b).getD 0 0 = (b:Int):=by
      unfold orb
      simp [show 0 < per r b by omega,itr]
    rw [this];rfl
  rw [e3,wt_map,List.map_map]
  refine congrArg List.sum (List.map_congr_left fun a ha=>?_)
  rw [cyc_hds] at ha
  obtain ⟨b,hb,rfl⟩:=List.mem_map.1 ha
  have hlt:=List.mem_range.1 (List.mem_filter.1 hb).1
  have hp:=(per_spec hr hlt).1
  have h0:(orb r b).getD 0 0 = (b:Int):=by
    unfold orb
    simp [show 0 < per r b by omega,itr]
  have e4:(orb r b).map (fun k=>x.getD k.toNat 0) = List.replicate (per r b) (x.getD b 0):=by
    unfold orb
    rw [List.map_map]
    refine List.ext_getElem (by simp) fun i h1 h2=>?_
    simp only [List.getElem_map,List.getElem_range,List.getElem_replicate,Function.comp]
    rw [Int.toNat_natCast]
    exact fix_itr hr hx h hlt i
  show List.count c ((orb r b).map fun k=>x.getD k.toNat 0) = _
  rw [e4,List.count_replicate,h0,Int.toNat_natCast,orb_len]
  by_cases e:x.getD b 0 = c
  · rw [if_pos e,if_pos (by simpa using e)]
  · rw [if_neg e,if_neg (by simpa using e)]
def wdist (ls:List Nat) (m q:List Int):Bool:=(List.range m.length).all fun c=>decide (((wtL ls q (c:Int):Nat):Int) = m.getD c 0)
theorem wdist_iff {ls:List Nat}:wdist ls m q = true ↔ ∀ c:Nat,c < m.length → ((wtL ls q (c:Int):Nat):Int) = m.getD c 0:=by
  unfold wdist
  rw [List.all_eq_true]
  exact ⟨fun h c hc=>of_decide_eq_true (h c (List.mem_range.2 hc)),fun h c hc=>decide_eq_true (h c (List.mem_range.1 hc))⟩
theorem cols_cons {k:Nat} (p:List Int → Bool):(colsL (k + 1) C).countP p = ((List.range C).map fun (c:Nat)=>(colsL k C).countP fun q=>p ((c:Int) :: q)).sum:=by
  have hp : (colsL (k + 1) C).Perm ((List.range C).flatMap fun (c:Nat)=>(colsL k C).map fun q=>(c:Int) :: q):=by
    refine (List.perm_ext_iff_of_nodup cols_nd ?_).2 fun x=>?_
    · unfold List.Nodup
      rw [List.pairwise_flatMap]
      refine ⟨fun c _=>List.pairwise_map.2 (cols_nd.imp fun hne e=>hne (List.cons.inj e).2),List.nodup_range.imp fun {a b} hne=>?_⟩
      intro z hz1 z2 hz2 ez
      obtain ⟨q1,_,e1⟩:=List.mem_map.1 hz1
      obtain ⟨q2,_,e2⟩:=List.mem_map.1 hz2
      rw [← e2,← e1] at ez
      have:=(List.cons.inj ez).1
      omega
    · rw [cols_mem,List.mem_flatMap]
      constructor
      · rintro ⟨h1,h2⟩
        cases x with
        | nil=>simp at h1
        | cons v q =>
          have hv:=h2 v (by simp)
          exact ⟨v.toNat,List.mem_range.2 (by omega),List.mem_map.2 ⟨q,cols_mem.2 ⟨by simpa using h1,fun w hw=>h2 w (by simp [hw])⟩,by rw [Int.toNat_of_nonneg hv.1]⟩⟩
      · rintro ⟨c,hc,hx⟩
        obtain ⟨q,hq,rfl⟩:=List.mem_map.1 hx
        obtain ⟨h1,h2⟩:=cols_mem.1 hq
        have hc:=List.mem_range.1 hc
        refine ⟨by simp [h1],fun w hw=>?_⟩
        rcases List.mem_cons.1 hw with rfl | hw
        · omega
        · exact h2 w hw
  rw [hp.countP_eq,List.countP_flatMap]
  refine congrArg List.sum (List.map_congr_left fun c _=>?_)
  show List.countP p ((colsL k C).map _) = _
  rw [List.countP_map];rfl
theorem wayN_count:∀ (ls:List Nat) (m:List Int),(colsL ls.length m.length).countP (wdist ls m) = wayN ls m
  | [], m=>by
    have e:colsL ([]:List Nat).length m.length = [[]]:=by simp [colsL,colAt,colT]
    rw [e,wayN]
    simp only [List.countP_cons,List.countP_nil,Nat.zero_add]
    have:wdist [] m [] = m.all fun x=>decide (x = 0):=by
      rw [Bool.eq_iff_iff,wdist_iff,List.all_eq_true]
      constructor
      · intro h x hx
        obtain ⟨i,hi,rfl⟩:=List.getElem_of_mem hx
        have:=h i hi
        have e:m.getD i 0 = m[i]:=by simp [hi]
        rw [e] at this
        exact decide_eq_true this.symm
      · intro h c hc
        have:=of_decide_eq_true (h _ (mem_atD 0 hc))
        rw [this];rfl
    rw [this]
  | l :: ls,m=>by
    rw [List.length_cons,cols_cons,wayN]
    refine congrArg List.sum (List.map_congr_left fun c hc=>?_)
    have hc:=List.mem_range.1 hc
    by_cases h:(l:Int) ≤ m.getD c 0
    · rw [if_pos h,← wayN_count ls (m.set c (m.getD c 0 - (l:Int))),List.length_set]
      refine List.countP_congr fun q _=>?_
      rw [wdist_iff,wdist_iff,List.length_set]
      constructor
      · intro h2 d hd
        have:=h2 d hd
        rw [wtL] at this
        by_cases e:c = d
        · subst e
          rw [if_pos rfl] at this
          rw [show (m.set c (m.getD c 0 - (l:Int))).getD c 0 = m.getD c 0 - (l:Int) by simp [hd]]
          omega
        · rw [if_neg (by omega)] at this
          rw [show (m.set c (m.getD c 0 - (l:Int))).getD d 0 = m.getD d 0 by simp [List.getD_eq_getElem?_getD,List.getElem?_set_ne e]]
          omega
      · intro h2 d hd
        have:=h2 d hd
        rw [wtL]
        by_cases e:c = d
        · subst e
          rw [if_pos rfl]
          rw [show (m.set c (m.getD c 0 - (l:Int))).getD c 0 = m.getD c 0 - (l:Int) by simp [hd]] at this
          omega
        · rw [if_neg (by omega)]
          rw [show (m.set c (m.getD c 0 - (l:Int))).getD d 0 = m.getD d 0 by simp [List.getD_eq_getElem?_getD,List.getElem?_set_ne e]] at this
          omega
    · rw [if_neg h,List.countP_eq_zero]
      intro q _ hd
      have:=wdist_iff.1 hd c hc
      rw [wtL,if_pos rfl] at this
      omega
theorem fix_ways (hr:IsRow r):((colsL r.length m.length).filter (dist m)).countP (fun x=>decide (byL x r = x)) = wayN ((cyclesL r).map List.length) m:=by
  rw [← wayN_count,List.length_map]
  refine fix_count hr _ _ fun x hx h=>?_
  unfold dist wdist
  refine congrArg _ (funext fun c=>?_)
  rw [fix_dist hr hx h]
theorem wayN_perm {a b:List Nat} (h:a.Perm b):∀ m,wayN a m = wayN b m:=by
  induction h with
  | nil=>intro m;rfl
  | cons l _ ih =>
    intro m
    rw [wayN,wayN]
    exact congrArg List.sum (List.map_congr_left fun c _=>by rw [ih])
  | trans _ _ ih1 ih2=>intro m;rw [ih1,ih2]
  | swap a b ls =>
    intro m
    simp only [wayN,List.length_set]
    have e:∀ (a b:Nat),((List.range m.length).map fun c=>if (a:Int) ≤ m.getD c 0 then ((List.range m.length).map fun d=>if (b:Int) ≤ (m.set c (m.getD c 0 - (a:Int))).getD d 0 then wayN ls ((m.set c (m.getD c 0 - (a:Int))).set d ((m.set c (m.getD c 0 - (a:Int))).getD d 0 - (b:Int))) else 0).sum else 0).sum = ((List.range m.length).map fun c=>((List.range m.length).map fun d=>if (a:Int) ≤ m.getD c 0∧(b:Int) ≤ (m.set c (m.getD c 0 - (a:Int))).getD d 0 then wayN ls ((m.set c (m.getD c 0 - (a:Int))).set d ((m.set c (m.getD c 0 - (a:Int))).getD d 0 - (b:Int))) else 0).sum).sum:=fun a b=>by
      refine sum_cong fun c _=>?_
      by_cases h:(a:Int) ≤ m.getD c 0
      · rw [if_pos h]
        refine sum_cong fun d _=>?_
        by_cases h2:(b:Int) ≤ (m.set c (m.getD c 0 - (a:Int))).getD d 0
        · rw [if_pos h2,if_pos ⟨h,h2⟩]
        · rw [if_neg h2,if_neg fun h3=>h2 h3.2]
      · rw [if_neg h]
        exact (sum_zero fun d _=>if_neg fun h3=>h h3.1).symm
    rw [e a b,e b a,sum_comm]
    refine sum_cong fun d hd=>sum_cong fun c hc=>?_
    have hd:=List.mem_range.1 hd
    have hc:=List.mem_range.1 hc
    by_cases ecd:c = d
    · subst ecd
      have g:∀ z:Int,(m.set c z).getD c 0 = z:=fun z=>by simp [hc]
      rw [g,g,List.set_set,List.set_set]
      by_cases h:(a:Int) + b ≤ m.getD c 0
      · rw [if_pos (by omega),if_pos (by omega)]
        congr 2;omega
      · rw [if_neg (by omega),if_neg (by omega)]
    · have g:∀ z:Int,(m.set c z).getD d 0 = m.getD d 0:=fun z=>by simp [List.getD_eq_getElem?_getD,List.getElem?_set_ne ecd]
      have g2:∀ z:Int,(m.set d z).getD c 0 = m.getD c 0:=fun z=>by simp [List.getD_eq_getElem?_getD,List.getElem?_set_ne (Ne.symm ecd)]
      rw [g,g2,List.set_comm _ _ ecd]
      by_cases h:(b:Int) ≤ m.getD c 0∧(a:Int) ≤ m.getD d 0
      · rw [if_pos h,if_pos ⟨h.2,h.1⟩]
      · rw [if_neg h,if_neg fun h2=>h ⟨h2.2,h2.1⟩]
end
end Go.KL
namespace Go.KL
open Go.RowKit
abbrev Knd:=List Int × Int
section
variable {n i j k C at':Nat} {vs ws l:List (List Int)} {K K':List Knd} {v r m:List Int}
structure KindP (vs:List (List Int)) (K:List Knd):Prop where
  srt:K.Pairwise fun a b=>belowL a.1 b.1 = true
  cnt:∀ p ∈ K,p.2 = ((vs.count p.1:Nat):Int)
  all:∀ v,v ∈ vs ↔ ∃ p ∈ K,p.1 = v
theorem KindP.nil:KindP [] []:=⟨List.Pairwise.nil,by simp,by simp⟩
theorem KindP.eq_map (h:KindP vs K):K = (K.map Prod.fst).map fun v=>(v,((vs.count v:Nat):Int)):=by
  rw [List.map_map]
  conv=>lhs;rw [← List.map_id K]
  refine List.map_congr_left fun p hp=>?_
  show p = (p.1,_)
  rw [← h.cnt p hp]
theorem KindP.one (h:KindP vs K) (h':KindP ws K') (hp:vs.Perm ws):K = K':=by
  have e:K.map Prod.fst = K'.map Prod.fst:=by
    refine strict_one (List.pairwise_map.2 h.srt) (List.pairwise_map.2 h'.srt) fun x=>?_
    have a:=h.all x
    have b:=h'.all x
    rw [hp.mem_iff] at a
    rw [List.mem_map,List.mem_map]
    exact a.symm.trans b
  rw [h.eq_map,h'.eq_map,e]
  refine List.map_congr_left fun v _=>?_
  rw [hp.count_eq]
theorem KindP.len (h:KindP vs K):K.length ≤ vs.length:=by
  have hnd:(K.map Prod.fst).Nodup:=List.pairwise_map.2 (h.srt.imp fun hb e=>by rw [e,below_irr] at hb;cases hb)
  have:=nd_sub hnd fun x hx=>(h.all x).2 (by
    obtain ⟨p,hp,e⟩:=List.mem_map.1 hx
    exact ⟨p,hp,e⟩)
  rwa [List.length_map] at this
theorem KindP.bd (h:KindP vs K):∀ p ∈ K,0 ≤ p.2∧p.2 ≤ vs.length∧p.1 ∈ vs:=fun p hp=>by
  have:=h.cnt p hp
  have h2:=List.count_le_length (a:=p.1) (l:=vs)
  exact ⟨by omega,by omega,(h.all _).2 ⟨p,hp,rfl⟩⟩
theorem KindP.hit (h:KindP vs K) (hi:i < K.length) (e:(K.getD i ([],0)).1 = v):KindP (vs ++ [v]) (K.set i ((K.getD i ([],0)).1,(K.getD i ([],0)).2 + 1)):=by
  have eg:K.getD i ([],0) = K[i]:=by simp [hi]
  have hfst:(K.set i ((K.getD i ([],0)).1,(K.getD i ([],0)).2 + 1)).map Prod.fst = K.map Prod.fst:=by
    rw [List.map_set]
    refine List.ext_getElem (by simp) fun a h1 h2=>?_
    rw [List.getElem_set]
    by_cases ea:i = a
    · subst ea;rw [if_pos rfl,eg];simp
    · rw [if_neg ea]
  refine ⟨?_,fun p hp=>?_,fun w=>?_⟩
  · have h3:(K.map Prod.fst).Pairwise fun a b=>belowL a b = true:=List.pairwise_map.2 h.srt
    rw [← hfst] at h3
    exact List.pairwise_map.1 h3
  · obtain ⟨a,ha,rfl⟩:=List.getElem_of_mem hp
    rw [List.length_set] at ha
    rw [List.getElem_set]
    by_cases ea:i = a
    · subst ea
      rw [if_pos rfl]
      show (K.getD i ([],0)).2 + 1 = ((List.count (K.getD i ([],0)).1 (vs ++ [v]):Nat):Int)
      rw [List.count_append,h.cnt _ (mem_atD ([],0) hi),e]
      simp
    · rw [if_neg ea,List.count_append,h.cnt _ (List.getElem_mem ha)]
      have hne:K[a].1 ≠ v:=fun e2=>by
        have hpw:=List.pairwise_iff_getElem.1 h.srt
        rw [eg] at e
        rcases Nat.lt_or_gt_of_ne ea with h1 | h1
        · have:=hpw i a hi ha h1
          rw [e,e2,below_irr] at this;cases this
        · have:=hpw a i ha hi h1
          rw [e,e2,below_irr] at this;cases this
      simp [List.count_singleton,Ne.symm hne]
  · have hm:(∃ p ∈ K.set i ((K.getD i ([],0)).1,(K.getD i ([],0)).2 + 1),p.1 = w) ↔ ∃ p ∈ K,p.1 = w:=by
      have h1:w ∈ (K.set i ((K.getD i ([],0)).1,(K.getD i ([],0)).2 + 1)).map Prod.fst ↔ w ∈ K.map Prod.fst:=by rw [hfst]
      rwa [List.mem_map,List.mem_map] at h1
    rw [hm,← h.all w,List.mem_append,List.mem_singleton]
    constructor
    · rintro (h1 | rfl)
      · exact h1
      · exact (h.all _).2 ⟨_,by rw [eg] at e;exact List.getElem_mem hi,by rw [← eg];exact e⟩
    · exact .inl
theorem KindP.new (h:KindP vs K) (hi:i ≤ K.length) (h1:∀ a,a < i → belowL (K.getD a ([],0)).1 v = true) (h2:∀ a,i ≤ a → a < K.length → belowL v (K.getD a ([],0)).1 = true):KindP (vs ++ [v]) (K.take i ++ (v,1) :: K.drop i):=by
  have b1:∀ p ∈ K.take i,belowL p.1 v = true:=fun p hp=>by
    obtain ⟨a,ha,rfl⟩:=List.getElem_of_mem hp
    rw [List.length_take] at ha
    have:=h1 a (by omega)
    rw [show K.getD a ([],0) = K[a] by simp [show a < K.length by omega]] at this
    rw [List.getElem_take];exact this
  have b2:∀ p ∈ K.drop i,belowL v p.1 = true:=fun p hp=>by
    obtain ⟨a,ha,rfl⟩:=List.getElem_of_mem hp
    rw [List.length_drop] at ha
    have:=h2 (i + a) (by omega) (by omega)
    rw [show K.getD (i + a) ([],0) = K[i + a] by simp [show i + a < K.length by omega]] at this
    rw [List.getElem_drop];exact this
  have hno:v ∉ vs:=fun hv=>by
    obtain ⟨p,hp,e⟩:=(h.all v).1 hv
    rw [← List.take_append_drop i K] at hp
    rcases List.mem_append.1 hp with hp | hp
    · have:=b1 p hp;rw [e,below_irr] at this;cases this
    · have:=b2 p hp;rw [e,below_irr] at this;cases this
  have hmem:∀ p,p ∈ K.take i ++ (v,1) :: K.drop i ↔ p ∈ K ∨ p = (v,1):=fun p=>by
    conv=>rhs;rw [← List.take_append_drop i K]
    simp only [List.mem_append,List.mem_cons]
    constructor
    · rintro (h | h | h)
      · exact .inl (.inl h)
      · exact .inr h
      · exact .inl (.inr h)
    · rintro ((h | h) | h)
      · exact .inl h
      · exact .inr (.inr h)
      · exact .inr (.inl h)
  refine ⟨?_,fun p hp=>?_,fun w=>?_⟩
  · have hs:=h.srt
    rw [← List.take_append_drop i K,List.pairwise_append] at hs
    rw [List.pairwise_append,List.pairwise_cons]
    refine ⟨hs.1,⟨fun p hp=>b2 p hp,hs.2.1⟩,fun p hp q hq=>?_⟩
    rcases List.mem_cons.1 hq with rfl | hq
    · exact b1 p hp
    · exact hs.2.2 p hp q hq
  · rw [List.count_append]
    rcases (hmem p).1 hp with hp | rfl
    · rw [h.cnt p hp]
      have:p.1 ≠ v:=fun e=>hno (e ▸ (h.all _).2 ⟨p,hp,rfl⟩)
      simp [List.count_singleton,Ne.symm this]
    · rw [List.count_eq_zero_of_not_mem hno];simp
  · rw [List.mem_append,List.mem_singleton]
    constructor
    · rintro (hw | rfl)
      · obtain ⟨p,hp,e⟩:=(h.all w).1 hw
        exact ⟨p,(hmem p).2 (.inl hp),e⟩
      · exact ⟨_,(hmem _).2 (.inr rfl),rfl⟩
    · rintro ⟨p,hp,rfl⟩
      rcases (hmem p).1 hp with hp | rfl
      · exact .inl ((h.all _).2 ⟨p,hp,rfl⟩)
      · exact .inr rfl
theorem KindP.sum (h:KindP vs K) (f:List Int → Nat):(K.map fun p=>p.2.toNat * f p.1).sum = (vs.map f).sum:=by
  have e1:(vs.map f).sum = (vs.map fun x=>(K.map fun p=>if p.1 = x then f p.1 else 0).sum).sum:=by
    refine sum_cong fun x hx=>?_
    obtain ⟨p,hp,rfl⟩:=(h.all x).1 hx
    have hnd:K.Nodup:=h.srt.imp fun hb e=>by rw [e,below_irr] at hb;cases hb
    rw [sum_oneN (f:=fun q=>if q.1 = p.1 then f q.1 else 0) hnd hp fun q hq hne=>?_]
    · rw [if_pos rfl]
    · refine if_neg fun e=>hne ?_
      have a:=h.cnt q hq
      have b:=h.cnt p hp
      exact Prod.ext e (by rw [a,b,e])
  rw [e1,sum_comm (fun (x:List Int) (p:Knd)=>if p.1 = x then f p.1 else 0) vs K]
  refine sum_cong fun p hp=>?_
  rw [h.cnt p hp,Int.toNat_natCast]
  have:∀ l:List (List Int),(l.map fun x=>if p.1 = x then f p.1 else 0).sum = l.count p.1 * f p.1:=by
    intro l
    induction l with
    | nil=>simp
    | cons a l ih =>
      rw [List.map_cons,List.sum_cons,ih,List.count_cons]
      by_cases e:p.1 = a
      · rw [if_pos e,if_pos (by simpa using e.symm),Nat.succ_mul];omega
      · rw [if_neg e,if_neg (by simpa using fun h:a = p.1=>e h.symm)];simp
  exact (this vs).symm
theorem KindP.last (h:KindP (l.take i) K) (hi:i < l.length) (hs:l.Pairwise fun x y=>leL x y = true) (hne:K.length = 0 ∨ (K.getD (K.length - 1) ([],0)).1 ≠ l.getD i []):KindP (l.take (i + 1)) (K ++ [(l.getD i [],1)]):=by
  rw [take_snoc l [] i hi]
  have:=h.new (v:=l.getD i []) (Nat.le_refl _) (fun a ha=>?_) (fun a h1 h2=>by omega)
  · rwa [List.take_length,List.drop_length] at this
  · have hga:K.getD a ([],0) ∈ K:=mem_atD _ ha
    have hle:∀ b,b < K.length → leL (K.getD b ([],0)).1 (l.getD i []) = true:=fun b hb=>by
      obtain ⟨c,hc,e⟩:=List.getElem_of_mem ((h.all _).2 ⟨_,mem_atD ([],0) hb,rfl⟩)
      rw [List.length_take] at hc
      rw [← e,List.getElem_take,show l.getD i [] = l[i] by simp [hi]]
      exact List.pairwise_iff_getElem.1 hs c i (by omega) hi (by omega)
    rcases hne with h0 | hne
    · omega
    · have hlast:=(leL_cases (hle (K.length - 1) (by omega))).resolve_left hne
      by_cases e:a = K.length - 1
      · rw [e];exact hlast
      · have:=List.pairwise_iff_getElem.1 h.srt a (K.length - 1) ha (by omega) (by omega)
        rw [show K[a] = K.getD a ([],0) by simp [ha],show K[K.length - 1] = K.getD (K.length - 1) ([],0) by simp [show K.length - 1 < K.length by omega]] at this
        exact below_trans this hlast
theorem KindP.again (h:KindP (l.take i) K) (hi:i < l.length) (h0:0 < K.length) (e:(K.getD (K.length - 1) ([],0)).1 = l.getD i []):KindP (l.take (i + 1)) (K.set (K.length - 1) ((K.getD (K.length - 1) ([],0)).1,(K.getD (K.length - 1) ([],0)).2 + 1)):=by
  rw [take_snoc l [] i hi]
  exact h.hit (by omega) e
def lensT (r:List Int) (k:Nat):List Int:=(List.range r.length).map fun (j:Nat)=>((((cyclesL r).take k).countP (fun c=>decide (c.length = j + 1)):Nat):Int)
def lensL (r:List Int):List Int:=lensT r (cyclesL r).length
theorem lensT_len:(lensT r k).length = r.length:=by simp [lensT]
theorem lensL_len:(lensL r).length = r.length:=lensT_len
theorem lensT_zero:lensT r 0 = List.replicate r.length 0:=by
  refine List.ext_getElem (by simp [lensT]) fun i h1 h2=>by simp [lensT]
theorem lensT_get (hj:j < r.length):(lensT r k).getD j 0 = ((((cyclesL r).take k).countP (fun c=>decide (c.length = j + 1)):Nat):Int):=by simp [lensT,hj]
theorem lensT_bd:0 ≤ (lensT r k).getD j 0∧(lensT r k).getD j 0 ≤ k:=by
  by_cases hj:j < r.length
  · rw [lensT_get hj]
    have:=List.countP_le_length (p:=fun c:List Int=>decide (c.length = j + 1)) (l:=(cyclesL r).take k)
    have h2:=List.length_take_le k (cyclesL r)
    omega
  · rw [show (lensT r k).getD j 0 = 0 by simp [lensT,hj]];omega
theorem cycl_len (hr:IsRow r) (hk:k < (cyclesL r).length):1 ≤ ((cyclesL r).getD k []).length∧((cyclesL r).getD k []).length ≤ r.length:=by
  have:=mem_atD [] hk
  rw [cyc_hds] at this
  obtain ⟨b,hb,e⟩:=List.mem_map.1 this
  have hlt:=List.mem_range.1 (List.mem_filter.1 hb).1
  have hp:=per_spec hr hlt
  rw [cyc_hds,← e,orb_len];omega
theorem lensT_step (hr:IsRow r) (hk:k < (cyclesL r).length):(lensT r k).set (((cyclesL r).getD k []).length - 1) ((lensT r k).getD (((cyclesL r).getD k []).length - 1) 0 + 1) = lensT r (k + 1):=by
  obtain ⟨h1,h2⟩:=cycl_len hr hk
  refine list_ext (by rw [List.length_set,lensT_len,lensT_len]) fun j hj=>?_
  rw [List.length_set,lensT_len] at hj
  rw [lensT_get (k:=k + 1) hj,take_snoc _ [] k hk,List.countP_append]
  by_cases e:((cyclesL r).getD k []).length - 1 = j
  · subst e
    rw [getD_seta (by rw [lensT_len];exact hj),lensT_get hj]
    simp only [List.countP_cons,List.countP_nil]
    rw [if_pos (decide_eq_true (by omega))];omega
  · rw [getD_setn e,lensT_get hj]
    simp only [List.countP_cons,List.countP_nil]
    rw [if_neg (fun h=>e (by have:=of_decide_eq_true h;omega))];simp
def partsL (v:List Int):Nat → List Nat
  | 0=>[]
  | k + 1=>List.replicate (v.getD k 0).toNat (k + 1) ++ partsL v k
theorem parts_count {a:Nat}:∀ k,(partsL v k).count a = if 1 ≤ a∧a ≤ k then (v.getD (a - 1) 0).toNat else 0
  | 0=>by rw [if_neg (by omega)];rfl
  | k + 1=>by
    rw [partsL,List.count_append,List.count_replicate,parts_count k]
    by_cases e:a = k + 1
    · subst e
      rw [if_pos (by simp),if_neg (by omega),if_pos (by omega)];rfl
    · rw [if_neg (by simpa using fun h:k + 1 = a=>e h.symm)]
      by_cases h:1 ≤ a∧a ≤ k
      · rw [if_pos h,if_pos (by omega)];omega
      · rw [if_neg h,if_neg (by omega)]
theorem parts_perm (hr:IsRow r):(partsL (lensL r) r.length).Perm ((cyclesL r).map List.length):=by
  rw [List.perm_iff_count]
  intro a
  rw [parts_count]
  have e1:((cyclesL r).map List.length).count a = (cyclesL r).countP fun c=>decide (c.length = a):=by
    rw [List.count_eq_countP,List.countP_map]
    refine List.countP_congr fun c _=>?_
    simp
  rw [e1]
  by_cases h:1 ≤ a∧a ≤ r.length
  · rw [if_pos h]
    unfold lensL
    rw [lensT_get (by omega),List.take_length,Int.toNat_natCast,show a - 1 + 1 = a by omega]
  · rw [if_neg h]
    symm
    rw [List.countP_eq_zero]
    intro c hc hd
    have hd:=of_decide_eq_true hd
    obtain ⟨k,hk,rfl⟩:=List.getElem_of_mem hc
    have:=cycl_len hr hk
    rw [show (cyclesL r).getD k [] = (cyclesL r)[k] by simp [hk]] at this
    omega
theorem parts_skip (h:v.getD k 0 = 0):partsL v (k + 1) = partsL v k:=by rw [partsL,h];rfl
theorem parts_set {z:Int}:∀ k,k ≤ i → partsL (v.set i z) k = partsL v k
  | 0,_=>rfl
  | k + 1,h=>by
    rw [partsL,partsL,parts_set k (by omega)]
    rw [show (v.set i z).getD k 0 = v.getD k 0 by simp [List.getD_eq_getElem?_getD,List.getElem?_set_ne (show i ≠ k by omega)]]
theorem parts_less (hk:k < v.length) (h:0 < v.getD k 0):partsL v (k + 1) = (k + 1) :: partsL (v.set k (v.getD k 0 - 1)) (k + 1):=by
  rw [partsL,partsL,parts_set k (Nat.le_refl _)]
  rw [show (v.set k (v.getD k 0 - 1)).getD k 0 = v.getD k 0 - 1 by simp [hk]]
  obtain ⟨a,ha⟩:∃ a,(v.getD k 0).toNat = a + 1:=⟨(v.getD k 0).toNat - 1,by omega⟩
  rw [ha,show (v.getD k 0 - 1).toNat = a by omega,List.replicate_succ];rfl
theorem wayN_le (ls:List Nat) (m:List Int):wayN ls m ≤ m.length ^ ls.length:=by
  rw [← wayN_count,← cols_len]
  exact List.countP_le_length
def wayT (l:Nat) (ls:List Nat) (m:List Int) (c:Nat):Nat:=((List.range c).map fun c=>if (l:Int) ≤ m.getD c 0 then wayN ls (m.set c (m.getD c 0 - (l:Int))) else 0).sum
theorem wayT_all {l:Nat} {ls:List Nat}:wayT l ls m m.length = wayN (l :: ls) m:=rfl
theorem wayT_yes {l c:Nat} {ls:List Nat} (h:(l:Int) ≤ m.getD c 0):wayT l ls m (c + 1) = wayT l ls m c + wayN ls (m.set c (m.getD c 0 - (l:Int))):=by
  unfold wayT
  rw [List.range_succ,List.map_append,List.sum_append]
  simp only [List.map_cons,List.map_nil,List.sum_cons,List.sum_nil,if_pos h,Nat.add_zero]
theorem wayT_no {l c:Nat} {ls:List Nat} (h:¬ (l:Int) ≤ m.getD c 0):wayT l ls m (c + 1) = wayT l ls m c:=by
  unfold wayT
  rw [List.range_succ,List.map_append,List.sum_append]
  simp only [List.map_cons,List.map_nil,List.sum_cons,List.sum_nil,if_neg h,Nat.add_zero]
theorem wayT_mono {l:Nat} {ls:List Nat}:∀ {c d:Nat},c ≤ d → wayT l ls m c ≤ wayT l ls m d
  | c,0,h=>by rw [show c = 0 by omega];exact Nat.le_refl _
  | c,d + 1,h=>by
    by_cases e:c = d + 1
    · rw [e];exact Nat.le_refl _
    · refine Nat.le_trans (wayT_mono (show c ≤ d by omega)) ?_
      by_cases h2:(l:Int) ≤ m.getD d 0
      · rw [wayT_yes h2];omega
      · rw [wayT_no h2];exact Nat.le_refl _
theorem wayT_bd {l c:Nat} {ls:List Nat} (hc:c ≤ m.length):wayT l ls m c ≤ m.length ^ (ls.length + 1):=Nat.le_trans (wayT_mono hc) (by rw [wayT_all];exact wayN_le _ _)
end
end Go.KL
namespace Go.KL
open Go.RowKit
variable {P:Program}
structure Mid8 (p q d c N:Nat) (D:List Deferred) (W:List Nat) (A B:Pr) (ops:Array Oper) (Φ:Nat → Ty) (a0:Act) (σ0:GW) (L:Nat → Bool) (a:Act) (σ:GW):Prop where
  stp:StpL W σ0 σ
  stp0:L p = false → Stp 0 σ0 σ
  ok:Ok N D a
  done:∀ j,L j = true → rd ops (fun i=>(Φ i).pr) j a σ
  doneq:L q = true → L p = false → A.has σ (a.eval (.tmp d))
  donep:L p = true → B.has σ (a.eval (.tmp c))
  same:∀ t,(∀ j,dstOf ops j = some t → L j = false) → a.eval (.tmp t) = a0.eval (.tmp t)
def OblS8 (P:Program) (N d:Nat) (D:List Deferred) (W:List Nat) (A B:Pr) (ops:Array Oper) (Φ:Nat → Ty) (a0:Act) (σ0:GW) (i:Nat) (o:Oper):Prop :=
  ∀ a σ,Stp 0 σ0 σ → Ok N D a → (∀ t,free ops i t = true → a.eval (.tmp t) = a0.eval (.tmp t)) → A.has σ (a.eval (.tmp d)) → Deps ops (fun i=>(Φ i).pr) a σ o.after.toList (YldL W P o a σ (fun v τ=>B.has τ v))
def Obls8 (P:Program) (p q d c N:Nat) (D:List Deferred) (W:List Nat) (A B:Pr) (ops:Array Oper) (Φ:Nat → Ty) (a0:Act) (σ0:GW):Nat → List Oper → Prop
  | _,[]=>True
  | i,o :: l=>(if i = p then OblS8 P N d D W A B ops Φ a0 σ0 i o else if i = q then OblQ P N D A ops Φ a0 σ0 i o else Obl3 P N D W ops Φ a0 σ0 i o)∧Obls8 P p q d c N D W A B ops Φ a0 σ0 (i + 1) l
theorem Obls8.get {p q d c N:Nat} {D:List Deferred} {W:List Nat} {A B:Pr} {ops:Array Oper} {Φ:Nat → Ty} {a0:Act} {σ0:GW}:∀ (l:List Oper) (k:Nat),Obls8 P p q d c N D W A B ops Φ a0 σ0 k l → ∀ j o,l[j]? = some o →
    (if k + j = p then OblS8 P N d D W A B ops Φ a0 σ0 (k + j) o else if k + j = q then OblQ P N D A ops Φ a0 σ0 (k + j) o else Obl3 P N D W ops Φ a0 σ0 (k + j) o)
  | [],_,_,j,o,h=>by simp at h
  | x :: l,k,h,0,o,hj=>by simp at hj;subst hj;exact h.1
  | x :: l,k,h,j + 1,o,hj=>by
    have:=Obls8.get l (k + 1) h.2 j o (by simpa using hj)
    rwa [show k + 1 + j = k + (j + 1) by omega] at this
theorem Obls8.up {p q d c N:Nat} {D:List Deferred} {W:List Nat} {A B:Pr} {ops:Array Oper} {Φ:Nat → Ty} {a0:Act} {σ0 σ1:GW} (hs:Stp 0 σ0 σ1):∀ (l:List Oper) (k:Nat),Obls8 P p q d c N D W A B ops Φ a0 σ0 k l → Obls8 P p q d c N D W A B ops Φ a0 σ1 k l
  | [],_,_=>trivial
  | x :: l,k,h=>by
    refine ⟨?_,Obls8.up hs l (k + 1) h.2⟩
    have h1:=h.1
    split at h1
    · rename_i e;rw [if_pos e];exact fun a σ hs'=>h1 a σ (hs.trans hs')
    · rename_i e
      rw [if_neg e]
      split at h1
      · rename_i e;rw [if_pos e];exact fun a σ hs'=>h1 a σ (hs.trans hs')
      · rename_i e;rw [if_neg e];exact fun a σ hs'=>h1 a σ (hs.toL0.trans hs')
theorem Mid8.op {p q d c N:Nat} {D:List Deferred} {W:List Nat} {A B:Pr} {ops:Array Oper} {Φ:Nat → Ty} {a0:Act} {σ0:GW} {L:Nat → Bool} {a:Act} {σ:GW} {i:Nat} {o:Oper} {Q:Exit → Act → World → Prop} {K:Act → World → Prop}
    (hF:Form N ops) (h1:1 ∉ W) (hp:dstOf ops p = some c) (hq:dstOf ops q = some d) (hpq:p ≠ q) (hΦ:∀ e v,(Φ q).has e v) (hΦp:∀ e v,B.has e v → (Φ p).has e v) (hpg:∀ o,ops[p]? = some o → o.guard = none∧∃ e ∈ o.after,Region.binds .any e = true∧e.on = q) (hm:Mid8 p q d c N D W A B ops Φ a0 σ0 L a σ) (ho:ops[i]? = some o) (hL:L i = false)
    (hpo:∃ o,ops[p]? = some o)
    (hob:if i = p then OblS8 P N d D W A B ops Φ a0 σ0 i o else if i = q then OblQ P N D A ops Φ a0 σ0 i o else Obl3 P N D W ops Φ a0 σ0 i o)
    (hall:∀ e ∈ o.after,Region.binds .any e = true → L e.on = true) (hclosed:∀ (j:Nat) oj,ops[j]? = some oj → L j = true → ∀ e ∈ oj.after,Region.binds .any e = true → L e.on = true)
    (hK:∀ a' σ',Mid8 p q d c N D W A B ops Φ a0 σ0 (fun j=>L j || j == i) a' σ' → K a' σ'.w):wpOp P ops Q i K a σ.w:=by
  have hdi:dstOf ops i = o.dst:=by simp [dstOf,ho]
  have hsame:∀ t,free ops i t = true → a.eval (.tmp t) = a0.eval (.tmp t):=by
    intro t ht
    refine hm.same t fun j hj=>?_
    cases hLj:L j with
    | false=>rfl
    | true =>
      exfalso
      unfold dstOf at hj
      obtain ⟨oj,hoj,hd⟩:=Option.bind_eq_some_iff.1 hj
      unfold free at ht
      have:=(List.all_eq_true.1 ht) oj (List.mem_of_getElem? hoj)
      simp only [hd,bne_self_eq_false,Bool.false_or,List.any_eq_true,Bool.and_eq_true,beq_iff_eq] at this
      obtain ⟨e,he,hb,hon⟩:=this
      have:=hclosed j oj (by simpa using hoj) hLj e (by simpa using he) hb
      rw [hon,hL] at this
      cases this
  have hLpq:L p = true → L q = true:=fun h=>by
    obtain ⟨op,hop⟩:=hpo
    obtain ⟨_,e,he,hb,hon⟩:=hpg op hop
    rw [← hon];exact hclosed p op hop h e he hb
  have hdeps:∀ e ∈ o.after.toList,Region.binds .any e = true → rd ops (fun i=>(Φ i).pr) e.on a σ:=fun e he hb=>hm.done e.on (hall e (by simpa using he) hb)
  have done':∀ v (τ:GW),σ.Le τ → ((Φ i).has τ v ∨ dstOf ops i = none) → ∀ j,(L j || j == i) = true → rd ops (fun i=>(Φ i).pr) j (a.put o.dst v) τ:=by
    intro v τ hle hv j hLj
    by_cases hji:j = i
    · subst hji
      unfold rd
      cases hd:dstOf ops j with
      | none=>trivial
      | some d =>
        have:o.dst = some d:=by rw [← hdi];exact hd
        simp only [this]
        rw [eval_put_same hm.ok (hF.lt j d hd)]
        exact hv.resolve_right (by rw [hd];simp)
    · have hLj':L j = true:=by simpa [hji] using hLj
      have h0:=hm.done j hLj'
      unfold rd at h0 ⊢
      cases hd:dstOf ops j with
      | none=>trivial
      | some d =>
        rw [hd] at h0
        simp only at h0 ⊢
        rw [eval_put_ne (fun he=>hji (hF.uniq j i d hd (by rw [hdi];exact he)))]
        exact (Φ j).up hle h0
  have same':∀ v t,(∀ j,dstOf ops j = some t → (L j || j == i) = false) → (a.put o.dst v).eval (.tmp t) = a0.eval (.tmp t):=by
    intro v t ht
    have h1:o.dst ≠ some t:=fun he=>by
      have:=ht i (by rw [hdi];exact he)
      simp at this
    rw [eval_put_ne h1]
    exact hm.same t fun j hj=>by
      have:=ht j hj
      simp at this
      exact this.1
  by_cases hip:i = p
  · subst hip
    rw [if_pos rfl] at hob
    obtain ⟨hg,e,he,hb,hon⟩:=hpg o ho
    have hLq:L q = true:=by rw [← hon];exact hall e he hb
    have hy:=Deps.elim o.after.toList hdeps (hob a σ (hm.stp0 hL) hm.ok hsame (hm.doneq hLq hL))
    have hdn:o.dst = some c:=by rw [← hdi];exact hp
    unfold wpOp
    simp only [ho]
    have hw:Region.wanted o (yielded ops a.tmps) = true:=by simp [Region.wanted,hg]
    rw [if_pos hw]
    refine .inl (hy K Q fun v τ hs hr=>hK _ τ ⟨hm.stp.trans hs,fun h=>(by simp at h),hm.ok.put _ _,done' v τ (hs.le h1) (.inl (hΦp _ _ hr)),fun _ h=>(by simp at h),fun _=>?_,same' v⟩)
    rw [hdn,eval_put_same hm.ok (hF.lt i c hp)]
    exact hr
  · rw [if_neg hip] at hob
    by_cases hiq:i = q
    · subst hiq
      rw [if_pos rfl] at hob
      have hLp:L p = false:=by
        cases h:L p with
        | false=>rfl
        | true=>rw [hLpq h] at hL;cases hL
      have hrun:=Deps.elim o.after.toList hdeps (hob a σ (hm.stp0 hLp) hm.ok hsame)
      have next:∀ v τ,Stp 0 σ τ → A.has τ v → K (a.put o.dst v) τ.w:=by
        intro v τ hs hv
        refine hK _ τ ⟨hm.stp.trans hs.toL0,fun _=>(hm.stp0 hLp).trans hs,hm.ok.put _ _,done' v τ hs.le0 (.inl (hΦ _ _)),fun _ _=>?_,fun h=>?_,same' v⟩
        · have:o.dst = some d:=by rw [← hdi];exact hq
          rw [this,eval_put_same hm.ok (hF.lt i d hq)]
          exact hv
        · rw [hLp] at h
          simp at h;exact absurd h hpq
      unfold wpOp
      simp only [ho]
      by_cases hw:Region.wanted o (yielded ops a.tmps) = true
      · rw [if_pos hw]
        exact .inl (hrun.1 hw K Q next)
      · rw [if_neg hw]
        exact next undef σ (Stp.refl _ _) (hrun.2 (by simpa using hw))
    · rw [if_neg hiq] at hob
      have hrun:=Deps.elim o.after.toList hdeps (hob a σ hm.stp hm.ok hsame)
      have hne:o.dst ≠ some d:=fun he=>hiq (hF.uniq i q d (by rw [hdi];exact he) hq)
      have hne2:o.dst ≠ some c:=fun he=>hip (hF.uniq i p c (by rw [hdi];exact he) hp)
      have next:∀ v τ,Stp 0 σ τ → (Φ i).has τ v → K (a.put o.dst v) τ.w:=by
        intro v τ hs hv
        refine hK _ τ ⟨hm.stp.trans hs.toL0,fun h=>?_,hm.ok.put _ _,done' v τ hs.le0 (.inl hv),fun h h2=>?_,fun h=>?_,same' v⟩
        · simp at h;exact (hm.stp0 h.1).trans hs
        · have hLq:L q = true:=by simpa [Ne.symm hiq] using h
          have hLp:L p = false:=by simp at h2;exact h2.1
          rw [eval_put_ne hne]
          exact A.up hs (hm.doneq hLq hLp)
        · have hLp:L p = true:=by simpa [Ne.symm hip] using h
          rw [eval_put_ne hne2]
          exact B.up hs (hm.donep hLp)
      unfold wpOp
      simp only [ho]
      by_cases hw:Region.wanted o (yielded ops a.tmps) = true
      · rw [if_pos hw]
        exact .inl (hrun.1 hw K Q next)
      · rw [if_neg hw]
        exact next undef σ (Stp.refl _ _) (hrun.2 (by simpa using hw))
theorem reg8 {N:Nat} {D:List Deferred} {ops:Array Oper} {id:Nat} {draw:Bool} {Q:Exit → Act → World → Prop} {a:Act} {σ:GW} (hP:P.follows .mixedOrders = true) (m p q d c:Nat) (W:List Nat) (h1:1 ∉ W) (A B:Pr) (Φ:Nat → Ty) (ok:Ok N D a) (hF:formB N ops = true) (hm:m ≤ ops.size) (hB:(!draw || forcedB m ops.toList) = true)
    (hpm:p < m) (hqm:q < m) (hpq:p ≠ q) (hp:dstOf ops p = some c) (hq:dstOf ops q = some d) (hΦ:∀ e v,(Φ q).has e v) (hΦp:∀ e v,B.has e v → (Φ p).has e v) (hpg:(ops.toList[p]?).any (fun o=>o.guard.isNone && o.after.toList.any (fun e=>Region.binds .any e && e.on == q)) = true) (hob:Obls8 P p q d c N D W A B ops Φ a σ 0 (ops.toList.take m))
    (hQ:∀ a' σ',Half3 m c N D W B ops Φ a σ a' σ' → wpList P ops Q (ops.toList.drop m) a' σ'.w):(Code.region id ops draw).wp P Q a σ.w:=by
  have hF':=Form.of_B hF
  obtain ⟨op,hop,hpg⟩:∃ o,ops.toList[p]? = some o∧(o.guard.isNone && o.after.toList.any (fun e=>Region.binds .any e && e.on == q)) = true:=by
    cases h:ops.toList[p]? with
    | none=>rw [h] at hpg;cases hpg
    | some o=>rw [h] at hpg;exact ⟨o,rfl,hpg⟩
  have hop':ops[p]? = some op:=by simpa using hop
  have hpg':∀ o,ops[p]? = some o → o.guard = none∧∃ e ∈ o.after,Region.binds .any e = true∧e.on = q:=fun o ho=>by
    rw [hop'] at ho;cases ho
    simp only [Bool.and_eq_true,Option.isNone_iff_eq_none,List.any_eq_true,beq_iff_eq] at hpg
    obtain ⟨h1,e,h2,h3,h4⟩:=hpg
    exact ⟨h1,e,by simpa using h2,h3,h4⟩
  have step:∀ σ0,Stp 0 σ σ0 → ∀ (i:Nat) o (L:Nat → Bool) a' σ' (K:Act → World → Prop),ops[i]? = some o → i < m → Mid8 p q d c N D W A B ops Φ a σ0 L a' σ' → L i = false → (∀ e ∈ o.after,Region.binds .any e = true → L e.on = true) →
      (∀ (j:Nat) oj,ops[j]? = some oj → L j = true → ∀ e ∈ oj.after,Region.binds .any e = true → L e.on = true) → (∀ a' σ',Mid8 p q d c N D W A B ops Φ a σ0 (fun j=>L j || j == i) a' σ' → K a' σ'.w) → wpOp P ops Q i K a' σ'.w :=
    fun σ0 hs i o L a' σ' K ho him hmid hL hall hcl hK=>Mid8.op hF' h1 hp hq hpq hΦ hΦp hpg' hmid ho hL ⟨op,hop'⟩
      (by simpa using Obls8.get (ops.toList.take m) 0 (Obls8.up hs _ _ hob) i o (by rw [List.getElem?_take,if_pos him];simpa using ho)) hall hcl hK
  have start:∀ σ0,Mid8 p q d c N D W A B ops Φ a σ0 (fun _=>false) a σ0:=fun σ0=>⟨StpL.refl _ _,fun _=>Stp.refl _ _,ok,fun _ h=>(by cases h),fun h=>(by cases h),fun h=>(by cases h),fun _ _=>rfl⟩
  have half:∀ σ0 a' σ',Mid8 p q d c N D W A B ops Φ a σ0 (fun j=>decide (j < m)) a' σ' → Half3 m c N D W B ops Φ a σ0 a' σ':=fun σ0 a' σ' h=>by
    refine ⟨h.stp,h.ok,fun j hj=>h.done j (by simpa using hj),h.donep (by simpa using hpm),fun t ht=>h.same t fun j hj=>?_⟩
    by_cases hjm:j < m
    · obtain ⟨o,ho,hd⟩:=Option.bind_eq_some_iff.1 hj
      have:=(List.all_eq_true.1 ht) o (List.mem_of_getElem? (i:=j) (by rw [List.getElem?_take,if_pos hjm];exact ho))
      simp [hd] at this
    · simpa using hjm
  cases draw with
  | false =>
    refine wp_region ?_
    rw [List.range_eq_range']
    have:=half_seq3 (Q:=Q) hF' hm (Mid8 p q d c N D W A B ops Φ a σ) (step σ (Stp.refl _ _)) (fun a' σ' h=>?_) m 0 a σ (by simp) (by have:=start σ;simpa using this)
    · rwa [show m + (ops.size - m) = ops.size by omega] at this
    · have:=wpOps_eq_wpList (P:=P) (ops:=ops) (Q:=Q) (ops.toList.drop m) m (fun j=>by rw [List.getElem?_drop];simp)
      rw [show (ops.toList.drop m).length = ops.size - m by simp] at this
      rw [this]
      exact hQ a' σ' (half _ _ _ h)
  | true =>
    refine wp_region_any hP ?_
    have hd:=Stp.drew σ
    refine half_any3 hF' hm (by simpa using hB) (Mid8 p q d c N D W A B ops Φ a σ.drew) (step σ.drew hd) (fun a' σ' h=>?_) _ _ a σ.drew (by simp) (Nat.le_trans List.countP_le_length (by simp)) ?_ ?_ ?_
    · have h2:=half _ _ _ h
      exact hQ a' σ' ⟨hd.toL0.trans h2.stp,h2.ok,h2.done,h2.donep,h2.same⟩
    · intro j hj _;simp [hj]
    · intro j oj hj h
      have:j < ops.size:=(Array.getElem?_eq_some_iff.1 hj).1
      simp [this] at h
    · have e:(fun j=>decide (j < m) && (Array.replicate ops.size false).getD j true) = fun _=>false:=by
        funext j;by_cases hj:j < ops.size
        · simp [hj]
        · simp;omega
      rw [e];exact start σ.drew
end Go.KL
namespace Go.KL
open Go.RowKit
def kndC (p:Knd):List Ty:=[Ty.lst Ty.int p.1,Ty.int p.2]
theorem kndOne:∀ x,∀ U ∈ kndC x,One U:=fun x U hU=>by
  simp only [kndC,List.mem_cons,List.not_mem_nil,or_false] at hU
  rcases hU with rfl | rfl
  · exact one_sl
  · exact one_val rfl
theorem knds_len {xs:List Knd}:(xs.flatMap kndC).length = xs.length * 2:=by
  induction xs with
  | nil=>rfl
  | cons x xs ih=>rw [List.flatMap_cons,List.length_append,ih,List.length_cons];show 2 + _ = _;omega
theorem knds_drop:∀ {xs:List Knd} {i:Nat},i < xs.length → ((xs.flatMap kndC).drop (i * 2)).take 2 = kndC (xs.getD i ([],0))
  | x :: xs,0,_=>rfl
  | x :: xs,i + 1,h=>by
    have ih:=knds_drop (xs:=xs) (i:=i) (by simpa using h)
    rw [List.flatMap_cons,show (i + 1) * 2 = 2 + i * 2 by omega,← List.drop_drop]
    exact ih
theorem knds_get {xs:List Knd} {i f:Nat} {T:Ty} (h:i < xs.length) (hf:f < 2) (hT:(kndC (xs.getD i ([],0)))[f]? = some T):(xs.flatMap kndC)[i * 2 + f]? = some T:=by
  rw [← knds_drop h,List.getElem?_take_of_lt hf,List.getElem?_drop] at hT
  exact hT
theorem knds_set:∀ {xs:List Knd} {i:Nat} {z:Int},i < xs.length → (xs.flatMap kndC).set (i * 2 + 1) (Ty.int z) = (xs.set i ((xs.getD i ([],0)).1,z)).flatMap kndC
  | x :: xs,0,_,_=>rfl
  | x :: xs,i + 1,z,h=>by
    have ih:=knds_set (xs:=xs) (i:=i) (z:=z) (by simpa using h)
    rw [List.flatMap_cons,show (i + 1) * 2 + 1 = (i * 2 + 1) + 2 by omega]
    exact congrArg (fun l=>kndC x ++ l) ih
theorem flat_drop {α:Type} {c:Nat} {F:α → List Ty} (hF:∀ x,(F x).length = c):∀ (xs:List α) (h:Nat),(xs.flatMap F).drop (h * c) = (xs.drop h).flatMap F
  | xs,0=>by simp
  | [],h + 1=>by simp
  | x :: xs,h + 1=>by
    rw [List.flatMap_cons,Nat.succ_mul,Nat.add_comm,← List.drop_drop]
    have:(F x ++ xs.flatMap F).drop c = xs.flatMap F:=by rw [← hF x];exact List.drop_left
    rw [this,flat_drop hF xs h];rfl
theorem knds_take (xs:List Knd) (h:Nat):(xs.flatMap kndC).take (h * 2) = (xs.take h).flatMap kndC:=flat_take (F:=kndC) (c:=2) (fun _=>rfl) xs h
theorem knds_dropN (xs:List Knd) (h:Nat):(xs.flatMap kndC).drop (h * 2) = (xs.drop h).flatMap kndC:=flat_drop (F:=kndC) (c:=2) (fun _=>rfl) xs h
theorem ins_A {α:Type} {ts us rest:List α} {a b:Nat} (ha:a ≤ ts.length) (hu:us.length = b) (hr:rest.length = ts.length - a + b) :
    ((ts.take a ++ rest).take a ++ us ++ (ts.take a ++ rest).drop (a + b)).take (a + b) ++ ts.drop a ++ ((ts.take a ++ rest).take a ++ us ++ (ts.take a ++ rest).drop (a + b)).drop (ts.length + b) = ts.take a ++ us ++ ts.drop a:=by
  have hl:(ts.take a).length = a:=by rw [List.length_take];omega
  have h1:(ts.take a ++ rest).take a = ts.take a:=by rw [List.take_append_of_le_length (by omega),List.take_take,Nat.min_self]
  have h2:(ts.take a ++ us).length = a + b:=by rw [List.length_append];omega
  have h3:(ts.take a ++ us ++ (ts.take a ++ rest).drop (a + b)).take (a + b) = ts.take a ++ us:=by rw [List.take_append_of_le_length (by omega),List.take_of_length_le (by omega)]
  have h4:(ts.take a ++ us ++ (ts.take a ++ rest).drop (a + b)).drop (ts.length + b) = []:=List.drop_eq_nil_of_le (by simp only [List.length_append,List.length_drop];omega)
  rw [h1,h3,h4,List.append_nil]
theorem ins_B {α:Type} {ts us:List α} {a b:Nat} (ha:a + b ≤ ts.length) (hu:us.length = b) :
    (ts.take (a + b) ++ ts.drop a).take a ++ us ++ (ts.take (a + b) ++ ts.drop a).drop (a + b) = ts.take a ++ us ++ ts.drop a:=by
  have hl:(ts.take (a + b)).length = a + b:=by rw [List.length_take];omega
  have h1:(ts.take (a + b) ++ ts.drop a).take a = ts.take a:=by rw [List.take_append_of_le_length (by omega),List.take_take,show min a (a + b) = a by omega]
  have h2:(ts.take (a + b) ++ ts.drop a).drop (a + b) = ts.drop a:=by
    have:=List.drop_left (l₁:=ts.take (a + b)) (l₂:=ts.drop a)
    rwa [hl] at this
  rw [h1,h2]
theorem knds_ins {K:List Knd} {q:Knd} (i:Nat):(K.flatMap kndC).take (i * 2) ++ kndC q ++ (K.flatMap kndC).drop (i * 2) = (K.take i ++ q :: K.drop i).flatMap kndC:=by
  rw [knds_take,knds_dropN,List.flatMap_append,List.flatMap_cons,List.append_assoc]
theorem ins_one {K:List Knd} {q:Knd} {i:Nat}:K.take i ++ [q] ++ K.drop i = K.take i ++ q :: K.drop i:=by rw [List.append_assoc];rfl
theorem knds_ins_len {K:List Knd} {q:Knd} {i:Nat} (hi:i ≤ K.length):(K.take i ++ q :: K.drop i).length = K.length + 1:=by
  rw [List.length_append,List.length_cons,List.length_take,List.length_drop];omega
theorem knds_insA {K:List Knd} {q:Knd} {i:Nat} (hi:i < K.length) :
    (((K.flatMap kndC).take (i * 2) ++ List.replicate ((K.length + 1 - i) * 2) Ty.any).take (i * 2) ++ ([q].flatMap kndC).drop (0 * 2) ++ ((K.flatMap kndC).take (i * 2) ++ List.replicate ((K.length + 1 - i) * 2) Ty.any).drop ((i + (1 - 0)) * 2)).take ((i + 1) * 2) ++ (K.flatMap kndC).drop (i * 2) ++
      (((K.flatMap kndC).take (i * 2) ++ List.replicate ((K.length + 1 - i) * 2) Ty.any).take (i * 2) ++ ([q].flatMap kndC).drop (0 * 2) ++ ((K.flatMap kndC).take (i * 2) ++ List.replicate ((K.length + 1 - i) * 2) Ty.any).drop ((i + (1 - 0)) * 2)).drop ((i + 1 + (K.length - i)) * 2) = (K.take i ++ q :: K.drop i).flatMap kndC:=by
  rw [← knds_ins i]
  have hl:=knds_len (xs:=K)
  have:=ins_A (ts:=K.flatMap kndC) (us:=kndC q) (rest:=List.replicate ((K.length + 1 - i) * 2) Ty.any) (a:=i * 2) (b:=2) (by omega) rfl (by rw [List.length_replicate];omega)
  rw [hl,show K.length * 2 + 2 = (i + 1 + (K.length - i)) * 2 by omega,show i * 2 + 2 = (i + 1) * 2 by omega] at this
  have e:([q].flatMap kndC).drop (0 * 2) = kndC q:=by simp
  rw [e]
  exact this
theorem knds_insB {K:List Knd} {q:Knd} {i:Nat} (hi:i < K.length) :
    ((K.flatMap kndC).take ((i + 1) * 2) ++ (K.flatMap kndC).drop (i * 2)).take (i * 2) ++ ([q].flatMap kndC).drop (0 * 2) ++ ((K.flatMap kndC).take ((i + 1) * 2) ++ (K.flatMap kndC).drop (i * 2)).drop ((i + (1 - 0)) * 2) = (K.take i ++ q :: K.drop i).flatMap kndC:=by
  rw [← knds_ins i]
  have hl:=knds_len (xs:=K)
  have:=ins_B (ts:=K.flatMap kndC) (us:=kndC q) (a:=i * 2) (b:=2) (by omega) rfl
  rw [show i * 2 + 2 = (i + 1) * 2 by omega] at this
  have e:([q].flatMap kndC).drop (0 * 2) = kndC q:=by simp
  rw [e]
  exact this
section
variable {P:Program} {d:Option Tmp} {ty:TypeId} {pos:String} {af:Array Edge} {g:Option (Nat × Bool)} {a:Act} {σ:GW}
theorem Own.sufC0 {k c:Nat} {e:TypeId} {n:Nat} {v:Value} {ts:List Ty} (h:Own σ k e c v n ts) (hn:0 < n):sufC c v 0 = v:=by
  obtain ⟨gg,cap,rfl,hc,_⟩:=h.formC
  obtain ⟨gb,cb,e1,_,_⟩:=h.at hn
  cases e1
  show sliced (some ⟨gb,0,none⟩) 0 n cap c = _
  unfold sliced
  rw [if_neg (by omega)]
  simp [Addr.add_zero']
theorem y_shr1 {x y:Operand} {t u:TypeId} {n:Nat} (hx:a.eval x = .int .u64 ((n:Nat):Int)) (hy:a.eval y = .int .u64 1):Yld P ⟨d,.binOp .shr t x y u,ty,pos,af,g⟩ a σ (Ty.val (.int .u64 ((n / 2:Nat):Int))).pr :=
  Yld.of_run (v:=.int .u64 ((n / 2:Nat):Int)) (by simp only [execOp,hx,hy];simp [go_sem];try rfl) rfl
theorem y_slnn {x y:Operand} {t u:TypeId} {e':TypeId} (ht:P.underlying t = some (.slice e')) (hx:a.eval x = .slice none 0 0) (hy:a.eval y = .slice none 0 0) :
    Yld P ⟨d,.binOp .eql t x y u,ty,pos,af,g⟩ a σ (Ty.bool true).pr:=by
  refine Yld.of_run (v:=.bool true) ?_ rfl
  simp only [execOp,hx,hy]
  have h1:=Go.Lib.run_eql_slice_nil (P:=P) σ.w t e' none 0 0 0 0 ht
  simp [eqGuard,run_underlying ht,h1]
theorem y_callO {f:FuncId} {fn:Func} {xs:Array Operand} {tys:Array TypeId} {k c n:Nat} {e:TypeId} {ts:List Ty} (args:Array Value)
    (hf : P.funcs[f]? = some fn) (hn : (fn.name == "runtime.NumGoroutine") = false) (hb : fn.body.isNone = false) (hargs : xs.map a.eval = args) (hc : FnL P f args (σ.lend []) [] (fun v τ => ∃ z, Ty.has (Ty.val z) τ v ∧ Own τ 41 e c z n ts)) :
    Yld P ⟨d,.call ⟨.value (.func f),xs,tys⟩,ty,pos,af,g⟩ a σ (Pr.own k e c n ts):=by
  intro K Q hK
  refine y_callL (L:=[]) [] [(41,k)] args rfl (by simp) hf hn hb hargs hc K Q ?_
  rintro v τ' hs ⟨τ,⟨z,hz,ho⟩,hB⟩
  have hzv:v = z:=hz
  exact hK v τ' hs.to0 (hzv ▸ Own.ren ho (hB.ren (by decide) rfl))
theorem y_callz {f : FuncId} {fn : Func} {q : Operand} {xs : Array Operand} {tys : Array TypeId} {R : Ty} (args : Array Value) (hq : At (.val (.func (.func f) #[] #[])) σ a q) (hf : P.funcs[f]? = some fn) (hn : (fn.name == "runtime.NumGoroutine") = false) (hb : fn.body.isNone = false)
    (hargs:xs.map a.eval = args) (hc:FnC P f args σ R) :
    Yld P ⟨d,.call ⟨.value q,xs,tys⟩,ty,pos,af,g⟩ a σ R.pr:=by
  intro K Q hk
  have e:a.eval q = .func (.func f) #[] #[]:=hq
  have hr:(execOp a.eval ⟨d,.call ⟨.value q,xs,tys⟩,ty,pos,af,g⟩).run P σ.w = .ok (.enter f args) σ.w:=by
    have hn' : ¬ fn.name = "runtime.NumGoroutine" := by simpa using hn
    have hb':¬ fn.body = none:=by intro e;simp [e] at hb
    rw [← hargs]
    simp only [execOp,resolve,e]
    simp [Deferred.ofValue,invoke,callFunc,hf,hn',hb',program,Sem.run,Sem.run_bind]
  unfold Oper.wp
  rw [hr]
  refine Calls.mono hc ?_
  rintro e w' ⟨v,τ,rfl,hs,rfl,hv⟩
  exact hk v τ hs hv
end
structure LbP (K:List Knd) (v:List Int) (i:Nat):Prop where
  le:i ≤ K.length
  lo:∀ a,a < i → belowL (K.getD a ([],0)).1 v = true
  hi:∀ a,i ≤ a → a < K.length → belowL (K.getD a ([],0)).1 v = false
theorem srt_at {K:List Knd} (hS:K.Pairwise fun a b=>belowL a.1 b.1 = true) {i j:Nat} (hij:i < j) (hj:j < K.length):belowL (K.getD i ([],0)).1 (K.getD j ([],0)).1 = true:=by
  have:=List.pairwise_iff_getElem.1 hS i j (by omega) hj hij
  rw [show K[i] = K.getD i ([],0) by simp [show i < K.length by omega],show K[j] = K.getD j ([],0) by simp [hj]] at this
  exact this
theorem lb_lo {K:List Knd} {v:List Int} (hS:K.Pairwise fun a b=>belowL a.1 b.1 = true) {h:Nat} (hh:h < K.length) (hb:belowL (K.getD h ([],0)).1 v = true):∀ a,a < h + 1 → belowL (K.getD a ([],0)).1 v = true:=fun a ha=>by
  by_cases e:a = h
  · rw [e];exact hb
  · exact below_trans (srt_at hS (by omega) hh) hb
theorem lb_hi {K:List Knd} {v:List Int} (hS:K.Pairwise fun a b=>belowL a.1 b.1 = true) {h:Nat} (hb:belowL (K.getD h ([],0)).1 v = false):∀ a,h ≤ a → a < K.length → belowL (K.getD a ([],0)).1 v = false:=fun a h1 h2=>by
  by_cases e:a = h
  · rw [e];exact hb
  · cases e2:belowL (K.getD a ([],0)).1 v with
    | false=>rfl
    | true=>have:=below_trans (srt_at hS (show h < a by omega) h2) e2;rw [hb] at this;cases this
theorem LbP.above {K:List Knd} {v:List Int} {i:Nat} (hS:K.Pairwise fun a b=>belowL a.1 b.1 = true) (h:LbP K v i) (hne:¬ (i < K.length∧(K.getD i ([],0)).1 = v)):∀ a,i ≤ a → a < K.length → belowL v (K.getD a ([],0)).1 = true:=fun a h1 h2=>by
  have hi:i < K.length:=by omega
  have hiv:belowL v (K.getD i ([],0)).1 = true:=(below_tri (fun e=>hne ⟨hi,e⟩)).resolve_left (by rw [h.hi i (Nat.le_refl _) hi];simp)
  by_cases e:a = i
  · rw [e];exact hiv
  · exact below_trans hiv (srt_at hS (by omega) h2)
theorem cmp_eq0:∀ {a b:List Int},cmpL a b = 0 ↔ a = b
  | [],[]=>by simp [cmpL]
  | [],_ :: _=>by simp [cmpL]
  | _ :: _,[]=>by simp [cmpL]
  | x :: a,y :: b=>by
    rw [cmpL]
    by_cases h:cmpI x y ≠ 0
    · rw [if_pos h]
      exact ⟨fun e=>absurd e h,fun e=>absurd (cmpI_zero.2 (List.cons.inj e).1) h⟩
    · rw [if_neg h,cmp_eq0]
      have h:x = y:=cmpI_zero.1 (Classical.not_not.1 h)
      rw [h]
      exact ⟨fun e=>by rw [e],fun e=>(List.cons.inj e).2⟩
theorem KindP.perm {vs ws:List (List Int)} {K:List Knd} (h:KindP vs K) (hp:vs.Perm ws):KindP ws K:=⟨h.srt,fun p hp'=>by rw [h.cnt p hp',hp.count_eq],fun v=>hp.mem_iff.symm.trans (h.all v)⟩
theorem KindP.put {vs:List (List Int)} {K:List Knd} {v:List Int} {i:Nat} (h:KindP vs K) (hL:LbP K v i) (hb:(decide (i < K.length) && decide ((K.getD i ([],0)).1 = v)) = false):KindP (vs ++ [v]) (K.take i ++ (v,1) :: K.drop i) :=
  h.new hL.le hL.lo (hL.above h.srt (fun h2=>by rw [decide_eq_true h2.1,decide_eq_true h2.2] at hb;cases hb))
theorem take_map {f:List Int → List Int} {E:List (List Int)} {k:Nat} (hk:k < E.length):(E.take (k + 1)).map f = (E.take k).map f ++ [f (E.getD k [])]:=by
  rw [take_snoc E [] k hk,List.map_append];rfl
theorem lens_map {E:List (List Int)} {f:List Int → List Int} {k:Nat}:((E.take k).map f).length ≤ E.length:=by rw [List.length_map,List.length_take];omega
theorem nil_lstc {α:Type} {c:Nat} {F:α → List Ty} {xs:List α} {σ:GW} {v:Value} (e:xs = []) (h:(Ty.val (.slice none 0 0)).has σ v):(Ty.lstc c F xs).has σ v:=by
  subst e
  have h':v = .slice none 0 0:=h
  rw [h'];exact sl_nil
end Go.KL
namespace Go.KL
open Go.RowKit
def vsum (v:List Int):Nat → Nat
  | 0=>0
  | k + 1=>vsum v k + (v.getD k 0).toNat
section
variable {n i j k C q len c:Nat} {E R G:List (List Int)} {K:List Knd} {v r m:List Int}
theorem parts_len:∀ k,(partsL v k).length = vsum v k
  | 0=>rfl
  | k + 1=>by rw [partsL,vsum,List.length_append,List.length_replicate,parts_len k];omega
theorem vsum_lens (hr:IsRow r):vsum (lensL r) r.length = (cyclesL r).length:=by
  rw [← parts_len,(parts_perm hr).length_eq,List.length_map]
theorem cyc_few:(cyclesL r).length ≤ r.length:=cyclesTo_len r r.length
theorem vsum_mono:∀ {a b:Nat},a ≤ b → vsum v a ≤ vsum v b
  | a,0,h=>by rw [show a = 0 by omega];exact Nat.le_refl _
  | a,b + 1,h=>by
    by_cases e:a = b + 1
    · rw [e];exact Nat.le_refl _
    · exact Nat.le_trans (vsum_mono (show a ≤ b by omega)) (by rw [vsum];omega)
structure KndB (n:Nat) (K:List Knd):Prop where
  many:∀ p ∈ K,0 ≤ p.2∧p.2 ≤ 5040
  len:∀ p ∈ K,p.1.length = n
  v:∀ p ∈ K,∀ j,0 ≤ p.1.getD j 0∧p.1.getD j 0 ≤ 12
  sum:∀ p ∈ K,vsum p.1 n ≤ 12
  all:(K.map fun p=>p.2.toNat).sum ≤ 5040
theorem KindP.total (h:KindP (E.map lensL) K):(K.map fun p=>p.2.toNat).sum = E.length:=by
  have:=h.sum fun _=>1
  simp only [Nat.mul_one] at this
  rw [this,sum_cst,List.length_map,Nat.mul_one]
theorem KindP.bds (h:KindP (E.map lensL) K) (hn:1 ≤ n∧n ≤ 12) (hE:∀ r ∈ E,RowN n r) (hl:E.length ≤ 5040):KndB n K:=by
  have key:∀ p ∈ K,∃ r,RowN n r∧p.1 = lensL r:=fun p hp=>by
    obtain ⟨r,hr,e⟩:=List.mem_map.1 ((h.all _).2 ⟨p,hp,rfl⟩)
    exact ⟨r,hE r hr,e.symm⟩
  refine ⟨fun p hp=>?_,fun p hp=>?_,fun p hp j=>?_,fun p hp=>?_,by rw [h.total];exact hl⟩
  · have:=h.bd p hp
    rw [List.length_map] at this
    omega
  · obtain ⟨r,hr,e⟩:=key p hp
    rw [e,lensL_len,hr.len]
  · obtain ⟨r,hr,e⟩:=key p hp
    have h1:=lensT_bd (r:=r) (k:=(cyclesL r).length) (j:=j)
    have h2:=cyc_few (r:=r)
    have h3:=hr.len
    rw [e]
    unfold lensL
    omega
  · obtain ⟨r,hr,e⟩:=key p hp
    have h1:=vsum_lens hr.row
    rw [hr.len] at h1
    have h2:=cyc_few (r:=r)
    have h3:=hr.len
    rw [e,h1];omega
def pwK (C n:Nat) (p:Knd):Nat:=p.2.toNat * C ^ vsum p.1 n
def kSz (K:List Knd) (j:Nat):Nat:=((K.take j).map fun p=>p.2.toNat).sum
def kQuo (C n s:Nat) (K:List Knd) (j:Nat):Nat:=((K.take j).map fun p=>pwK C n p / s).sum
def kRem (C n s:Nat) (K:List Knd) (j:Nat):Nat:=((K.take j).map fun p=>pwK C n p % s).sum
theorem take_sum {f:Knd → Nat} (hj:j < K.length):((K.take (j + 1)).map f).sum = ((K.take j).map f).sum + f (K.getD j ([],0)):=by
  rw [take_snoc K ([],0) j hj,List.map_append,List.sum_append];simp
theorem take_sum_le {f:Knd → Nat}:((K.take j).map f).sum ≤ (K.map f).sum:=by
  conv=>rhs;rw [← List.take_append_drop j K]
  rw [List.map_append,List.sum_append];omega
theorem kSz_succ (hj:j < K.length):kSz K (j + 1) = kSz K j + (K.getD j ([],0)).2.toNat:=take_sum hj
theorem kQuo_succ {s:Nat} (hj:j < K.length):kQuo C n s K (j + 1) = kQuo C n s K j + pwK C n (K.getD j ([],0)) / s:=take_sum hj
theorem kRem_succ {s:Nat} (hj:j < K.length):kRem C n s K (j + 1) = kRem C n s K j + pwK C n (K.getD j ([],0)) % s:=take_sum hj
theorem pow_bd {e:Nat} (hC:C ≤ 8) (he:e ≤ 12):C ^ e ≤ 68719476736:=by
  have h1:C ^ e ≤ 8 ^ e:=Nat.pow_le_pow_left hC e
  have h2:8 ^ e ≤ 8 ^ 12:=Nat.pow_le_pow_right (by omega) he
  have h3:(8:Nat) ^ 12 = 68719476736:=by decide
  omega
theorem mul_bd {a b A B:Nat} (h1:a ≤ A) (h2:b ≤ B):a * b ≤ A * B:=Nat.mul_le_mul h1 h2
theorem sum_mono {α:Type} {f g:α → Nat}:∀ {l:List α},(∀ x ∈ l,f x ≤ g x) → (l.map f).sum ≤ (l.map g).sum
  | [],_=>Nat.le_refl _
  | a :: l,h=>by
    rw [List.map_cons,List.map_cons,List.sum_cons,List.sum_cons]
    exact Nat.add_le_add (h a (by simp)) (sum_mono fun x hx=>h x (by simp [hx]))
theorem sum_mulr {α:Type} (f:α → Nat) (c:Nat):∀ l:List α,(l.map fun x=>f x * c).sum = (l.map f).sum * c
  | []=>by simp
  | a :: l=>by rw [List.map_cons,List.map_cons,List.sum_cons,List.sum_cons,sum_mulr f c l,Nat.add_mul]
theorem KndB.pw (h:KndB n K) (hC:C ≤ 8):(K.map fun p=>pwK C n p).sum ≤ 346346162749440:=by
  have h1:(K.map fun p=>pwK C n p).sum ≤ (K.map fun p=>p.2.toNat * 68719476736).sum:=sum_mono fun p hp=>Nat.mul_le_mul_left _ (pow_bd hC (h.sum p hp))
  rw [sum_mulr] at h1
  have:=h.all
  omega
theorem kQuo_bd {s:Nat} (h:KndB n K) (hC:C ≤ 8):kQuo C n s K j ≤ 346346162749440:=by
  have h1:kQuo C n s K j ≤ (K.map fun p=>pwK C n p / s).sum:=take_sum_le
  have h2:(K.map fun p=>pwK C n p / s).sum ≤ (K.map fun p=>pwK C n p).sum:=sum_mono fun p _=>Nat.div_le_self _ _
  have:=h.pw hC
  omega
theorem kRem_bd {s:Nat} (h:KndB n K) (hC:C ≤ 8):kRem C n s K j ≤ 346346162749440:=by
  have h1:kRem C n s K j ≤ (K.map fun p=>pwK C n p % s).sum:=take_sum_le
  have h2:(K.map fun p=>pwK C n p % s).sum ≤ (K.map fun p=>pwK C n p).sum:=sum_mono fun p _=>Nat.mod_le _ _
  have:=h.pw hC
  omega
theorem kSz_bd (h:KndB n K):kSz K j ≤ 5040:=Nat.le_trans take_sum_le h.all
theorem sum_div_mod {α:Type} (f:α → Nat) {s:Nat} (hs:0 < s) (l:List α):(l.map fun x=>f x / s).sum + (l.map fun x=>f x % s).sum / s = (l.map f).sum / s:=by
  have key:∀ l:List α,(l.map f).sum = s * (l.map fun x=>f x / s).sum + (l.map fun x=>f x % s).sum:=by
    intro l
    induction l with
    | nil=>rfl
    | cons a l ih =>
      simp only [List.map_cons,List.sum_cons]
      have:=Nat.div_add_mod (f a) s
      rw [ih,Nat.mul_add]
      omega
  rw [key l,Nat.mul_add_div hs]
def cntE (E:List (List Int)) (C:Nat):Nat:=(E.map fun r=>C ^ (cyclesL r).length).sum / E.length
theorem cnt_kinds (h:KindP (E.map lensL) K) (hE:∀ r ∈ E,RowN n r) (hne:0 < E.length):kQuo C n E.length K K.length + kRem C n E.length K K.length / E.length = cntE E C:=by
  unfold kQuo kRem cntE
  rw [List.take_length,sum_div_mod (pwK C n) hne]
  have h1:=h.sum fun v=>C ^ vsum v n
  have h2:(K.map (pwK C n)).sum = (K.map fun p=>p.2.toNat * C ^ vsum p.1 n).sum:=rfl
  rw [h2,h1,List.map_map]
  congr 1
  refine sum_cong fun r hr=>?_
  show C ^ vsum (lensL r) n = _
  rw [← (hE r hr).len,vsum_lens (hE r hr).row]
theorem cntE_perm (hp:E.Perm R):cntE E C = cntE R C:=by
  unfold cntE
  rw [hp.length_eq,(hp.map _).sum_nat]
def cntT (R:List (List Int)) (C:Nat) (i:Nat):Nat:=((R.take i).map fun r=>C ^ (cyclesL r).length).sum
theorem cntT_succ (hi:i < R.length):cntT R C (i + 1) = cntT R C i + C ^ (cyclesL (R.getD i [])).length:=by
  unfold cntT
  rw [take_snoc R [] i hi,List.map_append,List.sum_append];simp
theorem cntT_bd (hR:∀ r ∈ R,RowN n r) (hn:n ≤ 12) (hC:C ≤ 8) (hl:R.length ≤ 5040):cntT R C i ≤ 346346162749440:=by
  have h1:cntT R C i ≤ ((R.take i).map fun _=>68719476736).sum:=sum_mono fun r hr=>pow_bd hC (by
    have h2:=hR r (List.mem_of_mem_take hr)
    have h3:=h2.len
    have h4:=cyc_few (r:=r)
    omega)
  rw [sum_cst] at h1
  have h2:(R.take i).length ≤ 5040:=by rw [List.length_take];omega
  have:=Nat.mul_le_mul_right 68719476736 h2
  omega
theorem cntT_all:cntT R C R.length / R.length = cntE R C:=by unfold cntT cntE;rw [List.take_length]
theorem elts_perm (h1:E.Nodup) (h2:R.Nodup) (h:∀ x,x ∈ E ↔ x ∈ R):E.Perm R:=(List.perm_ext_iff_of_nodup h1 h2).2 h
structure FilP (v m:List Int) (len:Nat):Prop where
  le:len ≤ v.length
  vl:v.length ≤ 12
  vb:∀ j,0 ≤ v.getD j 0∧v.getD j 0 ≤ 12
  mb:∀ c,0 ≤ m.getD c 0∧m.getD c 0 ≤ 12
  ml:m.length ≤ 8
  pl:(partsL v len).length ≤ 12
  sum:m.sum = ((partsL v len).sum:Int)
theorem FilP.skip (h:FilP v m (q + 1)) (h0:v.getD q 0 = 0):FilP v m q∧partsL v (q + 1) = partsL v q:=by
  have e:=parts_skip h0
  refine ⟨⟨by have:=h.le;omega,h.vl,h.vb,h.mb,h.ml,by rw [← e];exact h.pl,by rw [← e];exact h.sum⟩,e⟩
theorem sum_zero_all:∀ {m:List Int},(∀ c,0 ≤ m.getD c 0) → 0 ≤ m.sum∧(m.sum = 0 → ∀ x ∈ m,x = 0)
  | [],_=>⟨by simp,fun _ x hx=>by cases hx⟩
  | a :: m,h=>by
    have ih:=sum_zero_all (m:=m) fun c=>h (c + 1)
    have ha:0 ≤ a:=h 0
    rw [List.sum_cons]
    refine ⟨by omega,fun e x hx=>?_⟩
    rcases List.mem_cons.1 hx with rfl | hx
    · omega
    · exact ih.2 (by omega) x hx
theorem FilP.none (h:FilP v m 0):wayN (partsL v 0) m = 1:=by
  have hs:=h.sum
  have:=(sum_zero_all fun c=>(h.mb c).1).2 (by rw [hs];rfl)
  show wayN [] m = 1
  rw [wayN,if_pos (List.all_eq_true.2 fun x hx=>decide_eq_true (this x hx))]
theorem sum_set:∀ {m:List Int} {c:Nat} {z:Int},c < m.length → (m.set c z).sum = m.sum - m.getD c 0 + z
  | a :: m,0,z,_=>by show (z :: m).sum = _;rw [List.sum_cons,List.sum_cons];show _ = _ - a + z;omega
  | a :: m,c + 1,z,h=>by
    show (a :: m.set c z).sum = _
    rw [List.sum_cons,List.sum_cons,sum_set (by simpa using h)]
    show _ = _ - m.getD c 0 + z
    omega
theorem FilP.sub (h:FilP v m (q + 1)) (h0:v.getD q 0 ≠ 0) (hc:c < m.length) (hm:((q + 1:Nat):Int) ≤ m.getD c 0):FilP (v.set q (v.getD q 0 - 1)) (m.set c (m.getD c 0 - ((q + 1:Nat):Int))) (q + 1)∧(partsL (v.set q (v.getD q 0 - 1)) (q + 1)).length + 1 = (partsL v (q + 1)).length:=by
  have hv:=h.vb q
  have hle:=h.le
  have e:=parts_less (v:=v) (k:=q) (by omega) (by omega)
  have hpl:=h.pl
  have hs:=h.sum
  rw [e,List.length_cons] at hpl
  rw [e,List.sum_cons] at hs
  refine ⟨⟨by rw [List.length_set];exact hle,by rw [List.length_set];exact h.vl,fun j=>?_,fun d=>?_,by rw [List.length_set];exact h.ml,by omega,?_⟩,by rw [e,List.length_cons]⟩
  · by_cases ej:q = j
    · subst ej;rw [getD_seta (by omega)];omega
    · rw [getD_setn ej];exact h.vb j
  · have:=h.mb c
    by_cases ej:c = d
    · subst ej;rw [getD_seta hc];omega
    · rw [getD_setn ej];exact h.mb d
  · rw [sum_set hc,hs,Int.natCast_add];omega
theorem FilP.step (h:FilP v m (q + 1)) (h0:v.getD q 0 ≠ 0):wayN (partsL v (q + 1)) m = wayT (q + 1) (partsL (v.set q (v.getD q 0 - 1)) (q + 1)) m m.length:=by
  have hv:=h.vb q
  rw [parts_less (v:=v) (k:=q) (by have:=h.le;omega) (by omega)];rfl
theorem FilP.bd (h:FilP v m (q + 1)) (h0:v.getD q 0 ≠ 0) (hc:c ≤ m.length):wayT (q + 1) (partsL (v.set q (v.getD q 0 - 1)) (q + 1)) m c ≤ 68719476736:=by
  have hv:=h.vb q
  have e:=parts_less (v:=v) (k:=q) (by have:=h.le;omega) (by omega)
  have hpl:=h.pl
  rw [e,List.length_cons] at hpl
  exact Nat.le_trans (wayT_bd hc) (pow_bd h.ml hpl)
theorem FilP.wbd (h:FilP v m len):wayN (partsL v len) m ≤ 68719476736:=Nat.le_trans (wayN_le _ _) (pow_bd h.ml h.pl)
theorem set_back {z:Int} (hc:c < m.length):(m.set c z).set c (m.getD c 0) = m:=by
  rw [List.set_set]
  refine List.ext_getElem (by simp) fun i h1 h2=>?_
  rw [List.getElem_set]
  by_cases e:c = i
  · subst e;rw [if_pos rfl];simp [hc]
  · rw [if_neg e]
theorem psum_lens (hr:IsRow r):(partsL (lensL r) r.length).sum = r.length:=by
  have h1:=(parts_perm hr).sum_nat
  rw [h1]
  have h2:=(cycles_perm hr).length_eq
  rw [List.length_flatten,roundsL_len] at h2
  exact h2
theorem fil_of (hr:RowN n r) (hm:∀ c,0 ≤ m.getD c 0∧m.getD c 0 ≤ 12) (hml:m.length ≤ 8) (hs:m.sum = (n:Int)):FilP (lensL r) m n where
  le:=by rw [lensL_len,hr.len];exact Nat.le_refl _
  vl:=by rw [lensL_len];exact hr.row.le
  vb j:=by
    have h1:=lensT_bd (r:=r) (k:=(cyclesL r).length) (j:=j)
    have h2:=cyc_few (r:=r)
    have h3:=hr.row.le
    unfold lensL
    omega
  mb:=hm
  ml:=hml
  pl:=by
    have h1:=vsum_lens hr.row
    rw [hr.len] at h1
    rw [parts_len,h1]
    have h2:=cyc_few (r:=r)
    have h3:=hr.row.le
    omega
  sum:=by
    have:=psum_lens hr.row
    rw [hr.len] at this
    rw [hs,this]
def kWay (n:Nat) (m:List Int) (K:List Knd) (j:Nat):Nat:=((K.take j).map fun p=>p.2.toNat * wayN (partsL p.1 n) m).sum
theorem kWay_succ (hj:j < K.length):kWay n m K (j + 1) = kWay n m K j + (K.getD j ([],0)).2.toNat * wayN (partsL (K.getD j ([],0)).1 n) m:=take_sum hj
theorem KindP.fil (h:KindP (E.map lensL) K) (hE:∀ r ∈ E,RowN n r) (hm:∀ c,0 ≤ m.getD c 0∧m.getD c 0 ≤ 12) (hml:m.length ≤ 8) (hs:m.sum = (n:Int)):∀ p ∈ K,FilP p.1 m n:=fun p hp=>by
  obtain ⟨r,hr,e⟩:=List.mem_map.1 ((h.all _).2 ⟨p,hp,rfl⟩)
  rw [← e];exact fil_of (hE r hr) hm hml hs
theorem kWay_bd (h:KndB n K) (hf:∀ p ∈ K,FilP p.1 m n):kWay n m K j ≤ 346346162749440:=by
  have h1:kWay n m K j ≤ (K.map fun p=>p.2.toNat * wayN (partsL p.1 n) m).sum:=take_sum_le
  have h2:(K.map fun p=>p.2.toNat * wayN (partsL p.1 n) m).sum ≤ (K.map fun p=>p.2.toNat * 68719476736).sum:=sum_mono fun p hp=>Nat.mul_le_mul_left _ (hf p hp).wbd
  rw [sum_mulr] at h2
  have:=h.all
  omega
theorem way_kinds (hn:1 ≤ n∧n ≤ 12) (hG:∀ x ∈ G,RowN n x) (hE:EltsOk n G E) (h:KindP (E.map lensL) K):kWay n m K K.length / E.length = (((colsL n m.length).filter (dist m)).filter (fstP E)).length:=by
  have hEr:∀ r ∈ E,RowN n r:=fun r hr=>((hE.mem r).1 hr).row hn hG
  have h1:kWay n m K K.length = (E.map fun r=>((colsL n m.length).filter (dist m)).countP fun x=>decide (byL x r = x)).sum:=by
    unfold kWay
    rw [List.take_length,h.sum fun v=>wayN (partsL v n) m,List.map_map]
    refine sum_cong fun r hr=>?_
    have hrr:=hEr r hr
    show wayN (partsL (lensL r) n) m = _
    have h2:=fix_ways (m:=m) hrr.row
    rw [hrr.len] at h2
    rw [h2]
    have h3:=parts_perm hrr.row
    rw [hrr.len] at h3
    exact wayN_perm h3 m
  have hpos:0 < E.length:=List.length_pos_of_mem ((hE.mem _).2 .one)
  rw [h1,burn hn hG hE (act_dist hn hG),Nat.mul_div_cancel _ hpos]
end
end Go.KL
namespace Go.KL
theorem fst_no {E:List (List Int)} {c:List Int} {i:Nat} (hi:i < E.length) (h:belowL (byL c (E.getD i [])) c = true):fstP E c = false:=by
  cases e:fstP E c with
  | false=>rfl
  | true =>
    have:=List.all_eq_true.1 e _ (mem_atD [] hi)
    rw [h] at this;cases this
theorem fst_all {E:List (List Int)} {c:List Int} (h:∀ k,k < E.length → belowL (byL c (E.getD k [])) c = false):fstP E c = true:=List.all_eq_true.2 fun g hg=>by
  obtain ⟨k,hk,rfl⟩:=List.getElem_of_mem hg
  have:=h k hk
  rw [show E.getD k [] = E[k] by simp [hk]] at this
  rw [this];rfl
theorem fst_put {E:List (List Int)} {c:List Int} {i:Nat} (h:∀ k,k < i → belowL (byL c (E.getD k [])) c = false) (h2:belowL (byL c (E.getD i [])) c = false):∀ k,k < i + 1 → belowL (byL c (E.getD k [])) c = false:=fun k hk=>by
  by_cases e:k = i
  · rw [e];exact h2
  · exact h k (by omega)
end Go.KL
namespace Go.KL
section
variable {q c:Nat} {v m:List Int}
theorem FilP.skip2 (h:FilP v m q) (hq:0 < q) (h0:v.getD (q - 1) 0 = 0):FilP v m (q - 1)∧partsL v q = partsL v (q - 1):=by
  obtain ⟨p,rfl⟩:∃ p,q = p + 1:=⟨q - 1,by omega⟩
  exact FilP.skip h h0
theorem FilP.sub2 (h:FilP v m q) (hq:0 < q) (h0:v.getD (q - 1) 0 ≠ 0) (hc:c < m.length) (hm:(q:Int) ≤ m.getD c 0):FilP (v.set (q - 1) (v.getD (q - 1) 0 - 1)) (m.set c (m.getD c 0 - (q:Int))) q∧(partsL (v.set (q - 1) (v.getD (q - 1) 0 - 1)) q).length + 1 = (partsL v q).length:=by
  obtain ⟨p,rfl⟩:∃ p,q = p + 1:=⟨q - 1,by omega⟩
  exact FilP.sub h h0 hc hm
theorem FilP.step2 (h:FilP v m q) (hq:0 < q) (h0:v.getD (q - 1) 0 ≠ 0):wayN (partsL v q) m = wayT q (partsL (v.set (q - 1) (v.getD (q - 1) 0 - 1)) q) m m.length:=by
  obtain ⟨p,rfl⟩:∃ p,q = p + 1:=⟨q - 1,by omega⟩
  exact FilP.step h h0
theorem FilP.bd2 (h:FilP v m q) (hq:0 < q) (h0:v.getD (q - 1) 0 ≠ 0) (hc:c ≤ m.length):wayT q (partsL (v.set (q - 1) (v.getD (q - 1) 0 - 1)) q) m c ≤ 68719476736:=by
  obtain ⟨p,rfl⟩:∃ p,q = p + 1:=⟨q - 1,by omega⟩
  exact FilP.bd h h0 hc
theorem set_back2 {z:Int} (hc:c < m.length):(m.set c (m.getD c 0 - z)).set c ((m.set c (m.getD c 0 - z)).getD c 0 + z) = m:=by
  rw [getD_seta hc,Int.sub_add_cancel];exact set_back hc
end
end Go.KL
namespace Go.KL
section
variable {n i:Nat} {m:List Int}
def alT (m:List Int):Nat → Int
  | 0=>0
  | i + 1=>wr64 (alT m i + m.getD i 0)
theorem wr64_id {z:Int} (h1:-9223372036854775808 ≤ z) (h2:z ≤ 9223372036854775807):wr64 z = z:=w64 h1 h2
theorem alT_sum (h:∀ c,c < m.length → 0 ≤ m.getD c 0∧m.getD c 0 ≤ 12) (hl:m.length ≤ 8):∀ i,i ≤ m.length → alT m i = (m.take i).sum∧0 ≤ (m.take i).sum∧(m.take i).sum ≤ 12 * (i:Int)
  | 0,_=>by simp [alT]
  | i + 1,hi=>by
    obtain ⟨h1,h2,h3⟩:=alT_sum h hl i (by omega)
    have hb:=h i (by omega)
    rw [alT,h1,take_snoc m 0 i (by omega),List.sum_append,List.sum_cons,List.sum_nil,wr64_id (by omega) (by omega)]
    refine ⟨by omega,by omega,?_⟩
    rw [Int.natCast_add];omega
def manyOk (n:Int) (m:List Int):Prop:=m.length ≤ 8∧∀ c,c < m.length → 0 ≤ m.getD c 0∧m.getD c 0 ≤ n
theorem manyOk.all (h:manyOk (n:Int) m) (hn:n ≤ 12) (hs:alT m m.length = (n:Int)):(∀ c,0 ≤ m.getD c 0∧m.getD c 0 ≤ 12)∧m.length ≤ 8∧m.sum = (n:Int):=by
  have hb:∀ c,c < m.length → 0 ≤ m.getD c 0∧m.getD c 0 ≤ 12:=fun c hc=>by have:=h.2 c hc;omega
  refine ⟨fun c=>?_,h.1,?_⟩
  · by_cases hc:c < m.length
    · exact hb c hc
    · rw [List.getD_eq_getElem?_getD,List.getElem?_eq_none (by omega)]
      exact ⟨Int.le_refl _,by decide⟩
  · have:=(alT_sum hb h.1 m.length (Nat.le_refl _)).1
    rw [hs,List.take_length] at this
    exact this.symm
theorem many_pos (hn:1 ≤ n) (hs:m.sum = (n:Int)):1 ≤ m.length:=by
  rcases Nat.eq_zero_or_pos m.length with h | h
  · rw [List.length_eq_zero_iff.1 h] at hs
    simp at hs;omega
  · exact h
end
end Go.KL
namespace Go.KL
section
variable {n C i k:Nat} {E:List (List Int)}
def pattT (n C:Nat) (E:List (List Int)) (k:Nat):List (List Int):=((List.range k).map (colAt n C)).filter (fstP E)
theorem pattT_len:(pattT n C E k).length ≤ k:=by
  unfold pattT
  exact Nat.le_trans (List.length_filter_le _ _) (by simp)
theorem pattT_yes (h:fstP E (colAt n C k) = true):pattT n C E (k + 1) = pattT n C E k ++ [colAt n C k]:=by
  unfold pattT;rw [List.range_succ,List.map_append,List.filter_append];simp [h]
theorem pattT_no (h:fstP E (colAt n C k) = false):pattT n C E (k + 1) = pattT n C E k:=by
  unfold pattT;rw [List.range_succ,List.map_append,List.filter_append];simp [h]
theorem pow_pos_c (hn:1 ≤ n) (h:0 < C ^ n):0 < C:=by
  rcases Nat.eq_zero_or_pos C with h0 | h0
  · subst h0
    rw [show n = n - 1 + 1 by omega,Nat.pow_succ,Nat.mul_zero] at h;omega
  · exact h0
theorem pow_le_c {N:Nat} (h:C ^ n ≤ N) (hi:i ≤ n) (hN:1 ≤ N:=by omega):C ^ i ≤ N:=by
  rcases Nat.eq_zero_or_pos C with h0 | h0
  · subst h0
    rcases Nat.eq_zero_or_pos i with h1 | h1
    · subst h1;rw [Nat.pow_zero];exact hN
    · rw [show i = i - 1 + 1 by omega,Nat.pow_succ,Nat.mul_zero];omega
  · exact Nat.le_trans (Nat.pow_le_pow_right h0 hi) h
end
end Go.KL
namespace Go.KL
section
variable {n C k i j c:Nat} {E R G gens:List (List Int)} {m x:List Int} {z z':Nat} {e e':Int}
theorem pattT_full:pattT n C E (C ^ n) = (colsL n C).filter (fstP E):=rfl
theorem filter_fst (h:∀ x,x ∈ E ↔ x ∈ R) (L:List (List Int)):L.filter (fstP E) = L.filter (fstP R):=List.filter_congr fun c _=>fstP_congr h c
def wntT (n:Nat) (m:List Int) (R:List (List Int)) (k:Nat):Nat:=(((List.range k).map (colAt n m.length)).filter (dist m)).countP (fstP R)
theorem wntT_le:wntT n m R k ≤ k:=by
  unfold wntT
  refine Nat.le_trans List.countP_le_length (Nat.le_trans (List.length_filter_le _ _) (by simp))
theorem wntT_no (h:dist m (colAt n m.length k) = false):wntT n m R (k + 1) = wntT n m R k:=by
  unfold wntT;rw [List.range_succ,List.map_append,List.filter_append];simp [h]
theorem wntT_out (h:dist m (colAt n m.length k) = true) (h2:fstP R (colAt n m.length k) = false):wntT n m R (k + 1) = wntT n m R k:=by
  unfold wntT;rw [List.range_succ,List.map_append,List.filter_append,List.countP_append];simp [h,h2]
theorem wntT_in (h:dist m (colAt n m.length k) = true) (h2:fstP R (colAt n m.length k) = true):wntT n m R (k + 1) = wntT n m R k + 1:=by
  unfold wntT;rw [List.range_succ,List.map_append,List.filter_append,List.countP_append];simp [h,h2]
theorem wntT_full (h:∀ x,x ∈ E ↔ x ∈ R):wntT n m R (m.length ^ n) = (((colsL n m.length).filter (dist m)).filter (fstP E)).length:=by
  rw [filter_fst h,← List.countP_eq_length_filter];rfl
def distT (m x:List Int) (i:Nat):Bool:=(List.range i).all fun c=>decide (((x.count (c:Int):Nat):Int) = m.getD c 0)
theorem distT_succ:distT m x (i + 1) = (distT m x i && decide (((x.count (i:Int):Nat):Int) = m.getD i 0)):=by
  unfold distT;rw [List.range_succ,List.all_append];simp
theorem distT_all:distT m x m.length = dist m x:=rfl
theorem cnt_take_y (hj:j < x.length) (h:x.getD j 0 = c):(x.take (j + 1)).count (c:Int) = (x.take j).count (c:Int) + 1:=by
  rw [take_snoc x 0 j hj,List.count_append,h];simp
theorem cnt_take_n (hj:j < x.length) (h:x.getD j 0 ≠ c):(x.take (j + 1)).count (c:Int) = (x.take j).count (c:Int):=by
  rw [take_snoc x 0 j hj,List.count_append,List.count_singleton,if_neg (by simpa using h)];rfl
theorem cnt_take_le:(x.take j).count (c:Int) ≤ j:=Nat.le_trans List.count_le_length (List.length_take_le _ _)
open Classical in
def CntP (n:Int) (gens:List (List Int)) (colours:Int) (z:Nat) (e:Int):Prop :=
  if colours < 0 ∨ 8 < colours then z = 0∧e = 12 else if gensMay n gens ≠ 0 then z = 0∧e = gensMay n gens else if 5040 < szTo n.toNat (fun y=>y ∈ gens) n.toNat then z = 0∧e = 3 else e = 0∧∃ E,EltsOk n.toNat gens E∧z = cntE E colours.toNat
theorem CntP.bad {n colours:Int} (h:colours < 0 ∨ 8 < colours):CntP n gens colours 0 12:=by unfold CntP;rw [if_pos h];exact ⟨rfl,rfl⟩
theorem CntP.gen {n:Int} (hC:C ≤ 8) (h:gensMay n gens ≠ 0):CntP n gens (C:Int) 0 (gensMay n gens):=by unfold CntP;rw [if_neg (by omega),if_pos h];exact ⟨rfl,rfl⟩
theorem CntP.lim (hC:C ≤ 8) (h:gensMay (n:Int) gens = 0) (h2:5040 < szTo n (fun y=>y ∈ gens) n):CntP (n:Int) gens (C:Int) 0 3:=by unfold CntP;rw [if_neg (by omega),if_neg (by omega),Int.toNat_natCast,if_pos h2];exact ⟨rfl,rfl⟩
theorem CntP.ok (hC:C ≤ 8) (h:gensMay (n:Int) gens = 0) (h2:szTo n (fun y=>y ∈ gens) n ≤ 5040) (hE:EltsOk n gens E):CntP (n:Int) gens (C:Int) (cntE E C) 0:=by
  unfold CntP;rw [if_neg (by omega),if_neg (by omega),Int.toNat_natCast,Int.toNat_natCast,if_neg (by omega)];exact ⟨rfl,E,hE,rfl⟩
theorem CntP.one {n colours:Int} (h:CntP n gens colours z e) (h':CntP n gens colours z' e'):z = z'∧e = e':=by
  unfold CntP at h h'
  split at h
  · rename_i hc;rw [if_pos hc] at h';omega
  · rename_i hc;rw [if_neg hc] at h'
    split at h
    · rename_i hg;rw [if_pos hg] at h';omega
    · rename_i hg;rw [if_neg hg] at h'
      split at h
      · rename_i hs;rw [if_pos hs] at h';omega
      · rename_i hs;rw [if_neg hs] at h'
        obtain ⟨h1,E,hE,rfl⟩:=h
        obtain ⟨h2,E',hE',rfl⟩:=h'
        refine ⟨cntE_perm (elts_perm hE.nd hE'.nd fun x=>(hE.mem x).trans (hE'.mem x).symm),by omega⟩
def FOk (n:Int) (gens R:List (List Int)) (f:Int):Prop:=(gensMay n gens ≠ 0∧f = gensMay n gens) ∨ (gensMay n gens = 0∧5040 < szTo n.toNat (fun y=>y ∈ gens) n.toNat∧f = 3) ∨
  (gensMay n gens = 0∧szTo n.toNat (fun y=>y ∈ gens) n.toNat ≤ 5040∧f = 0∧R.Nodup∧(∀ x,x ∈ R ↔ Cl n.toNat (fun y=>y ∈ gens) x)∧R.length ≤ 5040)
end
end Go.KL
namespace Go.KL
section
variable {n:Nat} {G:List (List Int)}
open Classical in
theorem elts_ex (hn:1 ≤ n∧n ≤ 12) (hG:∀ x ∈ G,RowN n x):∃ E,EltsOk n G E:=by
  have hnd:(((List.range (fct n)).map (atL n)).filter fun x=>decide (Cl n (fun y=>y ∈ G) x)).Nodup:=by
    refine List.Pairwise.filter _ (List.pairwise_map.2 (List.nodup_range.imp_of_mem fun {a b} ha hb hne e=>hne ?_))
    have:=congrArg rankL e
    rwa [at_rank (List.mem_range.1 ha),at_rank (List.mem_range.1 hb)] at this
  have hm:∀ x,x ∈ ((List.range (fct n)).map (atL n)).filter (fun x=>decide (Cl n (fun y=>y ∈ G) x)) ↔ Cl n (fun y=>y ∈ G) x:=fun x=>by
    rw [List.mem_filter,decide_eq_true_eq]
    refine ⟨fun h=>h.2,fun h=>⟨?_,h⟩⟩
    have hr:=h.row hn hG
    refine List.mem_map.2 ⟨rankL x,List.mem_range.2 ?_,?_⟩
    · have:=rankL_lt x
      rwa [hr.len] at this
    · have:=rank_at hr.row
      rwa [hr.len] at this
  refine ⟨ordS (((List.range (fct n)).map (atL n)).filter fun x=>decide (Cl n (fun y=>y ∈ G) x)),(ordS_perm _).nodup_iff.2 hnd,ordS_sort _,fun x=>(ordS_perm _).mem_iff.trans (hm x),?_⟩
  rw [ordS_len]
  exact sz_count hn hG hnd hm
end
end Go.KL
namespace Go.KL
section
variable {n:Nat} {gens R:List (List Int)}
theorem FOk.gen {z:Int} (h:gensMay z gens ≠ 0):FOk z gens R (gensMay z gens):=.inl ⟨h,rfl⟩
theorem FOk.lim (h:gensMay (n:Int) gens = 0) (h2:5040 < szTo n (fun y=>y ∈ gens) n):FOk (n:Int) gens R 3:=.inr (.inl ⟨h,by rw [Int.toNat_natCast];exact h2,rfl⟩)
theorem FOk.ok (h:gensMay (n:Int) gens = 0) (h2:szTo n (fun y=>y ∈ gens) n ≤ 5040) (h3:R.Nodup) (h4:∀ x,x ∈ R ↔ Cl n (fun y=>y ∈ gens) x) (h5:R.length ≤ 5040):FOk (n:Int) gens R 0 :=
  .inr (.inr ⟨h,by rw [Int.toNat_natCast];exact h2,rfl,h3,by rw [Int.toNat_natCast];exact h4,h5⟩)
theorem FOk.cases {z f:Int} (h:FOk z gens R f):(gensMay z gens ≠ 0∧f = gensMay z gens) ∨ (∃ n:Nat,z = (n:Int)∧(1 ≤ n∧n ≤ 12)∧gensMay (n:Int) gens = 0∧((5040 < szTo n (fun y=>y ∈ gens) n∧f = 3) ∨
    (szTo n (fun y=>y ∈ gens) n ≤ 5040∧f = 0∧(∀ x ∈ R,RowN n x)∧(∀ x,x ∈ R ↔ Cl n (fun y=>y ∈ gens) x)∧R.length ≤ 5040))):=by
  rcases h with h | ⟨h,hL,e⟩ | ⟨h,hL,e,hN,hM,hl⟩
  · exact .inl h
  · obtain ⟨m,rfl⟩:=may_int h
    rw [Int.toNat_natCast] at hL
    exact .inr ⟨m,rfl,(may_nat h).1,h,.inl ⟨hL,e⟩⟩
  · obtain ⟨m,rfl⟩:=may_int h
    rw [Int.toNat_natCast] at hL hM
    obtain ⟨hn,hGl,hG⟩:=may_nat h
    exact .inr ⟨m,rfl,hn,h,.inr ⟨hL,e,fun x hx=>((hM x).1 hx).row hn hG,hM,hl⟩⟩
end
end Go.KL
namespace Go.KL
section
variable {n e f colours:Int} {gens R:List (List Int)} {many:List Int}
def GErr (n:Int) (gens:List (List Int)) (e:Int):Prop:=(gensMay n gens ≠ 0∧e = gensMay n gens) ∨ (∃ m:Nat,n = (m:Int)∧gensMay (m:Int) gens = 0∧5040 < szTo m (fun y=>y ∈ gens) m∧e = 3)
theorem GErr.ne (h:GErr n gens e):e ≠ 0:=by
  rcases h with ⟨h,rfl⟩ | ⟨_,_,_,_,rfl⟩
  · exact h
  · decide
theorem GErr.may (h:GErr n gens e) (h0:gensMay n gens ≠ 0):e = gensMay n gens:=by
  rcases h with ⟨_,h⟩ | ⟨_,rfl,h,_⟩
  · exact h
  · exact absurd h h0
theorem GErr.lim (h:GErr n gens e) (h0:gensMay n gens = 0):5040 < szTo n.toNat (fun y=>y ∈ gens) n.toNat∧e = 3:=by
  rcases h with ⟨h,_⟩ | ⟨m,rfl,_,h,rfl⟩
  · exact absurd h0 h
  · rw [Int.toNat_natCast];exact ⟨h,rfl⟩
theorem GErr.fok (h:GErr n gens e):FOk n gens R e:=by
  rcases h with ⟨h,rfl⟩ | ⟨m,rfl,h,hL,rfl⟩
  · exact FOk.gen h
  · exact FOk.lim h hL
def WErr (n:Int) (gens:List (List Int)) (many:List Int) (e:Int):Prop:=(¬ manyOk n many∧e = 12) ∨ (manyOk n many∧alT many many.length ≠ n∧e = 1) ∨ (manyOk n many∧alT many many.length = n∧GErr n gens e)
theorem WErr.ne (h:WErr n gens many e):e ≠ 0:=by
  rcases h with ⟨_,rfl⟩ | ⟨_,_,rfl⟩ | ⟨_,_,h⟩
  · decide
  · decide
  · exact h.ne
theorem WErr.bad (h:WErr n gens many e) (hb:¬ manyOk n many):e = 12:=by
  rcases h with ⟨_,h⟩ | ⟨h,_⟩ | ⟨h,_⟩
  · exact h
  · exact absurd h hb
  · exact absurd h hb
theorem WErr.sum (h:WErr n gens many e) (hok:manyOk n many) (hn:alT many many.length ≠ n):e = 1:=by
  rcases h with ⟨h,_⟩ | ⟨_,_,h⟩ | ⟨_,h,_⟩
  · exact absurd hok h
  · exact h
  · exact absurd h hn
theorem WErr.grp (h:WErr n gens many e) (hok:manyOk n many) (hn:alT many many.length = n):GErr n gens e:=by
  rcases h with ⟨h,_⟩ | ⟨_,h,_⟩ | ⟨_,_,h⟩
  · exact absurd hok h
  · exact absurd hn h
  · exact h
def PErr (n:Int) (gens:List (List Int)) (colours e:Int):Prop:=((colours < 0 ∨ 8 < colours)∧e = 12) ∨ (¬ (colours < 0 ∨ 8 < colours)∧GErr n gens e)
theorem PErr.ne (h:PErr n gens colours e):e ≠ 0:=by
  rcases h with ⟨_,rfl⟩ | ⟨_,h⟩
  · decide
  · exact h.ne
theorem PErr.bad (h:PErr n gens colours e) (hb:colours < 0 ∨ 8 < colours):e = 12:=by
  rcases h with ⟨_,h⟩ | ⟨h,_⟩
  · exact h
  · exact absurd hb h
theorem FOk.err (h:FOk n gens R f):GErr n gens f ∨ (∃ m:Nat,n = (m:Int)∧(1 ≤ m∧m ≤ 12)∧gensMay (m:Int) gens = 0∧szTo m (fun y=>y ∈ gens) m ≤ 5040∧f = 0∧(∀ x ∈ R,RowN m x)∧(∀ x,x ∈ R ↔ Cl m (fun y=>y ∈ gens) x)∧R.length ≤ 5040):=by
  rcases h.cases with h | ⟨m,rfl,hn,h2,⟨hL,rfl⟩ | ⟨hL,rfl,hr,hm,hl⟩⟩
  · exact .inl (.inl h)
  · exact .inl (.inr ⟨m,rfl,h2,hL,rfl⟩)
  · exact .inr ⟨m,rfl,hn,h2,hL,rfl,hr,hm,hl⟩
end
end Go.KL
