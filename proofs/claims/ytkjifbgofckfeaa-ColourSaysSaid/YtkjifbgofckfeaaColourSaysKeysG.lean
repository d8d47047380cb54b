/- slices.Sorted(maps.Keys(m)) at a map of rows: contracts. -/
import Derived.Test.YtkjifbgofckfeaaColourSaysLayG
import Derived.Test.YtkjifbgofckfeaaColourSaysK2
import Derived.Test.YtkjifbgofckfeaaColourSaysK3
namespace Go.Proofs.Ytkjifbgofckfeaa
open Go.KL Go.RowKit Go.Maps Go.Sort Go.Shelf Go.WideElems
theorem sortsA (m:Nat):AnyZI.SortsIn Try.prog sortedA_ren Fence.wide m :=
  ⟨fun blk off cap ss W hH hblk hsz=>callsIn_wide.2 (AnyM.slices_Sort_int sortA blk off cap ss W hH hblk hsz),
   fun p cap W=>callsIn_wide.2 (AnyM.slices_Sort_int_none sortA p cap W)⟩
theorem keysK_fn (m:Value) (σ:GW) (v0:Value) (hv0:(Ty.val m).has σ v0) (hm:∃ b,m = .map (some b)):FnC Try.prog 114 #[v0] σ (Ty.keysit 137 109 m):=by
  obtain ⟨b,rfl⟩:=hm
  obtain rfl:v0 = .map (some b):=hv0
  have h:=(callsIn_wide (n:=5)).1 (AnyZI.keys_in keysA Fence.wide 5 trivial rfl (some b) σ.w)
  refine Calls.mono h ?_
  rintro e w' ⟨rfl,rfl⟩
  exact ⟨_,σ.seal (.cells #[.map (some b)] 109),rfl,Stp.seal _ _,rfl,σ.w.heap.size,rfl,by simp [GW.seal],heap_alloc_new _ _⟩
def rdU:Value → Option (DataW Unit × List MemPlace):=fun _=>some (.nil,[])
section
variable {σ:GW} {es:Array MapEntry} {clock:Nat} {f:Int → Option (List Int)}
theorem ents_int (h:Ents Ty.ints kI σ es.toList clock f) (hfin:∀ p t,f p = some t → 0 ≤ p∧p < 12):∀ e ∈ es.toList,∃ i:Int,e.key = .int .i64 i∧(f i).isSome = true∧0 ≤ i∧i < 12:=fun e he=>by
  obtain ⟨i,b,h1,h2,_⟩:=h.key e he
  exact ⟨i,h1,by rw [h2];rfl,hfin i b h2⟩
theorem ents_nodup (h:Ents Ty.ints kI σ es.toList clock f):(es.toList.map (·.key)).Nodup:=List.pairwise_map.2 h.uniq
theorem ents_size (h:Ents Ty.ints kI σ es.toList clock f) (hfin:∀ p t,f p = some t → 0 ≤ p∧p < 12):es.size ≤ 12:=by
  have h1:(es.toList.map fun e=>match e.key with | .int _ i=>i | _=>(0:Int)).Nodup:=by
    refine List.pairwise_map.2 (h.uniq.imp_of_mem fun {a b} ha hb hne e=>hne ?_)
    obtain ⟨i,hi,_⟩:=ents_int h hfin a ha
    obtain ⟨j,hj,_⟩:=ents_int h hfin b hb
    rw [hi,hj] at e ⊢
    simp only at e
    rw [e]
  have h2:=nodup_len 12 _ h1 (fun x hx=>by
    obtain ⟨e,he,rfl⟩:=List.mem_map.1 hx
    obtain ⟨i,hi,_,h3,h4⟩:=ents_int h hfin e he
    rw [hi];exact ⟨h3,h4⟩)
  simpa using h2
theorem rd_ent {e:MapEntry} {i:Int} (he:e.key = .int .i64 i) (h0:0 ≤ i) (h1:i < 12):Go.WideElems.rd Try.prog 3 rdU e = some (.int .i64 i,.nil):=by
  unfold Go.WideElems.rd
  have hw:(Lit.int IntKind.i64 i).wf = true:=by
    have h_:IntKind.i64.min = -9223372036854775808:=by decide
    simp [Lit.wf]
    omega
  rw [he,keyOf_int_mk Try.underlying3 hw]
  rfl
theorem ents_fit (h:Ents Ty.ints kI σ es.toList clock f) (hfin:∀ p t,f p = some t → 0 ≤ p∧p < 12):Fit Try.prog 3 rdU es clock:=by
  have h12:=ents_size h hfin
  refine ⟨by simp only [maxLen];omega,⟨h.lt,?_,ents_nodup h⟩,fun x hx=>?_⟩
  · exact List.pairwise_map.2 (h.born.imp fun hab=>by omega)
  · obtain ⟨i,hi,_,h3,h4⟩:=ents_int h hfin x hx
    exact ⟨_,rd_ent hi h3 h4⟩
theorem ents_keys (h:Ents Ty.ints kI σ es.toList clock f) (hfin:∀ p t,f p = some t → 0 ≤ p∧p < 12) (x:Int):x ∈ intKeys (.map ((es.toList.map (Go.WideElems.rg Try.prog 3 rdU)).foldr DataW.insert [])) ↔ (f x).isSome = true:=by
  show x ∈ (((es.toList.map (Go.WideElems.rg Try.prog 3 rdU)).foldr DataW.insert []).map fun p=>Go.intOf p.1) ↔ _
  rw [List.mem_map]
  constructor
  · rintro ⟨p,hp,rfl⟩
    obtain ⟨e,he,rfl⟩:=List.mem_map.1 (mem_sorted.1 hp)
    obtain ⟨i,hi,h2,h3,h4⟩:=ents_int h hfin e he
    unfold Go.WideElems.rg
    rw [rd_ent hi h3 h4]
    exact h2
  · intro hx
    obtain ⟨b,hb⟩:=Option.isSome_iff_exists.1 hx
    obtain ⟨e,he,hk⟩:=h.mem x b hb
    have h3:=hfin x b hb
    refine ⟨Go.WideElems.rg Try.prog 3 rdU e,mem_sorted.2 (List.mem_map.2 ⟨e,he,rfl⟩),?_⟩
    unfold Go.WideElems.rg
    rw [rd_ent (i:=x) hk h3.1 h3.2]
    rfl
end
theorem sortedK_fn (m:Value) (f:Int → Option (List Int)) (σ:GW) (hlow:Low [41] σ) (v0:Value) (hv0:(Ty.keysit 137 109 m).has σ v0) (ho_m:OwnM Ty.ints kI σ 41 m f) (hfin:∀ p t,f p = some t → 0 ≤ p∧p < 12) :
    FnL Try.prog 113 #[v0] σ [41] (fun v τ=>∃ (K:List Int),∃ (x:Value),(Ty.has (Ty.val x) τ v)∧(OwnM Ty.ints kI τ 41 m f)∧(Own τ 42 3 1 x (List.length K) (List.map Ty.int K))∧(K.Nodup)∧(∀ p,p ∈ K ↔ (f p).isSome = true)):=by
  obtain ⟨Bm,rfl,hst,hcell⟩:=hv0
  have hom:=ho_m
  obtain ⟨r,es,clock,rfl,r2,r3,r4⟩:=ho_m
  have h12:=ents_size r4 hfin
  have hBm:=(Array.getElem?_eq_some_iff.1 hcell).1
  obtain ⟨D0,hD0⟩:∃ D0:DataW Unit,D0 = .map ((es.toList.map (Go.WideElems.rg Try.prog 3 rdU)).foldr DataW.insert []):=⟨_,rfl⟩
  have hown:σ.w.ownsMap Try.prog 3 rdU r es.size D0:=⟨es,clock,r3,ents_fit r4 hfin,Nat.le_refl _,hD0⟩
  have hsz:Go.Maps.size D0 = es.size:=by
    rw [hD0]
    show ((es.toList.map (Go.WideElems.rg Try.prog 3 rdU)).foldr DataW.insert []).length = es.size
    rw [(Go.WideShapes.sorted_perm (H:=Unit) (es.toList.map (Go.WideElems.rg Try.prog 3 rdU))).length_eq]
    simp
  have hseq:SeqGives Fence.wide 2 Try.prog 137 #[.pointer (some ⟨Bm,0,none⟩)] encZ (fun ss=>ss.Perm (intKeys D0)) (Go.Maps.size D0) σ.w :=
    AnyZI.keys_gives (ρ:=keysA_ren) { keysA with } Fence.wide 2 trivial rfl (by omega) Bm r es.size D0 σ.w hBm (by simp [World.cell?,hcell]) hown
  have cS:=AnyZI.sorted_in sortedA Fence.wide 5 trivial trivial trivial trivial rfl (by omega) (sortsA _) (enters_of Try.func93 (by kernel_rfl) rfl) 137 #[.pointer (some ⟨Bm,0,none⟩)] trivial (enters_of Try.func137 (by kernel_rfl) rfl) _ _ (by rw [hsz];simp only [maxLen];omega) (by rw [hsz];omega) _ hseq
  change CallsIn _ _ Try.prog 113 _ _ _ at cS
  refine Calls.mono ((callsIn_wide (n:=5)).1 cS) ?_
  rintro e w' ⟨v,ss,rfl,hS,hrow,hnil,hb⟩
  obtain ⟨K,hK⟩:∃ K,K = ss.mergeSort (fun x y=>decide (x ≤ y)):=⟨_,rfl⟩
  rw [← hK] at hrow
  have hperm:K.Perm (intKeys D0):=by rw [hK];exact (List.mergeSort_perm ss _).trans hS
  have hlen:K.length = ss.length:=by rw [hK];exact List.length_mergeSort ss
  have hge:∀ g,v.ownBlock = some g → σ.w.heap.size ≤ g∧g < w'.heap.size:=fun g hg=>hrow.lt g hg
  let τ:GW:=⟨w',fun b=>if b < σ.w.heap.size then σ.st b else if v.ownBlock = some b then 42 else 0,fun b hb2=>by
    by_cases h1:b < σ.w.heap.size
    · exact Nat.lt_of_lt_of_le h1 hb.size
    · simp only [h1,if_false] at hb2
      by_cases h2:v.ownBlock = some b
      · exact (hge b h2).2
      · simp only [h2,if_false] at hb2;omega⟩
  have hs:Stp 0 σ τ:=⟨hb.os,hb.tape,hb.output,.inr trivial,hb.size,fun b hb2 _=>hb.block b hb2,fun b hb2 _=>by show (if b < σ.w.heap.size then σ.st b else _) = σ.st b;rw [if_pos hb2]⟩
  refine ⟨v,τ,rfl,hs.toL0,rfl,K,v,rfl,hom.k0 hs,⟨K.map encZ,?_,by simp,fun j T u hj hu=>?_,fun g hg=>?_⟩,?_,fun p=>?_⟩
  · rw [hlen];exact ownsRow_base_a hrow (by omega)
  · rw [List.getElem?_map] at hj hu
    cases hkj:K[j]? with
    | none=>rw [hkj] at hj;cases hj
    | some x=>rw [hkj] at hj hu;cases hj;cases hu;rfl
  · show (if g < σ.w.heap.size then σ.st g else if v.ownBlock = some g then 42 else 0) = 42
    rw [if_neg (by have:=(hge g hg).1;omega),if_pos hg]
  · refine hperm.nodup_iff.2 ?_
    rw [hD0]
    show (((es.toList.map (Go.WideElems.rg Try.prog 3 rdU)).foldr DataW.insert []).map fun p=>Go.intOf p.1).Nodup
    refine (((Go.WideShapes.sorted_perm _).map _).nodup_iff).2 ?_
    rw [List.map_map]
    refine List.pairwise_map.2 (r4.uniq.imp_of_mem fun {a b} ha hb2 hne e=>hne ?_)
    obtain ⟨i,hi,_,a3,a4⟩:=ents_int r4 hfin a ha
    obtain ⟨j,hj,_,b3,b4⟩:=ents_int r4 hfin b hb2
    have e1:((fun p:Lit × DataW Unit=>Go.intOf p.1) ∘ Go.WideElems.rg Try.prog 3 rdU) a = i:=by
      simp only [Function.comp];unfold Go.WideElems.rg;rw [rd_ent hi a3 a4];rfl
    have e2:((fun p:Lit × DataW Unit=>Go.intOf p.1) ∘ Go.WideElems.rg Try.prog 3 rdU) b = j:=by
      simp only [Function.comp];unfold Go.WideElems.rg;rw [rd_ent hj b3 b4];rfl
    rw [e1,e2] at e
    rw [hi,hj,e]
  · rw [hperm.mem_iff,hD0]
    exact ents_keys r4 hfin p
end Go.Proofs.Ytkjifbgofckfeaa
