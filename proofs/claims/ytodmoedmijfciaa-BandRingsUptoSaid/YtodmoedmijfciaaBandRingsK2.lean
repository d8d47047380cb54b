/- What the proof of the law BandRings stands on, part 2. -/
import Derived.Test.YtodmoedmijfciaaBandRingsK1
import Derived.Lib.Bytealg
import Derived.Scope
import Derived.Lib.Builder
import Derived.Lib.UnsafeStr
import Derived.Lib.SliceRun
import Derived.Lib.DecodeN
import Derived.Conc.Beside
import Derived.Conc.CrowdSel
import Derived.Conc.WgGenN3
import Derived.Conc.TokenWalk
import Derived.Conc.CrowdRun
namespace Go.KL
open Go.RowKit
variable {P:Program} {J:JdOf P}
structure StpL (L:List Nat) (σ τ:GW):Prop where
  os:τ.w.os = σ.w.os
  tape:() = ()
  output:gho (999 ∈ L) τ.w.output = gho (999 ∈ L) σ.w.output
  dr:Dr σ.w.drawn τ.w.drawn
  size:σ.w.heap.size ≤ τ.w.heap.size
  blk:∀ b,b < σ.w.heap.size → σ.st b ∉ L → τ.w.heap[b]? = σ.w.heap[b]?
  st:∀ b,b < σ.w.heap.size → σ.st b ∉ L → τ.st b = σ.st b
theorem StpL.refl (L:List Nat) (σ:GW):StpL L σ σ:=⟨rfl,rfl,rfl,Dr.refl _,Nat.le_refl _,fun _ _ _=>rfl,fun _ _ _=>rfl⟩
theorem StpL.trans {L:List Nat} {σ τ ρ:GW} (h:StpL L σ τ) (k:StpL L τ ρ):StpL L σ ρ :=
  ⟨k.os.trans h.os,k.tape.trans h.tape,k.output.trans h.output,h.dr.trans k.dr,Nat.le_trans h.size k.size,
   fun b hb hm=>(k.blk b (Nat.lt_of_lt_of_le hb h.size) (by rw [h.st b hb hm];exact hm)).trans (h.blk b hb hm),
   fun b hb hm=>(k.st b (Nat.lt_of_lt_of_le hb h.size) (by rw [h.st b hb hm];exact hm)).trans (h.st b hb hm)⟩
theorem Stp.toL0 {L:List Nat} {σ τ:GW} (h:Stp 0 σ τ):StpL L σ τ :=
  ⟨h.os,h.tape,gho_to h.output (fun e=>absurd e (by decide)),h.dr,h.size,fun b hb _=>h.blk b hb (.inl rfl),fun b hb _=>h.st b hb (.inl rfl)⟩
theorem Stp.toL {m:Nat} {L:List Nat} {σ τ:GW} (h:Stp m σ τ) (hm:m ∈ L):StpL L σ τ :=
  ⟨h.os,h.tape,gho_to h.output (fun e=>e ▸ hm),h.dr,h.size,fun b hb hn=>h.blk b hb (.inr fun e=>hn (e ▸ hm)),fun b hb hn=>h.st b hb (.inr fun e=>hn (e ▸ hm))⟩
theorem StpL.le {L:List Nat} {σ τ:GW} (h:StpL L σ τ) (hL:1 ∉ L):σ.Le τ :=
  ⟨fun b hb=>(h.st b (σ.lt b (by omega)) (by rw [hb];exact hL)).trans hb,fun b hb=>h.blk b (σ.lt b (by omega)) (by rw [hb];exact hL)⟩
theorem Own.keepL {L:List Nat} {k:Nat} {σ τ:GW} {e:TypeId} {c:Nat} {v:Value} {n:Nat} {ts:List Ty} (h:Own σ k e c v n ts) (hs:StpL L σ τ) (h1:1 ∉ L) (hk:k ∉ L):Own τ k e c v n ts:=by
  obtain ⟨us,r1,r2,r3,r4⟩:=h
  have hlt:∀ g,v.ownBlock = some g → g < σ.w.heap.size:=fun g hg=>(r1.lt g hg).2
  have hq:∀ g,v.ownBlock = some g → σ.st g ∉ L:=fun g hg=>by rw [r4 g hg];exact hk
  exact ⟨us,ownsRow_same r1 (fun g hg=>hs.blk g (hlt g hg) (hq g hg)),r2,fun j T u hj hu=>T.up (hs.le h1) (r3 j T u hj hu),fun g hg=>(hs.st g (hlt g hg) (hq g hg)).trans (r4 g hg)⟩
theorem OwnP.keepL {L:List Nat} {k:Nat} {σ τ:GW} {v:Value} {ts:List Ty} (h:OwnP σ k v ts) (hs:StpL L σ τ) (h1:1 ∉ L) (hk:k ∉ L):OwnP τ k v ts:=by
  obtain ⟨g,e,cur,rfl,r2,r3,r4,r5⟩:=h
  have hg:=(Array.getElem?_eq_some_iff.1 r3).1
  have hq:σ.st g ∉ L:=by rw [r2];exact hk
  exact ⟨g,e,cur,rfl,(hs.st g hg hq).trans r2,(hs.blk g hg hq).trans r3,r4,fun j T u hj hu=>T.up (hs.le h1) (r5 j T u hj hu)⟩
structure Ren (k k':Nat) (σ τ:GW):Prop where
  w:τ.w = σ.w
  le:σ.Le τ
  st:∀ b,σ.st b = k → τ.st b = k'
theorem Own.ren {k k':Nat} {σ τ:GW} {e:TypeId} {c:Nat} {v:Value} {n:Nat} {ts:List Ty} (h:Own σ k e c v n ts) (r:Ren k k' σ τ):Own τ k' e c v n ts:=by
  obtain ⟨us,r1,r2,r3,r4⟩:=h
  exact ⟨us,by rw [r.w];exact r1,r2,fun j T u hj hu=>T.up r.le (r3 j T u hj hu),fun g hg=>r.st g (r4 g hg)⟩
structure FromL (L:List Nat) (σ τ:GW):Prop where
  stp:StpL L σ τ
  low:∀ b,σ.st b ∉ L → σ.st b ≤ 1
theorem FromL.stepL {L M:List Nat} {σ τ ρ:GW} (h:FromL L σ τ) (k:StpL M τ ρ) (hM:∀ m ∈ M,2 ≤ m) (h9:999 ∈ M → 999 ∈ L:=by decide):FromL L σ ρ:=by
  have hx:∀ b,b < σ.w.heap.size → σ.st b ∉ L → τ.st b ∉ M:=fun b hb hn hm=>by
    have h1:=hM _ hm
    rw [h.stp.st b hb hn] at h1
    have:=h.low b hn
    omega
  refine ⟨⟨k.os.trans h.stp.os,k.tape.trans h.stp.tape,(gho_to k.output h9).trans h.stp.output,h.stp.dr.trans k.dr,Nat.le_trans h.stp.size k.size,fun b hb hn=>?_,fun b hb hn=>?_⟩,h.low⟩
  · exact (k.blk b (Nat.lt_of_lt_of_le hb h.stp.size) (hx b hb hn)).trans (h.stp.blk b hb hn)
  · exact (k.st b (Nat.lt_of_lt_of_le hb h.stp.size) (hx b hb hn)).trans (h.stp.st b hb hn)
theorem FromL.step0 {L:List Nat} {σ τ ρ:GW} (h:FromL L σ τ) (k:Stp 0 τ ρ):FromL L σ ρ:=h.stepL (M:=[]) k.toL0 (by simp) (by simp)
theorem FromL.step {L:List Nat} {m:Nat} {σ τ ρ:GW} (h:FromL L σ τ) (k:Stp m τ ρ) (hm:2 ≤ m) (h9:m = 999 → 999 ∈ L:=by decide):FromL L σ ρ:=h.stepL (M:=[m]) (k.toL (by simp)) (by simpa using hm) (by simpa [eq_comm] using h9)
def FnL (J:JdOf P) (f:FuncId) (args:Array Value) (σ:GW) (L:List Nat) (R:Value → GW → Prop):Prop :=
  XCalls J f args σ.w fun e w'=>∃ v τ,τ.w = w'∧StpL L σ τ∧e = .returned v∧R v τ
def Low (L:List Nat) (σ:GW):Prop:=∀ b,σ.st b ∉ L → σ.st b ≤ 1
def RetL (σ:GW) (L:List Nat) (R:Value → GW → Prop) (e:Ending) (w':World):Prop:=∃ v τ,τ.w = w'∧FromL L σ τ∧e = .returned v∧R v τ
theorem fn_introL {f:FuncId} {fn:Func} {c:Code} {N:Nat} {args:Array Value} {σ:GW} {L:List Nat} {R:Value → GW → Prop} (hσ:Low L σ) (hf:P.funcs[f]? = some fn) (hb:fn.body = some c) (hn:fn.ntmps = N) (ha:args.size ≤ N)
    (h:∀ a,FromL L σ σ → Ok N [] a → (∀ i v,args.toList[i]? = some v → a.eval (.tmp i) = v) → Code.xwp J c (Ql P fn (RetL σ L R)) a σ.w) (hnr:fn.norace = false:=by rfl):FnL J f args σ L R:=by
  refine XCalls.mono (xcalls_of_wp hf hb (h _ ⟨StpL.refl _ _,hσ⟩ ⟨by simp;omega,rfl⟩ fun i v hi=>?_) hnr) ?_
  · have hi':args[i]? = some v:=by simpa using hi
    have hlt:i < args.size:=(Array.getElem?_eq_some_iff.1 hi').1
    simp [Act.eval,Array.getD_eq_getD_getElem?,Array.getElem?_append,hlt]
    simpa [hlt] using hi'
  · rintro e w' ⟨v,τ,rfl,hF,rfl,hv⟩
    exact ⟨v,τ,rfl,hF.stp,rfl,hv⟩
theorem FnL.toC {f:FuncId} {args:Array Value} {σ:GW} {R:Ty} (h:FnL J f args σ.hush [] (fun v τ=>R.has τ v)):FnC J f args σ R:=by
  refine XCalls.mono (show XCalls J f args σ.w _ from h) ?_
  rintro e w' ⟨v,τ,rfl,hs,rfl,hv⟩
  have hF:From σ.hush τ:=⟨hs.os,hs.tape,gho_no hs.output (by simp),hs.dr,hs.size,fun b hb=>hs.blk b hb (by simp),fun b hb=>by
    have:=hs.st b hb (by simp)
    refine ⟨this,?_⟩
    rw [this];simp only [GW.hush];split <;> omega⟩
  exact ⟨v,σ.back τ hF,rfl,σ.back_stp τ hF,rfl,R.up (σ.back_le τ hF) hv⟩
theorem Low.hush (σ:GW):Low [] σ.hush:=fun b _=>by simp only [GW.hush];split <;> omega
theorem JT {f:FuncId} {fn:Func} {c:Code} {N:Nat} {args:Array Value} {σ:GW} {R:Ty} (hf:P.funcs[f]? = some fn) (hb:fn.body = some c) (hn:fn.ntmps = N) (ha:args.size ≤ N)
    (h:∀ σ0 a,σ.Le σ0 → FromL [] σ0 σ0 → Ok N [] a → (∀ i v,args.toList[i]? = some v → a.eval (.tmp i) = v) → Code.xwp J c (Ql P fn (RetL σ0 [] (fun v τ=>R.has τ v))) a σ0.w) (hnr:fn.norace = false:=by rfl):FnC J f args σ R :=
  (fn_introL (Low.hush σ) hf hb hn ha (fun a=>h σ.hush a σ.le_hush) hnr).toC
def renTag (l:List (Nat × Nat)) (k:Nat):Nat:=match l.lookup k with | some k'=>k' | none=>0
theorem renTag_mem {l:List (Nat × Nat)} {k:Nat} (h:renTag l k ≠ 0):(k,renTag l k) ∈ l:=by
  unfold renTag at h ⊢
  cases e:l.lookup k with
  | none=>simp [e] at h
  | some k' =>
    simp only
    rw [List.lookup_eq_some_iff] at e
    obtain ⟨l1,l2,rfl,_⟩:=e
    simp
def GW.lend (σ:GW) (l:List (Nat × Nat)):GW:=⟨σ.w,fun b=>if σ.st b = 1 then 1 else if σ.st b = 0 then 0 else renTag l (σ.st b),fun b h=>σ.lt b (by intro e;simp [e] at h)⟩
theorem GW.le_lend (σ:GW) (l:List (Nat × Nat)):σ.Le (σ.lend l):=⟨fun b h=>by simp [GW.lend,h],fun _ _=>rfl⟩
theorem GW.ren_lend (σ:GW) (l:List (Nat × Nat)) {k k':Nat} (hk:2 ≤ k) (h:l.lookup k = some k'):Ren k k' σ (σ.lend l) :=
  ⟨rfl,σ.le_lend l,fun b hb=>by simp only [GW.lend];rw [hb,if_neg (by omega),if_neg (by omega),renTag,h]⟩
theorem GW.low_lend (σ:GW) {l:List (Nat × Nat)} {L:List Nat} (h:∀ x ∈ l,x.2 ∈ L):Low L (σ.lend l):=by
  intro b hb
  simp only [GW.lend] at hb ⊢
  split
  · omega
  · rename_i h1
    rw [if_neg h1] at hb
    split
    · omega
    · rename_i h0
      rw [if_neg h0] at hb
      by_cases h2:renTag l (σ.st b) = 0
      · omega
      · exact absurd (h _ (renTag_mem h2)) hb
def GW.took (σ:GW) (l n:List (Nat × Nat)) (τ:GW) (hsz:σ.w.heap.size ≤ τ.w.heap.size):GW :=
  ⟨τ.w,fun b=>if b < σ.w.heap.size∧(l.lookup (σ.st b)).isNone then σ.st b else if τ.st b = 1 then 1 else if τ.st b = 0 then 0 else renTag n (τ.st b),fun b h=>by
    by_cases hb:b < σ.w.heap.size
    · omega
    · simp only [hb,false_and,if_false] at h
      refine τ.lt b ?_
      intro e;simp [e] at h⟩
structure Back (n:List (Nat × Nat)) (τ τ':GW):Prop where
  w:τ'.w = τ.w
  le:τ.Le τ'
  st:∀ k k',2 ≤ k → n.lookup k = some k' → ∀ b,τ.st b = k → τ'.st b = k'
theorem Back.ren {n:List (Nat × Nat)} {τ τ':GW} (h:Back n τ τ') {k k':Nat} (hk:2 ≤ k) (e:n.lookup k = some k'):Ren k k' τ τ':=⟨h.w,h.le,h.st k k' hk e⟩
theorem took_spec {σ τ:GW} {l n:List (Nat × Nat)} {L:List Nat} (hL:∀ x ∈ l,x.2 ∈ L) (h2:∀ x ∈ l,2 ≤ x.1∧2 ≤ x.2) (hl:∀ x ∈ L,2 ≤ x) (hs:StpL L (σ.lend l) τ) (h9:999 ∈ L → 999 ∈ l.map (·.1)) :
    StpL (l.map (·.1)) σ (σ.took l n τ hs.size)∧Back n τ (σ.took l n τ hs.size):=by
  have old:∀ b,b < σ.w.heap.size → (l.lookup (σ.st b)).isNone → τ.w.heap[b]? = σ.w.heap[b]?∧τ.st b = (if σ.st b = 1 then 1 else 0):=by
    intro b hb hn
    have h0:renTag l (σ.st b) = 0:=by
      unfold renTag
      cases e:l.lookup (σ.st b) with
      | none=>rfl
      | some x=>simp [e] at hn
    have hst:(σ.lend l).st b = if σ.st b = 1 then 1 else 0:=by simp only [GW.lend,h0];simp
    have hn':(σ.lend l).st b ∉ L:=by
      rw [hst];intro hm
      have:=hl _ hm
      split at this <;> omega
    exact ⟨hs.blk b hb hn',(hs.st b hb hn').trans hst⟩
  have mem_none:∀ b,σ.st b ∉ l.map (·.1) → (l.lookup (σ.st b)).isNone:=by
    intro b hb
    cases e:l.lookup (σ.st b) with
    | none=>rfl
    | some k =>
      exfalso
      rw [List.lookup_eq_some_iff] at e
      obtain ⟨l1,l2,e,_⟩:=e
      exact hb (List.mem_map.2 ⟨(σ.st b,k),by rw [e];simp,rfl⟩)
  refine ⟨⟨hs.os,hs.tape,gho_to hs.output h9,hs.dr,hs.size,fun b hb hm=>(old b hb (mem_none b hm)).1,fun b hb hm=>?_⟩,rfl,⟨fun b hb=>?_,fun _ _=>rfl⟩,fun k k' hk e b hb=>?_⟩
  · show (if _ then _ else _) = _
    rw [if_pos ⟨hb,mem_none b hm⟩]
  · show (if _ then _ else _) = _
    split
    · rename_i hc
      have:=(old b hc.1 hc.2).2
      rw [hb] at this
      split at this
      · assumption
      · cases this
    · simp [hb]
  · show (if _ then _ else _) = _
    split
    · rename_i hc
      have:=(old b hc.1 hc.2).2
      split at this <;> omega
    · rw [hb,if_neg (by omega),if_neg (by omega),renTag,e]
def YldL (L:List Nat) (J:JdOf P) (o:Oper) (a:Act) (σ:GW) (R:Value → GW → Prop):Prop :=
  ∀ (K:Act → World → Prop) (Q:Exit → Act → World → Prop),(∀ v τ,StpL L σ τ → R v τ → K (a.put o.dst v) τ.w) → Oper.xwp J o a σ.w K
theorem YldM.toL {m:Nat} {o:Oper} {a:Act} {σ:GW} {R:Value → GW → Prop} (h:YldM m J o a σ R):YldL [m] J o a σ R:=fun K Q hk=>h K Q fun v τ hs hr=>hk v τ (hs.toL (by simp)) hr
theorem Yld.toL {o:Oper} {a:Act} {σ:GW} {R:Pr} (h:Yld J o a σ R):YldL [] J o a σ (fun v τ=>R.has τ v):=fun K Q hk=>h K Q fun v τ hs hr=>hk v τ hs.toL0 hr
theorem tailL {L:List Nat} {N d:Nat} {D:List Deferred} {ops:Array Oper} {Q:Exit → Act → World → Prop} {o:Oper} {rest:List Oper} {a:Act} {σ:GW} {R:Value → GW → Prop} (hg:o.guard = none) (hd:o.dst = some d) (hN:d < N) (ok:Ok N D a) (hy:YldL L J o a σ R)
    (k:∀ a' τ,StpL L σ τ → Ok N D a' → R (a'.eval (.tmp d)) τ → (∀ t,t ≠ d → a'.eval (.tmp t) = a.eval (.tmp t)) → Kq J ops Q rest a' τ.w) (hR:∀ v τ τ',Stp 0 τ τ' → R v τ → R v τ':=by first | exact fun _ _ _ hs h=>Go.KL.Pr.up _ hs h | exact fun _ _ _ hs h=>Go.KL.Own.keep h hs (by decide) (.inl rfl) | exact fun _ _ _ hs h=>Go.KL.OwnP.keep h hs (by decide) (.inl rfl) | exact fun _ _ _ hs h=>⟨Go.KL.Ty.up _ hs.le0 h.1,Go.KL.Iter.keep h.2 hs (by decide) (.inl rfl)⟩ | exact Go.KL.Qu (fun _ _ _ hs h=>Go.KL.Pr.up _ hs h) | exact Go.KL.Qu (fun _ _ _ hs ⟨z,h1,h2⟩=>⟨z,Go.KL.Ty.up _ hs.le0 h1,Go.KL.Own.keep h2 hs (by decide) (.inl rfl)⟩)):Kq J ops Q (o :: rest) a σ.w:=by
  refine xwpList_plain hg fun K hK=>hy K Q fun v τ hs hr=>hK _ _ fun v' hv=>?_
  rw [hd]
  exact k _ (τ.ext v' hv) (hs.trans (Stp.ext τ hv).toL0) (ok.put _ _) (by rw [Kx ok hN];exact hR _ _ _ (Stp.ext τ hv) hr) fun t ht=>Kz (by simpa using Ne.symm ht) v
theorem Xh {L:List Nat} {ops:Array Oper} {Q:Exit → Act → World → Prop} {o:Oper} {rest:List Oper} {a:Act} {σ:GW} {R:Value → GW → Prop} (hg:o.guard = none) (hd:o.dst = none) (hy:YldL L J o a σ R)
    (k:∀ v τ,StpL L σ τ → R v τ → Kq J ops Q rest a τ.w) (hR:∀ v τ τ',Stp 0 τ τ' → R v τ → R v τ':=by first | exact fun _ _ _ hs h=>Go.KL.Pr.up _ hs h | exact fun _ _ _ hs h=>Go.KL.Own.keep h hs (by decide) (.inl rfl) | exact fun _ _ _ hs h=>Go.KL.OwnP.keep h hs (by decide) (.inl rfl) | exact fun _ _ _ hs h=>⟨Go.KL.Ty.up _ hs.le0 h.1,Go.KL.Iter.keep h.2 hs (by decide) (.inl rfl)⟩ | exact Go.KL.Qu (fun _ _ _ hs h=>Go.KL.Pr.up _ hs h) | exact Go.KL.Qu (fun _ _ _ hs ⟨z,h1,h2⟩=>⟨z,Go.KL.Ty.up _ hs.le0 h1,Go.KL.Own.keep h2 hs (by decide) (.inl rfl)⟩)):Kq J ops Q (o :: rest) a σ.w:=by
  refine xwpList_plain hg fun K hK=>hy K Q fun v τ hs hr=>hK _ _ fun v' hv=>?_
  rw [hd]
  exact k v (τ.ext v' hv) (hs.trans (Stp.ext τ hv).toL0) (hR _ _ _ (Stp.ext τ hv) hr)
theorem Qu {n:List (Nat × Nat)} {R:Value → GW → Prop} (hR:∀ v τ τ',Stp 0 τ τ' → R v τ → R v τ'):∀ (v:Value) (τ' ρ:GW),Stp 0 τ' ρ → (∃ τ,R v τ∧Back n τ τ') → ∃ τ,R v τ∧Back n τ ρ:=by
  rintro v τ' ρ hs ⟨τ,hr,hb⟩
  have hw:Ext τ.w ρ.w:=by rw [← hb.w];exact Stp.toExt (m:=0) hs
  refine ⟨τ.ext ρ.w hw,hR v τ _ (Stp.ext τ hw) hr,rfl,⟨fun b h=>?_,fun _ _=>rfl⟩,fun k k' hk e b h=>?_⟩
  · have h1:(τ.ext ρ.w hw).st b = 1:=h
    simp only [GW.ext] at h1
    split at h1
    · rename_i hlt
      rw [hs.st b (by rw [hb.w];exact hlt) (.inl rfl)];exact hb.le.st b h1
    · cases h1
  · have h1:(τ.ext ρ.w hw).st b = k:=h
    simp only [GW.ext] at h1
    split at h1
    · rename_i hlt
      rw [hs.st b (by rw [hb.w];exact hlt) (.inl rfl)];exact hb.st k k' hk e b h1
    · omega
variable {d:Option Tmp} {ty:TypeId} {pos:String} {af:Array Edge} {g:Option (Nat × Bool)} {a:Act} {σ:GW}
theorem y_callL {f:FuncId} {fn:Func} {xs:Array Operand} {tys:Array TypeId} {R:Value → GW → Prop} {L:List Nat} (l n:List (Nat × Nat)) (args:Array Value) (hL:l.map (·.2) = L) (h2:∀ x ∈ l,2 ≤ x.1∧2 ≤ x.2)
    (hf : P.funcs[f]? = some fn) (hn : (fn.name == "runtime.NumGoroutine") = false) (hb : fn.body.isNone = false) (hargs : xs.map a.eval = args) (hc : FnL J f args (σ.lend l) L R) (h9 : 999 ∈ l.map (·.2) → 999 ∈ l.map (·.1) := by decide) :
    YldL (l.map (·.1)) J ⟨d,.call ⟨.value (.func f),xs,tys⟩,ty,pos,af,g⟩ a σ (fun v τ'=>∃ τ,R v τ∧Back n τ τ'):=by
  intro K Q hk
  refine xwp_call (f:=f) (args:=args) ⟨_,_,_,#[],#[],fn,rfl,rfl,by simp [hargs],hf,hn,hb⟩ ?_
  refine XCalls.mono (show XCalls J f args σ.w _ from hc) ?_
  rintro e w' ⟨v,τ,rfl,hs,rfl,hv⟩
  obtain ⟨h1,h3⟩:=took_spec (n:=n) (fun x hx=>by rw [← hL];exact List.mem_map.2 ⟨x,hx,rfl⟩) h2 (fun x hx=>by
    rw [← hL] at hx
    obtain ⟨y,hy,rfl⟩:=List.mem_map.1 hx
    exact (h2 y hy).2) hs (fun h=>h9 (by rw [hL];exact h))
  exact hk v (σ.took l n τ hs.size) h1 ⟨τ,hv,h3⟩
theorem ownp_cell {k:Nat} {v:Value} {ts:List Ty} {T:Ty} (j:Nat) (U:Ty) (h:OwnP σ k v ts) (e:ts[j]? = some T) (hTU:∀ σ u,T.has σ u → U.has σ u):OwnP σ k v (ts.set j U):=by
  obtain ⟨gg,e',cur,rfl,h2,h3,h4,h5⟩:=h
  refine ⟨gg,e',cur,rfl,h2,h3,by simpa using h4,fun i V u hV hu=>?_⟩
  by_cases hij:i = j
  · subst hij
    rw [List.getElem?_set_self (by exact (List.getElem?_eq_some_iff.1 e).1)] at hV
    cases hV
    exact hTU _ _ (h5 i T u e hu)
  · rw [List.getElem?_set_ne (Ne.symm hij)] at hV
    exact h5 i V u hV hu
end Go.KL
namespace Go.KL
open Go.RowKit
variable {P:Program} {J:JdOf P} {α β:Type}
variable {d:Option Tmp} {ty:TypeId} {pos:String} {af:Array Edge} {g:Option (Nat × Bool)} {a:Act} {σ:GW}
variable {F:β → Ty} {kv:α → Value} {kt et t:TypeId} {dd:TypeDesc}
end Go.KL
namespace Go.KL
open Go.RowKit
variable {P:Program} {J:JdOf P}
theorem Own.k0 {k:Nat} {σ τ:GW} {e:TypeId} {c:Nat} {v:Value} {n:Nat} {ts:List Ty} (h:Own σ k e c v n ts) (hs:Stp 0 σ τ):Own τ k e c v n ts:=h.keepL (L:=[]) hs.toL0 (by simp) (by simp)
theorem OwnP.k0 {k:Nat} {σ τ:GW} {v:Value} {ts:List Ty} (h:OwnP σ k v ts) (hs:Stp 0 σ τ):OwnP τ k v ts:=h.keepL (L:=[]) hs.toL0 (by simp) (by simp)
theorem al2 {R:Pr} {σ:GW} {u v:Value} (e:u = v) (h:R.has σ u):R.has σ v:=e ▸ h
theorem kpL {L:List Nat} {T:Ty} {σ σ':GW} {a a':Act} {x:Operand} (hs:StpL L σ σ') (hL:1 ∉ L) (e:a'.eval x = a.eval x) (h:T.has σ (a.eval x)):T.has σ' (a'.eval x):=by rw [e];exact T.up (hs.le hL) h
variable {fn:Func} {σ0 σ:GW} {a:Act} {N d e f:Nat} {D:List Deferred} {L:List Nat} {R:Value → GW → Prop}
theorem retL0 (hr:fn.results = #[]) (ok:Ok N [] a) (hF:FromL L σ0 σ) (h:R (.tuple #[]) σ):Ql P fn (RetL σ0 L R) .ret a σ.w :=
  xbodyPost_ret (xres0 hr _) ok.defers ⟨_,σ,rfl,hF,rfl,h⟩
theorem JJ (hr:fn.results = #[.tmp d]) (ok:Ok N [] a) (hF:FromL L σ0 σ) (h:R (a.eval (.tmp d)) σ):Ql P fn (RetL σ0 L R) .ret a σ.w :=
  xbodyPost_ret (xres1 hr _) ok.defers ⟨_,σ,rfl,hF,rfl,h⟩
theorem retL2 (hr:fn.results = #[.tmp d,.tmp e]) (ok:Ok N [] a) (hF:FromL L σ0 σ) (h:R (.tuple #[a.eval (.tmp d),a.eval (.tmp e)]) σ):Ql P fn (RetL σ0 L R) .ret a σ.w :=
  xbodyPost_ret (xres2 hr _) ok.defers ⟨_,σ,rfl,hF,rfl,h⟩
theorem nL0 (hr:fn.results = #[]) (ok:Ok N [] a) (hF:FromL L σ0 σ) (h:R (.tuple #[]) σ):Ql P fn (RetL σ0 L R) .normal a σ.w:=by
  have:=retL0 (P:=P) hr ok hF h
  exact this
theorem hasT2 {T U:Ty} {x y:Value} (h:T.has σ x) (k:U.has σ y):(Ty.tup2 T U).has σ (.tuple #[x,y]):=⟨x,y,rfl,h,k⟩
variable {dd:Option Tmp} {ty:TypeId} {pos:String} {af:Array Edge} {g:Option (Nat × Bool)}
theorem Own.cut {k:Nat} {e:TypeId} {c n:Nat} {v:Value} {ts:List Ty} (h:Own σ k e c v n ts) {m:Nat} (hm:m ≤ n):∃ ad cap,v = .slice ad n cap∧n ≤ cap∧Own σ k e c (.slice ad m cap) m (ts.take (m * c)):=by
  obtain ⟨us,r1,r2,r3,r4⟩:=h
  rcases r1.2 with ⟨rfl,rfl⟩ | ⟨g,cap,cur,rfl,hb,hg,hn,hm',hcs,htk⟩
  · obtain rfl:m = 0:=by omega
    have hts:ts = []:=List.eq_nil_of_length_eq_zero (by rw [← r2,r1.1];simp)
    subst hts
    exact ⟨none,0,rfl,Nat.le_refl _,by simpa using Own.nil σ k e c⟩
  · refine ⟨some ⟨g,0,none⟩,cap,rfl,hn,?_⟩
    refine Own.intro (us:=us.take (m * c)) hg (r4 g rfl) (by omega) hm' hcs ?_ (by simp [r2]) ?_
    · rw [← htk,List.take_take,Nat.min_eq_left (Nat.mul_le_mul_right _ hm)]
    · intro j T u hT hu
      rw [List.getElem?_take] at hT hu
      split at hT
      · rw [if_pos (by assumption)] at hu
        exact r3 j T u hT hu
      · cases hT
theorem y_otake {k:Nat} {x y:Operand} {c n:Nat} {ts:List Ty} {t e e':TypeId} {z v:Value} {b:Nat} {ki:IntKind} {h:Nat} (ht:P.underlying t = some (.slice e')) (he:Info P e' z c b) (ho:Own σ k e c v n ts) (hx:a.eval x = v) (hy:a.eval y = .int ki h) (hl:h ≤ n) :
    Yld J ⟨dd,.slice t x none (some y) none,ty,pos,af,g⟩ a σ (Pr.own k e c h (ts.take (h * c))):=by
  obtain ⟨ad,cap,rfl,hn,hO⟩:=ho.cut hl
  have hcap:cap ≤ 9223372036854775807:=by
    obtain ⟨us,r1,_⟩:=ho
    rcases r1.2 with ⟨e1,_⟩ | ⟨g,cap',cur,e1,_,_,_,hm',_⟩
    · cases e1;omega
    · cases e1;exact hm'
  refine Yld.of_run (v:=sliced ad 0 h cap c) ?_ ?_
  · have h1:=run_slice_h (P:=P) σ.w t ad n cap (elem_of ht) ki (h:Int) (by omega) (by omega)
    rw [elem_eq ht,he.size] at h1
    simp only [execOp,hx,hy,Option.map_some,Option.map_none,Sem.run_bind,run_sliceAt_slice σ.w t _ _ _ _ (elem_of ht),h1,Result.andThen_ok,Sem.run_pure,Int.toNat_natCast]
  · show Own σ k e c (sliced ad 0 h cap c) h _
    have:sliced ad 0 h cap c = .slice ad h cap:=by
      unfold sliced
      cases ad with
      | none=>simp
      | some ad=>simp [Addr.add_zero']
    rw [this];exact hO
theorem own_lst_take {α:Type} {f:α → Ty} {xs:List α} {k:Nat} {e:TypeId} {v:Value} {h:Nat} (hl:h ≤ xs.length) (ho:Own σ k e 1 v h ((xs.map f).take (h * 1))):Own σ k e 1 v (xs.take h).length ((xs.take h).map f):=by
  rw [Nat.mul_one,← List.map_take] at ho
  rwa [show (xs.take h).length = h by simp [Nat.min_eq_left hl]]
end Go.KL
namespace Go.KL
variable {P:Program} {J:JdOf P}
theorem nil_sl {σ:GW} {v:Value} (h:(Ty.val (.slice none 0 0)).has σ v):(Ty.sl 1 0 []).has σ v:=by
  have e:v = .slice none 0 0:=h
  rw [e];exact sl_nil
theorem ptr0 {σ:GW} {k:Nat} {u v:Value} {ts:List Ty} (h:OwnP σ k v ts) (e:u = v):u = JZ v 0:=by
  obtain ⟨g,e',cur,rfl,_⟩:=h
  exact e
theorem Own.one {σ:GW} {k:Nat} {e:TypeId} {c n:Nat} {v:Value} {ts:List Ty} (h:Own σ k e c v n ts):v.oneCell' = true:=by
  obtain ⟨us,r1,_⟩:=h
  rcases r1.2 with ⟨rfl,_⟩ | ⟨g,cap,cur,rfl,_⟩ <;> rfl
theorem OwnP.one {σ:GW} {k:Nat} {v:Value} {ts:List Ty} (h:OwnP σ k v ts):v.oneCell' = true:=by
  obtain ⟨g,e',cur,rfl,_⟩:=h;rfl
theorem ownp_cellq {σ:GW} {k:Nat} {v x:Value} {ts:List Ty} (j:Nat) (U:Ty) (h:OwnP σ k v ts) (e:ts[j]? = some (Ty.val x)) (hx:U.has σ x):OwnP σ k v (ts.set j U):=by
  obtain ⟨gg,e',cur,rfl,h2,h3,h4,h5⟩:=h
  refine ⟨gg,e',cur,rfl,h2,h3,by simpa using h4,fun i V u hV hu=>?_⟩
  by_cases hij:i = j
  · subst hij
    rw [List.getElem?_set_self (by exact (List.getElem?_eq_some_iff.1 e).1)] at hV
    cases hV
    have hu':u = x:=h5 i _ u e hu
    rw [hu'];exact hx
  · rw [List.getElem?_set_ne (Ne.symm hij)] at hV
    exact h5 i V u hV hu
end Go.KL
namespace Go.KL
variable {P:Program} {J:JdOf P}
def Typed (σ:GW) (cs:Array Value) (ts:List Ty):Prop:=cs.size = ts.length∧∀ (j:Nat) (T:Ty) (u:Value),ts[j]? = some T → cs[j]? = some u → T.has σ u
def bldT (l:List (Nat × Nat)):List (Nat × Operand × Ty) → List Ty → List Ty
  | [],ts=>ts
  | p :: ps,ts=>bldT l ps (match l[p.1]? with | some (off,_)=>ts.set off p.2.2 | none=>ts)
def bldOk (l:List (Nat × Nat)) (n:Nat) (is:List Nat):Bool:=is.all fun i=>match l[i]? with | some (off,1)=>decide (off < n) | _=>false
theorem Typed.set {σ:GW} {cs:Array Value} {ts:List Ty} (h:Typed σ cs ts) {off:Nat} {v:Value} {T:Ty} (hv:T.has σ v):Typed σ (cs.setIfInBounds off v) (ts.set off T):=by
  refine ⟨by simp [h.1],fun j U u hU hu=>?_⟩
  by_cases hj:j = off
  · subst hj
    have hlt:j < cs.size:=by have:=(Array.getElem?_eq_some_iff.1 hu).1;simpa using this
    rw [List.getElem?_set_self (by rw [← h.1];exact hlt)] at hU
    rw [Array.getElem?_setIfInBounds_self_of_lt hlt] at hu
    cases hU;cases hu;exact hv
  · rw [List.getElem?_set_ne (Ne.symm hj)] at hU
    rw [Array.getElem?_setIfInBounds_ne (Ne.symm hj)] at hu
    exact h.2 j U u hU hu
theorem fill_typed {σ:GW} {a:Act} {l:List (Nat × Nat)} {n:Nat}:∀ (ps:List (Nat × Operand × Ty)) (cur:Array Value) (ts:List Ty),cur.size = n → Typed σ cur ts → (∀ p ∈ ps,One p.2.2∧At p.2.2 σ a p.2.1) → bldOk l n (ps.map (·.1)) = true →
    ∃ cells,Instr.fill (fun i=>l[i]?) cur (ps.map fun p=>(p.1,a.eval p.2.1)) = some cells∧Typed σ cells (bldT l ps ts)
  | [],cur,ts,_,h,_,_=>⟨cur,rfl,h⟩
  | p :: ps,cur,ts,hn,h,hp,hb=>by
    obtain ⟨h1,h2⟩:=hp p (by simp)
    have hc:=Qt (h1 _ _ h2)
    rw [bldOk,List.map_cons,List.all_cons,Bool.and_eq_true] at hb
    obtain ⟨hb1,hb2⟩:=hb
    cases hl:l[p.1]? with
    | none=>rw [hl] at hb1;cases hb1
    | some q =>
      obtain ⟨off,sz⟩:=q
      rw [hl] at hb1
      have hsz:sz = 1∧off < n:=by
        split at hb1
        · rename_i e;cases e;exact ⟨rfl,by simpa using hb1⟩
        · cases hb1
      obtain ⟨rfl,hoff⟩:=hsz
      obtain ⟨cells,e1,e2⟩:=fill_typed ps (cur.setIfInBounds off (a.eval p.2.1)) (ts.set off p.2.2) (by simpa using hn) (h.set h2) (fun q hq=>hp q (by simp [hq])) hb2
      refine ⟨cells,?_,?_⟩
      · rw [List.map_cons,Instr.fill]
        generalize a.eval p.2.1 = v at hc e1 ⊢
        simp only [hl,hc]
        have:¬ (off + 1 > cur.size):=by omega
        simp [this]
        simpa using e1
      · rw [bldT,hl];exact e2
variable {d:Option Tmp} {ty:TypeId} {pos:String} {af:Array Edge} {g:Option (Nat × Bool)} {a:Act} {σ:GW}
theorem y_bld {t:TypeId} {l:List (Nat × Nat)} {z:Value} {c by_:Nat} (ps:List (Nat × Operand × Ty)) (ts:List Ty) (hp:placesOk P t l = true) (he:Info P t z c by_) (hz:z.cells.size = ts.length) (hT:∀ (j:Nat) (T:Ty) (u:Value),ts[j]? = some T → z.cells[j]? = some u → ∀ σ,T.has σ u)
    (hok:bldOk l z.cells.size (ps.map (·.1)) = true) (hps:∀ p ∈ ps,One p.2.2∧At p.2.2 σ a p.2.1) :
    Yld J ⟨d,.build t (ps.map fun p=>(p.1,p.2.1)).toArray,ty,pos,af,g⟩ a σ (Ty.agg (bldT l ps ts)).pr:=by
  obtain ⟨cells,e1,e2⟩:=fill_typed (σ:=σ) ps z.cells ts rfl ⟨hz,fun j T u h1 h2=>hT j T u h1 h2 σ⟩ hps hok
  refine Yld.of_run (v:=.agg cells) ?_ ⟨cells,rfl,e2.1,e2.2⟩
  simp only [execOp]
  have:=run_build (P:=P) (parts:=(ps.map fun p=>(p.1,a.eval p.2.1)).toArray) (cells:=cells) hp he (by simpa using e1) σ.w
  simp only [List.map_toArray,List.map_map]
  have e:(fun (p:Nat × Operand)=>(p.1,a.eval p.2)) ∘ (fun (p:Nat × Operand × Ty)=>(p.1,p.2.1)) = fun p=>(p.1,a.eval p.2.1):=rfl
  rw [e]
  simp [this]
end Go.KL
namespace Go.KL
open Go.RowKit
variable {P:Program} {J:JdOf P} {d:Option Tmp} {ty:TypeId} {pos:String} {af:Array Edge} {g:Option (Nat × Bool)} {a:Act} {σ:GW}
theorem join_then {c:Code} {N Q':Act → World → Prop} {Q:Exit → Act → World → Prop} {a:Act} {w:World} (h1:Code.xwp J c (Exit.then Q' Q) a w) (h2:∀ a w,Q' a w → N a w):Code.xwp J c (Exit.then N Q) a w :=
  Code.xwp_mono (fun e a' w' hq=>by cases e <;> first | exact h2 _ _ hq | exact hq) h1
section
variable {Q:Exit → Act → World → Prop} {w:World}
end
theorem y_conv {x:Operand} {t u:TypeId} {k j:IntKind} {n m:Int} (hu:P.underlying u = some (.int j)) (hx:a.eval x = .int k n) (hm:j.wrap n = m) (ht:(P.underlying t).isSome = true) :
    Yld J ⟨d,.convert t u x,ty,pos,af,g⟩ a σ (Ty.val (.int j m)).pr:=by
  obtain ⟨td,htd⟩:=Option.isSome_iff_exists.1 ht
  refine Yld.of_run (v:=.int j m) ?_ rfl
  simp only [execOp,hx]
  subst hm
  simp [convert,Sem.run_bind,run_underlying hu,run_underlying htd,Conv.intToInt]
theorem y_sfrom {x y:Operand} {t:TypeId} {s:ByteArray} {k:IntKind} {l:Nat} (ht:P.underlying t = some .string) (hx:a.eval x = .string s) (hy:a.eval y = .int k l) (hl:l ≤ s.size) :
    Yld J ⟨d,.slice t x (some y) none none,ty,pos,af,g⟩ a σ (Ty.val (.string (s.extract l s.size))).pr:=by
  refine Yld.of_run (v:=.string (s.extract l s.size)) ?_ rfl
  simp only [execOp,hx,hy,Option.map_some,Option.map_none]
  have hl':(0:Int) ≤ (l:Int)∧(l:Int) ≤ ((s.size:Nat):Int):=by omega
  simp [Instr.sliceAt,Instr.slice,Sem.run_bind,run_underlying ht,Instr.sliceBounds,Instr.sliceBound,asIntOf,hl]
end Go.KL
namespace Go.KL
end Go.KL
namespace Go.KL
end Go.KL
namespace Go.KL
end Go.KL
namespace Go.KL
end Go.KL
namespace Go.KL
theorem get_list {s:ByteArray} {i:Nat} (h:i < s.size):s.get! i = s.data.toList[i]'(by simpa using h):=by
  have h':i < s.data.size:=h
  simp only [ByteArray.get!]
  rw [getElem!_pos s.data i h']
  simp
end Go.KL
namespace Go.KL
open Go.RowKit
variable {P:Program} {J:JdOf P} {d:Option Tmp} {ty:TypeId} {pos:String} {af:Array Edge} {g:Option (Nat × Bool)} {a:Act} {σ:GW}
abbrev Ty.byte (b:UInt8):Ty:=.val (.int .u8 ((b.toNat:Nat):Int))
def OwnPT (E:TypeId) (σ:GW) (k:Nat) (v:Value) (ts:List Ty):Prop :=
  ∃ g cur,v = .pointer (some ⟨g,0,none⟩)∧σ.st g = k∧σ.w.heap[g]? = some (.cells cur E (0,0))∧cur.size = ts.length∧∀ (j:Nat) (T:Ty) (u:Value),ts[j]? = some T → cur[j]? = some u → T.has σ u
theorem OwnPT.toP {E:TypeId} {k:Nat} {v:Value} {ts:List Ty} (h:OwnPT E σ k v ts):OwnP σ k v ts:=by
  obtain ⟨g,cur,h1,h2,h3,h4,h5⟩:=h;exact ⟨g,E,cur,h1,h2,h3,h4,h5⟩
theorem OwnPT.keepL {E:TypeId} {L:List Nat} {k:Nat} {σ τ:GW} {v:Value} {ts:List Ty} (h:OwnPT E σ k v ts) (hs:StpL L σ τ) (h1:1 ∉ L) (hk:k ∉ L):OwnPT E τ k v ts:=by
  obtain ⟨g,cur,rfl,r2,r3,r4,r5⟩:=h
  have hg:=(Array.getElem?_eq_some_iff.1 r3).1
  have hq:σ.st g ∉ L:=by rw [r2];exact hk
  exact ⟨g,cur,rfl,(hs.st g hg hq).trans r2,(hs.blk g hg hq).trans r3,r4,fun j T u hj hu=>T.up (hs.le h1) (r5 j T u hj hu)⟩
theorem OwnPT.k0 {E:TypeId} {k:Nat} {σ τ:GW} {v:Value} {ts:List Ty} (h:OwnPT E σ k v ts) (hs:Stp 0 σ τ):OwnPT E τ k v ts:=h.keepL (L:=[]) hs.toL0 (by simp) (by simp)
theorem OwnPT.one {E:TypeId} {k:Nat} {v:Value} {ts:List Ty} (h:OwnPT E σ k v ts):v.oneCell' = true:=h.toP.one
end Go.KL
namespace Go.KL
end Go.KL
namespace Go.KL
open Go.RowKit
variable {P:Program} {J:JdOf P} {d:Option Tmp} {ty:TypeId} {pos:String} {af:Array Edge} {g:Option (Nat × Bool)} {a:Act} {σ:GW}
section
variable {k:Nat} {x y y' y'':Operand} {n:Nat} {ts:List Ty} {t e e':TypeId} {z v:Value} {b:Nat} {ki kj kk:IntKind} (ht:P.underlying t = some (.slice e')) (he:Info P e' z 1 b) (ho:Own σ k e 1 v n ts) (hx:a.eval x = v)
include ht he ho hx
end
theorem one_map {α:Type} {f:α → Ty} {xs:List α} (h:∀ x,One (f x)):∀ U,U ∈ xs.map f → One U:=fun U hU=>by
  obtain ⟨x,_,rfl⟩:=List.mem_map.1 hU;exact h x
end Go.KL
namespace Go.KL
end Go.KL
namespace Go.KL
section
variable {F:List (List Int) → List Int → Option (List Int)} {cs:List (List Int)} {N:Nat} {rows:List (List Int)} {path r:List Int} {k:Nat} (hl:rows.getD (rows.length - 1) [] = r)
include hl
end
end Go.KL
namespace Go.KL
end Go.KL
namespace Go.KL
end Go.KL
namespace Go.KL
end Go.KL
namespace Go.KL
end Go.KL
namespace Go.KL
def QI (s:ByteArray) (p:Nat):Int:=if run1 s p = 65533∧wid s p = 1 then -1 else run1 s p
def nB (b:Nat):Nat:=if 194 ≤ b∧b < 224 then 2 else if 224 ≤ b∧b < 240 then 3 else if 240 ≤ b∧b < 245 then 4 else 0
def cB (b:Nat):Nat:=if 194 ≤ b∧b < 224 then b - 192 else if 224 ≤ b∧b < 240 then b - 224 else if 240 ≤ b∧b < 245 then b - 240 else b
def lowB (b:Nat):Nat:=if 194 ≤ b∧b < 224 then 128 else if 224 ≤ b∧b < 240 then 2048 else if 240 ≤ b∧b < 245 then 65536 else 0
def Qi (s:ByteArray) (c:Nat):Nat → Nat
  | 0=>c
  | j + 1=>Qi s c j * 64 + ((s.get! (j + 1)).toNat - 128)
theorem accR1 (s:ByteArray) (c:Nat):Qi s c 1 = c * 64 + ((s.get! 1).toNat - 128):=rfl
theorem accR2 (s:ByteArray) (c:Nat):Qi s c 2 = (c * 64 + ((s.get! 1).toNat - 128)) * 64 + ((s.get! 2).toNat - 128):=rfl
theorem accR3 (s:ByteArray) (c:Nat):Qi s c 3 = ((c * 64 + ((s.get! 1).toNat - 128)) * 64 + ((s.get! 2).toNat - 128)) * 64 + ((s.get! 3).toNat - 128):=rfl
def decP (s:ByteArray) (N:Nat):Nat × Nat:=Lib.decodeN N (s.get! 0).toNat (s.get! 1).toNat (s.get! 2).toNat (s.get! 3).toNat
theorem dec0 (s:ByteArray):Utf8.decode s 0 = decP s s.size:=by rw [Lib.decode_at];rfl
theorem runM_of {s:ByteArray} {c n:Nat} (h:decP s s.size = (c,n)) (hn:n ≠ 1 ∨ c ≠ 65533):QI s 0 = c∧wid s 0 = n:=by
  unfold QI run1 wid
  rw [dec0,h]
  refine ⟨if_neg ?_,rfl⟩
  simp only;omega
theorem runM_no {s:ByteArray} (h:decP s s.size = (65533,1)):QI s 0 = -1∧wid s 0 = 1:=by
  unfold QI run1 wid
  rw [dec0,h]
  exact ⟨if_pos ⟨rfl,rfl⟩,rfl⟩
theorem rn_low {s:ByteArray} (h:(s.get! 0).toNat < 128):QI s 0 = (s.get! 0).toNat∧wid s 0 = 1 :=
  runM_of (by unfold decP Lib.decodeN;rw [if_pos h]) (by omega)
theorem nB_cases {b j:Nat} (h0:nB b ≠ 0) (hj:j + 1 = nB b):(j = 1∧194 ≤ b∧b < 224) ∨ (j = 2∧224 ≤ b∧b < 240) ∨ (j = 3∧240 ≤ b∧b < 245):=by
  unfold nB at hj h0
  by_cases h1:194 ≤ b∧b < 224
  · rw [if_pos h1] at hj;exact .inl ⟨by omega,h1⟩
  · rw [if_neg h1] at hj h0
    by_cases h2:224 ≤ b∧b < 240
    · rw [if_pos h2] at hj;exact .inr (.inl ⟨by omega,h2⟩)
    · rw [if_neg h2] at hj h0
      by_cases h3:240 ≤ b∧b < 245
      · rw [if_pos h3] at hj;exact .inr (.inr ⟨by omega,h3⟩)
      · rw [if_neg h3] at h0;omega
section
variable {s:ByteArray} (h128:¬ (s.get! 0).toNat < 128)
include h128 in
set_option maxRecDepth 100000 in
set_option maxHeartbeats 4000000 in
theorem rn_short (h:nB (s.get! 0).toNat = 0 ∨ s.size < nB (s.get! 0).toNat) (h1:1 ≤ s.size):QI s 0 = -1∧wid s 0 = 1:=by
  refine runM_no ?_
  have l1:=UInt8.toNat_lt (s.get! 1)
  have l2:=UInt8.toNat_lt (s.get! 2)
  have l3:=UInt8.toNat_lt (s.get! 3)
  have l0:=UInt8.toNat_lt (s.get! 0)
  unfold decP
  generalize (s.get! 0).toNat = b0 at *
  generalize (s.get! 1).toNat = b1 at *
  generalize (s.get! 2).toNat = b2 at *
  generalize (s.get! 3).toNat = b3 at *
  unfold nB at h
  unfold Lib.decodeN
  repeat' split
  all_goals first | rfl | (exfalso;split at h <;> (try split at h) <;> (try split at h) <;> omega)
set_option maxRecDepth 100000 in
set_option maxHeartbeats 4000000 in
theorem rn_cont {j:Nat} (hj:j + 1 < nB (s.get! 0).toNat) (h:(s.get! (j + 1)).toNat < 128 ∨ 192 ≤ (s.get! (j + 1)).toNat):QI s 0 = -1∧wid s 0 = 1:=by
  refine runM_no ?_
  have l1:=UInt8.toNat_lt (s.get! 1)
  have l2:=UInt8.toNat_lt (s.get! 2)
  have l3:=UInt8.toNat_lt (s.get! 3)
  have l0:=UInt8.toNat_lt (s.get! 0)
  have hj4:j = 0 ∨ j = 1 ∨ j = 2:=by
    unfold nB at hj
    repeat' split at hj
    all_goals omega
  unfold decP
  rcases hj4 with rfl | rfl | rfl <;> simp only [Nat.zero_add,Nat.reduceAdd] at h hj <;> generalize (s.get! 0).toNat = b0 at * <;> generalize (s.get! 1).toNat = b1 at * <;> generalize (s.get! 2).toNat = b2 at * <;> generalize (s.get! 3).toNat = b3 at * <;> unfold nB at hj <;> unfold Lib.decodeN
  all_goals repeat' split
  all_goals first | rfl | (exfalso;split at hj <;> (try split at hj) <;> (try split at hj) <;> omega)
set_option maxRecDepth 2000 in
set_option maxHeartbeats 4000000 in
theorem rn_all (h0:nB (s.get! 0).toNat ≠ 0) (hs:nB (s.get! 0).toNat ≤ s.size) {j:Nat} (hj:j + 1 = nB (s.get! 0).toNat) (hc:∀ i,i < j → 128 ≤ (s.get! (i + 1)).toNat∧(s.get! (i + 1)).toNat < 192) :
    decP s s.size = if Qi s (cB (s.get! 0).toNat) j < lowB (s.get! 0).toNat ∨ 1114111 < Qi s (cB (s.get! 0).toNat) j ∨ (55296 ≤ Qi s (cB (s.get! 0).toNat) j∧Qi s (cB (s.get! 0).toNat) j < 57344) then (65533,1) else (Qi s (cB (s.get! 0).toNat) j,nB (s.get! 0).toNat):=by
  have l0:=UInt8.toNat_lt (s.get! 0)
  have hj4:=nB_cases h0 hj
  refine hj4.elim (fun ⟨e,q⟩=>?_) (fun h=>h.elim (fun ⟨e,q⟩=>?_) (fun ⟨e,q⟩=>?_))
  · rw [e]
    have c1:=hc 0 (by rw [e];exact Nat.one_pos)
    rw [Nat.zero_add] at c1
    rw [accR1]
    unfold decP
    clear hc hj h0
    generalize (s.get! 0).toNat = b0 at *
    generalize (s.get! 1).toNat = b1 at *
    have e1:nB b0 = 2:=by unfold nB;rw [if_pos q]
    have e2:cB b0 = b0 - 192:=by unfold cB;rw [if_pos q]
    have e3:lowB b0 = 128:=by unfold lowB;rw [if_pos q]
    rw [e1] at hs
    rw [e1,e2,e3]
    unfold Lib.decodeN
    repeat' split
    all_goals first | (exfalso;omega) | (apply Prod.ext <;> simp only <;> omega)
  · rw [e]
    have c1:=hc 0 (by omega)
    have c2:=hc 1 (by omega)
    simp only [Nat.zero_add,Nat.reduceAdd] at c1 c2
    rw [accR2]
    clear hc hj h0
    unfold decP
    generalize (s.get! 0).toNat = b0 at *
    generalize (s.get! 1).toNat = b1 at *
    generalize (s.get! 2).toNat = b2 at *
    have e1:nB b0 = 3:=by unfold nB;rw [if_neg (by omega),if_pos q]
    have e2:cB b0 = b0 - 224:=by unfold cB;rw [if_neg (by omega),if_pos q]
    have e3:lowB b0 = 2048:=by unfold lowB;rw [if_neg (by omega),if_pos q]
    rw [e1] at hs
    rw [e1,e2,e3]
    unfold Lib.decodeN
    repeat' split
    all_goals first | (exfalso;omega) | (apply Prod.ext <;> simp only <;> omega)
  · rw [e]
    have c1:=hc 0 (by omega)
    have c2:=hc 1 (by omega)
    have c3:=hc 2 (by omega)
    simp only [Nat.zero_add,Nat.reduceAdd] at c1 c2 c3
    rw [accR3]
    clear hc hj h0
    unfold decP
    generalize (s.get! 0).toNat = b0 at *
    generalize (s.get! 1).toNat = b1 at *
    generalize (s.get! 2).toNat = b2 at *
    generalize (s.get! 3).toNat = b3 at *
    have e1:nB b0 = 4:=by unfold nB;rw [if_neg (by omega),if_neg (by omega),if_pos q]
    have e2:cB b0 = b0 - 240:=by unfold cB;rw [if_neg (by omega),if_neg (by omega),if_pos q]
    have e3:lowB b0 = 65536:=by unfold lowB;rw [if_neg (by omega),if_neg (by omega),if_pos q]
    rw [e1] at hs
    rw [e1,e2,e3]
    unfold Lib.decodeN
    repeat' split
    all_goals first | (exfalso;omega) | (apply Prod.ext <;> simp only <;> omega)
end
theorem nb2 {b:Nat} (h:194 ≤ b∧b < 224):nB b = 2∧cB b = b - 192∧lowB b = 128:=by unfold nB cB lowB;rw [if_pos h,if_pos h,if_pos h];exact ⟨rfl,rfl,rfl⟩
theorem nb3 {b:Nat} (h:224 ≤ b∧b < 240):nB b = 3∧cB b = b - 224∧lowB b = 2048:=by
  have h1:¬ (194 ≤ b∧b < 224):=by omega
  unfold nB cB lowB;rw [if_neg h1,if_neg h1,if_neg h1,if_pos h,if_pos h,if_pos h];exact ⟨rfl,rfl,rfl⟩
theorem nb4 {b:Nat} (h:240 ≤ b∧b < 245):nB b = 4∧cB b = b - 240∧lowB b = 65536:=by
  have h1:¬ (194 ≤ b∧b < 224):=by omega
  have h2:¬ (224 ≤ b∧b < 240):=by omega
  unfold nB cB lowB;rw [if_neg h1,if_neg h1,if_neg h1,if_neg h2,if_neg h2,if_neg h2,if_pos h,if_pos h,if_pos h];exact ⟨rfl,rfl,rfl⟩
theorem nb0 {b:Nat} (h1:¬ (194 ≤ b∧b < 224)) (h2:¬ (224 ≤ b∧b < 240)) (h3:¬ (240 ≤ b∧b < 245)):nB b = 0∧cB b = b∧lowB b = 0:=by
  unfold nB cB lowB;rw [if_neg h1,if_neg h1,if_neg h1,if_neg h2,if_neg h2,if_neg h2,if_neg h3,if_neg h3,if_neg h3];exact ⟨rfl,rfl,rfl⟩
theorem nb_bd (b:Nat):nB b ≤ 4∧(nB b ≠ 0 → cB b ≤ 31):=by
  by_cases h1:194 ≤ b∧b < 224
  · have:=nb2 h1;omega
  · by_cases h2:224 ≤ b∧b < 240
    · have:=nb3 h2;omega
    · by_cases h3:240 ≤ b∧b < 245
      · have:=nb4 h3;omega
      · have:=nb0 h1 h2 h3;omega
theorem acc_bd {s:ByteArray} {c j:Nat} (hc:c ≤ 63) (h:∀ i,i < j → 128 ≤ (s.get! (i + 1)).toNat∧(s.get! (i + 1)).toNat < 192) (hj:j ≤ 3):Qi s c j < 16777216:=by
  have h3:j = 0 ∨ j = 1 ∨ j = 2 ∨ j = 3:=by omega
  rcases h3 with e | e | e | e
  · rw [e];show c < _;omega
  · have h0:=h 0 (by omega)
    rw [e,accR1];simp only [Nat.zero_add] at h0;omega
  · have h0:=h 0 (by omega);have h1:=h 1 (by omega)
    rw [e,accR2];simp only [Nat.zero_add,Nat.reduceAdd] at h0 h1;omega
  · have h0:=h 0 (by omega);have h1:=h 1 (by omega);have h2:=h 2 (by omega)
    rw [e,accR3];simp only [Nat.zero_add,Nat.reduceAdd] at h0 h1 h2;omega
theorem acc_snoc {s:ByteArray} {j:Nat} (h:∀ i,i < j → 128 ≤ (s.get! (i + 1)).toNat∧(s.get! (i + 1)).toNat < 192) (h1:128 ≤ (s.get! (j + 1)).toNat) (h2:(s.get! (j + 1)).toNat < 192):∀ i,i < j + 1 → 128 ≤ (s.get! (i + 1)).toNat∧(s.get! (i + 1)).toNat < 192:=by
  intro i hi
  by_cases e:i = j
  · rw [e];exact ⟨h1,h2⟩
  · exact h i (by omega)
theorem rn_bad {s:ByteArray} (h0:nB (s.get! 0).toNat ≠ 0) (hs:nB (s.get! 0).toNat ≤ s.size) {j:Nat} (hj:j + 1 = nB (s.get! 0).toNat) (hc:∀ i,i < j → 128 ≤ (s.get! (i + 1)).toNat∧(s.get! (i + 1)).toNat < 192)
    (h:Qi s (cB (s.get! 0).toNat) j < lowB (s.get! 0).toNat ∨ 1114111 < Qi s (cB (s.get! 0).toNat) j ∨ (55296 ≤ Qi s (cB (s.get! 0).toNat) j∧Qi s (cB (s.get! 0).toNat) j < 57344)):QI s 0 = -1∧wid s 0 = 1 :=
  runM_no (by rw [rn_all h0 hs hj hc,if_pos h])
theorem rn_ok {s:ByteArray} (h0:nB (s.get! 0).toNat ≠ 0) (hs:nB (s.get! 0).toNat ≤ s.size) {j:Nat} (hj:j + 1 = nB (s.get! 0).toNat) (hc:∀ i,i < j → 128 ≤ (s.get! (i + 1)).toNat∧(s.get! (i + 1)).toNat < 192)
    (h:¬ (Qi s (cB (s.get! 0).toNat) j < lowB (s.get! 0).toNat ∨ 1114111 < Qi s (cB (s.get! 0).toNat) j ∨ (55296 ≤ Qi s (cB (s.get! 0).toNat) j∧Qi s (cB (s.get! 0).toNat) j < 57344))):QI s 0 = Qi s (cB (s.get! 0).toNat) j∧wid s 0 = nB (s.get! 0).toNat :=
  runM_of (by rw [rn_all h0 hs hj hc,if_neg h]) (by have:=nB_cases h0 hj;omega)
def Xe (s:ByteArray):Nat → Nat → List Int
  | 0,_=>[]
  | f + 1,p=>if p < s.size then QI s p :: Xe s f (p + wid s p) else []
def runsL (s:ByteArray):List Int:=Xe s s.size 0
theorem runsF_end {s:ByteArray} {f p:Nat} (h:s.size ≤ p):Xe s f p = []:=by cases f <;> simp [Xe,show ¬ p < s.size by omega]
theorem runsF_step {s:ByteArray} {f p:Nat} {xs zs:List Int} (h:xs ++ Xe s f p = zs) (hp:p < s.size) (hf:s.size ≤ f + p):(xs ++ [QI s p]) ++ Xe s (f - 1) (p + wid s p) = zs:=by
  obtain ⟨f,rfl⟩:∃ g,f = g + 1:=⟨f - 1,by omega⟩
  rw [Xe,if_pos hp] at h
  rw [← h];simp
theorem get_ext {s:ByteArray} {p i:Nat}:(s.extract p s.size).get! i = s.get! (p + i):=by
  have hsz:(s.extract p s.size).size = s.size - p:=by rw [ByteArray.size_extract];omega
  by_cases h:i < s.size - p
  · have h1:i < (s.extract p s.size).size:=by omega
    rw [get_list h1,get_list (s:=s) (i:=p + i) (by omega)]
    simp [ByteArray.data_extract]
  · have a1:(s.extract p s.size).get! i = default:=by
      show (s.extract p s.size).data[i]! = default
      rw [getElem!_neg]
      show ¬ i < (s.extract p s.size).size
      omega
    have a2:s.get! (p + i) = default:=by
      show s.data[p + i]! = default
      rw [getElem!_neg]
      show ¬ p + i < s.size
      omega
    rw [a1,a2]
theorem dec_ext (s:ByteArray) (p:Nat):Utf8.decode (s.extract p s.size) 0 = Utf8.decode s p:=by
  have hsz:(s.extract p s.size).size = s.size - p:=by rw [ByteArray.size_extract];omega
  rw [Lib.decode_at,Lib.decode_at,hsz,get_ext,get_ext,get_ext,get_ext]
  simp only [Nat.add_zero,Nat.zero_add,Nat.sub_zero]
theorem ext_run (s:ByteArray) (p:Nat):QI (s.extract p s.size) 0 = QI s p∧wid (s.extract p s.size) 0 = wid s p:=by
  unfold QI run1 wid;rw [dec_ext];exact ⟨rfl,rfl⟩
theorem wid_in {s:ByteArray} {p:Nat} (h:p < s.size):p + wid s p ≤ s.size:=by
  have hw:wid s p ≤ s.size - p:=by
    unfold wid
    rw [Lib.decode_at]
    unfold Lib.decodeN
    repeat' split
    all_goals (simp only;omega)
  omega
theorem ext_ext {s:ByteArray} {p n:Nat} (h:p + n ≤ s.size):(s.extract p s.size).extract n (s.extract p s.size).size = s.extract (p + n) s.size:=by
  rw [ByteArray.extract_extract,ByteArray.size_extract]
  congr 1
  omega
end Go.KL
namespace Go.KL
theorem lists_ext {a b:List (List Int)} (hl:a.length = b.length) (h:∀ j,j < a.length → a.getD j [] = b.getD j []):a = b:=by
  refine List.ext_getElem hl fun j h1 h2=>?_
  have:=h j h1
  simpa [h1,h2] using this
theorem all_snocs {xs ys:List (List Int)} {k:Nat} (h:∀ j,j < k → xs.getD j [] = ys.getD j []) (e:xs.getD k [] = ys.getD k []):∀ j,j < k + 1 → xs.getD j [] = ys.getD j []:=by
  intro j hj
  by_cases hjk:j = k
  · subst hjk;exact e
  · exact h j (by omega)
end Go.KL
namespace Go.KL
theorem runsF_cons {s:ByteArray} {f p:Nat} (hp:p < s.size) (hf:s.size ≤ f + p):Xe s f p = QI s p :: Xe s (f - 1) (p + wid s p):=by
  obtain ⟨f,rfl⟩:∃ g,f = g + 1:=⟨f - 1,by omega⟩
  rw [Xe,if_pos hp];rfl
theorem run_m (s:ByteArray) (p:Nat):QI s p = ((run1 s p:Nat):Int) ∨ (QI s p = -1∧run1 s p = 65533):=by
  unfold QI
  split
  · rename_i h;exact .inr ⟨rfl,h.1⟩
  · exact .inl rfl
end Go.KL
namespace Go.KL
open Go.RowKit
variable {P:Program} {J:JdOf P} {fn:Func} {σ0 σ:GW} {a:Act} {N d e f:Nat} {D:List Deferred} {L:List Nat} {R:Value → GW → Prop}
end Go.KL
namespace Go.KL
abbrev Ty.str (s:ByteArray):Ty:=Ty.val (.string s)
end Go.KL
namespace Go.KL
open Go.RowKit
variable {P:Program} {J:JdOf P} {d:Option Tmp} {ty:TypeId} {pos:String} {af:Array Edge} {g:Option (Nat × Bool)} {a:Act} {σ:GW}
abbrev Ty.lstc {α:Type} (c:Nat) (F:α → List Ty) (xs:List α):Ty:=Ty.sl c xs.length (xs.flatMap F)
theorem flat_get {α:Type} {c:Nat} {F:α → List Ty} (hF:∀ x,(F x).length = c) (dd:α):∀ {xs:List α} {i:Nat},i < xs.length → ∀ j,j < c → (xs.flatMap F)[i * c + j]? = (F (xs.getD i dd))[j]?
  | [],i,h,_,_=>by simp at h
  | x :: xs,0,_,j,hj=>by
    rw [List.flatMap_cons,Nat.zero_mul,Nat.zero_add,List.getElem?_append_left (by rw [hF];exact hj)]
    simp
  | x :: xs,i + 1,h,j,hj=>by
    rw [List.flatMap_cons,List.getElem?_append_right (by rw [hF,Nat.succ_mul];omega),hF,show (i + 1) * c + j - c = i * c + j by rw [Nat.succ_mul];omega,flat_get hF dd (by simpa using h) j hj]
    simp
theorem Qa {α:Type} {c:Nat} {F:α → List Ty} {xs:List α} (dd:α) {x y:Operand} {t e:TypeId} {z:Value} {b:Nat} {k:IntKind} {i:Int} (ht:P.underlying t = some (.slice e)) (he:Info P e z c b)
    (hx:At (Ty.lstc c F xs) σ a x) (hy:a.eval y = .int k i) (h0:0 ≤ i) (h1:i.toNat < xs.length) (hc:0 < c) (hF:∀ x,(F x).length = c) :
    Yld J ⟨d,.indexAddr t x y,ty,pos,af,g⟩ a σ (Ty.ref (F (xs.getD i.toNat dd))).pr :=
  y_indexAddr ht he hx hy h0 (by omega) hc (fun j hj=>flat_get hF dd h1 j hj) (hF _)
end Go.KL
namespace Go.KL
abbrev JH:=Int × List (List Int)
def KY (c:JH):List Ty:=[Ty.val (.int .i32 c.1),Ty.rows c.2]
def QD (c:Int):Bool:=decide (33 ≤ c∧c ≤ 12287∧c ≠ 40∧c ≠ 41∧¬ (48 ≤ c∧c ≤ 57)∧(c < 127 ∨ 160 < c))
def KR (n:Int) (L:Nat) (pre:List Int) (c:JH):Int :=
  if QD c.1 = false then 4 else if c.1 ∈ pre then 8 else if L < c.2.length then 1 else KN n c.2
def Qj (n:Int) (L:Nat):List Int → List JH → Int
  | _,[]=>0
  | pre,c :: cs=>if KR n L pre c ≠ 0 then KR n L pre c else Qj n L (pre ++ [c.1]) cs
def Ku (nm:ByteArray) (n:Int) (l:List (List Int)) (cs:List JH):Int :=
  if KG nm n l ≠ 0 then KG nm n l else if cs.length < 1 ∨ 8 < cs.length then 1 else Qj n l.length [] cs
abbrev D0:JH:=(0,[])
theorem drop_consD {α:Type} (d:α) {l:List α} {k:Nat} (h:k < l.length):l.drop k = l.getD k d :: l.drop (k + 1):=by
  rw [List.drop_eq_getElem_cons h];simp [h]
theorem QF {α:Type} (d:α) {l:List α} {k:Nat} (h:k < l.length):l.take (k + 1) = l.take k ++ [l.getD k d]:=by
  rw [List.take_add_one];simp [h]
theorem calls_step {n:Int} {L:Nat} {cs:List JH} {i:Nat} {e:Int} (h:Qj n L ((cs.take i).map (·.1)) (cs.drop i) = e) (hi:i < cs.length) (hc:KR n L ((cs.take i).map (·.1)) (cs.getD i D0) = 0) :
    Qj n L ((cs.take (i + 1)).map (·.1)) (cs.drop (i + 1)) = e:=by
  rw [drop_consD D0 hi,Qj,if_neg (by rw [hc];simp)] at h
  rw [QF D0 hi,List.map_append];exact h
theorem calls_stop {n:Int} {L:Nat} {cs:List JH} {i:Nat} {e:Int} (h:Qj n L ((cs.take i).map (·.1)) (cs.drop i) = e) (hi:i < cs.length) (hc:KR n L ((cs.take i).map (·.1)) (cs.getD i D0) ≠ 0) :
    e = KR n L ((cs.take i).map (·.1)) (cs.getD i D0):=by
  rw [drop_consD D0 hi,Qj,if_pos hc] at h;exact h.symm
theorem calls_end {n:Int} {L:Nat} {cs:List JH} {i:Nat} {e:Int} (h:Qj n L ((cs.take i).map (·.1)) (cs.drop i) = e) (hi:cs.length ≤ i):e = 0:=by
  rw [List.drop_eq_nil_of_le hi] at h;exact h.symm
structure CallsOk (nm:ByteArray) (n:Nat) (l:List (List Int)) (cs:List JH):Prop where
  meth:MethOk nm n l
  c1:1 ≤ cs.length
  c8:cs.length ≤ 8
  short:∀ i,i < cs.length → (cs.getD i D0).2.length ≤ l.length
  ok:∀ i,i < cs.length → ∀ k,k < (cs.getD i D0).2.length → okL 0 ((cs.getD i D0).2.getD k []) n
theorem callStep_ok {n:Int} {L:Nat} {pre:List Int} {c:JH} (h:KR n L pre c = 0):c.2.length ≤ L∧KN n c.2 = 0:=by
  unfold KR at h
  split at h
  · cases h
  · split at h
    · cases h
    · split at h
      · cases h
      · exact ⟨by omega,h⟩
theorem callsTo_ok {n:Int} {L:Nat}:∀ {cs:List JH} {pre:List Int},Qj n L pre cs = 0 → ∀ c ∈ cs,c.2.length ≤ L∧KN n c.2 = 0
  | [],_,_,c,h=>by simp at h
  | d :: cs,pre,h,c,hc=>by
    rw [Qj] at h
    split at h
    · rename_i h2;exact absurd h h2
    · rename_i h2
      rcases List.mem_cons.1 hc with e | e
      · subst e;exact callStep_ok (Classical.not_not.1 h2)
      · exact callsTo_ok h c e
theorem mem_getDD {α:Type} (d:α) {l:List α} {k:Nat} (h:k < l.length):l.getD k d ∈ l:=by
  rw [List.getD_eq_getElem?_getD,List.getElem?_eq_getElem h];exact List.getElem_mem _
theorem callsMay_ok {nm:ByteArray} {n:Int} {l:List (List Int)} {cs:List JH} (h:Ku nm n l cs = 0):CallsOk nm n.toNat l cs∧((n.toNat:Nat):Int) = n:=by
  unfold Ku at h
  split at h
  · rename_i h1;exact absurd h h1
  · rename_i h1
    split at h
    · omega
    · rename_i h2
      obtain ⟨m,hnm,hm⟩:=methMay_ok.1 (Classical.not_not.1 h1)
      have hn:n.toNat = m:=by omega
      rw [hn]
      refine ⟨⟨hm,by omega,by omega,fun i hi=>(callsTo_ok h _ (mem_getDD D0 hi)).1,fun i hi k hk=>?_⟩,by omega⟩
      have h3:=allMay_zero.1 (callsTo_ok h _ (mem_getDD D0 hi)).2 _ (mem_getDD [] hk)
      have h4:=okL_of_chgMay h3
      rwa [hnm] at h4
def endsL (l:List (List Int)) (c:JH):List (List Int):=l.take (l.length - c.2.length) ++ c.2
theorem endsL_len {l:List (List Int)} {c:JH} (h:c.2.length ≤ l.length):(endsL l c).length = l.length:=by
  unfold endsL;rw [List.length_append,List.length_take];omega
theorem endsL_ok {n:Nat} {l:List (List Int)} {c:JH} (h:c.2.length ≤ l.length) (hl:∀ k,k < l.length → okL 0 (l.getD k []) n) (hc:∀ k,k < c.2.length → okL 0 (c.2.getD k []) n) :
    ∀ k,k < (endsL l c).length → okL 0 ((endsL l c).getD k []) n:=fun k hk=>by
  rw [endsL_len h] at hk
  unfold endsL
  rw [List.getD_eq_getElem?_getD,List.getElem?_append]
  have htl:(l.take (l.length - c.2.length)).length = l.length - c.2.length:=by rw [List.length_take];omega
  by_cases e:k < l.length - c.2.length
  · rw [if_pos (by omega),List.getElem?_take_of_lt e,← List.getD_eq_getElem?_getD];exact hl k hk
  · rw [if_neg (by omega),htl,← List.getD_eq_getElem?_getD];exact hc _ (by omega)
def leadE (l:List (List Int)) (cs:List JH) (leads:List Int) (k:Nat):List (List Int):=endsL l (cs.getD (leads.getD k 0).toNat D0)
def tHd (n:Nat) (l:List (List Int)) (cs:List JH) (leads:List Int):Nat → List Int
  | 0=>JL n
  | k + 1=>curL (tHd n l cs leads k) (leadE l cs leads k) l.length
def JA (n:Nat) (l:List (List Int)) (cs:List JH) (leads:List Int):Nat → List (List Int)
  | 0=>[JL n]
  | k + 1=>JA n l cs leads k ++ (fromL (tHd n l cs leads k) (leadE l cs leads k)).drop 1
def KU (cs:List JH) (leads:List Int):Prop:=∀ k,k < leads.length → 0 ≤ leads.getD k 0∧leads.getD k 0 < cs.length
section
variable {nm:ByteArray} {n:Nat} {l:List (List Int)} {cs:List JH} {leads:List Int}
theorem QC (h:CallsOk nm n l cs) (hi:KU cs leads) {k:Nat} (hk:k < leads.length):(leadE l cs leads k).length = l.length :=
  endsL_len (h.short _ (by have:=hi k hk;omega))
theorem leadE_ok (h:CallsOk nm n l cs) (hi:KU cs leads) {k:Nat} (hk:k < leads.length):∀ j,j < (leadE l cs leads k).length → okL 0 ((leadE l cs leads k).getD j []) n :=
  have hb:(leads.getD k 0).toNat < cs.length:=by have:=hi k hk;omega
  endsL_ok (h.short _ hb) h.meth.ok (h.ok _ hb)
theorem curL_row' {r:List Int} {l:List (List Int)} (hr:IsRow r) (h:∀ k,k < l.length → okL 0 (l.getD k []) r.length):∀ k,k ≤ l.length → IsRow (curL r l k)∧(curL r l k).length = r.length
  | 0,_=>⟨hr,rfl⟩
  | k + 1,hk=>by
    obtain ⟨h1,h2⟩:=curL_row' hr h k (by omega)
    have ho:=h k (by omega)
    have hc:=(ord_inv ho hr.pos hr.le).1
    rw [curL_succ _ l k (by omega),h2]
    exact ⟨byL_row h1 hc (by rw [h2,QK ho]),by rw [byL_len,QK ho]⟩
theorem tHd_row (h:CallsOk nm n l cs) (hi:KU cs leads):∀ k,k ≤ leads.length → IsRow (tHd n l cs leads k)∧(tHd n l cs leads k).length = n
  | 0,_=>⟨roundsL_row (by have:=h.meth.n1;omega) h.meth.n2,roundsL_len n⟩
  | k + 1,hk=>by
    obtain ⟨h1,h2⟩:=tHd_row h hi k (by omega)
    have hc:=curL_row' h1 (l:=leadE l cs leads k) (by rw [h2];exact leadE_ok h hi (by omega)) l.length (by rw [QC h hi (by omega)];exact Nat.le_refl _)
    exact ⟨hc.1,by rw [tHd,hc.2,h2]⟩
theorem QB (h:CallsOk nm n l cs) (hi:KU cs leads):∀ k,k ≤ leads.length → (JA n l cs leads k).length = k * l.length + 1
  | 0,_=>by simp [JA]
  | k + 1,hk=>by
    rw [JA,List.length_append,QB h hi k (by omega),List.length_drop,fromL,fromTo_len,QC h hi (by omega),Nat.succ_mul];omega
theorem fromL_getj {r:List Int} {l:List (List Int)} {j:Nat} (h:j ≤ l.length):(fromL r l).getD j [] = curL r l j:=by
  unfold fromL QQ
  rw [List.getD_eq_getElem?_getD];simp [show j < l.length + 1 by omega]
theorem tRows_last (h:CallsOk nm n l cs) (hi:KU cs leads):∀ k,k ≤ leads.length → (JA n l cs leads k).getD (k * l.length) [] = tHd n l cs leads k
  | 0,_=>by simp [JA,tHd]
  | k + 1,hk=>by
    have hl1:=h.meth.l1
    have hll:=QC h hi (k:=k) (by omega)
    rw [JA,List.getD_eq_getElem?_getD,List.getElem?_append_right (by rw [QB h hi k (by omega),Nat.succ_mul];omega),QB h hi k (by omega),List.getElem?_drop,← List.getD_eq_getElem?_getD,tHd,Nat.succ_mul,
      show 1 + (k * l.length + l.length - (k * l.length + 1)) = l.length by omega,fromL_getj (by omega)]
theorem tRows_pre (n:Nat) (l:List (List Int)) (cs:List JH) (leads:List Int) (k:Nat):∀ m,k ≤ m → ∃ x,JA n l cs leads m = JA n l cs leads k ++ x
  | 0,hm=>⟨[],by rw [show k = 0 by omega,List.append_nil]⟩
  | m + 1,hm=>by
    by_cases e:k = m + 1
    · exact ⟨[],by rw [e,List.append_nil]⟩
    · obtain ⟨x,hx⟩:=tRows_pre n l cs leads k m (by omega)
      exact ⟨x ++ _,by rw [JA,hx,List.append_assoc]⟩
theorem tRows_get (h:CallsOk nm n l cs) (hi:KU cs leads) {m k j:Nat} (hm:m ≤ leads.length) (hk:k < m) (hj:j ≤ l.length):(JA n l cs leads m).getD (k * l.length + j) [] = curL (tHd n l cs leads k) (leadE l cs leads k) j:=by
  have hll:=QC h hi (k:=k) (by omega)
  obtain ⟨x,hx⟩:=tRows_pre n l cs leads (k + 1) m (by omega)
  have h1:=QB h hi k (by omega)
  have h2:=QB h hi (k + 1) (by omega)
  rw [Nat.succ_mul] at h2
  rw [hx,List.getD_eq_getElem?_getD,List.getElem?_append_left (by omega),JA]
  by_cases e:j = 0
  · subst e
    rw [List.getElem?_append_left (by omega),← List.getD_eq_getElem?_getD,Nat.add_zero,tRows_last h hi k (by omega)];rfl
  · rw [List.getElem?_append_right (by omega),h1,List.getElem?_drop,← List.getD_eq_getElem?_getD,show 1 + (k * l.length + j - (k * l.length + 1)) = j by omega,fromL_getj (by omega)]
theorem tRows_row (h:CallsOk nm n l cs) (hi:KU cs leads) {i:Nat} (hk:i ≤ leads.length * l.length):IsRow ((JA n l cs leads leads.length).getD i [])∧((JA n l cs leads leads.length).getD i []).length = n:=by
  have hl1:=h.meth.l1
  by_cases e:i = leads.length * l.length
  · rw [e,tRows_last h hi _ (Nat.le_refl _)];exact tHd_row h hi _ (Nat.le_refl _)
  · have h1:i / l.length < leads.length:=Nat.div_lt_of_lt_mul (by rw [Nat.mul_comm];omega)
    have h2:=Nat.mod_lt i (show 0 < l.length by omega)
    have h3:=Nat.div_add_mod i l.length
    rw [Nat.mul_comm] at h3
    rw [← h3,tRows_get h hi (Nat.le_refl _) h1 (by omega)]
    obtain ⟨h4,h5⟩:=tHd_row h hi _ (Nat.le_of_lt h1)
    have:=curL_row' h4 (l:=leadE l cs leads (i / l.length)) (by rw [h5];exact leadE_ok h hi h1) (i % l.length) (by rw [QC h hi h1];omega)
    exact ⟨this.1,by rw [this.2,h5]⟩
end
def Kk (nm:ByteArray) (n:Int) (l:List (List Int)) (cs:List JH) (leads:List Int):Int :=
  if Ku nm n l cs ≠ 0 then Ku nm n l cs else if leads.length < 1 ∨ 400 < leads.length then 1
  else if ∀ k,k < leads.length → 0 ≤ leads.getD k 0∧leads.getD k 0 < cs.length then (if 20000 < leads.length * l.length then 3 else 0) else 12
theorem touchMay_ok {nm:ByteArray} {n:Int} {l:List (List Int)} {cs:List JH} {leads:List Int} (h:Kk nm n l cs leads = 0) :
    CallsOk nm n.toNat l cs∧((n.toNat:Nat):Int) = n∧1 ≤ leads.length∧leads.length ≤ 400∧KU cs leads∧leads.length * l.length ≤ 20000:=by
  unfold Kk at h
  split at h
  · rename_i h1;exact absurd h h1
  · rename_i h1
    have h0:=callsMay_ok (Classical.not_not.1 h1)
    split at h
    · omega
    · split at h
      · rename_i h3
        split at h
        · omega
        · exact ⟨h0.1,h0.2,by omega,by omega,h3,by omega⟩
      · omega
theorem touchMay_calls {nm:ByteArray} {n:Int} {l:List (List Int)} {cs:List JH} {leads:List Int} (h:Ku nm n l cs ≠ 0):Kk nm n l cs leads = Ku nm n l cs:=by unfold Kk;rw [if_pos h]
theorem touchMay_cnt {nm:ByteArray} {n:Int} {l:List (List Int)} {cs:List JH} {leads:List Int} (h:Ku nm n l cs = 0) (h2:leads.length < 1 ∨ 400 < leads.length):Kk nm n l cs leads = 1:=by unfold Kk;rw [if_neg (by omega),if_pos h2]
theorem touchMay_val {nm:ByteArray} {n:Int} {l:List (List Int)} {cs:List JH} {leads:List Int} (h:Ku nm n l cs = 0) (h2:¬ (leads.length < 1 ∨ 400 < leads.length)) {k:Nat} (hk:k < leads.length) (h3:¬ (0 ≤ leads.getD k 0∧leads.getD k 0 < cs.length)):Kk nm n l cs leads = 12:=by
  unfold Kk;rw [if_neg (by omega),if_neg h2,if_neg (fun h4=>h3 (h4 k hk))]
theorem touchMay_lim {nm:ByteArray} {n:Int} {l:List (List Int)} {cs:List JH} {leads:List Int} (h:Ku nm n l cs = 0) (h2:¬ (leads.length < 1 ∨ 400 < leads.length)) (h3:∀ k,k < leads.length → 0 ≤ leads.getD k 0∧leads.getD k 0 < cs.length) (h4:20000 < leads.length * l.length):Kk nm n l cs leads = 3:=by
  unfold Kk;rw [if_neg (by omega),if_neg h2,if_pos h3,if_pos h4]
theorem touchMay_yes {nm:ByteArray} {n:Int} {l:List (List Int)} {cs:List JH} {leads:List Int} (h:Ku nm n l cs = 0) (h2:¬ (leads.length < 1 ∨ 400 < leads.length)) (h3:∀ k,k < leads.length → 0 ≤ leads.getD k 0∧leads.getD k 0 < cs.length) (h4:¬ 20000 < leads.length * l.length):Kk nm n l cs leads = 0:=by
  unfold Kk;rw [if_neg (by omega),if_neg h2,if_pos h3,if_neg h4]
end Go.KL
namespace Go.KL
open Go.RowKit
variable {P:Program} {J:JdOf P} {d:Option Tmp} {ty:TypeId} {pos:String} {af:Array Edge} {g:Option (Nat × Bool)} {a:Act} {σ:GW}
def Ty.clo (f:FuncId) (ts:List Ty):Ty:=⟨fun σ v=>∃ p,v = .func (.func f) #[] #[p]∧(Ty.ref ts).has σ p,fun h ⟨p,e,hp⟩=>⟨p,e,Ty.up _ h hp⟩⟩
theorem y_clo {f:FuncId} {ts:List Ty} {x:Operand} (hx:At (.ref ts) σ a x):Yld J ⟨d,.makeFunc (.func f) #[] #[x],ty,pos,af,g⟩ a σ (Ty.clo f ts).pr :=
  Yld.of_run (v:=.func (.func f) #[] #[a.eval x]) (by simp [execOp,Instr.makeFunc,Sem.run_bind]) ⟨_,rfl,hx⟩
theorem y_callv {f : FuncId} {fn : Func} {q : Operand} {xs : Array Operand} {tys : Array TypeId} {R : Ty} {ts : List Ty} (args : Value → Array Value) (hq : At (.clo f ts) σ a q) (hf : P.funcs[f]? = some fn) (hn : (fn.name == "runtime.NumGoroutine") = false) (hb : fn.body.isNone = false)
    (hargs:∀ p,xs.map a.eval ++ #[p] = args p) (hc:∀ p,(Ty.ref ts).has σ p → FnC J f (args p) σ R) :
    Yld J ⟨d,.call ⟨.value q,xs,tys⟩,ty,pos,af,g⟩ a σ R.pr:=by
  intro K Q hk
  obtain ⟨p,e,hp⟩:=hq
  refine xwp_call (f:=f) (args:=(args p)) ⟨_,_,_,#[],#[p],fn,rfl,e,by rw [← hargs p];simp,hf,hn,hb⟩ ?_
  refine XCalls.mono (hc p hp) ?_
  rintro e w' ⟨v,τ,rfl,hs,rfl,hv⟩
  exact hk v τ hs hv
theorem y_capnil {x:Operand} {t e:TypeId} (ht:P.underlying t = some (.slice e)) (hx:At (.val (.slice none 0 0)) σ a x) :
    Yld J ⟨d,.call ⟨.builtin .cap,#[x],#[t]⟩,ty,pos,af,g⟩ a σ (Ty.int ((0:Nat):Int)).pr :=
  Yld.of_run (v:=.int .i64 0) (Xj hx (fun cs=>by simp [builtin,Builtin.cap_,run_underlying ht,goInt])) rfl rfl (by have e:a.eval x = .slice none 0 0:=hx;simp [Qo,sly,e])
theorem y_slicenil {x y:Operand} {t e:TypeId} {z:Value} {b c:Nat} {ki:IntKind} (ht:P.underlying t = some (.slice e)) (he:Info P e z c b) (hx:At (.val (.slice none 0 0)) σ a x) (hy:a.eval y = .int ki ((0:Nat):Int)) :
    Yld J ⟨d,.slice t x none (some y) none,ty,pos,af,g⟩ a σ (Ty.val (.slice none 0 0)).pr:=by
  refine Yld.of_run (v:=sliced none 0 0 0 c) ?_ ?_
  · have h1:=run_slice_h (P:=P) σ.w t none 0 0 (elem_of ht) ki ((0:Nat):Int) (by omega) (by omega)
    rw [elem_eq ht,he.size] at h1
    have hx':a.eval x = .slice none 0 0:=hx
    simp only [execOp,hx',hy,Option.map_some,Option.map_none,Sem.run_bind,run_sliceAt_slice σ.w t _ _ _ _ (elem_of ht),h1,Result.andThen_ok,Sem.run_pure,Int.toNat_natCast]
  · show sliced none 0 0 0 c = _
    unfold sliced;simp
theorem m_appendn {k:Nat} {t u e:TypeId} {z:Value} {by_:Nat} {x y:Operand} {n:Nat} {ki:IntKind} {T:Ty} (ht:P.underlying t = some (.slice e)) (hu:P.underlying u = some (.int ki)) (he:Info P e z 1 by_) (hz:z.cells = #[z]) (hT:∀ σ,T.has σ z)
    (hx:At (.val (.slice none 0 0)) σ a x) (hy:a.eval y = .int .i64 ((n:Nat):Int)) (hn:1 ≤ n) (hlen:n ≤ 9223372036854775807) (hb:n * by_ ≤ 140737488355328) :
    YldM k J ⟨d,.call ⟨.builtin .append,#[x,y],#[t,u]⟩,ty,pos,af,g⟩ a σ (fun v τ=>Own τ k e 1 v n (List.replicate n T)):=by
  intro K Q hk'
  obtain ⟨i,hi,hi1,hi2,rfl⟩:=he.get
  have hx':a.eval x = .slice none 0 0:=hx
  have hcap:grownCap σ.w n 0 e ≥ n:=grownCap_ge σ.w n 0 e
  have hcm:grownCap σ.w n 0 e ≤ maxLen:=grownCap_le_maxLen σ.w n 0 e hlen
  have hr:(Builtin.append_ #[t,u] ty #[.slice none 0 0,.int .i64 ((n:Nat):Int)]).run P σ.w = .ok (.slice (some ⟨σ.w.heap.size,0,none⟩) n (grownCap σ.w n 0 e)) (σ.w.drew.alloc (.cells (Builtin.zeroCells z.cells n ++ Builtin.zeroCells z.cells (grownCap σ.w n 0 e - n)) e)):=by
    have h0:n ≠ 0:=by omega
    have hw:IntKind.i64.wrap ((n:Nat):Int) = n:=w64 (by omega) (by omega)
    have h1:¬ ((n:Nat):Int) < 0:=by omega
    have h2:¬ (281474976710656 < ((n:Nat):Int) * (i.bytes:Int)):=by
      have h3:((n * i.bytes:Nat):Int) ≤ 281474976710656:=by omega
      rw [Int.natCast_mul] at h3;omega
    have h48:¬ (281474976710656 < Builtin.nextslicecap n 0 * i.bytes):=by rw [nextslicecap_zero (by omega)];omega
    have h63:¬ (9223372036854775807 < (n:Int)):=by omega
    simp [Builtin.append_,run_underlying ht,run_underlying hu,sizeOf,typeInfo,zeroValue,hi,hi1,hi2,asInt,asIntOf,hw,h1,h2,h0,h48,h63,Question.forced,run_firstCells_none,newRow,grownCap]
  have hr':(execOp a.eval ⟨d,.call ⟨.builtin .append,#[x,y],#[t,u]⟩,ty,pos,af,g⟩).run P σ.w = .ok (.value (.slice (some ⟨σ.w.heap.size,0,none⟩) n (grownCap σ.w n 0 e))) (σ.w.drew.alloc (.cells (Builtin.zeroCells z.cells n ++ Builtin.zeroCells z.cells (grownCap σ.w n 0 e - n)) e)):=by
    simp only [execOp,resolve,Sem.run_bind,Sem.run_pure,Result.andThen_ok,invoke,List.map_toArray,List.map_cons,List.map_nil,builtin,hx',hy,hr]
  refine JW rfl ?_
  rw [hr']
  refine ⟨by first | rfl | simp [Qo,QO,sly, *],?_⟩
  have hstp:Stp 0 σ (σ.drew.mk' k (.cells (Builtin.zeroCells z.cells n ++ Builtin.zeroCells z.cells (grownCap σ.w n 0 e - n)) e)):=(Stp.drew σ).trans (Stp.mk' σ.drew k _)
  have hzl:(Builtin.zeroCells z.cells n).toList = List.replicate n z:=by
    rw [hz];unfold Builtin.zeroCells
    refine List.ext_getElem (by simp) fun j h1 h2=>?_
    simp [Nat.mod_one]
  refine hk' _ _ hstp.of0 (Own.intro (us:=List.replicate n z) (heap_alloc_new σ.w.drew _) (by show (if _ = _ then k else _) = k;rw [if_pos];rfl) hcap hcm ?_ ?_ (by simp) ?_)
  · simp only [Array.size_append,size_zeroCells,hz];simp;omega
  · simp only [Array.toList_append,hzl]
    rw [List.take_append_of_le_length (by simp)];simp
  · intro j U u hU hu
    simp only [List.getElem?_replicate] at hU hu
    split at hU
    · cases hU;rw [if_pos (by assumption)] at hu;cases hu;exact hT _
    · cases hU
theorem flat_take {α:Type} {c:Nat} {F:α → List Ty} (hF:∀ x,(F x).length = c):∀ (xs:List α) (h:Nat),(xs.flatMap F).take (h * c) = (xs.take h).flatMap F
  | [],h=>by simp
  | x :: xs,0=>by simp
  | x :: xs,h + 1=>by
    rw [List.flatMap_cons,List.take_succ_cons,List.flatMap_cons,List.take_append,hF,← flat_take hF xs h,List.take_of_length_le (by rw [hF,Nat.succ_mul];omega),Nat.succ_mul,Nat.add_sub_cancel]
theorem y_takec {α:Type} {c:Nat} {F:α → List Ty} {xs:List α} {x y:Operand} {t e:TypeId} {z:Value} {b:Nat} {k:IntKind} {l:Nat} (ht:P.underlying t = some (.slice e)) (he:Info P e z c b) (hx:At (Ty.lstc c F xs) σ a x) (hy:a.eval y = .int k l) (hl:l ≤ xs.length) (hF:∀ x,(F x).length = c) :
    Yld J ⟨d,.slice t x none (some y) none,ty,pos,af,g⟩ a σ (Ty.lstc c F (xs.take l)).pr:=(y_cut_h ht he hx hy hl).mono fun _ _ h=>by
  rw [flat_take hF] at h
  show (Ty.sl c (xs.take l).length ((xs.take l).flatMap F)).has _ _
  rwa [show (xs.take l).length = l by simp [Nat.min_eq_left hl]]
theorem getD_fst (cs:List JH) (j:Nat):(cs.map (·.1)).getD j 0 = (cs.getD j D0).1:=by
  rw [List.getD_eq_getElem?_getD,List.getD_eq_getElem?_getD,List.getElem?_map]
  cases cs[j]? <;> rfl
theorem idxC_yes {cs:List JH} {s:Int} {k:Nat} (hk:k < cs.length) (h:(cs.getD k D0).1 = s) (hno:∀ j,j < k → (cs.getD j D0).1 ≠ s):indexL (cs.map (·.1)) s = k :=
  indexL_yes (by rw [List.length_map];exact hk) (by rw [getD_fst];exact h.symm) (fun j hj=>by rw [getD_fst];exact hno j hj)
theorem idxC_no {cs:List JH} {s:Int} (hno:∀ j,j < cs.length → (cs.getD j D0).1 ≠ s):indexL (cs.map (·.1)) s = -1 :=
  indexL_no (fun j hj=>by rw [getD_fst];rw [List.length_map] at hj;exact hno j hj)
theorem step_sign {n:Int} {L:Nat} {pre:List Int} {c:JH} (h:QD c.1 = false):KR n L pre c = 4:=by unfold KR;rw [if_pos h]
theorem step_dbl {n:Int} {L:Nat} {pre:List Int} {c:JH} (h:QD c.1 = true) (h2:c.1 ∈ pre):KR n L pre c = 8:=by unfold KR;rw [if_neg (by rw [h];simp),if_pos h2]
theorem step_long {n:Int} {L:Nat} {pre:List Int} {c:JH} (h:QD c.1 = true) (h2:c.1 ∉ pre) (h3:L < c.2.length):KR n L pre c = 1:=by unfold KR;rw [if_neg (by rw [h];simp),if_neg h2,if_pos h3]
theorem step_all {n:Int} {L:Nat} {pre:List Int} {c:JH} (h:QD c.1 = true) (h2:c.1 ∉ pre) (h3:¬ L < c.2.length):KR n L pre c = KN n c.2:=by unfold KR;rw [if_neg (by rw [h];simp),if_neg h2,if_neg h3]
theorem calls_at {n:Int} {L:Nat} {cs:List JH} {i:Nat} {e v:Int} (h:Qj n L ((cs.take i).map (·.1)) (cs.drop i) = e) (hi:i < cs.length) (hs:KR n L ((cs.take i).map (·.1)) (cs.getD i D0) = v) (hv:v ≠ 0):e = v:=by
  rw [calls_stop h hi (by rw [hs];exact hv),hs]
theorem callsMay_meth {nm:ByteArray} {n:Int} {l:List (List Int)} {cs:List JH} (h:KG nm n l ≠ 0):Ku nm n l cs = KG nm n l:=by unfold Ku;rw [if_pos h]
theorem callsMay_cnt {nm:ByteArray} {n:Int} {l:List (List Int)} {cs:List JH} (h:¬ KG nm n l ≠ 0) (h2:cs.length < 1 ∨ 8 < cs.length):Ku nm n l cs = 1:=by unfold Ku;rw [if_neg h,if_pos h2]
theorem callsMay_all {nm:ByteArray} {n:Int} {l:List (List Int)} {cs:List JH} (h:¬ KG nm n l ≠ 0) (h2:¬ (cs.length < 1 ∨ 8 < cs.length)):Ku nm n l cs = Qj n l.length [] cs:=by unfold Ku;rw [if_neg h,if_neg h2]
theorem flatten_le {α:Type} (xss:List (List α)) (k:Nat):(xss.take k).flatten.length ≤ xss.flatten.length:=by
  have h:=congrArg (fun l:List (List α)=>l.flatten.length) (List.take_append_drop k xss)
  simp only [List.flatten_append,List.length_append] at h
  omega
theorem Xm {α:Type} {xss:List (List α)} {k:Nat} (h:k < xss.length):(xss.take (k + 1)).flatten = (xss.take k).flatten ++ xss.getD k []:=by
  rw [QF [] h,List.flatten_append];simp
end Go.KL
namespace Go.KL
end Go.KL
namespace Go.KL
theorem getD_takeD {α:Type} (d:α) {l:List α} {m k:Nat} (h:k < m):(l.take m).getD k d = l.getD k d:=by
  rw [List.getD_eq_getElem?_getD,List.getD_eq_getElem?_getD,List.getElem?_take_of_lt h]
theorem tRows_head {nm:ByteArray} {n:Nat} {l:List (List Int)} {cs:List JH} {leads:List Int} (h:CallsOk nm n l cs) (hi:KU cs leads) {k:Nat} (hk:k ≤ leads.length):(JA n l cs leads leads.length).getD (k * l.length) [] = tHd n l cs leads k:=by
  by_cases e:k = leads.length
  · rw [e];exact tRows_last h hi _ (Nat.le_refl _)
  · have:=tRows_get h hi (Nat.le_refl _) (show k < leads.length by omega) (Nat.zero_le l.length)
    rw [Nat.add_zero] at this;exact this
end Go.KL
namespace Go.KL
open Go.RowKit
variable {P:Program} {J:JdOf P}
variable {d:Option Tmp} {ty:TypeId} {pos:String} {af:Array Edge} {g:Option (Nat × Bool)} {a:Act} {σ:GW}
end Go.KL
namespace Go.KL
open Go.RowKit
variable {P:Program} {J:JdOf P}
theorem own_append0 {σ:GW} {k:Nat} {t ty e:TypeId} {z:Value} {c by_:Nat} {v src:Value} {n m:Nat} {ts us:List Ty} (hk:2 ≤ k) (ht:P.underlying t = some (.slice e)) (he:Info P e z c by_) (hz:z.cells.size = c) (hc:0 < c)
    (h:Own σ k e c v n ts) (hx:(Ty.sl c m us).has σ src) (h1:∀ U,U ∈ us → One U) (hlen:n + m ≤ 9223372036854775807) (hbytes:(n + m) * by_ ≤ 140737488355328) (hv0:∃ ad,v = .slice ad n 0) :
    ∃ v' τ,(Builtin.append_ #[t,t] ty #[v,src]).run P σ.w = .ok v' τ.w∧Stp 0 σ τ∧Own τ k e c v' (n + m) (ts ++ us):=by
  have h0:=h
  obtain ⟨vs,r1,r2,r3,r4⟩:=h
  obtain ⟨ad,cap0,b,o,rfl,hcap0,hl,hs,hcl⟩:=hx
  obtain ⟨i,hi,hi1,rfl,rfl⟩:=he.get
  obtain ⟨ws,w1,w2,w3⟩:=sl_news hcl
  have hone:∀ u ∈ ws,u.oneCell' = true:=fun u hu=>by
    obtain ⟨j,hj⟩:=List.mem_iff_getElem?.1 hu
    obtain ⟨T,hT⟩:∃ T,us[j]? = some T:=⟨us[j]'(by rw [← w1];exact (List.getElem?_eq_some_iff.1 hj).1),by simp⟩
    exact h1 T (List.mem_of_getElem? hT) σ u (w3 j T u hT hj)
  have hlw:ws.length = m * i.size:=by rw [w1];exact hl
  have hl':(vs ++ ws).length = (ts ++ us).length:=by simp [r2,w1]
  have new:∀ (old:Nat) (τw:World),old < n + m → τw = σ.w.drew.alloc (.cells (vs.toArray ++ ws.toArray ++ Builtin.zeroCells z.cells (grownCap σ.w (n + m) old e - (n + m))) e) →
      ∃ τ:GW,τ.w = τw∧Stp 0 σ τ∧Own τ k e i.size (.slice (some ⟨σ.w.heap.size,0,none⟩) (n + m) (grownCap σ.w (n + m) old e)) (n + m) (ts ++ us):=by
    intro old τw _ hτ
    subst hτ
    have hge:=grownCap_ge σ.w (n + m) old e
    have hcm:grownCap σ.w (n + m) old e ≤ maxLen:=grownCap_le_maxLen σ.w (n + m) old e hlen
    have hstp:Stp 0 σ (σ.drew.mk' k (.cells (vs.toArray ++ ws.toArray ++ Builtin.zeroCells z.cells (grownCap σ.w (n + m) old e - (n + m))) e)):=(Stp.drew σ).trans (Stp.mk' σ.drew k _)
    refine ⟨_,rfl,hstp,Own.intro (us:=vs ++ ws) (heap_alloc_new σ.w.drew _) (by show (if _ = _ then k else _) = k;rw [if_pos];rfl) hge hcm ?_ ?_ hl' ?_⟩
    · simp only [Array.size_append,List.size_toArray,size_zeroCells,hz,r1.1,hlw,← Nat.add_mul]
      congr 1;omega
    · simp only [Array.toList_append,List.append_assoc]
      rw [← List.append_assoc,show (n + m) * i.size = (vs ++ ws).length by rw [List.length_append,r1.1,hlw,Nat.add_mul]]
      exact List.take_left
    · exact typed_append r2 (fun j T u hT hu=>T.up hstp.le0 (r3 j T u hT hu)) (fun j T u hT hu=>T.up hstp.le0 (w3 j T u hT hu))
  rcases r1.2 with ⟨rfl,rfl⟩ | ⟨g,cap,cur,rfl,_,hg,hn,hm,hcs,htk⟩
  · have hvs:vs = []:=List.eq_nil_of_length_eq_zero (by rw [r1.1];simp)
    by_cases hm0:m = 0
    · subst hm0
      have hus:us = []:=List.eq_nil_of_length_eq_zero (by rw [hl];simp)
      subst hus
      refine ⟨.slice none 0 0,σ,?_,Stp.refl _ _,by simpa using h0⟩
      cases ad <;> simp [Builtin.append_,run_underlying ht,sizeOf,typeInfo,hi,Builtin.lenOf,Builtin.firstCells,loadCells,loadCellsFrom]
    · have hus:us ≠ []:=by
        intro e;subst e
        have:0 < m * i.size:=Nat.mul_pos (by omega) hc
        simp only [List.length_nil] at hl
        omega
      obtain ⟨rfl,hst⟩:=hs.resolve_left hus
      have hr:=run_append_nil (P:=P) σ.w t ty e i z ht hi hi1 ⟨b,o,none⟩ m cap0 ws hlw (fun j u hj=>by rw [Addr.add_lit];exact w2 j u hj) (by omega) (by omega) (by simp only [Nat.zero_add] at hbytes;omega)
      obtain ⟨τ,e1,e2,e3⟩:=new 0 _ (by omega) rfl
      simp only [Nat.zero_add] at e1 e3 ⊢
      exact ⟨_,τ,by rw [hr,e1,hvs];simp,e2,e3⟩
  · have hlt:g < σ.w.heap.size:=(Array.getElem?_eq_some_iff.1 hg).1
    have hgk:=r4 g rfl
    by_cases hnone:ad = none
    · subst hnone
      have hus:us = []:=hs.resolve_right (fun h=>by cases h.1)
      have hm0:m = 0:=by
        subst hus
        rcases Nat.eq_zero_or_pos m with h | h
        · exact h
        · have:0 < m * i.size:=Nat.mul_pos h hc
          simp only [List.length_nil] at hl
          omega
      subst hm0;subst hus
      refine ⟨_,σ,?_,Stp.refl _ _,by simpa using h0⟩
      simp [Builtin.append_,run_underlying ht,sizeOf,typeInfo,hi,Builtin.lenOf,Builtin.firstCells,hn,storeCells,loadCells]
    · obtain ⟨ad',rfl⟩:=Option.ne_none_iff_exists'.1 hnone
      have hnews:∀ (j:Nat) (u:Value),ws[j]? = some u → σ.w.cell? (ad'.add j) = some u:=fun j u hj=>by
        rcases hs with rfl | ⟨he',_⟩
        · have:ws = []:=List.eq_nil_of_length_eq_zero w1
          subst this;simp at hj
        · cases he';rw [Addr.add_lit];exact w2 j u hj
      have hcap:cap = 0:=by
        obtain ⟨ad0,e0⟩:=hv0
        cases e0;rfl
      by_cases hroom:n + m ≤ cap
      · have hm0:m = 0:=by omega
        have hn0:n = 0:=by omega
        have hfit:n * i.size + ws.length ≤ cur.size:=by rw [hlw,hcs,← Nat.add_mul];exact Nat.mul_le_mul_right _ hroom
        have hr:=run_append_room (P:=P) σ.w t ty e i ht hi g n cap cur hg ad' m cap0 ws hlw hnews hone hroom hfit
        have hc0:cur.size = 0:=by rw [hcs,hcap,Nat.zero_mul]
        have hw0:ws = []:=List.eq_nil_of_length_eq_zero (by rw [hlw,hm0,Nat.zero_mul])
        have hcur:(cur.toList.take (n * i.size) ++ ws ++ cur.toList.drop (n * i.size + ws.length)).toArray = cur:=by
          have:cur = #[]:=Array.eq_empty_of_size_eq_zero hc0
          subst this;subst hw0;simp
        rw [hcur] at hr
        have hstp:Stp 0 σ (σ.setRow g cur):=⟨rfl,rfl,rfl,Dr.refl _,by simp [GW.setRow,World.setRow],fun b hb _=>by
          by_cases e:b = g
          · subst e;rw [hg];exact setRow_heap σ.w b cur cur _ (0,0) hg
          · exact setRow_other σ.w g b cur e,fun _ _ _=>rfl⟩
        refine ⟨_,_,hr,hstp,Own.intro (us:=vs ++ ws) (setRow_heap σ.w g cur _ e (0,0) hg) hgk hroom hm hcs ?_ hl' ?_⟩
        · rw [hw0,List.append_nil,hm0,Nat.add_zero];exact htk
        · exact typed_append r2 (fun j T u hT hu=>T.up hstp.le0 (r3 j T u hT hu)) (fun j T u hT hu=>T.up hstp.le0 (w3 j T u hT hu))
      · have holds:∀ (j:Nat) (u:Value),vs[j]? = some u → σ.w.cell? ((⟨g,0,none⟩:Addr).add j) = some u:=r1.cells (g:=g) rfl
        have hr:=run_append_grow (P:=P) σ.w t ty e i z ht hi hi1 ⟨g,0,none⟩ n cap vs r1.1 holds ad' m cap0 ws hlw hnews (by omega) (by omega) (growslice_fits (by omega) hbytes)
        obtain ⟨τ,e1,e2,e3⟩:=new cap _ (by omega) rfl
        exact ⟨_,τ,by rw [hr,e1],e2,e3⟩
variable {d:Option Tmp} {ty:TypeId} {pos:String} {af:Array Edge} {g:Option (Nat × Bool)} {a:Act} {σ:GW}
def Pr.own0 (k:Nat) (e:TypeId):Pr:=⟨fun σ v=>Own σ k e 1 v 0 []∧∃ ad,v = .slice ad 0 0,fun hs h=>⟨h.1.keep hs (by decide) (.inl rfl),h.2⟩⟩
theorem y_lit00 {k:Nat} {t e:TypeId} {z:Value} {b:Nat} (ht:P.underlying t = some (.slice e)) (he:Info P e z 1 b) :
    Yld J ⟨d,.buildSlice t 0 #[],ty,pos,af,g⟩ a σ (Pr.own0 k e):=by
  intro K Q hk
  have hr:(execOp a.eval ⟨d,.buildSlice t 0 #[],ty,pos,af,g⟩).run P σ.w = .ok (.value (.slice (some ⟨σ.w.heap.size,0,none⟩) 0 0)) (σ.w.alloc (.cells #[] e)):=by
    simp only [execOp,List.map_toArray,List.map_nil]
    simp [Instr.buildSlice,run_underlying ht,he.size,Instr.fill,newRow,newObj,Sem.run,Sem.run_bind,Array.range_zero']
  refine JW rfl ?_
  rw [hr]
  refine ⟨by first | rfl | simp [Qo,QO,sly, *],?_⟩
  exact hk _ (σ.mk' k (.cells #[] e)) (Stp.mk' σ k _) ⟨Own.intro (us:=[]) (heap_alloc_new σ.w _) (by show (if _ = _ then k else _) = k;rw [if_pos rfl]) (Nat.le_refl _) (Nat.zero_le _) rfl rfl rfl (fun j T u h=>by simp at h),_,rfl⟩
theorem y_append0 {k:Nat} {t e:TypeId} {z:Value} {by_:Nat} {x y:Operand} {m:Nat} {us:List Ty} (ht:P.underlying t = some (.slice e)) (he:Info P e z 1 by_) (hk:2 ≤ k) (hz:z.cells.size = 1)
    (h:(Pr.own0 k e).has σ (a.eval x)) (hx:At (.sl 1 m us) σ a y) (h1:∀ U,U ∈ us → One U) (hlen:m ≤ 9223372036854775807) (hbytes:m * by_ ≤ 140737488355328) :
    Yld J ⟨d,.call ⟨.builtin .append,#[x,y],#[t,t]⟩,ty,pos,af,g⟩ a σ (Pr.own k e 1 m us):=by
  intro K Q hk'
  obtain ⟨v',τ,hr,hs,ho⟩:=own_append0 (ty:=ty) hk ht he hz (by decide) h.1 hx h1 (by omega) (by rw [Nat.zero_add];exact hbytes) h.2
  have hr':(execOp a.eval ⟨d,.call ⟨.builtin .append,#[x,y],#[t,t]⟩,ty,pos,af,g⟩).run P σ.w = .ok (.value v') τ.w:=by
    simp only [execOp,resolve,Sem.run_bind,Sem.run_pure,Result.andThen_ok,invoke,List.map_toArray,List.map_cons,List.map_nil,builtin,hr]
  refine JW rfl ?_
  rw [hr']
  refine ⟨by first | rfl | simp [Qo,QO,sly, *],?_⟩
  exact hk' v' τ hs (by rw [Nat.zero_add,List.nil_append] at ho;exact ho)
end Go.KL
namespace Go.KL
theorem run0_facts {s:ByteArray} (h1:1 ≤ s.size):((s.get! 0).toNat < 128∧QI s 0 = (s.get! 0).toNat∧wid s 0 = 1) ∨ (QI s 0 ≠ 32∧128 ≤ (s.get! (wid s 0 - 1)).toNat):=by
  by_cases hb:(s.get! 0).toNat < 128
  · exact .inl ⟨hb,rn_low hb⟩
  · refine .inr ?_
    have bad:QI s 0 = -1∧wid s 0 = 1 → QI s 0 ≠ 32∧128 ≤ (s.get! (wid s 0 - 1)).toNat:=fun ⟨a,b⟩=>by rw [a,b];exact ⟨by decide,by simpa using hb⟩
    by_cases h2:nB (s.get! 0).toNat = 0 ∨ s.size < nB (s.get! 0).toNat
    · exact bad (rn_short hb h2 h1)
    · have h0:nB (s.get! 0).toNat ≠ 0:=fun e=>h2 (.inl e)
      have hs:nB (s.get! 0).toNat ≤ s.size:=by omega
      obtain ⟨j,hj⟩:∃ j,j + 1 = nB (s.get! 0).toNat:=⟨nB (s.get! 0).toNat - 1,by omega⟩
      have hjc:=nB_cases h0 hj
      by_cases hc:∀ i,i < j → 128 ≤ (s.get! (i + 1)).toNat∧(s.get! (i + 1)).toNat < 192
      · by_cases hv:Qi s (cB (s.get! 0).toNat) j < lowB (s.get! 0).toNat ∨ 1114111 < Qi s (cB (s.get! 0).toNat) j ∨ (55296 ≤ Qi s (cB (s.get! 0).toNat) j∧Qi s (cB (s.get! 0).toNat) j < 57344)
        · exact bad (rn_bad h0 hs hj hc hv)
        · obtain ⟨a,b⟩:=rn_ok h0 hs hj hc hv
          have hlow:128 ≤ lowB (s.get! 0).toNat:=by
            rcases hjc with ⟨_,h⟩ | ⟨_,h⟩ | ⟨_,h⟩
            · rw [(nb2 h).2.2];omega
            · rw [(nb3 h).2.2];omega
            · rw [(nb4 h).2.2];omega
          rw [a,b]
          refine ⟨by omega,?_⟩
          have:=hc (j - 1) (by omega)
          rw [show nB (s.get! 0).toNat - 1 = j - 1 + 1 by omega];exact this.1
      · obtain ⟨i,hi⟩:=Classical.not_forall.1 hc
        obtain ⟨hi1,hi2⟩:=Classical.not_imp.1 hi
        exact bad (rn_cont (j:=i) (by omega) (by omega))
theorem run_facts {s:ByteArray} {p:Nat} (h:p < s.size):((s.get! p).toNat < 128∧QI s p = (s.get! p).toNat∧wid s p = 1) ∨ (QI s p ≠ 32∧128 ≤ (s.get! (p + (wid s p - 1))).toNat):=by
  have h0:=run0_facts (s:=s.extract p s.size) (by rw [ByteArray.size_extract];omega)
  rwa [(ext_run s p).1,(ext_run s p).2,get_ext,get_ext,Nat.add_zero] at h0
theorem letter_m (s:ByteArray) (p:Nat):KT (QI s p) = KT ((run1 s p:Nat):Int):=by
  rcases run_m s p with h | ⟨h1,h2⟩
  · rw [h]
  · rw [h1,h2];rfl
theorem runs_all (s:ByteArray):∀ (f p:Nat),(Xe s f p).all KT = (runesF s f p).all (fun (c:Nat)=>KT (c:Int))∧(Xe s f p).length = (runesF s f p).length
  | 0,p=>⟨rfl,rfl⟩
  | f + 1,p=>by
    rw [Xe,runesF]
    obtain ⟨h1,h2⟩:=runs_all s f (p + wid s p)
    split
    · exact ⟨by rw [List.all_cons,List.all_cons,h1,letter_m],by rw [List.length_cons,List.length_cons,h2]⟩
    · exact ⟨rfl,rfl⟩
theorem runs_last {s:ByteArray}:∀ (f p:Nat),p < s.size → s.size ≤ f + p → ((Xe s f p).getD ((Xe s f p).length - 1) 0 = 32 ↔ (s.get! (s.size - 1)).toNat = 32)
  | 0,p,h1,h2=>by omega
  | f + 1,p,h1,h2=>by
    have hw:=wid_pos s p
    have hi:=wid_in h1
    rw [Xe,if_pos h1]
    by_cases e:p + wid s p < s.size
    · have ih:=runs_last f (p + wid s p) e (by omega)
      have hne:1 ≤ (Xe s f (p + wid s p)).length:=by
        rw [runsF_cons e (by omega),List.length_cons];omega
      rw [List.length_cons,Nat.add_sub_cancel]
      obtain ⟨m,hm⟩:∃ m,(Xe s f (p + wid s p)).length = m + 1:=⟨_,(Nat.sub_add_cancel hne).symm⟩
      rw [hm,List.getD_cons_succ]
      rw [hm,Nat.add_sub_cancel] at ih
      exact ih
    · rw [runsF_end (by omega)]
      show QI s p = 32 ↔ _
      rcases run_facts h1 with ⟨_,h4,h5⟩ | ⟨h3,h4⟩
      · rw [h4,show s.size - 1 = p by omega];omega
      · rw [show p + (wid s p - 1) = s.size - 1 by omega] at h4
        constructor
        · intro h;exact absurd h h3
        · intro h;omega
def nameI (l:List Int):Bool:=decide (1 ≤ l.length∧l.length ≤ 20∧l.getD 0 0 ≠ 32∧l.getD (l.length - 1) 0 ≠ 32) && l.all KT
theorem name_eq (s:ByteArray):nameI (runsL s) = nameL s:=by
  obtain ⟨h1,h2⟩:=runs_all s s.size 0
  unfold nameI nameL runsL runesL
  rw [h1,← h2,Bool.and_comm]
  congr 1
  by_cases hz:s.size = 0
  · rw [runsF_end (s:=s) (f:=s.size) (p:=0) (by omega)]
    simp
  · have hl:=runs_last (s:=s) s.size 0 (by omega) (by omega)
    have hf:(Xe s s.size 0).getD 0 0 = 32 ↔ (s.get! 0).toNat = 32:=by
      rw [runsF_cons (s:=s) (f:=s.size) (p:=0) (by omega) (by omega),List.getD_cons_zero]
      rcases run_facts (s:=s) (p:=0) (by omega) with ⟨_,h4,_⟩ | ⟨h3,h4⟩
      · rw [h4];omega
      · constructor
        · intro h;exact absurd h h3
        · intro h
          have:=(rn_low (s:=s) (by omega)).1
          rw [h] at this;exact absurd this h3
    rw [Bool.eq_iff_iff]
    simp only [Bool.and_eq_true,decide_eq_true_eq]
    constructor
    · rintro ⟨a,b,c,d⟩
      exact ⟨⟨⟨by omega,by omega⟩,fun h=>c (hf.2 (by omega))⟩,fun h=>d (hl.2 (by omega))⟩
    · rintro ⟨⟨⟨a,b⟩,c⟩,d⟩
      exact ⟨by omega,by omega,fun h=>c (by have:=hf.1 h;omega),fun h=>d (by have:=hl.1 h;omega)⟩
theorem name_bad {l:List Int} (h:l.length < 1 ∨ 20 < l.length ∨ l.getD 0 0 = 32 ∨ l.getD (l.length - 1) 0 = 32):nameI l = false:=by
  unfold nameI
  rw [decide_eq_false (by omega),Bool.false_and]
theorem name_let {l:List Int} {i:Nat} (hi:i < l.length) (h:KT (l.getD i 0) = false):nameI l = false:=by
  unfold nameI
  rw [Bool.and_eq_false_iff];right
  rw [List.all_eq_false]
  exact ⟨_,mem_getDD 0 hi,by rw [h];exact Bool.false_ne_true⟩
theorem name_good {l:List Int} (h:¬ (l.length < 1 ∨ 20 < l.length ∨ l.getD 0 0 = 32 ∨ l.getD (l.length - 1) 0 = 32)) (h2:∀ i,i < l.length → KT (l.getD i 0) = true):nameI l = true:=by
  unfold nameI
  rw [decide_eq_true (by omega),Bool.true_and,List.all_eq_true]
  intro x hx
  obtain ⟨i,hi,rfl⟩:=List.getElem_of_mem hx
  have:=h2 i hi
  rw [List.getD_eq_getElem?_getD,List.getElem?_eq_getElem hi] at this;exact this
theorem pre_in {cs:List JH} {i k:Nat} {s:Int} (hi:i ≤ cs.length) (hk:k < i) (h:(cs.getD k D0).1 = s):s ∈ (cs.take i).map (·.1):=by
  rw [← h]
  refine List.mem_map.2 ⟨_,?_,rfl⟩
  have:=mem_getDD D0 (l:=cs.take i) (k:=k) (by rw [List.length_take];omega)
  rwa [getD_takeD D0 hk] at this
theorem pre_out {cs:List JH} {i:Nat} {s:Int} (hno:∀ j,j < i → (cs.getD j D0).1 ≠ s):s ∉ (cs.take i).map (·.1):=fun h=>by
  obtain ⟨c,hc,e⟩:=List.mem_map.1 h
  obtain ⟨j,hj,hj2⟩:=List.getElem_of_mem hc
  have hj':j < i:=by rw [List.length_take] at hj;omega
  refine hno j hj' ?_
  rw [← getD_takeD D0 hj',List.getD_eq_getElem?_getD,List.getElem?_eq_getElem hj,Option.getD_some,hj2];exact e
end Go.KL
namespace Go.KL
open Go.RowKit
variable {P:Program} {J:JdOf P} {d:Option Tmp} {ty:TypeId} {pos:String} {af:Array Edge} {g:Option (Nat × Bool)} {a:Act} {σ:GW}
end Go.KL
namespace Go.KL
open Go.Conc (G)
inductive Rk (I:Type) | z | mk (f:I → Rk I)
def Rk.lt {I:Type} (r s:Rk I):Prop:=∃ f i,s = .mk f∧r = f i
theorem Rk.wf {I:Type}:WellFounded (Rk.lt (I:=I)):=⟨fun r=>by
  induction r with
  | z=>exact ⟨_,fun _ ⟨_,_,e,_⟩=>by cases e⟩
  | mk f ih=>exact ⟨_,fun _ ⟨g,i,e,h⟩=>by cases e;rw [h];exact ih i⟩⟩
theorem Rk.lt_mk {I:Type} (f:I → Rk I) (i:I):Rk.lt (f i) (.mk f):=⟨f,i,rfl,rfl⟩
section
variable {P:Program} {Pos:Type}
abbrev Ask (Pos:Type):=Pos → Goroutine → World → (Pos → Goroutine → World → Prop) → Prop
def Ask.Mono (Sp:Ask Pos):Prop:=∀ p g w (K K':Pos → Goroutine → World → Prop),(∀ p g w,K p g w → K' p g w) → Sp p g w K → Sp p g w K'
variable (P) (main:Bool) (R:Pos → World → World → Prop) (D:Pos → Pos → World → World → Array Event → Prop) (Sp:Ask Pos)
def Tree:Rk (Pos × Goroutine × World) → Pos → Goroutine → World → Prop
  | .z,_,_,_=>False
  | .mk f,p,g,w=>∀ w1,R p w w1 → (g.status = .running∧∃ p' g' w' es,stepG P main g w1 = .go g' w' es∧D p p' w1 w' es∧Tree (f (p',g',w')) p' g' w') ∨ Sp p g w1 (fun p' g' w'=>Tree (f (p',g',w')) p' g' w')
def Tr (p:Pos) (g:Goroutine) (w:World):Prop:=∃ r,Tree P main R D Sp r p g w
end
section
variable {P:Program} {Pos:Type} {main:Bool} {R:Pos → World → World → Prop} {D:Pos → Pos → World → World → Array Event → Prop} {Sp:Ask Pos}
open Classical in
theorem Tr.intro (hm:Sp.Mono) {p:Pos} {g:Goroutine} {w:World}
    (h:∀ w1,R p w w1 → (g.status = .running∧∃ p' g' w' es,stepG P main g w1 = .go g' w' es∧D p p' w1 w' es∧Tr P main R D Sp p' g' w') ∨ Sp p g w1 (Tr P main R D Sp)):Tr P main R D Sp p g w:=by
  let f:Pos × Goroutine × World → Rk (Pos × Goroutine × World):=fun x=>if h:Tr P main R D Sp x.1 x.2.1 x.2.2 then Classical.choose h else .z
  have hf:∀ p' g' w',Tr P main R D Sp p' g' w' → Tree P main R D Sp (f (p',g',w')) p' g' w':=fun p' g' w' hx=>by
    have e:f (p',g',w') = Classical.choose hx:=dif_pos hx
    rw [e];exact Classical.choose_spec hx
  refine ⟨.mk f,fun w1 h1=>?_⟩
  rcases h w1 h1 with ⟨hr,p',g',w',es,h2,h3,h4⟩ | h2
  · exact .inl ⟨hr,p',g',w',es,h2,h3,hf _ _ _ h4⟩
  · exact .inr (hm _ _ _ _ _ hf h2)
theorem Tree.rely (tr:∀ p a b c,R p a b → R p b c → R p a c) {r:Rk (Pos × Goroutine × World)} {p:Pos} {g:Goroutine} {w w1:World} (h:Tree P main R D Sp r p g w) (hr:R p w w1):Tree P main R D Sp r p g w1:=by
  cases r with
  | z=>exact h
  | mk f=>exact fun w2 h2=>h w2 (tr _ _ _ _ hr h2)
theorem Tr.of_goes (hm:Sp.Mono) {p:Pos} {R':World → World → Prop} {D':World → World → Array Event → Prop} {Stop:Goroutine → World → Prop} (hR:∀ a b,R p a b → R' a b) (hD:∀ a b es,D' a b es → D p p a b es)
    (tr:∀ p a b c,R p a b → R p b c → R p a c) (hS:∀ g w,Stop g w → Tr P main R D Sp p g w ∨ Sp p g w (Tr P main R D Sp)) (rf:∀ w,R p w w):∀ (n:Nat) (g:Goroutine) (w:World),Go.Conc.Goes P main R' D' Stop n g w → Tr P main R D Sp p g w:=by
  have stop:∀ g w,(∀ w1,R' w w1 → Stop g w1) → Tr P main R D Sp p g w:=fun g w h=>Tr.intro hm fun w1 h1=>by
    rcases hS g w1 (h w1 (hR _ _ h1)) with ht | ht
    · obtain ⟨r,ht⟩:=ht
      cases r with
      | z=>exact ht.elim
      | mk f =>
        rcases ht w1 (rf w1) with ⟨a,p',g',w',es,b,c,d⟩ | ht
        · exact .inl ⟨a,p',g',w',es,b,c,_,d⟩
        · exact .inr (hm _ _ _ _ _ (fun _ _ _ x=>⟨_,x⟩) ht)
    · exact .inr ht
  intro n
  induction n with
  | zero=>intro g w h;exact stop g w h
  | succ n ih =>
    intro g w h
    rcases h with h | ⟨hr,h⟩
    · exact stop g w h
    · refine Tr.intro hm fun w1 h1=>.inl ⟨hr,?_⟩
      have:=h w1 (hR _ _ h1)
      cases e:stepG P main g w1 with
      | go g' w' es=>rw [e] at this;exact ⟨p,g',w',es,rfl,hD _ _ _ this.1,ih _ _ this.2⟩
      | _=>rw [e] at this;exact this.elim
end
section
variable {α:Type} (lt:α → α → Prop)
def Pw (N:Nat) (μ' μ:Nat → α):Prop:=∃ i,i < N∧lt (μ' i) (μ i)∧∀ j,j ≠ i → μ' j = μ j
variable {lt}
theorem Pw.wf (h:WellFounded lt):∀ N,WellFounded (Pw lt N)
  | 0=>⟨fun μ=>⟨_,fun _ ⟨_,hi,_⟩=>by omega⟩⟩
  | N + 1 => by
    have ih:=Pw.wf h N
    have key:∀ a:α,Acc lt a → ∀ μ,Acc (Pw lt N) μ → μ N = a → Acc (Pw lt (N + 1)) μ:=by
      intro a ha
      induction ha with
      | intro a _ iha =>
        intro μ hμ
        induction hμ with
        | intro μ _ ihμ =>
          intro e
          refine ⟨_,fun μ' ⟨i,hi,hl,ho⟩=>?_⟩
          by_cases hN:i = N
          · subst hN
            exact iha _ (e ▸ hl) μ' (ih.apply μ') rfl
          · exact ihμ μ' ⟨i,by omega,hl,ho⟩ (by rw [ho N (Ne.symm hN)];exact e)
    exact ⟨fun μ=>key (μ N) (h.apply _) μ (ih.apply μ) rfl⟩
end
end Go.KL
namespace Go.KL
open Go.Conc (G listed)
variable {P:Program}
theorem Ext.drew (v:World):Ext v { v with drawn:=v.drawn + 1 }:=⟨rfl,rfl,Nat.le_refl _,fun _ _=>rfl⟩
theorem Pois.none_ (v:World) (h:∀ (b:Nat) (a:Addr) (u:TypeId),v.heap[b]? ≠ some (Obj.view a u)):Pois ⟨fun _=>False,fun _=>False⟩ v v :=
  ⟨rfl,rfl,rfl,rfl,fun _ _ _=>rfl,fun _ _ h=>h.elim,fun _ h=>h.elim,h⟩
theorem Xf {α:Type} {x:Sem α} {w:World} {es es':Array Event} {r:Result α} (h:x.runT P w es = (r,es')):x.run P w = r:=by rw [← Sem.runT_fst,h]
theorem Frm.keepv {al:Bool} {α:Type} {x:Sem α} (h:Frm al P x) {v v':World} {r:α} (hn:∀ (b:Nat) (a:Addr) (u:TypeId),v.heap[b]? ≠ some (Obj.view a u)) (hr:x.run P v = .ok r v'):v'.output = v.output:=by
  obtain ⟨w',us,h1,_,h3,_⟩:=h.go ⟨fun _=>False,fun _=>False⟩ v v #[] r v' (fun _=>⟨fun _ h=>h,fun _ _ h=>h⟩) (Pois.none_ v hn) hr
  have e:=Xf h1
  rw [hr] at e
  cases e
  exact h3.output
theorem stepG_leaveW {main:Bool} {b:Frame} {a:Act} {cs:List Frame} {w w':World} {fn:Func} {todo:List Item} {c:Frame} {v:Value} (hn:b.kind = .normal) (hd:a.defers = []) (hf:P.funcs[b.fn]? = some fn)
    (hr:(results fn a.tmps).run P w = .ok v w') :
    stepG P main (G { b.at a todo with mode:=.returning } (c :: cs)) w = .go (G (c.finish v) cs) w' (seen P b.fn ((results fn a.tmps).events P w #[])):=by
  simp [G,stepG,unwind,doReturn,Frame.at,hn,hd,hf,hr,GStep.after]
structure Bs (P:Program) where
  main:Bool
  al:Bool
  F:Array (Nat × ByteArray) → Hid
  St:Array (Nat × ByteArray) → World → Prop
  R:Array (Nat × ByteArray) → World → World → Prop
  D:Array (Nat × ByteArray) → World → World → Array Event → Prop
  T:Array (Nat × ByteArray) → Goroutine → World → Prop
  sp:Oper → Act → Array (Nat × ByteArray) → Value → Prop
  rv:∀ {gh w w1},R gh w w1 → ∀ b,¬ F gh b → w1.heap[b]? = w.heap[b]?
  rk:∀ {gh w w1},R gh w w1 → ∀ b,b < w.heap.size → (w1.heap[b]?).map bad = (w.heap[b]?).map bad
  rsz:∀ {gh w w1},R gh w w1 → w.heap.size ≤ w1.heap.size
  ros:∀ {gh w w1},R gh w w1 → w1.os = w.os
  rst:∀ {gh w w1},R gh w w1 → St gh w → St gh w1
  kst:∀ {gh w w'},Keeps (F gh) w w' → (al = false → w'.heap.size = w.heap.size) → St gh w → St gh w'
  fal:∀ {gh w},al = true → St gh w → (∀ b,¬ (F gh).o b)∧∀ b,w.heap.size ≤ b → ¬ F gh b
  dfr:∀ {gh w w' es},St gh w → Keeps (F gh) w w' → (al = false → w'.heap.size = w.heap.size) → (∀ e ∈ es,LocOf (F gh) w'.heap.size e.loc∧WrOf (F gh) e) → D gh w w' es
  stp:∀ {gh g w},g.status = .running → (∀ w1,R gh w w1 → ∃ g' w' es,stepG P main g w1 = .go g' w' es∧D gh w1 w' es∧T gh g' w') → T gh g w
  Fin:Array (Nat × ByteArray) → Value → World → Prop
  fin:∀ {gh w} {b:Frame} {a:Act} {todo:List Item} {fn:Func},P.inits.idxOf? b.fn = none → b.kind = .normal → a.defers = [] → P.funcs[b.fn]? = some fn → St gh w →
    (∀ w1,R gh w w1 → ∃ u w',(results fn a.tmps).run P w1 = .ok u w'∧D gh w1 w' (seen P b.fn ((results fn a.tmps).events P w1 #[]))∧Fin gh u w') → T gh (G { b.at a todo with mode:=.returning } []) w
  spr:∀ {gh o a u w fn},sp o a gh u → St gh w → (execOp a.eval o).run P w = .ok (.value u) w∧D gh w w (listed P fn a o w)
variable (B:Bs P)
def Bs.J (g:Goroutine) (v:World):Prop:=∀ v',Ext v v' → ∀ w,Pois (B.F v.output) w v' → B.St v.output w → B.T v.output g w
variable {B}
theorem Bs.turn {gh:Array (Nat × ByteArray)} {w w1 v:World} (hp:Pois (B.F gh) w v) (h:B.R gh w w1):∃ v1,Ext v v1∧Pois (B.F gh) w1 v1:=by
  classical
  refine ⟨{ v with heap:=w1.heap.mapIdx fun i o=>if B.F gh i then bad o else if (B.F gh).o i then ice o else o,tape:=w1.tape,drawn:=w1.drawn },⟨rfl,rfl,by simp [hp.size,B.rsz h],fun b hb=>?_⟩,⟨rfl,rfl,by show v.os = w1.os;rw [B.ros h,hp.os],by simp,fun b hb ho=>?_,fun b hb ho=>?_,fun b hb=>?_,fun b a u e=>?_⟩⟩
  · rw [Array.getElem?_mapIdx]
    by_cases hF:B.F gh b
    · simp only [hF,if_true]
      rw [hp.bad b hF,B.rk h b (by rw [← hp.size];exact hb)]
    · by_cases hO:(B.F gh).o b
      · simp only [hF,hO,if_false,if_true]
        rw [hp.ro b hF hO,B.rv h b hF]
      · simp only [hF,hO,if_false]
        rw [hp.same b hF hO,B.rv h b hF];simp
  · show (w1.heap.mapIdx _)[b]? = _
    rw [Array.getElem?_mapIdx];simp [hb,ho]
  · show (w1.heap.mapIdx _)[b]? = _
    rw [Array.getElem?_mapIdx];simp [hb,ho]
  · show (w1.heap.mapIdx _)[b]? = _
    rw [Array.getElem?_mapIdx];simp [hb]
  · have e':(w1.heap.mapIdx fun i o=>if B.F gh i then bad o else if (B.F gh).o i then ice o else o)[b]? = some (Obj.view a u):=e
    rw [Array.getElem?_mapIdx] at e'
    by_cases hF:B.F gh b
    · simp only [hF,if_true] at e'
      cases ho:w1.heap[b]? with
      | none=>rw [ho] at e';cases e'
      | some o=>rw [ho] at e';cases o <;> simp [bad] at e'
    · by_cases hO:(B.F gh).o b
      · simp only [hF,hO,if_false,if_true] at e'
        cases ho:w1.heap[b]? with
        | none=>rw [ho] at e';cases e'
        | some o=>rw [ho] at e';cases o <;> simp [ice] at e'
      · simp only [hF,hO,if_false,Option.map_id'] at e'
        rw [B.rv h b hF,← hp.same b hF hO] at e'
        exact hp.nov _ _ _ e'
theorem Bs.one {g:Goroutine} {v:World} (hs:g.status = .running)
    (h:∀ v1 w1,Ext v v1 → Pois (B.F v.output) w1 v1 → B.St v.output w1 → ∃ g' w' v' es,stepG P B.main g w1 = .go g' w' es∧B.D v.output w1 w' es∧Pois (B.F v.output) w' v'∧v'.output = v.output∧B.St v.output w'∧B.J g' v'):B.J g v:=by
  intro v' hv w hp hst
  refine B.stp hs fun w1 hr=>?_
  obtain ⟨v1,hv1,hp1⟩:=B.turn hp hr
  obtain ⟨g',w',v2,es,h1,h2,h3,h4,h5,h6⟩:=h v1 w1 (hv.trans hv1) hp1 (B.rst hr hst)
  refine ⟨g',w',es,h1,h2,?_⟩
  have:=h6 v2 (.refl _) w' (by rw [h4];exact h3) (by rw [h4];exact h5)
  rwa [h4] at this
theorem Bs.frm {α:Type} {x:Sem α} {gh:Array (Nat × ByteArray)} {w v v':World} {r:α} (hf:Frm B.al P x) (hp:Pois (B.F gh) w v) (hst:B.St gh w) (hr:x.run P v = .ok r v') :
    ∃ w',x.run P w = .ok r w'∧Pois (B.F gh) w' v'∧v'.output = v.output∧B.St gh w'∧∀ es,(∀ e ∈ es,e ∈ x.events P w #[]) → B.D gh w w' es:=by
  obtain ⟨w',us,h1,h2,h3,h4,h5⟩:=hf.go (B.F gh) w v #[] r v' (fun e=>B.fal e hst) hp hr
  refine ⟨w',Xf h1,h2,hf.keepv hp.nov hr,B.kst h3 h4 hst,fun es he=>B.dfr hst h3 h4 fun e hm=>h5 e ?_⟩
  have:=he e hm
  have e2:x.events P w #[] = #[] ++ us:=by unfold Sem.events;rw [h1]
  rw [e2] at this
  simpa using this
def Bs.jd (B:Bs P):JdOf P where
  main:=B.main
  al:=B.al
  J:=B.J
  sp:=B.sp
  up h hv:=fun v' hv' w hp hst=>by rw [hv.output] at hp hst ⊢;exact h v' (hv.trans hv') w hp hst
  ctl hstep h:=B.one rfl fun v1 w1 hv hp hst=>⟨_,w1,v1,#[],hstep w1,B.dfr hst (.refl _ _) (fun _=>rfl) (by simp),hp,hv.output,hst,fun v' hv' w hp hst=>by
    rw [hv.output] at hp hst ⊢;exact h v' (hv.trans hv') w hp hst⟩
  ord h:=B.one rfl fun v1 w1 hv hp hst=>⟨_,_,{ v1 with drawn:=v1.drawn + 1 },#[],Go.Conc.stepG_region_draw,B.dfr hst (.drew _ _) (fun _=>rfl) (by simp),hp.drew,hv.output,B.kst (.drew _ _) (fun _=>rfl) hst,fun v' hv' w hp hst=>by
    have e:({ v1 with drawn:=v1.drawn + 1 }:World).output = _:=hv.output
    rw [e] at hp hst ⊢;exact h _ v' (hv.trans ((Ext.drew v1).trans hv')) w hp hst⟩
  opr ho hw hk hf h:=B.one rfl fun v1 w1 hv hp hst=>by
    obtain ⟨x,v2,h1,u,hx,hj⟩:=h v1 hv
    obtain ⟨w',h2,h3,h4,h5,h6⟩:=B.frm hf hp hst h1
    rcases hx with rfl | ⟨rfl,rfl⟩
    · exact ⟨_,w',v2,_,Go.Conc.stepG_value ho hw hk h2,h6 _ fun e he=>Go.Conc.mem_listed he,h3,h4.trans hv.output,h5,hj⟩
    · exact ⟨_,w',v2,_,Go.Conc.stepG_none ho hw hk h2,h6 _ fun e he=>Go.Conc.mem_listed he,h3,h4.trans hv.output,h5,hj⟩
  spl ho hw hk hs h:=B.one rfl fun v1 w1 hv hp hst=>by
    obtain ⟨h1,h2⟩:=B.spr hs hst
    exact ⟨_,w1,v1,_,Go.Conc.stepG_value ho hw hk h1,h2,hp,hv.output,hst,fun v' hv' w hp hst=>by
      rw [hv.output] at hp hst ⊢;exact h v' (hv.trans hv') w hp hst⟩
  Fin u v:=∀ w,Pois (B.F v.output) w v → B.St v.output w → B.Fin v.output u w
  out hi hn hd hf hfr h:=fun v' hv' w hp hst=>B.fin hi hn hd hf hst fun w1 hr=>by
    obtain ⟨v1,hv1,hp1⟩:=B.turn hp hr
    obtain ⟨u,v2,h1,hj⟩:=h v1 (hv'.trans hv1)
    obtain ⟨w',h2,h3,h4,h5,h6⟩:=B.frm hfr hp1 (B.rst hr hst) h1
    refine ⟨u,w',h2,h6 _ fun e he=>Go.Conc.mem_seen he,?_⟩
    have e:v2.output = _:=h4.trans (hv'.trans hv1).output
    rw [e] at hj
    exact hj w' h3 h5
  ret hn hd hf hfr h:=B.one rfl fun v1 w1 hv hp hst=>by
    obtain ⟨u,v2,h1,hj⟩:=h v1 hv
    obtain ⟨w',h2,h3,h4,h5,h6⟩:=B.frm hfr hp hst h1
    exact ⟨_,w',v2,_,stepG_leaveW hn hd hf h2,h6 _ fun e he=>Go.Conc.mem_seen he,h3,h4.trans hv.output,h5,hj⟩
end Go.KL
namespace Go.KL
open Go.Conc
open Go.ConcN (sumTo upd sumTo_upd upd_ne upd_same)
variable {P:Program}
def EndsGood (P:Program) (Post:Value → World → Prop) (m:Machine) (t:Trace):Prop :=
  ∃ N last o w' t',runNT P (N + 1) m t = (.ended o w',t')∧runN P N m = .next last∧step P last = .ended o w'∧Go.Conc.Good P Post last o w' t'
theorem EndsGood.next {Post:Value → World → Prop} {m m':Machine} {t:Trace} {ops:Array MemOp} (hs:stepT P m = (.next m',ops)) (h:EndsGood P Post m' (t ++ ops)):EndsGood P Post m t:=by
  obtain ⟨n,last,o,w,t',h1,h2,h3,h4⟩:=h
  exact ⟨n + 1,last,o,w,t',by rw [runNT_succ_next hs];exact h1,by rw [runN_succ_next hs];exact h2,h3,h4⟩
theorem EndsGood.fin {Post:Value → World → Prop} {m:Machine} {t:Trace} {ops:Array MemOp} {o:Outcome} {w:World} (hs:stepT P m = (.ended o w,ops)) (h:Go.Conc.Good P Post m o w (t ++ ops)):EndsGood P Post m t :=
  ⟨0,m,o,w,t ++ ops,by simp [runNT,hs],rfl,by simp [step,hs],h⟩
def gl (gh:Array (Nat × ByteArray)):List Nat:=gh.toList.map (·.1)
def hid (gh:Array (Nat × ByteArray)) (b:Nat):Prop:=2 * b ∈ gl gh ∨ 2 * b + 1 ∈ gl gh
def shn (gh:Array (Nat × ByteArray)) (b:Nat):Prop:=2 * b + 1 ∈ gl gh
def Shl (gh:Array (Nat × ByteArray)) (l:Loc):Prop:=∃ a,l = .cell a∧shn gh a.block
theorem view_push {h:Array Obj} {o:Obj} {b:Nat} {a:Addr} {u:TypeId} (e:h[b]? = some (Obj.view a u)):(h.push o)[b]? = some (Obj.view a u):=by
  have:=(Array.getElem?_eq_some_iff.1 e).1
  rw [Array.getElem?_push,if_neg (by omega)];exact e
structure Outs (W w:World):Prop where
  vis:∀ (b:Nat) (a:Addr) (u:TypeId),W.heap[b]? = some (Obj.view a u) → w.heap[b]? = some (Obj.view a u)
  tape:w.tape = W.tape
  os:w.os = W.os
  output:w.output = W.output
theorem Outs.keeps {W w w':World} {F:Hid} (h:Outs W w) (k:Keeps F w w'):Outs W w':=⟨fun b a u e=>view_kd (k.kin b (by have:=h.vis b a u e;exact (Array.getElem?_eq_some_iff.1 this).1)) (h.vis b a u e),k.tape.trans h.tape,k.os.trans h.os,k.output.trans h.output⟩
section
variable {gh:Array (Nat × ByteArray)} {n:Nat}
theorem evL_of {es:Array Event} (h:∀ e ∈ es,LocOf ⟨hid gh,fun _=>False⟩ n e.loc):∀ e ∈ es,EvL (Shl gh) n e:=by
  intro e he
  have:=h e he
  obtain ⟨loc,wr,sy⟩:=e
  cases loc with
  | cell a =>
    refine ⟨fun x hx hs=>?_,by simp,by simp,?_⟩
    · simp only [MemAct.ofEvent,MemAct.touch?,Option.some.injEq] at hx
      subst hx
      obtain ⟨b,e,hb⟩:=hs
      cases e
      exact absurd (.inr hb) this.1
    · exact this.2
  | obj r =>
    refine ⟨fun x hx hs=>?_,by simp,by simp,?_⟩
    · obtain ⟨b,e,_⟩:=hs
      cases wr <;> cases sy <;> simp [MemAct.ofEvent,MemAct.touch?] at hx <;> subst hx <;> simp at e
    · cases wr <;> cases sy <;> exact this.2
  | mark m =>
    obtain rfl:m = .noRoom:=this
    exact ⟨fun x hx _=>by simp [MemAct.ofEvent,MemAct.touch?] at hx,by simp,by simp,trivial⟩
  | _=>exact this.elim
end
structure SfI (P:Program) (W:World) (gh:Array (Nat × ByteArray)) (gs:Array Goroutine) (w:World) (t:Trace) (q:Nat → Nat):Prop where
  lv:Leavers P t gs q
  past:Past (Shl gh) w.heap.size t
  quiet:Quiet (Shl gh) t
  who:∀ op ∈ t,op.g < gs.size
  nor:∀ op ∈ t,∀ a,op.act = .mark (.release a) → ¬ shn gh a.block
  mem:∀ op ∈ t,∀ x,op.act.touch? = some x → x.loc.isMemory = true
  outs:Outs W w
def SfT (P:Program) (W:World) (Post:Value → World → Prop) (gh:Array (Nat × ByteArray)) (g:Goroutine) (w:World):Prop :=
  ∀ gs sl t q,gs[0]? = some g → SfI P W gh gs w t q → EndsGood P Post (crowd gs w sl) t
def SfF (gh:Array (Nat × ByteArray)):Hid:=⟨hid gh,fun _=>False⟩
def SfD (gh:Array (Nat × ByteArray)) (w w':World) (es:Array Event):Prop:=Keeps (SfF gh) w w'∧∀ e ∈ es,LocOf (SfF gh) w'.heap.size e.loc
section
variable {W:World} {Post:Value → World → Prop} {gh:Array (Nat × ByteArray)}
theorem quiet_own {t:Trace} {g:Nat} {fn:FuncId} {pos:String} {es:Array Event} {n:Nat} (h:Quiet (Shl gh) t) (he:∀ e ∈ es,LocOf (SfF gh) n e.loc):Quiet (Shl gh) (t ++ MemOp.ofEvents g fn pos es) :=
  h.app fun op hop x hx hs=>by
    obtain ⟨e,hm,rfl⟩:=Go.Conc.mem_ofEvents hop
    have:=he e hm
    obtain ⟨a,ea,hb⟩:=hs
    obtain ⟨loc,wr,sy⟩:=e
    cases loc with
    | cell b =>
      simp only [MemAct.ofEvent,MemAct.touch?,Option.some.injEq] at hx
      subst hx
      cases ea
      exact absurd (Or.inr hb) this.1
    | obj r=>cases wr <;> cases sy <;> simp [MemAct.ofEvent,MemAct.touch?] at hx <;> subst hx <;> simp at ea
    | mark m =>
      obtain rfl:m = .noRoom:=this
      simp [MemAct.ofEvent,MemAct.touch?] at hx
    | _=>exact this.elim
theorem nor_app {t u:Trace} {Z:Nat → Prop} (h:∀ op ∈ t,∀ a,op.act = .mark (.release a) → ¬ Z a.block) (hu:∀ op ∈ u,∀ a,op.act ≠ .mark (.release a)):∀ op ∈ t ++ u,∀ a,op.act = .mark (.release a) → ¬ Z a.block:=fun op hop a e =>
  (Array.mem_append.1 hop).elim (fun h1=>h op h1 a e) (fun h1=>absurd e (hu op h1 a))
theorem Xl {g:Nat} {fn:FuncId} {pos:String} {es:Array Event} (he:∀ e ∈ es,∀ a,e.loc ≠ .mark (.release a)):∀ op ∈ MemOp.ofEvents g fn pos es,∀ a,op.act ≠ .mark (.release a):=by
  intro op hop a e
  obtain ⟨⟨loc,wr,sy⟩,hm,rfl⟩:=Go.Conc.mem_ofEvents hop
  have:=he _ hm a
  cases loc with
  | mark m=>cases wr <;> cases sy <;> (simp [MemAct.ofEvent] at e;exact this (by rw [e]))
  | _=>cases wr <;> cases sy <;> simp [MemAct.ofEvent] at e
theorem nor_own {t:Trace} {g:Nat} {fn:FuncId} {pos:String} {es:Array Event} {n:Nat} {F:Hid} {Z:Nat → Prop} (h:∀ op ∈ t,∀ a,op.act = .mark (.release a) → ¬ Z a.block) (he:∀ e ∈ es,LocOf F n e.loc):∀ op ∈ t ++ MemOp.ofEvents g fn pos es,∀ a,op.act = .mark (.release a) → ¬ Z a.block :=
  nor_app h (Xl fun e hm a ea=>by
    have:=he e hm
    rw [ea] at this
    exact absurd (show Mark.release a = .noRoom from this) (by simp))
theorem nor_mute {t:Trace} {g:Nat} {fn:FuncId} {pos:String} {es:Array Event} {Z:Nat → Prop} (h:∀ op ∈ t,∀ a,op.act = .mark (.release a) → ¬ Z a.block) (he:∀ e ∈ es,e.mute = true):∀ op ∈ t ++ MemOp.ofEvents g fn pos es,∀ a,op.act = .mark (.release a) → ¬ Z a.block :=
  nor_app h (Xl fun e hm a ea=>by
    have:=he e hm
    obtain ⟨loc,wr,sy⟩:=e
    cases ea
    simp [Event.mute] at this)
theorem mem_loc {F:Hid} {n:Nat} {e:Event} (h:LocOf F n e.loc):∀ x,(MemAct.ofEvent e).touch? = some x → x.loc.isMemory = true:=by
  intro x hx
  obtain ⟨loc,wr,sy⟩:=e
  cases loc with
  | cell a=>simp only [MemAct.ofEvent,MemAct.touch?,Option.some.injEq] at hx;subst hx;rfl
  | obj r=>cases wr <;> cases sy <;> simp only [MemAct.ofEvent,MemAct.touch?,Option.some.injEq,reduceCtorEq] at hx <;> (subst hx;rfl)
  | mark m=>obtain rfl:m = .noRoom:=h;simp [MemAct.ofEvent,MemAct.touch?] at hx
  | _=>exact h.elim
theorem mem_app {t u:Trace} (h:∀ op ∈ t,∀ x,op.act.touch? = some x → x.loc.isMemory = true) (hu:∀ op ∈ u,∀ x,op.act.touch? = some x → x.loc.isMemory = true):∀ op ∈ t ++ u,∀ x,op.act.touch? = some x → x.loc.isMemory = true:=fun op hop =>
  (Array.mem_append.1 hop).elim (h op) (hu op)
theorem mem_own {g:Nat} {fn:FuncId} {pos:String} {es:Array Event} (he:∀ e ∈ es,∀ x,(MemAct.ofEvent e).touch? = some x → x.loc.isMemory = true):∀ op ∈ MemOp.ofEvents g fn pos es,∀ x,op.act.touch? = some x → x.loc.isMemory = true:=fun op hop=>by
  obtain ⟨e,hm,rfl⟩:=Go.Conc.mem_ofEvents hop
  exact he e hm
theorem mem_mute {es:Array Event} (he:∀ e ∈ es,e.mute = true):∀ e ∈ es,∀ x,(MemAct.ofEvent e).touch? = some x → x.loc.isMemory = true:=fun e hm x hx=>by rw [touch_mute (he e hm)] at hx;cases hx
theorem who_own {t:Trace} {g n:Nat} {fn:FuncId} {pos:String} {es:Array Event} (h:∀ op ∈ t,op.g < n) (hg:g < n):∀ op ∈ t ++ MemOp.ofEvents g fn pos es,op.g < n:=by
  intro op hop
  rcases Array.mem_append.1 hop with h1 | h1
  · exact h op h1
  · obtain ⟨e',hm,rfl⟩:=Go.Conc.mem_ofEvents h1
    exact hg
theorem past_own {t:Trace} {fn:FuncId} {pos:String} {es:Array Event} {m n:Nat} (h:Past (Shl gh) m t) (hmn:m ≤ n) (he:∀ e ∈ es,LocOf (SfF gh) n e.loc):Past (Shl gh) n (t ++ MemOp.ofEvents 0 fn pos es) :=
  (h.mono hmn).own (evL_of he)
theorem quiet_mute {t:Trace} {g:Nat} {fn:FuncId} {pos:String} {es:Array Event} {Sh:Loc → Prop} (h:Quiet Sh t) (he:∀ e ∈ es,e.mute = true):Quiet Sh (t ++ MemOp.ofEvents g fn pos es) :=
  h.app fun op hop x hx _=>by
    obtain ⟨e,hm,rfl⟩:=Go.Conc.mem_ofEvents hop
    rw [touch_mute (he e hm)] at hx;cases hx
theorem sf_step {g:Goroutine} {w:World} (hs:g.status = .running)
    (h:∀ d gs sl sl' t q w1,gs[0]? = some g → SfI P W gh gs (w.at d) t q → stepT P (crowd gs w1 sl') = runT P (crowd gs (w.at d) sl) 0 → EndsGood P Post (crowd gs w1 sl') t):SfT P W Post gh g w:=by
  have key:∀ M d gs sl t q,sumTo gs.size q < M → gs[0]? = some g → SfI P W gh gs (w.at d) t q → EndsGood P Post (crowd gs (w.at d) sl) t:=by
    intro M
    induction M with
    | zero=>intro d gs sl t q hM;exact absurd hM (by omega)
    | succ M ih =>
      intro d gs sl t q hM h0 hI
      have haw:∀ x ∈ gs,awake x:=by
        intro x hx
        obtain ⟨i,hi,rfl⟩:=Array.mem_iff_getElem.1 hx
        rcases Nat.eq_zero_or_pos i with rfl | hpos
        · have:gs[0] = g:=by simpa [Array.getElem?_eq_getElem hi] using h0
          rw [this];exact awake_of (.inl hs)
        · exact awake_of ((hI.lv.old i _ hpos (Array.getElem?_eq_getElem hi)).status.elim .inl fun x=>.inr (.inr x))
      obtain ⟨i,x,d',sl',hi,hx,hst⟩:=crowd_pick (P:=P) (w:=w.at d) (sl:=sl) haw ⟨0,g,h0,hs⟩
      rcases Nat.eq_zero_or_pos i with rfl | hpos
      · obtain rfl:x = g:=by rw [h0] at hi;exact (Option.some.inj hi).symm
        exact h d' gs sl' sl t q _ h0 ⟨hI.lv,hI.past,hI.quiet,hI.who,hI.nor,hI.mem,⟨hI.outs.vis,hI.outs.tape,hI.outs.os,hI.outs.output⟩⟩ hst
      · have hq:=hI.lv.old i x hpos hi
        have hi0:(i == 0) = false:=by simp;omega
        have hlt:i < gs.size:=(Array.getElem?_eq_some_iff.1 hi).1
        have hle:q i ≤ sumTo gs.size q:=Go.ConcN.le_sumTo hlt
        cases hqi:q i with
        | zero=>rw [hqi] at hq;rw [hq.1] at hx;cases hx
        | succ k =>
          rw [hqi] at hq
          rcases hq with ⟨hf,_⟩ | ⟨_,g',es,hm,hstp,hq'⟩
          · rw [hf] at hx;cases hx
          have hrunT:=runT_crowd_go (P:=P) (sl:=sl') (i:=i) hi (by rw [hi0];exact hstp ((w.at d).at d'))
          have hsz:((gs.map (woken P x g' ((w.at d).at d'))).setIfInBounds i g').size = gs.size:=by simp
          have hsum:sumTo gs.size (upd q i k) + (k + 1) = sumTo gs.size q + k:=by
            have:=sumTo_upd q k id hlt
            simpa [hqi] using this
          refine EndsGood.next (hst.trans hrunT) (ih d' _ sl' _ (upd q i k) (by rw [hsz];omega) ?_ ⟨⟨fun j y hj hy=>?_,fun j hj=>?_⟩,?_,quiet_mute hI.quiet hm,by rw [hsz];exact who_own hI.who hlt,nor_mute hI.nor hm,mem_app hI.mem (mem_own (mem_mute hm)),⟨hI.outs.vis,hI.outs.tape,hI.outs.os,hI.outs.output⟩⟩)
          · have hne:i ≠ 0:=by omega
            rw [Array.getElem?_setIfInBounds_ne hne,Array.getElem?_map,h0]
            simp [woken_run hs]
          · by_cases hji:i = j
            · subst hji
              rw [Array.getElem?_setIfInBounds_self_of_lt (by simpa using hlt)] at hy
              obtain rfl:=Option.some.inj hy
              rw [upd_same,Deaf_own]
              exact hq'
            · rw [Array.getElem?_setIfInBounds_ne hji,Array.getElem?_map] at hy
              obtain ⟨z,hz,rfl⟩:=Option.map_eq_some_iff.1 hy
              have hqj:=hI.lv.old j z hj hz
              rw [woken_quitsD hqj,upd_ne q k (Ne.symm hji),Deaf_other t hji _ (fun op hop=>by obtain ⟨e,_,rfl⟩:=Go.Conc.mem_ofEvents hop;rfl)]
              exact hqj
          · rw [Deaf_other t (g':=i) (by simp at hj;omega) _ (fun op hop=>by obtain ⟨e,_,rfl⟩:=Go.Conc.mem_ofEvents hop;rfl)]
            exact hI.lv.above j (by simpa using hj)
          · exact hI.past.mute (by omega) hm
  intro gs sl t q h0 hI
  exact key _ w.drawn gs sl t q (Nat.lt_succ_self _) h0 hI
theorem sfT_stp {g:Goroutine} {w:World} (hs:g.status = .running) (h:∀ w1,AtRel w w1 → ∃ g' w' es,stepG P true g w1 = .go g' w' es∧SfD gh w1 w' es∧SfT P W Post gh g' w'):SfT P W Post gh g w:=by
  refine sf_step hs fun d gs sl sl' t q w1 h0 hI hst=>?_
  obtain ⟨g',w',es,h1,⟨hk,he⟩,hT⟩:=h (w.at d) ⟨d,rfl⟩
  have hrunT:=runT_crowd_go (P:=P) (sl:=sl) (i:=0) h0 (show stepG P (0 == 0) g (w.at d) = _ from h1)
  have hsz:((gs.map (woken P g g' w')).setIfInBounds 0 g').size = gs.size:=by simp
  have hlt:0 < gs.size:=(Array.getElem?_eq_some_iff.1 h0).1
  refine EndsGood.next (hst.trans hrunT) (hT _ sl _ q (by simp [hlt]) ⟨⟨fun j x hj hx=>?_,fun j hj=>?_⟩,past_own hI.past hk.size he,quiet_own hI.quiet he,by rw [hsz];exact who_own hI.who hlt,nor_own hI.nor he,mem_app hI.mem (mem_own fun e hm=>mem_loc (he e hm)),hI.outs.keeps hk⟩)
  · have hne:0 ≠ j:=by omega
    rw [Array.getElem?_setIfInBounds_ne hne,Array.getElem?_map] at hx
    obtain ⟨y,hy,rfl⟩:=Option.map_eq_some_iff.1 hx
    have hq:=hI.lv.old j y hj hy
    rw [woken_quitsD hq,Deaf_other t (by omega) _ (fun op hop=>by obtain ⟨e,_,rfl⟩:=Go.Conc.mem_ofEvents hop;rfl)]
    exact hq
  · rw [Deaf_other t (g':=0) (by simp at hj;omega) _ (fun op hop=>by obtain ⟨e,_,rfl⟩:=Go.Conc.mem_ofEvents hop;rfl)]
    exact hI.lv.above j (by simpa using hj)
theorem stepG_out {b:Frame} {a:Act} {w w':World} {fn:Func} {todo:List Item} {v:Value} (hi:P.inits.idxOf? b.fn = none) (hn:b.kind = .normal) (hd:a.defers = []) (hf:P.funcs[b.fn]? = some fn)
    (hr:(results fn a.tmps).run P w = .ok v w') :
    stepG P true (G { b.at a todo with mode:=.returning } []) w = .ended (.done v) w' (seen P b.fn ((results fn a.tmps).events P w #[])):=by
  simp [G,stepG,unwind,doReturn,Frame.at,hn,hd,hf,hr,hi,GStep.after]
theorem sfT_fin {g:Goroutine} {w:World} (hs:g.status = .running) (h:∀ w1,AtRel w w1 → ∃ u w' es,stepG P true g w1 = .ended (.done u) w' es∧SfD gh w1 w' es∧(Outs W w' → Post u w')):SfT P W Post gh g w:=by
  refine sf_step hs fun d gs sl sl' t q w1 h0 hI hst=>?_
  obtain ⟨u,w',es,h1,⟨hk,he⟩,hp⟩:=h (w.at d) ⟨d,rfl⟩
  have hrunT:=runT_many_ended (P:=P) (sl:=sl) (i:=0) h0 (show stepG P (0 == 0) g (w.at d) = _ from h1)
  have hP':=past_own (fn:=g.frame.fn) (pos:=g.frame.place) hI.past hk.size he
  refine EndsGood.fin (hst.trans hrunT) ⟨u,rfl,hp (hI.outs.keeps hk),hP'.clean,hP'.over,⟨fun x hx=>?_,rfl⟩,fun j x hx hj=>?_⟩
  · obtain ⟨j,hj⟩:=List.mem_iff_getElem?.1 hx
    rw [List.getElem?_drop] at hj
    exact ⟨_,(hI.lv.old (1 + j) x (by omega) (by simpa [crowd] using hj)).leaves⟩
  · have hq:=hI.lv.old j x (by omega) hx
    refine ⟨q j,?_⟩
    have e:(t ++ MemOp.ofEvents 0 g.frame.fn g.frame.place es).deaf j (t ++ MemOp.ofEvents 0 g.frame.fn g.frame.place es).size = Deaf t j :=
      Deaf_other t (g:=j) (g':=0) (by omega) _ (fun op hop=>by obtain ⟨e,_,rfl⟩:=Go.Conc.mem_ofEvents hop;rfl)
    rw [e]
    exact hq.hears _
end
def kb (k:UInt8):ByteArray:=⟨#[k]⟩
def Newly (Z:UInt8 → Obj) (gh:Array (Nat × ByteArray)) (w:World):Prop:=∀ x k,(x,kb k) ∈ gh.toList → w.heap[x / 2]? = some (Z k)
theorem newly_hid {gh:Array (Nat × ByteArray)} {x:Nat} {s:ByteArray} (h:(x,s) ∈ gh.toList):hid gh (x / 2):=by
  have hm:x ∈ gl gh:=List.mem_map.2 ⟨_,h,rfl⟩
  unfold hid
  rcases Nat.mod_two_eq_zero_or_one x with e | e
  · exact .inl (by rw [show 2 * (x / 2) = x by omega];exact hm)
  · exact .inr (by rw [show 2 * (x / 2) + 1 = x by omega];exact hm)
def sfB (P:Program) (W:World) (Post:Value → World → Prop) (Z:UInt8 → Obj):Bs P where
  main:=true
  al:=true
  F:=SfF
  St gh w:=(∀ b,hid gh b → b < w.heap.size)∧Newly Z gh w
  R _:=AtRel
  D:=SfD
  T:=SfT P W Post
  sp _ _ _ _:=False
  Fin _ u w:=Outs W w → Post u w
  rv:=fun ⟨_,e⟩ b _=>by subst e;rfl
  rk:=fun ⟨_,e⟩ b _=>by subst e;rfl
  rsz:=fun ⟨_,e⟩=>by subst e;exact Nat.le_refl _
  ros:=fun ⟨_,e⟩=>by subst e;rfl
  rst:=fun ⟨_,e⟩ h=>by subst e;exact h
  kst k _ h:=⟨fun b hb=>Nat.lt_of_lt_of_le (h.1 b hb) k.size,fun x y hx=>(k.blk _ (.inl (newly_hid hx)) (h.1 _ (newly_hid hx))).trans (h.2 x y hx)⟩
  fal _ h:=⟨fun _ h=>h,fun b hb hh=>by have:=h.1 b hh;omega⟩
  dfr _ k _ he:=⟨k,fun e hm=>(he e hm).1⟩
  stp hs h:=sfT_stp hs h
  fin hi hn hd hf _ h:=sfT_fin rfl fun w1 hw=>by
    obtain ⟨u,w',h1,h2,h3⟩:=h w1 hw
    exact ⟨u,w',_,stepG_out hi hn hd hf h1,h2,h3⟩
  spr:=fun h=>h.elim
abbrev sf (P:Program) (W:World) (Post:Value → World → Prop) (Z:UInt8 → Obj):JdOf P:=(sfB P W Post Z).jd
instance (P:Program) (W:World) (Post:Value → World → Prop) (Z:UInt8 → Obj):Al (sf P W Post Z):=⟨rfl⟩
theorem touch_low {x:MemAct} {B:Nat} {y:Touch} (h:x.low B) (hy:x.touch? = some y):y.loc.low B:=by
  cases x with
  | access e=>simp only [MemAct.touch?,Option.some.injEq] at hy;subst hy;exact h
  | mark m=>cases m <;> simp [MemAct.touch?] at hy <;> (subst hy;exact h)
  | _=>simp [MemAct.touch?] at hy
theorem sf_new {W:World} {Post:Value → World → Prop} {Z:UInt8 → Obj} {b:Frame} {a:Act} {ops:Array Oper} {i:Nat} {rest:List Nat} {k:List Item} {cs:List Frame} {o:Oper} {v:World} {kd:UInt8} (ho:ops[i]? = some o) (hw:Region.wanted o (yielded ops a.tmps) = true) (hk:b.kind ≠ .early)
    (hr:∀ w,(execOp a.eval o).run P w = .ok (.value (.pointer (some ⟨w.heap.size,0,none⟩))) { w with heap:=w.heap.push (Z kd) }) (hev:∀ w,(execOp a.eval o).events P w #[] = #[]) (hob:∀ a u,Z kd ≠ Obj.view a u)
    (hJ:∀ v1,Ext v v1 → (sf P W Post Z).J (G (b.at (a.put o.dst (.pointer (some ⟨v1.heap.size,0,none⟩))) (.inRegion ops rest :: k)) cs) { v1 with heap:=v1.heap.push (bad (Z kd)),output:=v.output.push (2 * v1.heap.size + 1,kb kd) }) :
    (sf P W Post Z).J (G (b.at a (.inRegion ops (i :: rest) :: k)) cs) v:=by
  intro v' hv w hp hst
  show SfT P W Post v.output _ w
  refine sf_step rfl fun d gs sl sl' t q w1 h0 hI hst'=>?_
  have hgo:stepG P (0 == 0) (G (b.at a (.inRegion ops (i :: rest) :: k)) cs) (w.at d) = .go (G (b.at (a.put o.dst (.pointer (some ⟨w.heap.size,0,none⟩))) (.inRegion ops rest :: k)) cs) { w.at d with heap:=w.heap.push (Z kd) } #[]:=by
    show stepG P true _ _ = _
    rw [stepG_value ho hw hk (hr (w.at d))]
    unfold listed
    rw [hev];rfl
  have hrunT:=runT_crowd_go (P:=P) (sl:=sl) (i:=0) h0 hgo
  have hsz:=hp.size
  generalize hn:w.heap.size = n at *
  have hv1:Ext v { v' with drawn:=d }:=⟨hv.os,hv.output,hv.size,hv.blk⟩
  have key:=hJ _ hv1
  have eg:gl (v.output.push (2 * n + 1,kb kd)) = gl v.output ++ [2 * n + 1]:=by simp [gl]
  rw [show ({ v' with drawn:=d }:World).heap.size = n from hsz] at key
  have hid':∀ x,hid (v.output.push (2 * n + 1,kb kd)) x → hid v.output x ∨ x = n:=fun x hx=>by
    unfold hid at hx ⊢
    rw [eg] at hx
    simp only [List.mem_append,List.mem_singleton] at hx
    rcases hx with (h | h) | (h | h)
    · exact .inl (.inl h)
    · omega
    · exact .inl (.inr h)
    · exact .inr (by omega)
  have hid2:∀ x,hid v.output x → hid (v.output.push (2 * n + 1,kb kd)) x:=fun x hx=>by
    unfold hid at hx ⊢
    rw [eg]
    simp only [List.mem_append]
    exact hx.imp .inl .inl
  have hshn:∀ x,shn (v.output.push (2 * n + 1,kb kd)) x → shn v.output x ∨ x = n:=fun x hx=>by
    unfold shn at hx ⊢
    rw [eg] at hx
    simp only [List.mem_append,List.mem_singleton] at hx
    exact hx.imp id (fun h=>by omega)
  have hshn2:∀ x,shn v.output x → shn (v.output.push (2 * n + 1,kb kd)) x:=fun x hx=>by
    unfold shn at hx ⊢
    rw [eg]
    exact List.mem_append_left _ hx
  have hnn:hid (v.output.push (2 * n + 1,kb kd)) n:=by
    unfold hid;rw [eg];exact .inr (by simp)
  have hpv:∀ b:Nat,(v'.heap.push (bad (Z kd)))[b]? = if b = n then some (bad (Z kd)) else v'.heap[b]?:=fun b=>by rw [Array.getElem?_push,hsz]
  have hpw:∀ b:Nat,(w.heap.push (Z kd))[b]? = if b = n then some (Z kd) else w.heap[b]?:=fun b=>by rw [Array.getElem?_push,hn]
  have hst1:∀ x,hid v.output x → x < n:=fun x hx=>by have:=hst.1 x hx;rwa [hn] at this
  have hT:=key _ (.refl _) { w.at d with heap:=w.heap.push (Z kd) } ⟨hp.tape,rfl,hp.os,by simp [hsz,hn],fun x hx _=>?_,fun x _ hx=>hx.elim,fun x hx=>?_,fun x p u e=>?_⟩ ⟨fun x hx=>?_,fun x y hx=>?_⟩
  · have hT':SfT P W Post (v.output.push (2 * n + 1,kb kd)) _ _:=hT
    have hlt:0 < gs.size:=(Array.getElem?_eq_some_iff.1 h0).1
    have hgsz:((gs.map (woken P (G (b.at a (.inRegion ops (i :: rest) :: k)) cs) (G (b.at (a.put o.dst (.pointer (some ⟨n,0,none⟩))) (.inRegion ops rest :: k)) cs) { w.at d with heap:=w.heap.push (Z kd) })).setIfInBounds 0 (G (b.at (a.put o.dst (.pointer (some ⟨n,0,none⟩))) (.inRegion ops rest :: k)) cs)).size = gs.size:=by simp
    refine EndsGood.next (hst'.trans hrunT) (hT' _ sl _ q (by simp [hlt]) ⟨⟨fun j x hj hx=>?_,fun j hj=>?_⟩,?_,?_,?_,?_,mem_app hI.mem (mem_own (by simp)),⟨fun b a u e=>view_push (hI.outs.vis b a u e),hI.outs.tape,hI.outs.os,hI.outs.output⟩⟩)
    · have hne:0 ≠ j:=by omega
      rw [Array.getElem?_setIfInBounds_ne hne,Array.getElem?_map] at hx
      obtain ⟨y,hy,rfl⟩:=Option.map_eq_some_iff.1 hx
      have hq:=hI.lv.old j y hj hy
      rw [woken_quitsD hq,Deaf_other t (by omega) _ (fun op hop=>by obtain ⟨e,_,rfl⟩:=Go.Conc.mem_ofEvents hop;rfl)]
      exact hq
    · rw [Deaf_other t (g':=0) (by simp at hj;omega) _ (fun op hop=>by obtain ⟨e,_,rfl⟩:=Go.Conc.mem_ofEvents hop;rfl)]
      exact hI.lv.above j (by simpa using hj)
    · have e0:MemOp.ofEvents 0 (G (b.at a (.inRegion ops (i :: rest) :: k)) cs).frame.fn (G (b.at a (.inRegion ops (i :: rest) :: k)) cs).frame.place #[] = #[]:=by rw [ofEvents_eq];exact Array.map_empty
      rw [e0,Array.append_empty]
      have hP:=hI.past
      have:(w.at d).heap.size = n:=hn
      rw [this] at hP
      refine ⟨hP.clean,fun i' a' h1 h2=>(hP.known i' a' h1 h2).imp id fun ⟨⟨y,hy,hs⟩,h3⟩=>⟨⟨y,hy,hshn2 _ hs⟩,h3⟩,hP.over,hP.hears,fun op hop=>MemAct.low_mono (by show n ≤ (w.heap.push (Z kd)).size;simp [hn]) (hP.seen op hop)⟩
    · have e0:MemOp.ofEvents 0 (G (b.at a (.inRegion ops (i :: rest) :: k)) cs).frame.fn (G (b.at a (.inRegion ops (i :: rest) :: k)) cs).frame.place #[] = #[]:=by rw [ofEvents_eq];exact Array.map_empty
      rw [e0,Array.append_empty]
      intro j op x hj hx hs
      obtain ⟨y,hy,hs⟩:=hs
      rcases hshn _ hs with hs | hs
      · exact hI.quiet j op x hj hx ⟨y,hy,hs⟩
      · have h3:=touch_low (hI.past.seen op (Array.mem_of_getElem? hj)) hx
        rw [hy] at h3
        have h4:y.block < (w.at d).heap.size:=h3
        rw [show (w.at d).heap.size = n from hn] at h4
        omega
    · rw [hgsz];exact who_own hI.who hlt
    · have e0:MemOp.ofEvents 0 (G (b.at a (.inRegion ops (i :: rest) :: k)) cs).frame.fn (G (b.at a (.inRegion ops (i :: rest) :: k)) cs).frame.place #[] = #[]:=by rw [ofEvents_eq];exact Array.map_empty
      rw [e0,Array.append_empty]
      intro op hop x e hs
      rcases hshn _ hs with hs | hs
      · exact hI.nor op hop x e hs
      · have h3:=hI.past.seen op hop
        rw [e] at h3
        have h4:x.block < (w.at d).heap.size:=h3
        rw [show (w.at d).heap.size = n from hn] at h4
        omega
  · show (v'.heap.push (bad (Z kd)))[x]? = (w.heap.push (Z kd))[x]?
    have hxn:x ≠ n:=fun e=>hx (by show hid _ x;rw [e];exact hnn)
    rw [hpv,hpw,if_neg hxn,if_neg hxn]
    exact hp.same x (fun h1=>hx (hid2 x h1)) (fun h=>h)
  · show (v'.heap.push (bad (Z kd)))[x]? = ((w.heap.push (Z kd))[x]?).map bad
    rw [hpv,hpw]
    rcases hid' x hx with h1 | h1
    · have:=hst1 x h1
      rw [if_neg (by omega),if_neg (by omega)]
      exact hp.bad x h1
    · rw [if_pos h1,if_pos h1];rfl
  · have e':(v'.heap.push (bad (Z kd)))[x]? = some (Obj.view p u):=e
    rw [hpv] at e'
    split at e'
    · cases hz:Z kd <;> rw [hz] at e' <;> simp [bad] at e'
    · exact hp.nov x p u e'
  · show x < (w.heap.push (Z kd)).size
    rcases hid' x hx with h1 | h1
    · have:=hst1 x h1;simp [hn];omega
    · simp [hn];omega
  · show (w.heap.push (Z kd))[x / 2]? = some (Z y)
    rw [hpw]
    have hx':(x,kb y) ∈ (v.output.push (2 * n + 1,kb kd)).toList:=hx
    rw [Array.toList_push,List.mem_append] at hx'
    rcases hx' with hx' | hx'
    · have:=hst1 _ (newly_hid hx')
      rw [if_neg (by omega)]
      exact hst.2 x y hx'
    · simp only [List.mem_singleton,Prod.mk.injEq] at hx'
      obtain ⟨rfl,h2⟩:=hx'
      have h3:y = kd:=by simpa [kb] using h2
      rw [if_pos (by omega),h3]
end Go.KL
namespace Go.KL
open Go.Conc
open Go.ConcR (KK WgAt stA smA rd wr mk Payload)
open Go.ConcN (WgLive)
variable {P:Program}
structure Ch where
  S:Nat
  v:Nat
  goes:Nat
  hears:Nat
structure Co where
  tWg:TypeId
  tS:TypeId
  tR:TypeId
  m0:Nat
  n:Nat
  C:Nat
  A:Nat
  q:Nat → Int
  pl:Nat → Nat → Nat
  ro:Nat → Option Obj
  wg:Nat
  rung:Nat
  heard:Nat
  zi:Value
  zq:Value
  zs:Value
  gh0:Array (Nat × ByteArray)
abbrev i64 (n:Int):Value:=.int .i64 n
abbrev chv (b:Nat):Value:=.chan (some b)
def KZ (k x:Nat):Value:=.agg #[i64 k,i64 x]
inductive RP | rcv (s:Nat) | got (s:Nat) | sel (s:Nat) | snd (s:Nat) | fin
namespace Co
variable (c:Co)
def nMv (s:Nat):RP:=if s % c.C = 0 then .sel s else .snd s
def nGot (s:Nat):RP:=if s = 0 then c.nMv 0 else .got s
def cel (k:Nat):RP → Nat
  | .rcv s | .got s=>c.pl k (s - 1)
  | .sel s | .snd s=>c.pl k s
  | .fin=>c.pl k c.A
def inB (b:Nat):Prop:=(c.ro b).isSome = true
def RO (h:Ch) (b:Nat):Prop:=c.inB b ∨ b = h.v
def row (k:Nat) (h:Ch) (x:Value):Obj:=.cells #[i64 k,x,chv h.hears,chv h.goes,chv c.heard] c.tS
def SAt (k:Nat) (h:Ch) (x:Value) (w:World):Prop:=w.heap[h.S]? = some (c.row k h x)
def RungAt (w:World):Prop:=∃ x:Int,w.heap[c.rung]? = some (.cells #[i64 x] c.tR)
structure RR (h:Ch) (w w1:World):Prop where
  blk:∀ b,c.RO h b ∨ b = h.S → w1.heap[b]? = w.heap[b]?
  kin:∀ b,b < w.heap.size → (w1.heap[b]?).map kd = (w.heap[b]?).map kd
  size:w.heap.size ≤ w1.heap.size
  os:w1.os = w.os
  live:WgLive c.tWg c.wg w → WgLive c.tWg c.wg w1
  rng:c.RungAt w → c.RungAt w1
def own (h:Ch):Loc:=.cell ⟨h.S,1,none⟩
def Rd (h:Ch) (l:Loc):Prop:=l ≠ own h∧match l with | .cell a=>c.RO h a.block ∨ a.block = h.S | .obj r=>c.RO h r | _=>False
def Shd (l:Loc):Prop:=∃ a,l = .cell a∧(a.block = c.wg ∨ a.block = c.rung)
def RLoc (h:Ch):Loc → Prop
  | .cell a=>c.RO h a.block ∨ a.block = h.S ∨ a.block = c.rung
  | .obj r=>c.RO h r
  | .mark m=>m = .noRoom
  | _=>False
structure REv (h:Ch) (e:Event):Prop where
  touch:∀ x,(MemAct.ofEvent e).touch? = some x → (c.Shd x.loc∧x.kind = .atomic) ∨ x.loc = own h ∨ (c.Rd h x.loc∧x.write = false)
  loc:c.RLoc h e.loc
def SAp (k:Nat) (h:Ch) (p:RP) (w:World):Prop:=match p with | .fin=>∃ x,c.SAt k h x w | p=>c.SAt k h (i64 (c.cel k p)) w
structure RD (k:Nat) (h:Ch) (p p':RP) (w w':World) (es:Array Event):Prop where
  tape:w'.tape = w.tape
  os:w'.os = w.os
  output:w'.output = w.output
  size:w'.heap.size = w.heap.size
  blk:∀ b,b ≠ h.S → b ≠ c.rung → w'.heap[b]? = w.heap[b]?
  kin:∀ b:Nat,(w'.heap[b]?).map kd = (w.heap[b]?).map kd
  cell:c.SAp k h p w → c.SAp k h p' w'
  rng:c.RungAt w → c.RungAt w'
  place:p' = p ∨ ∃ s,p = .got s∧p' = c.nMv s
  ev:∀ e ∈ es,c.REv h e
end Co
inductive MT | spawn | a1 | ake | ago | hears (i r:Nat) | goes (i r:Nat) | listen (i:Nat) (hs:List Nat) | close (r:Nat) | kd | w1 (v:Nat) | w2 (v:Nat) | w3 | w4 | ke | acq | back
structure MP where
  t:MT
  ch:List Ch
namespace Co
variable (c:Co)
def nClose (r:Nat):MT:=if r < c.n then .close r else .kd
def nGoes (i r:Nat):MT:=if r < c.n then .goes i r else .listen i []
def nHears (i r:Nat):MT:=if r < c.n then .hears i r else .goes i 0
def nRow (i:Nat):MT:=if c.A < i then c.nClose 0 else if i % c.C = 0∧i < c.A then .hears i 0 else .goes i 0
def nListen (i:Nat) (hs:List Nat):MT:=if hs.length < c.n then .listen i hs else c.nRow (i + 1)
def nSpawn (j:Nat):MT:=if j < c.n then .spawn else c.nRow 0
def hidM (ch:List Ch) (b:Nat):Prop:=b = c.wg ∨ b = c.rung ∨ b = c.heard ∨ c.inB b ∨ (∃ h ∈ ch,b = h.S ∨ b = h.v ∨ b = h.goes ∨ b = h.hears) ∨ hid c.gh0 b
def MF (ch:List Ch):Hid:=⟨c.hidM ch,fun _=>False⟩
structure MSt (ch:List Ch) (w:World):Prop where
  low:∀ b,c.hidM ch b → b < w.heap.size
  row:∀ (k:Nat) (h:Ch),ch[k]? = some h → ∃ x,c.SAt k h x w
  live:WgLive c.tWg c.wg w
  lin:∀ b o,c.ro b = some o → w.heap[b]? = some o
  nwg:¬ c.inB c.wg
structure RM (ch:List Ch) (w w1:World):Prop where
  blk:∀ b,¬ c.hidM ch b → w1.heap[b]? = w.heap[b]?
  kin:∀ b:Nat,(w1.heap[b]?).map kd = (w.heap[b]?).map kd
  size:w1.heap.size = w.heap.size
  os:w1.os = w.os
  st:c.MSt ch w → c.MSt ch w1
def MEv (ch:List Ch) (n:Nat) (e:Event):Prop:=LocOf (c.MF ch) n e.loc ∨ (e.write = false∧∃ (h:Ch) (o:Nat),h ∈ ch∧e.loc = .cell ⟨h.S,o,none⟩∧o ≠ 1) ∨ (e.write = false∧∃ a,e.loc = .cell a∧c.inB a.block) ∨ (∃ x,(e.loc = .mark (.read x) ∨ e.loc = .mark (.write x))∧x.block = c.wg)
structure MD (ch:List Ch) (w w':World) (es:Array Event):Prop where
  keep:Keeps (c.MF ch) w w'
  ev:∀ e ∈ es,c.MEv ch w'.heap.size e
end Co
variable [Payload]
def RAsk (P:Program) (c:Co) (k:Nat) (h:Ch):Ask RP:=fun p g w K =>
  match p with
  | .rcv s=>g.status = .running∧∃ sh,stepG P false g w = .comm (core g) #[rcase h.goes c.zi] true sh w #[] ∧
      (s ≤ c.A → K (c.nGot s) ((core g).finishComm P #[rcase h.goes c.zi] sh 0 (i64 s) true) w)∧(s = c.A + 1 → K .fin ((core g).finishComm P #[rcase h.goes c.zi] sh 0 c.zi false) w)
  | .sel s=>g.status = .running∧∃ sh,stepG P false g w = .comm (core g) #[rcase h.hears c.zq] false sh w #[] ∧
      (s < c.A → K (.snd s) ((core g).finishComm P #[rcase h.hears c.zq] sh 0 (i64 (c.q (s / c.C))) true) w)∧(¬ s < c.A → K (.snd s) ((core g).finishComm P #[rcase h.hears c.zq] sh (-1) undef false) w)
  | .snd s=>g.status = .running∧∃ sh,stepG P false g w = .comm (core g) #[scase c.heard (KZ k (c.pl k s)) (.tuple #[])] true sh w #[] ∧
      K (.rcv (s + 1)) ((core g).finishComm P #[scase c.heard (KZ k (c.pl k s)) (.tuple #[])] sh 0 undef false) w
  | .fin=>∃ x,Go.ConcN.AtR0 P c.tWg c.wg h.S 5 0 2 x g w
  | .got _=>False
abbrev RTr (P:Program) (c:Co) (k:Nat) (h:Ch):RP → Goroutine → World → Prop:=Tr P false (fun _=>c.RR h) (c.RD k h) (RAsk P c k h)
end Go.KL
namespace Go.KL
open Go.Conc
open Go.RowKit
open Go.ConcR (KK WgAt stA smA rd wr mk Payload)
open Go.ConcN (WgLive)
variable {P:Program}
def ge (l:List Nat):Array (Nat × ByteArray):=(l.map fun x=>(x,ByteArray.empty)).toArray
theorem gl_ge (l:List Nat):gl (ge l) = l:=by simp [gl,ge,Function.comp_def]
open Classical in
noncomputable def decOf {α:Type} [Nonempty α] (enc:α → List Nat) (gh:Array (Nat × ByteArray)):α:=if h:∃ p,enc p = gl gh then Classical.choose h else Classical.choice inferInstance
theorem decOf_enc {α:Type} [Nonempty α] {enc:α → List Nat} (hi:∀ p q,enc p = enc q → p = q) (p:α):decOf enc (ge (enc p)) = p:=by
  have h:∃ x,enc x = gl (ge (enc p)):=⟨p,(gl_ge _).symm⟩
  unfold decOf
  rw [dif_pos h]
  exact hi _ _ ((Classical.choose_spec h).trans (gl_ge _))
def Qp:RP → List Nat
  | .rcv s=>[0,s] | .got s=>[1,s] | .sel s=>[2,s] | .snd s=>[3,s] | .fin=>[4]
theorem encR_inj (p q:RP) (h:Qp p = Qp q):p = q:=by cases p <;> cases q <;> simp [Qp] at h <;> simp [h]
instance:Nonempty RP:=⟨.fin⟩
noncomputable abbrev decR:=decOf Qp
theorem decR_enc (p:RP):decR (ge (Qp p)) = p:=decOf_enc encR_inj p
namespace Co
variable {c:Co} {h:Ch} {w w1 w2:World}
theorem RR.refl (w:World):c.RR h w w:=⟨fun _ _=>rfl,fun _ _=>rfl,Nat.le_refl _,rfl,id,id⟩
theorem RR.trans (a:c.RR h w w1) (b:c.RR h w1 w2):c.RR h w w2 :=
  ⟨fun x hx=>(b.blk x hx).trans (a.blk x hx),fun x hx=>(b.kin x (Nat.lt_of_lt_of_le hx a.size)).trans (a.kin x hx),Nat.le_trans a.size b.size,b.os.trans a.os,b.live ∘ a.live,b.rng ∘ a.rng⟩
theorem SAt.of {k:Nat} {x:Value} (hs:c.SAt k h x w) (e:w1.heap[h.S]? = w.heap[h.S]?):c.SAt k h x w1:=e.trans hs
theorem SAp.of {k:Nat} {p:RP} (hs:c.SAp k h p w) (e:w1.heap[h.S]? = w.heap[h.S]?):c.SAp k h p w1:=by
  cases p <;> first | exact SAt.of hs e | exact hs.imp fun _ x=>SAt.of x e
theorem _root_.Go.ConcN.WgLive.of {ty:TypeId} {b:Nat} (hl:WgLive ty b w) (e:w1.heap[b]? = w.heap[b]?):WgLive ty b w1:=by
  obtain ⟨st,sm,hl⟩:=hl
  exact ⟨st,sm,e.trans hl⟩
end Co
theorem RAsk.mono [Payload] (P:Program) (c:Co) (k:Nat) (h:Ch):(RAsk P c k h).Mono:=by
  intro p g w K K' hK hx
  cases p with
  | rcv s=>obtain ⟨a,sh,b,d,e⟩:=hx;exact ⟨a,sh,b,fun x=>hK _ _ _ (d x),fun x=>hK _ _ _ (e x)⟩
  | sel s=>obtain ⟨a,sh,b,d,e⟩:=hx;exact ⟨a,sh,b,fun x=>hK _ _ _ (d x),fun x=>hK _ _ _ (e x)⟩
  | snd s=>obtain ⟨a,sh,b,d⟩:=hx;exact ⟨a,sh,b,hK _ _ _ d⟩
  | fin=>exact hx
  | got s=>exact hx
def cells5 (c:Co) (k:Nat) (h:Ch) (x:Value):Nat → Option Value
  | 0=>some (i64 k) | 1=>some x | 2=>some (chv h.hears) | 3=>some (chv h.goes) | 4=>some (chv c.heard) | _=>none
theorem SAt.cell {c:Co} {k:Nat} {h:Ch} {x:Value} {w:World} (hs:c.SAt k h x w) {o:Nat} {u:Value} (hu:cells5 c k h x o = some u):w.cell? ⟨h.S,o,none⟩ = some u:=by
  unfold Co.SAt Co.row at hs
  match o,hu with
  | 0,hu | 1,hu | 2,hu | 3,hu | 4,hu=>cases hu;simp [World.cell?,hs]
theorem run_load1 {a:Act} {d:Option Tmp} {t:TypeId} {x:Operand} {ty:TypeId} {pos:String} {af:Array Edge} {g:Option (Nat × Bool)} {dd:TypeDesc} {b o:Nat} {u:Value} {w:World} (ht:P.underlying t = some dd) (hd:dd.isRow = false)
    (hx:a.eval x = .pointer (some ⟨b,o,none⟩)) (hc:w.cell? ⟨b,o,none⟩ = some u) :
    (execOp a.eval ⟨d,.load t x,ty,pos,af,g⟩).run P w = .ok (.value u) w∧∀ e ∈ (execOp a.eval ⟨d,.load t x,ty,pos,af,g⟩).events P w #[],e = ⟨.cell ⟨b,o,none⟩,false,false⟩:=by
  have hagg:∀ es,(isAgg t).runT P w es = (.ok false w,es):=by
    intro es
    unfold isAgg
    have h1:∀ es,(underlying t).runT P w es = (.ok dd w,es):=fun es=>by
      have:=run_underlying ht w
      have e2:(underlying t).events P w es = es:=by simp [underlying,ht]
      rw [Sem.runT_eq,this,e2]
    show (Sem.bind _ _).runT P w es = _
    rw [Sem.runT_bind',h1]
    cases dd <;> simp_all [Sem.runT,pure]
  have key:(execOp a.eval ⟨d,.load t x,ty,pos,af,g⟩).runT P w #[] = (.ok (.value u) w,#[⟨.cell ⟨b,o,none⟩,false,false⟩]):=by
    simp only [execOp,hx]
    simp [Instr.loadAt,Instr.sureAddr,loadVar,Sem.runT_bind',hagg,load,Sem.runT,hc,pure,bind,Sem.bind,-Sem.runT_eq]
  refine ⟨Xf key,fun e he=>?_⟩
  have e2:(execOp a.eval ⟨d,.load t x,ty,pos,af,g⟩).events P w #[] = #[⟨.cell ⟨b,o,none⟩,false,false⟩]:=by unfold Sem.events;rw [key]
  rw [e2] at he
  simpa using he
structure Co.Ok (c:Co) (h:Ch):Prop where
  S:¬ c.RO h h.S
  wg:¬ c.RO h c.wg∧h.S ≠ c.wg
  rung:¬ c.RO h c.rung∧h.S ≠ c.rung
theorem Co.REv.read {c:Co} {h:Ch} {a:Addr} {sy:Bool} (ok:c.Ok h) (ha:c.RO h a.block ∨ a.block = h.S):c.REv h ⟨.cell a,false,sy⟩:=by
  refine ⟨fun x hx=>?_,ha.imp id .inl⟩
  simp only [MemAct.ofEvent,MemAct.touch?,Option.some.injEq] at hx
  subst hx
  by_cases e:(Loc.cell a) = own h
  · exact .inr (.inl e)
  · exact .inr (.inr ⟨⟨e,ha⟩,rfl⟩)
theorem Co.REv.of_loc {c:Co} {h:Ch} {e:Event} {n:Nat} (ok:c.Ok h) (hl:LocOf ⟨fun b=>¬ c.RO h b,fun _=>True⟩ n e.loc) (hw:WrOf ⟨fun b=>¬ c.RO h b,fun _=>True⟩ e):c.REv h e:=by
  obtain ⟨loc,wr,sy⟩:=e
  cases loc with
  | cell a =>
    have h1:c.RO h a.block:=Classical.not_not.1 hl.1
    cases wr with
    | true=>exact absurd trivial (hw rfl)
    | false=>exact .read ok (.inl h1)
  | obj r =>
    have h1:c.RO h r:=Classical.not_not.1 hl.1
    cases wr with
    | true=>exact absurd trivial (hw rfl)
    | false =>
      refine ⟨fun x hx=>?_,h1⟩
      simp only [MemAct.ofEvent,MemAct.touch?,Option.some.injEq] at hx
      subst hx
      exact .inr (.inr ⟨⟨by simp [own],h1⟩,rfl⟩)
  | mark m =>
    obtain rfl:m = .noRoom:=hl
    exact ⟨fun x hx=>by simp [MemAct.ofEvent,MemAct.touch?] at hx,rfl⟩
  | _=>exact hl.elim
theorem Co.RD.still {c:Co} {k:Nat} {h:Ch} {p:RP} {w w':World} {es:Array Event} (hh:w'.heap = w.heap) (ht:w'.tape = w.tape) (ho:w'.os = w.os) (hp:w'.output = w.output) (he:∀ e ∈ es,c.REv h e):c.RD k h p p w w' es :=
  ⟨ht,ho,hp,by rw [hh],fun _ _ _=>by rw [hh],fun _=>by rw [hh],fun x=>Co.SAp.of x (by rw [hh]),fun ⟨x,hx⟩=>⟨x,by rw [hh];exact hx⟩,.inl rfl,he⟩
noncomputable def rgB [Payload] (P:Program) (c:Co) (k:Nat) (h:Ch) (ok:c.Ok h):Bs P where
  main:=false
  al:=false
  F _:=⟨fun b=>¬ c.RO h b,fun _=>True⟩
  St gh w:=c.SAp k h (decR gh) w∧WgLive c.tWg c.wg w∧c.RungAt w
  R _:=c.RR h
  D gh:=c.RD k h (decR gh) (decR gh)
  T gh:=RTr P c k h (decR gh)
  sp o a gh u:=∃ (t:TypeId) (x:Operand) (dd:TypeDesc) (off:Nat),o.op = .load t x∧P.underlying t = some dd∧dd.isRow = false∧a.eval x = .pointer (some ⟨h.S,off,none⟩)∧decR gh ≠ .fin∧cells5 c k h (i64 (c.cel k (decR gh))) off = some u
  Fin _ _ _:=False
  rv r b hb:=r.blk b (.inl (Classical.not_not.1 hb))
  rk r b hb:=bad_of_kd (r.kin b hb)
  rsz r:=r.size
  ros r:=r.os
  rst r s:=⟨s.1.of (r.blk _ (.inr rfl)),r.live s.2.1,r.rng s.2.2⟩
  kst k hs s:=by
    have e:∀ b:Nat,_:=fun b=>if hb:b < _ then k.blk b (.inr trivial) hb else (by rw [Array.getElem?_eq_none (by rw [hs rfl];omega),Array.getElem?_eq_none (by omega)])
    exact ⟨s.1.of (e _),s.2.1.of (e _),s.2.2.imp fun _ x=>(e _).trans x⟩
  fal h:=by cases h
  dfr s k hs he:=by
    have e:_ = _:=Array.ext_getElem? fun b=>if hb:b < _ then k.blk b (.inr trivial) hb else (by rw [Array.getElem?_eq_none (by rw [hs rfl];omega),Array.getElem?_eq_none (by omega)])
    exact .still e k.tape k.os k.output fun x hx=>.of_loc ok (he x hx).1 (he x hx).2
  stp hs hx:=Tr.intro (RAsk.mono P c k h) fun w1 h1=>by
    obtain ⟨g',w',es,a,b,d⟩:=hx w1 h1
    exact .inl ⟨hs,_,g',w',es,a,b,d⟩
  fin _ _ _ _ _ hx:=by
    obtain ⟨_,_,_,_,hf⟩:=hx _ (.refl _)
    exact hf.elim
  spr := by
    rintro gh ⟨d,op,ty,pos,af,g⟩ a u w fn ⟨t,x,dd,off,rfl,ht,hd,hx,hne,hu⟩ ⟨hs,_⟩
    have hs':c.SAt k h (i64 (c.cel k (decR gh))) w:=by
      revert hs hne
      generalize decR gh = p
      intro hne hs
      cases p <;> first | exact hs | exact absurd rfl hne
    obtain ⟨h1,h2⟩:=run_load1 (d:=d) (ty:=ty) (pos:=pos) (af:=af) (g:=g) ht hd hx (SAt.cell hs' hu)
    exact ⟨h1,.still rfl rfl rfl rfl fun e he=>by rw [h2 e (mem_listed he)];exact .read ok (.inr rfl)⟩
theorem rg_next [Payload] {c:Co} {k:Nat} {h:Ch} {ok:c.Ok h} {g:Goroutine} {v v1 w1:World} {p':RP} (hJ:(rgB P c k h ok).J g { v with output:=ge (Qp p') }) (hv:Ext v v1) (hp:Pois ⟨fun b=>¬ c.RO h b,fun _=>True⟩ w1 v1)
    (hs:c.SAp k h p' w1) (hl:WgLive c.tWg c.wg w1) (hr:c.RungAt w1):RTr P c k h p' g w1:=by
  have:=hJ { v1 with output:=ge (Qp p') } ⟨hv.os,rfl,hv.size,hv.blk⟩ w1 ⟨hp.tape,hp.drawn,hp.os,hp.size,hp.same,hp.ro,hp.bad,hp.nov⟩ (by show c.SAp k h (decR _) w1∧_;rw [decR_enc];exact ⟨hs,hl,hr⟩)
  have e:(rgB P c k h ok).T (ge (Qp p')) g w1 = RTr P c k h (decR (ge (Qp p'))) g w1:=rfl
  rw [e,decR_enc] at this
  exact this
theorem rg_ask [Payload] {c:Co} {k:Nat} {h:Ch} {ok:c.Ok h} {g:Goroutine} {v:World} {p:RP} (hg:v.output = ge (Qp p))
    (H:∀ v1 w1,Ext v v1 → Pois ⟨fun b=>¬ c.RO h b,fun _=>True⟩ w1 v1 → c.SAp k h p w1 → WgLive c.tWg c.wg w1 → c.RungAt w1 → RAsk P c k h p g w1 (RTr P c k h) ∨ (g.status = .running∧∃ p' g' w' es,stepG P false g w1 = .go g' w' es∧c.RD k h p p' w1 w' es∧RTr P c k h p' g' w')) :
    (rgB P c k h ok).J g v:=by
  intro v' hv w hp hst
  have e:(rgB P c k h ok).T v.output g w = RTr P c k h (decR v.output) g w:=rfl
  have hst':c.SAp k h (decR v.output) w∧WgLive c.tWg c.wg w∧c.RungAt w:=hst
  rw [hg,decR_enc] at hst'
  rw [e,hg,decR_enc]
  refine Tr.intro (RAsk.mono P c k h) fun w1 h1=>?_
  obtain ⟨v1,hv1,hp1⟩:=(rgB P c k h ok).turn hp h1
  exact (H v1 w1 (hv.trans hv1) hp1 (hst'.1.of (h1.blk _ (.inr rfl))) (h1.live hst'.2.1) (h1.rng hst'.2.2)).symm
noncomputable abbrev rg [Payload] (P:Program) (c:Co) (k:Nat) (h:Ch) (ok:c.Ok h):JdOf P:=(rgB P c k h ok).jd
end Go.KL
namespace Go.KL
open Go.Conc
open Go.RowKit
open Go.ConcR (KK WgAt stA smA rd wr mk Payload)
open Go.ConcN (WgLive)
variable {P:Program}
theorem listed_none {fn:FuncId} {a:Act} {o:Oper} {w:World} (h:(execOp a.eval o).events P w #[] = #[]):listed P fn a o w = #[]:=by unfold listed;rw [h];exact seen_none P _
theorem step_send {main:Bool} {b:Frame} {a:Act} {ops:Array Oper} {i:Nat} {rest:List Nat} {kk:List Item} {cs:List Frame} {d:Option Tmp} {x y:Operand} {ty:TypeId} {pos:String} {af:Array Edge} {g:Option (Nat × Bool)} {w:World} {ch:Nat} {u:Value}
    (ho:ops[i]? = some ⟨d,.send x y,ty,pos,af,g⟩) (hw:Region.wanted ⟨d,.send x y,ty,pos,af,g⟩ (yielded ops a.tmps) = true) (hk:b.kind ≠ .early) (hx:a.eval x = chv ch) (hy:a.eval y = u) :
    stepG P main (G (b.at a (.inRegion ops (i :: rest) :: kk)) cs) w = .comm (core (G (b.at a (.inRegion ops (i :: rest) :: kk)) cs)) #[scase ch u (.tuple #[])] true .send w #[]:=by
  have hr:(execOp a.eval ⟨d,.send x y,ty,pos,af,g⟩).run P w = .ok (.comm #[scase ch u (.tuple #[])] true .send) w:=by simp [execOp,hx,hy,scase,chv]
  have he:(execOp a.eval ⟨d,.send x y,ty,pos,af,g⟩).events P w #[] = #[]:=by simp [execOp]
  rw [stepG_comm ho hw hk hr,listed_none he,core_G]
theorem step_recv {main:Bool} {b:Frame} {a:Act} {ops:Array Oper} {i:Nat} {rest:List Nat} {kk:List Item} {cs:List Frame} {d:Option Tmp} {x:Operand} {t e:TypeId} {dir:ChanDir} {z:Value} {n by_:Nat} {f:Bool} {ty:TypeId} {pos:String} {af:Array Edge} {g:Option (Nat × Bool)} {w:World} {ch:Nat}
    (ho:ops[i]? = some ⟨d,.recv t x f,ty,pos,af,g⟩) (hw:Region.wanted ⟨d,.recv t x f,ty,pos,af,g⟩ (yielded ops a.tmps) = true) (hk:b.kind ≠ .early) (hx:a.eval x = chv ch) (ht:P.underlying t = some (.chan dir e)) (he:Info P e z n by_) :
    stepG P main (G (b.at a (.inRegion ops (i :: rest) :: kk)) cs) w = .comm (core (G (b.at a (.inRegion ops (i :: rest) :: kk)) cs)) #[rcase ch z] true (.recv f) w #[]:=by
  have hz:∀ es,(zeroValue e).runT P w es = (.ok z w,es):=fun es=>by
    have e2:(zeroValue e).events P w es = es:=by
      unfold Info at he
      cases hi:P.info? e with
      | none=>simp [hi] at he
      | some i=>rw [hi] at he;simp at he;simp [zeroValue,typeInfo,hi,he.1]
    rw [Sem.runT_eq,he.zero w,e2]
  have hT:(execOp a.eval ⟨d,.recv t x f,ty,pos,af,g⟩).runT P w #[] = (.ok (.comm #[rcase ch z] true (.recv f)) w,#[]):=by
    have h1:∀ es,(underlying t).runT P w es = (.ok (.chan dir e) w,es):=fun es=>by
      have e2:(underlying t).events P w es = es:=by simp [underlying,ht]
      rw [Sem.runT_eq,run_underlying ht w,e2]
    simp only [execOp]
    show (Sem.bind _ _).runT P w #[] = _
    rw [Sem.runT_bind',h1]
    show (Sem.bind _ _).runT P w #[] = _
    rw [Sem.runT_bind',hz]
    simp [Sem.runT,pure,hx,rcase,chv,-Sem.runT_eq]
  have he2:(execOp a.eval ⟨d,.recv t x f,ty,pos,af,g⟩).events P w #[] = #[]:=by unfold Sem.events;rw [hT]
  rw [stepG_comm ho hw hk (Xf hT),listed_none he2,core_G]
theorem step_sel1 {main:Bool} {b:Frame} {a:Act} {ops:Array Oper} {i:Nat} {rest:List Nat} {kk:List Item} {cs:List Frame} {d:Option Tmp} {x:Operand} {e:TypeId} {z:Value} {n by_:Nat} {ty:TypeId} {pos:String} {af:Array Edge} {g:Option (Nat × Bool)} {w:World} {ch:Nat}
    (ho:ops[i]? = some ⟨d,.select #[⟨x,none,e⟩] false,ty,pos,af,g⟩) (hw:Region.wanted ⟨d,.select #[⟨x,none,e⟩] false,ty,pos,af,g⟩ (yielded ops a.tmps) = true) (hk:b.kind ≠ .early) (hx:a.eval x = chv ch) (he:Info P e z n by_) :
    stepG P main (G (b.at a (.inRegion ops (i :: rest) :: kk)) cs) w = .comm (core (G (b.at a (.inRegion ops (i :: rest) :: kk)) cs)) #[rcase ch z] false .select w #[]:=by
  have hz:∀ es,(zeroValue e).runT P w es = (.ok z w,es):=fun es=>by
    have e2:(zeroValue e).events P w es = es:=by
      unfold Info at he
      cases hi:P.info? e with
      | none=>simp [hi] at he
      | some i=>rw [hi] at he;simp at he;simp [zeroValue,typeInfo,hi,he.1]
    rw [Sem.runT_eq,he.zero w,e2]
  have hr:(execOp a.eval ⟨d,.select #[⟨x,none,e⟩] false,ty,pos,af,g⟩).run P w = .ok (.comm #[rcase ch z] false .select) w:=by
    simp [execOp,hx,rcase,chv,he.zero]
  have he2:(execOp a.eval ⟨d,.select #[⟨x,none,e⟩] false,ty,pos,af,g⟩).events P w #[] = #[]:=by
    have e2:(zeroValue e).events P w #[] = #[]:=by unfold Sem.events;rw [hz]
    simp [execOp,he.zero,e2]
  rw [stepG_comm ho hw hk hr,listed_none he2,core_G]
theorem step_store1 {main:Bool} {b:Frame} {a:Act} {ops:Array Oper} {i:Nat} {rest:List Nat} {kk:List Item} {cs:List Frame} {d:Option Tmp} {x y:Operand} {t:TypeId} {z:Value} {by_:Nat} {ty:TypeId} {pos:String} {af:Array Edge} {g:Option (Nat × Bool)} {w:World} {bl o:Nat} {n:Int} {u:Value}
    (ho:ops[i]? = some ⟨d,.store t x y,ty,pos,af,g⟩) (hw:Region.wanted ⟨d,.store t x y,ty,pos,af,g⟩ (yielded ops a.tmps) = true) (hk:b.kind ≠ .early) (he:Info P t z 1 by_) (hx:a.eval x = .pointer (some ⟨bl,o,none⟩)) (hy:a.eval y = i64 n)
    (hc:w.cell? ⟨bl,o,none⟩ = some u) (hf:w.frozen? ⟨bl,o,none⟩ = false) :
    ∃ es,stepG P main (G (b.at a (.inRegion ops (i :: rest) :: kk)) cs) w = .go (G (b.at (a.put d undef) (.inRegion ops rest :: kk)) cs) (w.setCell ⟨bl,o,none⟩ (i64 n)) es∧∀ e ∈ es,e = ⟨.cell ⟨bl,o,none⟩,true,false⟩:=by
  have hs:∀ es,(sizeOf t).runT P w es = (.ok 1 w,es):=fun es=>by
    have e2:(sizeOf t).events P w es = es:=by
      unfold Info at he
      cases hi:P.info? t with
      | none=>simp [hi] at he
      | some i=>rw [hi] at he;simp at he;simp [sizeOf,typeInfo,hi,he.2.1]
    rw [Sem.runT_eq,he.size w,e2]
  have hst:∀ es,(store ⟨bl,o,none⟩ (i64 n)).runT P w es = (.ok () (w.setCell ⟨bl,o,none⟩ (i64 n)),es.push ⟨.cell ⟨bl,o,none⟩,true,false⟩):=fun es=>by
    unfold Go.store
    rw [runT_store_ok rfl]
    simp only [hc,hf]
    simp [Sem.runT,-Sem.runT_eq]
    rfl
  have hT:(execOp a.eval ⟨d,.store t x y,ty,pos,af,g⟩).runT P w #[] = (.ok .skip (w.setCell ⟨bl,o,none⟩ (i64 n)),#[⟨.cell ⟨bl,o,none⟩,true,false⟩]):=by
    simp only [execOp,hx,hy]
    simp [Instr.storeAt,Instr.sureAddr,storeVar,Sem.runT_bind',hs,Value.cells,storeCells,Addr.add_zero',hst,Sem.runT,pure,bind,Sem.bind,-Sem.runT_eq]
  refine ⟨_,stepG_none ho hw hk (Xf hT),fun e hm=>?_⟩
  have he2:(execOp a.eval ⟨d,.store t x y,ty,pos,af,g⟩).events P w #[] = #[⟨.cell ⟨bl,o,none⟩,true,false⟩]:=by unfold Sem.events;rw [hT]
  have:=mem_listed hm
  rw [he2] at this
  simpa using this
section
variable [Payload] {c:Co} {k:Nat} {h:Ch} {ok:c.Ok h} {b:Frame} {a:Act} {ops:Array Oper} {i:Nat} {rest:List Nat} {kk:List Item} {cs:List Frame} {d:Option Tmp} {x y:Operand} {ty:TypeId} {pos:String} {af:Array Edge} {g:Option (Nat × Bool)} {v:World} {s:Nat}
omit [Payload] in
theorem Xb {o:Oper} (ho:ops[i]? = some o) (u:Value):(b.at a (.inRegion ops (i :: rest) :: kk)).finish u = b.at (a.put o.dst u) (.inRegion ops rest :: kk):=by rw [Frame.finish_at,ho];rfl
theorem rg_snd (ho:ops[i]? = some ⟨d,.send x y,ty,pos,af,g⟩) (hw:Region.wanted ⟨d,.send x y,ty,pos,af,g⟩ (yielded ops a.tmps) = true) (hk:b.kind ≠ .early) (hx:a.eval x = chv c.heard) (hy:a.eval y = KZ k (c.pl k s))
    (hg:v.output = ge (Qp (.snd s))) (hJ:(rgB P c k h ok).J (G (b.at (a.put d undef) (.inRegion ops rest :: kk)) cs) { v with output:=ge (Qp (.rcv (s + 1))) }) :
    (rgB P c k h ok).J (G (b.at a (.inRegion ops (i :: rest) :: kk)) cs) v :=
  rg_ask hg fun v1 w1 hv hp hs hl hr=>.inl ⟨rfl,.send,step_send ho hw hk hx hy,by
    have:=rg_next hJ hv hp (p':=.rcv (s + 1)) (by simpa [Co.SAp,Co.cel] using hs) hl hr
    have e:(core (G (b.at a (.inRegion ops (i :: rest) :: kk)) cs)).finishComm P #[scase c.heard (KZ k (c.pl k s)) (.tuple #[])] .send 0 undef false = G (b.at (a.put d undef) (.inRegion ops rest :: kk)) cs:=by
      rw [core_G];simp only [Goroutine.finishComm,commResult,G,Xb ho]
    rw [e];exact this⟩
theorem rg_rcv {t e:TypeId} {dir:ChanDir} {n by_:Nat} (ho:ops[i]? = some ⟨d,.recv t x true,ty,pos,af,g⟩) (hw:Region.wanted ⟨d,.recv t x true,ty,pos,af,g⟩ (yielded ops a.tmps) = true) (hk:b.kind ≠ .early) (hx:a.eval x = chv h.goes)
    (ht:P.underlying t = some (.chan dir e)) (he:Info P e c.zi n by_) (hg:v.output = ge (Qp (.rcv s)))
    (h1:s ≤ c.A → (rgB P c k h ok).J (G (b.at (a.put d (.tuple #[i64 s,.bool true])) (.inRegion ops rest :: kk)) cs) { v with output:=ge (Qp (c.nGot s)) })
    (h2:s = c.A + 1 → (rgB P c k h ok).J (G (b.at (a.put d (.tuple #[c.zi,.bool false])) (.inRegion ops rest :: kk)) cs) { v with output:=ge (Qp .fin) }) :
    (rgB P c k h ok).J (G (b.at a (.inRegion ops (i :: rest) :: kk)) cs) v :=
  rg_ask hg fun v1 w1 hv hp hs hl hr=>.inl ⟨rfl,.recv true,step_recv ho hw hk hx ht he,fun hle=>by
    have:=rg_next (h1 hle) hv hp (p':=c.nGot s) (by
      unfold Co.nGot
      split
      · rename_i e0;subst e0;unfold Co.nMv;split <;> simpa [Co.SAp,Co.cel] using hs
      · simpa [Co.SAp,Co.cel] using hs) hl hr
    have e:(core (G (b.at a (.inRegion ops (i :: rest) :: kk)) cs)).finishComm P #[rcase h.goes c.zi] (.recv true) 0 (i64 s) true = G (b.at (a.put d (.tuple #[i64 s,.bool true])) (.inRegion ops rest :: kk)) cs:=by
      rw [core_G];simp only [Goroutine.finishComm,commResult,G,Xb ho]
    rw [e];exact this,fun hle=>by
    have:=rg_next (h2 hle) hv hp (p':=.fin) ⟨_,by simpa [Co.SAp,Co.cel] using hs⟩ hl hr
    have e:(core (G (b.at a (.inRegion ops (i :: rest) :: kk)) cs)).finishComm P #[rcase h.goes c.zi] (.recv true) 0 c.zi false = G (b.at (a.put d (.tuple #[c.zi,.bool false])) (.inRegion ops rest :: kk)) cs:=by
      rw [core_G];simp only [Goroutine.finishComm,commResult,G,Xb ho]
    rw [e];exact this⟩
theorem rg_sel {e:TypeId} {n by_:Nat} (ho:ops[i]? = some ⟨d,.select #[⟨x,none,e⟩] false,ty,pos,af,g⟩) (hw:Region.wanted ⟨d,.select #[⟨x,none,e⟩] false,ty,pos,af,g⟩ (yielded ops a.tmps) = true) (hk:b.kind ≠ .early) (hx:a.eval x = chv h.hears)
    (he:Info P e c.zq n by_) (hg:v.output = ge (Qp (.sel s)))
    (h1:s < c.A → (rgB P c k h ok).J (G (b.at (a.put d (.tuple #[goInt 0,.bool true,i64 (c.q (s / c.C))])) (.inRegion ops rest :: kk)) cs) { v with output:=ge (Qp (.snd s)) })
    (h2:¬ s < c.A → (rgB P c k h ok).J (G (b.at (a.put d (.tuple #[goInt (-1),.bool false,c.zq])) (.inRegion ops rest :: kk)) cs) { v with output:=ge (Qp (.snd s)) }) :
    (rgB P c k h ok).J (G (b.at a (.inRegion ops (i :: rest) :: kk)) cs) v :=
  rg_ask hg fun v1 w1 hv hp hs hl hr=>.inl ⟨rfl,.select,step_sel1 ho hw hk hx he,fun hle=>by
    have:=rg_next (h1 hle) hv hp (p':=.snd s) (by simpa [Co.SAp,Co.cel] using hs) hl hr
    have e:(core (G (b.at a (.inRegion ops (i :: rest) :: kk)) cs)).finishComm P #[rcase h.hears c.zq] .select 0 (i64 (c.q (s / c.C))) true = G (b.at (a.put d (.tuple #[goInt 0,.bool true,i64 (c.q (s / c.C))])) (.inRegion ops rest :: kk)) cs:=by
      rw [core_G];simp [Goroutine.finishComm,commResult,G,Xb ho,rcase]
    rw [e];exact this,fun hle=>by
    have:=rg_next (h2 hle) hv hp (p':=.snd s) (by simpa [Co.SAp,Co.cel] using hs) hl hr
    have e:(core (G (b.at a (.inRegion ops (i :: rest) :: kk)) cs)).finishComm P #[rcase h.hears c.zq] .select (-1) undef false = G (b.at (a.put d (.tuple #[goInt (-1),.bool false,c.zq])) (.inRegion ops rest :: kk)) cs:=by
      rw [core_G];simp [Goroutine.finishComm,commResult,G,Xb ho,rcase]
    rw [e];exact this⟩
theorem rg_put {t:TypeId} {z:Value} {by_:Nat} (ho:ops[i]? = some ⟨d,.store t x y,ty,pos,af,g⟩) (hw:Region.wanted ⟨d,.store t x y,ty,pos,af,g⟩ (yielded ops a.tmps) = true) (hk:b.kind ≠ .early) (he:Info P t z 1 by_)
    (hx:a.eval x = .pointer (some ⟨h.S,1,none⟩)) (hy:a.eval y = i64 (c.pl k s)) (hg:v.output = ge (Qp (.got s)))
    (hJ:(rgB P c k h ok).J (G (b.at (a.put d undef) (.inRegion ops rest :: kk)) cs) { v with output:=ge (Qp (c.nMv s)) }) :
    (rgB P c k h ok).J (G (b.at a (.inRegion ops (i :: rest) :: kk)) cs) v :=
  rg_ask hg fun v1 w1 hv hp hs hl hr=>.inr ⟨rfl,c.nMv s,by
    have hs':c.SAt k h (i64 (c.pl k (s - 1))) w1:=hs
    have hb:w1.heap[h.S]? = some (c.row k h (i64 (c.pl k (s - 1)))):=hs'
    obtain ⟨es,h1,h2⟩:=step_store1 (P:=P) (main:=false) (cs:=cs) (w:=w1) ho hw hk he hx hy (SAt.cell (o:=1) hs' rfl) (by unfold Co.row at hb;simp [World.frozen?,hb])
    have hh:∀ b':Nat,(w1.setCell ⟨h.S,1,none⟩ (i64 (c.pl k s))).heap[b']? = if b' = h.S then some (c.row k h (i64 (c.pl k s))) else w1.heap[b']?:=fun b'=>by
      rw [KJ]
      by_cases e:b' = h.S
      · subst e
        rw [if_pos rfl,if_pos rfl,hb]
        simp [Co.row,setO]
      · rw [if_neg e,if_neg e]
    have hne:h.S ≠ c.rung:=ok.rung.2
    have hnw:h.S ≠ c.wg:=ok.wg.2
    have hD:c.RD k h (.got s) (c.nMv s) w1 (w1.setCell ⟨h.S,1,none⟩ (i64 (c.pl k s))) es:=by
      refine ⟨rfl,rfl,rfl,by simp [World.setCell],fun b' h3 _=>by rw [hh,if_neg h3],fun b'=>?_,fun _=>?_,fun ⟨x,hx⟩=>⟨x,by rw [hh,if_neg (Ne.symm hne)];exact hx⟩,.inr ⟨s,rfl,rfl⟩,fun e hm=>?_⟩
      · rw [hh]
        split
        · rename_i e;subst e;rw [hb];rfl
        · rfl
      · have:(w1.setCell ⟨h.S,1,none⟩ (i64 (c.pl k s))).heap[h.S]? = some (c.row k h (i64 (c.pl k s))):=by rw [hh,if_pos rfl]
        unfold Co.nMv
        split <;> exact this
      · rw [h2 e hm]
        refine ⟨fun x hx=>?_,.inr (.inl rfl)⟩
        simp only [MemAct.ofEvent,MemAct.touch?,Option.some.injEq] at hx
        subst hx
        exact .inr (.inl rfl)
    refine ⟨_,_,es,h1,hD,?_⟩
    have hF:∀ b',c.RO h b' → b' ≠ h.S:=fun b' h3 e=>ok.S (e ▸ h3)
    refine rg_next hJ hv ⟨hp.tape,hp.drawn,hp.os,by rw [hp.size];simp [World.setCell],fun b' h3 h4=>absurd trivial h4,fun b' h3 h4=>?_,fun b' h3=>?_,hp.nov⟩ (hD.cell hs) ?_ (hD.rng hr)
    · have:=hF b' (Classical.not_not.1 h3)
      rw [hh,if_neg this]
      exact hp.ro b' h3 h4
    · rw [hp.bad b' h3,hh]
      split
      · rename_i e;subst e;rw [hb];rfl
      · rfl
    · exact hl.of (by rw [hh,if_neg (Ne.symm hnw)])⟩
end
end Go.KL
namespace Go.KL
open Go.Conc
open Go.RowKit
open Go.ConcR (KK WgAt stA smA rd wr mk Payload)
open Go.ConcN (WgLive)
variable {P:Program}
def encT:MT → List Nat
  | .spawn=>[0] | .a1=>[1] | .ake=>[2] | .ago=>[3] | .hears i r=>[4,i,r] | .goes i r=>[5,i,r] | .listen i hs=>6 :: i :: hs | .close r=>[7,r]
  | .kd=>[8] | .w1 v=>[9,v] | .w2 v=>[10,v] | .w3=>[11] | .w4=>[12] | .ke=>[13] | .acq=>[14] | .back=>[15]
theorem encT_inj (p q:MT) (h:encT p = encT q):p = q:=by cases p <;> cases q <;> simp [encT] at h <;> simp [h]
def encC (ch:List Ch):List Nat:=ch.flatMap fun h=>[h.S,h.v,h.goes,h.hears]
theorem encC_len (ch:List Ch):(encC ch).length = 4 * ch.length:=by
  induction ch with
  | nil=>rfl
  | cons a l ih=>simp only [encC,List.flatMap_cons,List.length_append,List.length_cons,List.length_nil] at ih ⊢;omega
theorem encC_inj:∀ (a b:List Ch),encC a = encC b → a = b
  | [],[],_=>rfl
  | [],y :: b,h=>by simp [encC] at h
  | x :: a,[],h=>by simp [encC] at h
  | x :: a,y :: b,h=>by
    simp only [encC,List.flatMap_cons,List.cons_append,List.nil_append,List.cons.injEq] at h
    obtain ⟨h1,h2,h3,h4,h5⟩:=h
    rw [encC_inj a b h5]
    cases x;cases y;simp_all
def Kw (p:MP):List Nat:=p.ch.length :: (encC p.ch ++ encT p.t)
theorem encM_inj (p q:MP) (h:Kw p = Kw q):p = q:=by
  simp only [Kw,List.cons.injEq] at h
  obtain ⟨h1,h2⟩:=h
  obtain ⟨h3,h4⟩:=List.append_inj h2 (by rw [encC_len,encC_len,h1])
  have e1:=encC_inj _ _ h3
  have e2:=encT_inj _ _ h4
  cases p;cases q;simp_all
def mrk:ByteArray:=⟨#[0]⟩
def gm (l:List Nat):Array (Nat × ByteArray):=(l.map fun x=>(x,mrk)).toArray
theorem gl_gm (l:List Nat):gl (gm l) = l:=by simp [gl,gm,Function.comp_def]
theorem decOf_encg {α:Type} [Nonempty α] {enc:α → List Nat} (hi:∀ p q,enc p = enc q → p = q) (p:α):decOf enc (gm (enc p)) = p:=by
  have h:∃ x,enc x = gl (gm (enc p)):=⟨p,(gl_gm _).symm⟩
  unfold decOf
  rw [dif_pos h]
  exact hi _ _ ((Classical.choose_spec h).trans (gl_gm _))
instance:Nonempty MP:=⟨⟨.back,[]⟩⟩
noncomputable abbrev QJ:=decOf Kw
theorem decM_enc (p:MP):QJ (gm (Kw p)) = p:=decOf_encg encM_inj p
structure Co.New (c:Co) (ch:List Ch) (h:Ch) (w:World):Prop where
  row:c.SAt ch.length h (i64 (c.pl ch.length 0)) w
  var:h.v < w.heap.size
  goes:∃ s r,w.heap[h.goes]? = some (.chan 0 #[] false s r false)
  hears:∃ s r,w.heap[h.hears]? = some (.chan 1 #[] false s r false)
  apart:h.S ≠ h.v∧h.v ≠ h.goes∧h.v ≠ h.hears∧h.goes ≠ h.hears
  new:¬ c.hidM ch h.S∧¬ c.hidM ch h.v∧¬ c.hidM ch h.goes∧¬ c.hidM ch h.hears
def shut:Obj → Obj
  | .chan cap buf _ s r tm=>.chan cap buf true s r tm
  | o=>o
def QY (w:World) (b:Nat):World:={ w with heap:=w.heap.modify b shut }
def says (P:Program) (g:Goroutine) (w:World) (m:Mark) (K:Goroutine → World → Prop):Prop:=g.status = .running∧∃ g',stepG P true g w = .go g' w #[mk m]∧K g' w
variable [Payload]
def MAsk (P:Program) (c:Co) (End:List Ch → Goroutine → World → Prop):Ask MP:=fun p g w K =>
  match p.t with
  | .spawn=>says P g w .disable (K ⟨.a1,p.ch⟩)
  | .a1=>g.status = .running∧∀ v:Nat,v < 2147483647 → WgAt c.tWg c.wg w (v * KK) 0 → ∃ g',stepG P true g w = .go g' (w.setCell (stA c.wg) (.int .u64 ((v + 1) * KK))) #[Go.ConcR.rd (stA c.wg),Go.ConcR.wr (stA c.wg)]∧K ⟨.ake,p.ch⟩ g' (w.setCell (stA c.wg) (.int .u64 ((v + 1) * KK)))
  | .ake=>says P g w .enable (K ⟨.ago,p.ch⟩)
  | .ago=>g.status = .running∧∃ g' child h,stepG P true g w = .spawn g' child w #[]∧child.status = .running∧c.New p.ch h w∧(c.RungAt w → RTr P c p.ch.length h (.rcv 0) child w)∧K ⟨c.nSpawn (p.ch.length + 1),p.ch ++ [h]⟩ g' w
  | .hears i r=>g.status = .running∧∃ h,p.ch[r]? = some h∧stepG P true g w = .comm (core g) #[scase h.hears (i64 (c.q (i / c.C))) (.tuple #[])] true .send w #[] ∧
      K ⟨c.nHears i (r + 1),p.ch⟩ ((core g).finishComm P #[scase h.hears (i64 (c.q (i / c.C))) (.tuple #[])] .send 0 undef false) w
  | .goes i r=>g.status = .running∧∃ h,p.ch[r]? = some h∧stepG P true g w = .comm (core g) #[scase h.goes (i64 i) (.tuple #[])] true .send w #[] ∧
      K ⟨c.nGoes i (r + 1),p.ch⟩ ((core g).finishComm P #[scase h.goes (i64 i) (.tuple #[])] .send 0 undef false) w
  | .listen i hs=>g.status = .running∧stepG P true g w = .comm (core g) #[rcase c.heard c.zs] true (.recv false) w #[] ∧
      ∀ k,k < c.n → k ∉ hs → K ⟨c.nListen i (hs ++ [k]),p.ch⟩ ((core g).finishComm P #[rcase c.heard c.zs] (.recv false) 0 (KZ k (c.pl k i)) true) w
  | .close r=>g.status = .running∧∃ h,p.ch[r]? = some h∧((∃ s r,w.heap[h.goes]? = some (.chan 0 #[] false s r false)) → ∃ g',stepG P true g w = .go g' (QY w h.goes) (closeEvents h.goes)∧mayWake P g = true∧g'.status = .running∧K ⟨c.nClose (r + 1),p.ch⟩ g' (QY w h.goes))
  | .kd=>says P g w .disable (K ⟨.w1 c.n,p.ch⟩)
  | .w1 v0=>g.status = .running∧∀ v:Nat,v ≤ v0 → WgAt c.tWg c.wg w (v * KK) 0 → ∃ g',stepG P true g w = .go g' w #[Go.ConcR.rd (stA c.wg)]∧(v = 0 → K ⟨.ke,p.ch⟩ g' w)∧(v ≠ 0 → K ⟨.w2 v,p.ch⟩ g' w)
  | .w2 vs=>g.status = .running∧∀ v:Nat,v ≤ vs → WgAt c.tWg c.wg w (v * KK) 0 →
      (v = vs → ∃ g',stepG P true g w = .go g' (w.setCell (stA c.wg) (.int .u64 (v * KK + 1))) #[Go.ConcR.rd (stA c.wg),Go.ConcR.wr (stA c.wg)]∧K ⟨.w3,p.ch⟩ g' (w.setCell (stA c.wg) (.int .u64 (v * KK + 1)))) ∧
      (v ≠ vs → ∃ g',stepG P true g w = .go g' w #[Go.ConcR.rd (stA c.wg)]∧K ⟨.w1 v,p.ch⟩ g' w)
  | .w3=>g.status = .running∧g.offers = none∧((∃ st,WgAt c.tWg c.wg w st 0) → stepG P true g w = .go { g with status:=.blocked } w #[]) ∧
      (WgAt c.tWg c.wg w 0 1 → ∃ g',stepG P true g w = .go g' (w.setCell (smA c.wg) (.int .u32 0)) (semEvents (smA c.wg))∧K ⟨.w4,p.ch⟩ g' (w.setCell (smA c.wg) (.int .u32 0)))
  | .w4=>g.status = .running∧(WgAt c.tWg c.wg w 0 0 → ∃ g',stepG P true g w = .go g' w #[Go.ConcR.rd (stA c.wg)]∧K ⟨.ke,p.ch⟩ g' w)
  | .ke=>says P g w .enable (K ⟨.acq,p.ch⟩)
  | .acq=>g.status = .running∧∃ g',stepG P true g w = .go g' w #[mk (.acquire (stA c.wg))]∧g'.status = .running∧K ⟨.back,p.ch⟩ g' w
  | .back=>End p.ch g w
def MDD (c:Co) (p p':MP) (w w':World) (es:Array Event):Prop:=p' = p∧c.MD p.ch w w' es
abbrev MTr (P:Program) (c:Co) (End:List Ch → Goroutine → World → Prop):MP → Goroutine → World → Prop:=Tr P true (fun p=>c.RM p.ch) (MDD c) (MAsk P c End)
omit [Payload] in
theorem says.mono {g:Goroutine} {w:World} {m:Mark} {K K':Goroutine → World → Prop} (hK:∀ g w,K g w → K' g w) (h:says P g w m K):says P g w m K':=⟨h.1,let ⟨g',a,b⟩:=h.2;⟨g',a,hK _ _ b⟩⟩
theorem MAsk.mono (P:Program) (c:Co) (End:List Ch → Goroutine → World → Prop):(MAsk P c End).Mono:=by
  rintro ⟨t,ch⟩ g w K K' hK hx
  cases t with
  | spawn | ake | kd | ke=>exact says.mono (hK _) hx
  | acq=>obtain ⟨h1,g',a,b,d⟩:=hx;exact ⟨h1,g',a,b,hK _ _ _ d⟩
  | a1=>exact ⟨hx.1,fun v h1 h2=>let ⟨g',a,b⟩:=hx.2 v h1 h2;⟨g',a,hK _ _ _ b⟩⟩
  | ago=>obtain ⟨h1,g',ci,h,a,b,d,e,f⟩:=hx;exact ⟨h1,g',ci,h,a,b,d,e,hK _ _ _ f⟩
  | hears i r=>obtain ⟨h1,h,a,b,d⟩:=hx;exact ⟨h1,h,a,b,hK _ _ _ d⟩
  | goes i r=>obtain ⟨h1,h,a,b,d⟩:=hx;exact ⟨h1,h,a,b,hK _ _ _ d⟩
  | listen i hs=>obtain ⟨h1,a,b⟩:=hx;exact ⟨h1,a,fun k h2 h3=>hK _ _ _ (b k h2 h3)⟩
  | close r=>obtain ⟨h1,h,a,b⟩:=hx;exact ⟨h1,h,a,fun h2=>let ⟨g',d,e,f,i⟩:=b h2;⟨g',d,e,f,hK _ _ _ i⟩⟩
  | w1 v0=>exact ⟨hx.1,fun v h1 h2=>let ⟨g',a,b,d⟩:=hx.2 v h1 h2;⟨g',a,fun e=>hK _ _ _ (b e),fun e=>hK _ _ _ (d e)⟩⟩
  | w2 vs=>exact ⟨hx.1,fun v h1 h2=>⟨fun e=>let ⟨g',a,b⟩:=(hx.2 v h1 h2).1 e;⟨g',a,hK _ _ _ b⟩,fun e=>let ⟨g',a,b⟩:=(hx.2 v h1 h2).2 e;⟨g',a,hK _ _ _ b⟩⟩⟩
  | w3=>exact ⟨hx.1,hx.2.1,hx.2.2.1,fun h=>let ⟨g',a,b⟩:=hx.2.2.2 h;⟨g',a,hK _ _ _ b⟩⟩
  | w4=>exact ⟨hx.1,fun h=>let ⟨g',a,b⟩:=hx.2 h;⟨g',a,hK _ _ _ b⟩⟩
  | back=>exact hx
omit [Payload] in
theorem Co.RM.refl (c:Co) (ch:List Ch) (w:World):c.RM ch w w:=⟨fun _ _=>rfl,fun _=>rfl,rfl,rfl,id⟩
omit [Payload] in
theorem Co.RM.trans {c:Co} {ch:List Ch} {w w1 w2:World} (a:c.RM ch w w1) (b:c.RM ch w1 w2):c.RM ch w w2 :=
  ⟨fun x hx=>(b.blk x hx).trans (a.blk x hx),fun x=>(b.kin x).trans (a.kin x),b.size.trans a.size,b.os.trans a.os,b.st ∘ a.st⟩
omit [Payload] in
theorem Co.MSt.keeps {c:Co} {ch:List Ch} {w w':World} (h:c.MSt ch w) (k:Keeps (c.MF ch) w w'):c.MSt ch w':=by
  have e:∀ b,c.hidM ch b → w'.heap[b]? = w.heap[b]?:=fun b hb=>k.blk b (.inl hb) (h.low b hb)
  exact ⟨fun b hb=>Nat.lt_of_lt_of_le (h.low b hb) k.size,fun i x hx=>(h.row i x hx).imp fun u hu=>Co.SAt.of hu (e _ (.inr (.inr (.inr (.inr (.inl ⟨x,List.mem_of_getElem? hx,.inl rfl⟩)))))),h.live.of (e _ (.inl rfl)),fun b o ho=>(e b (.inr (.inr (.inr (.inl (by simp [Co.inB,ho])))))).trans (h.lin b o ho),h.nwg⟩
noncomputable def mnB (P:Program) (c:Co) (End:List Ch → Goroutine → World → Prop):Bs P where
  main:=true
  al:=true
  F gh:=c.MF (QJ gh).ch
  St gh:=c.MSt (QJ gh).ch
  R gh:=c.RM (QJ gh).ch
  D gh:=c.MD (QJ gh).ch
  T gh:=MTr P c End (QJ gh)
  sp o a gh u:=∃ (t:TypeId) (x:Operand) (dd:TypeDesc) (b off:Nat),o.op = .load t x∧P.underlying t = some dd∧dd.isRow = false∧a.eval x = .pointer (some ⟨b,off,none⟩) ∧
    ((∃ (k:Nat) (h:Ch),(QJ gh).ch[k]? = some h∧b = h.S∧off ≠ 1∧cells5 c k h undef off = some u) ∨ ∃ cs e fr,c.ro b = some (.cells cs e fr)∧cs[off]? = some u)
  Fin _ _ _:=False
  rv r:=r.blk
  rk r b _:=bad_of_kd (r.kin b)
  rsz r:=Nat.le_of_eq r.size.symm
  ros r:=r.os
  rst r:=r.st
  kst k _ s:=s.keeps k
  fal _ s:=⟨fun _ h=>h,fun b hb h=>by have:=s.low b h;omega⟩
  dfr _ k _ he:=⟨k,fun e hm=>.inl (he e hm).1⟩
  stp hs hx:=Tr.intro (MAsk.mono P c End) fun w1 h1=>by
    obtain ⟨g',w',es,a,b,d⟩:=hx w1 h1
    exact .inl ⟨hs,_,g',w',es,a,⟨rfl,b⟩,d⟩
  fin _ _ _ _ _ hx:=by
    obtain ⟨_,_,_,_,hf⟩:=hx _ (.refl _ _ _)
    exact hf.elim
  spr := by
    rintro gh ⟨d,op,ty,pos,af,g⟩ a u w fn ⟨t,x,dd,b,off,rfl,ht,hd,hx,hr⟩ hs
    rcases hr with ⟨k,h,hk,rfl,hne,hu⟩ | ⟨cs,e,fr,hb,hu⟩
    · obtain ⟨y,hy⟩:=hs.row k h hk
      have hu':cells5 c k h y off = some u:=by
        match off,hne,hu with
        | 0,_,hu | 2,_,hu | 3,_,hu | 4,_,hu=>exact hu
      obtain ⟨h1,h2⟩:=run_load1 (d:=d) (ty:=ty) (pos:=pos) (af:=af) (g:=g) ht hd hx (SAt.cell hy hu')
      exact ⟨h1,⟨.refl _ _,fun e he=>by rw [h2 e (mem_listed he)];exact .inr (.inl ⟨rfl,h,off,List.mem_of_getElem? hk,rfl,hne⟩)⟩⟩
    · obtain ⟨h1,h2⟩:=run_load1 (d:=d) (ty:=ty) (pos:=pos) (af:=af) (g:=g) (w:=w) (u:=u) ht hd hx (by simp [World.cell?,hs.lin b _ hb,hu])
      exact ⟨h1,⟨.refl _ _,fun e he=>by rw [h2 e (mem_listed he)];exact .inr (.inr (.inl ⟨rfl,_,rfl,by simp [Co.inB,hb]⟩))⟩⟩
noncomputable abbrev mn (P:Program) (c:Co) (End:List Ch → Goroutine → World → Prop):JdOf P:=(mnB P c End).jd
end Go.KL
namespace Go.KL
open Go.Conc
open Go.RowKit
open Go.ConcR (KK WgAt stA smA mk Payload)
open Go.ConcN (WgLive)
variable {P:Program} [Payload] {c:Co} {End:List Ch → Goroutine → World → Prop}
theorem mn_next {g:Goroutine} {v v1 w1:World} {t':MT} {ch:List Ch} (hJ:(mnB P c End).J g { v with output:=gm (Kw ⟨t',ch⟩) }) (hv:Ext v v1) (hp:Pois (c.MF ch) w1 v1) (hs:c.MSt ch w1):MTr P c End ⟨t',ch⟩ g w1:=by
  have hd:QJ (gm (Kw ⟨t',ch⟩)) = ⟨t',ch⟩:=decM_enc _
  have:=hJ { v1 with output:=gm (Kw ⟨t',ch⟩) } ⟨hv.os,rfl,hv.size,hv.blk⟩ w1
    (by show Pois (c.MF (QJ (gm (Kw ⟨t',ch⟩))).ch) w1 _;rw [hd];exact ⟨hp.tape,hp.drawn,hp.os,hp.size,hp.same,hp.ro,hp.bad,hp.nov⟩) (by show c.MSt (QJ (gm (Kw ⟨t',ch⟩))).ch w1;rw [hd];exact hs)
  have e:(mnB P c End).T (gm (Kw ⟨t',ch⟩)) g w1 = MTr P c End (QJ (gm (Kw ⟨t',ch⟩))) g w1:=rfl
  rw [e,hd] at this
  exact this
theorem mn_ask {g:Goroutine} {v:World} {t:MT} {ch:List Ch} (hg:v.output = gm (Kw ⟨t,ch⟩)) (H:∀ v1 w1,Ext v v1 → Pois (c.MF ch) w1 v1 → c.MSt ch w1 → MAsk P c End ⟨t,ch⟩ g w1 (MTr P c End)):(mnB P c End).J g v:=by
  intro v' hv w hp hst
  have hd:QJ (gm (Kw ⟨t,ch⟩)) = ⟨t,ch⟩:=decM_enc _
  have e:(mnB P c End).T v.output g w = MTr P c End (QJ v.output) g w:=rfl
  have hst':c.MSt (QJ v.output).ch w:=hst
  have hp':Pois (c.MF (QJ v.output).ch) w v':=hp
  rw [hg,hd] at hst' hp'
  rw [e,hg,hd]
  refine Tr.intro (MAsk.mono P c End) fun w1 h1=>?_
  obtain ⟨v1,hv1,hp1⟩:=(mnB P c End).turn (gh:=gm (Kw ⟨t,ch⟩)) (w:=w) (w1:=w1) (v:=v') (by show Pois (c.MF (QJ (gm (Kw ⟨t,ch⟩))).ch) w v';rw [hd];exact hp') (by show c.RM (QJ (gm (Kw ⟨t,ch⟩))).ch w w1;rw [hd];exact h1)
  have hp2:Pois (c.MF (QJ (gm (Kw ⟨t,ch⟩))).ch) w1 v1:=hp1
  rw [hd] at hp2
  exact .inr (H v1 w1 (hv.trans hv1) hp2 (h1.st hst'))
open Classical in
noncomputable def veil (F:Nat → Prop) (v:World):World:={ v with heap:=v.heap.mapIdx fun i o=>if F i then bad o else o }
omit [Payload] in
theorem bad_bad (o:Obj):bad (bad o) = bad o:=by cases o <;> rfl
omit [Payload] in
theorem Qc (F:Nat → Prop) (v:World) (b:Nat):(F b → (veil F v).heap[b]? = (v.heap[b]?).map bad)∧(¬ F b → (veil F v).heap[b]? = v.heap[b]?):=by
  refine ⟨fun h=>?_,fun h=>?_⟩ <;> (show (v.heap.mapIdx _)[b]? = _;rw [Array.getElem?_mapIdx];simp [h])
omit [Payload] in
theorem Ext.veil {F:Nat → Prop} {v v1:World} (h:Ext v v1):Ext (veil F v) (veil F v1):=by
  refine ⟨h.os,h.output,by simp [Go.KL.veil,h.size],fun b hb=>?_⟩
  have hb':b < v.heap.size:=by simpa [Go.KL.veil] using hb
  by_cases hF:F b
  · rw [(Qc F v1 b).1 hF,(Qc F v b).1 hF,h.blk b hb']
  · rw [(Qc F v1 b).2 hF,(Qc F v b).2 hF,h.blk b hb']
omit [Payload] in
theorem Pois.veil {ch:List Ch} {h:Ch} {w v:World} (hp:Pois (c.MF ch) w v):Pois (c.MF (ch ++ [h])) w (veil (c.hidM (ch ++ [h])) v):=by
  have mono:∀ b,c.hidM ch b → c.hidM (ch ++ [h]) b:=fun b hb=>by
    rcases hb with e | e | e | e | ⟨x,hx,e⟩ | e
    · exact .inl e
    · exact .inr (.inl e)
    · exact .inr (.inr (.inl e))
    · exact .inr (.inr (.inr (.inl e)))
    · exact .inr (.inr (.inr (.inr (.inl ⟨x,List.mem_append_left _ hx,e⟩))))
    · exact .inr (.inr (.inr (.inr (.inr e))))
  refine ⟨hp.tape,hp.drawn,hp.os,by simp [Go.KL.veil,hp.size],fun b hb _=>?_,fun b _ hb=>hb.elim,fun b hb=>?_,fun b a u e=>?_⟩
  · rw [(Qc (c.hidM (ch ++ [h])) v b).2 hb];exact hp.same b (fun x=>hb (mono b x)) (fun x=>x)
  · rw [(Qc (c.hidM (ch ++ [h])) v b).1 hb]
    by_cases h1:c.hidM ch b
    · rw [hp.bad b h1,Option.map_map];congr 1;funext o;exact bad_bad o
    · rw [hp.same b h1 (fun x=>x)]
  · by_cases h1:c.hidM (ch ++ [h]) b
    · rw [(Qc (c.hidM (ch ++ [h])) v b).1 h1] at e
      cases ho:v.heap[b]? with
      | none=>rw [ho] at e;cases e
      | some o=>rw [ho] at e;cases o <;> simp [Go.KL.bad] at e
    · rw [(Qc (c.hidM (ch ++ [h])) v b).2 h1] at e;exact hp.nov _ _ _ e
section
variable {b:Frame} {a:Act} {ops:Array Oper} {i:Nat} {rest:List Nat} {kk:List Item} {cs:List Frame} {d:Option Tmp} {x y:Operand} {ty:TypeId} {pos:String} {af:Array Edge} {g:Option (Nat × Bool)} {v:World} {ch:List Ch} {h:Ch} {r j:Nat}
omit [Payload] in
theorem fin_send (ho:ops[i]? = some ⟨d,.send x y,ty,pos,af,g⟩) {cc:Array CommCase}:(core (G (b.at a (.inRegion ops (i :: rest) :: kk)) cs)).finishComm P cc .send 0 undef false = G (b.at (a.put d undef) (.inRegion ops rest :: kk)) cs:=by
  rw [core_G];simp only [Goroutine.finishComm,commResult,G,Xb ho]
theorem mn_hears (ho:ops[i]? = some ⟨d,.send x y,ty,pos,af,g⟩) (hw:Region.wanted ⟨d,.send x y,ty,pos,af,g⟩ (yielded ops a.tmps) = true) (hk:b.kind ≠ .early) (hh:ch[r]? = some h) (hx:a.eval x = chv h.hears) (hy:a.eval y = i64 (c.q (j / c.C)))
    (hg:v.output = gm (Kw ⟨.hears j r,ch⟩)) (hJ:(mnB P c End).J (G (b.at (a.put d undef) (.inRegion ops rest :: kk)) cs) { v with output:=gm (Kw ⟨c.nHears j (r + 1),ch⟩) }) :
    (mnB P c End).J (G (b.at a (.inRegion ops (i :: rest) :: kk)) cs) v :=
  mn_ask hg fun v1 w1 hv hp hs=>⟨rfl,h,hh,step_send ho hw hk hx hy,by rw [fin_send ho];exact mn_next hJ hv hp hs⟩
theorem mn_goes (ho:ops[i]? = some ⟨d,.send x y,ty,pos,af,g⟩) (hw:Region.wanted ⟨d,.send x y,ty,pos,af,g⟩ (yielded ops a.tmps) = true) (hk:b.kind ≠ .early) (hh:ch[r]? = some h) (hx:a.eval x = chv h.goes) (hy:a.eval y = i64 j)
    (hg:v.output = gm (Kw ⟨.goes j r,ch⟩)) (hJ:(mnB P c End).J (G (b.at (a.put d undef) (.inRegion ops rest :: kk)) cs) { v with output:=gm (Kw ⟨c.nGoes j (r + 1),ch⟩) }) :
    (mnB P c End).J (G (b.at a (.inRegion ops (i :: rest) :: kk)) cs) v :=
  mn_ask hg fun v1 w1 hv hp hs=>⟨rfl,h,hh,step_send ho hw hk hx hy,by rw [fin_send ho];exact mn_next hJ hv hp hs⟩
theorem mn_listen {hs:List Nat} {t e:TypeId} {dir:ChanDir} {n by_:Nat} (ho:ops[i]? = some ⟨d,.recv t x false,ty,pos,af,g⟩) (hw:Region.wanted ⟨d,.recv t x false,ty,pos,af,g⟩ (yielded ops a.tmps) = true) (hk:b.kind ≠ .early) (hx:a.eval x = chv c.heard)
    (ht:P.underlying t = some (.chan dir e)) (he:Info P e c.zs n by_) (hg:v.output = gm (Kw ⟨.listen j hs,ch⟩))
    (hJ:∀ k,k < c.n → k ∉ hs → (mnB P c End).J (G (b.at (a.put d (KZ k (c.pl k j))) (.inRegion ops rest :: kk)) cs) { v with output:=gm (Kw ⟨c.nListen j (hs ++ [k]),ch⟩) }) :
    (mnB P c End).J (G (b.at a (.inRegion ops (i :: rest) :: kk)) cs) v :=
  mn_ask hg fun v1 w1 hv hp hst=>⟨rfl,step_recv ho hw hk hx ht he,fun k hk1 hk2=>by
    have e:(core (G (b.at a (.inRegion ops (i :: rest) :: kk)) cs)).finishComm P #[rcase c.heard c.zs] (.recv false) 0 (KZ k (c.pl k j)) true = G (b.at (a.put d (KZ k (c.pl k j))) (.inRegion ops rest :: kk)) cs:=by
      rw [core_G];simp only [Goroutine.finishComm,commResult,G,Xb ho]
    rw [e];exact mn_next (hJ k hk1 hk2) hv hp hst⟩
theorem mn_go {f:Deferred} {fn:Fn} {cap:Array Value} {hnew:Ch} {o:Oper} (ho:ops[i]? = some o) (hw:Region.wanted o (yielded ops a.tmps) = true) (hk:b.kind ≠ .early) (hr:∀ w,(execOp a.eval o).run P w = .ok (.spawn f) w) (hev:∀ w,(execOp a.eval o).events P w #[] = #[]) (hf:f.target = .fn fn cap)
    (hg:v.output = gm (Kw ⟨.ago,ch⟩)) (hnw:∀ w v1,Ext v v1 → Pois (c.MF ch) w v1 → c.MSt ch w → c.New ch hnew w∧(c.RungAt w → RTr P c ch.length hnew (.rcv 0) (born P f) w))
    (hJ:(mnB P c End).J (G (b.at (a.put o.dst undef) (.inRegion ops rest :: kk)) cs) { veil (c.hidM (ch ++ [hnew])) v with output:=gm (Kw ⟨c.nSpawn (ch.length + 1),ch ++ [hnew]⟩) }) :
    (mnB P c End).J (G (b.at a (.inRegion ops (i :: rest) :: kk)) cs) v :=
  mn_ask hg fun v1 w1 hv hp hs=>by
    obtain ⟨h1,h2⟩:=hnw w1 v1 hv hp hs
    refine ⟨rfl,_,born P f,hnew,by rw [stepG_spawn ho hw hk (hr w1) hf,listed_none (hev w1)],rfl,h1,h2,?_⟩
    refine mn_next hJ (Ext.veil hv) (Pois.veil hp) ⟨fun b hb=>?_,fun k x hx=>?_,hs.live,hs.lin,hs.nwg⟩
    · rcases hb with e | e | e | e | ⟨x,hx,e⟩ | e
      · exact hs.low b (.inl e)
      · exact hs.low b (.inr (.inl e))
      · exact hs.low b (.inr (.inr (.inl e)))
      · exact hs.low b (.inr (.inr (.inr (.inl e))))
      · rcases List.mem_append.1 hx with hx | hx
        · exact hs.low b (.inr (.inr (.inr (.inr (.inl ⟨x,hx,e⟩)))))
        · obtain rfl:x = hnew:=by simpa using hx
          have lt:∀ {b:Nat} {o:Obj},w1.heap[b]? = some o → b < w1.heap.size:=fun h=>(Array.getElem?_eq_some_iff.1 h).1
          rcases e with rfl | rfl | rfl | rfl
          · exact lt h1.row
          · exact h1.var
          · obtain ⟨_,_,h⟩:=h1.goes;exact lt h
          · obtain ⟨_,_,h⟩:=h1.hears;exact lt h
      · exact hs.low b (.inr (.inr (.inr (.inr (.inr e)))))
    · rcases Nat.lt_or_ge k ch.length with hlt | hge
      · rw [List.getElem?_append_left hlt] at hx;exact hs.row k x hx
      · rw [List.getElem?_append_right hge] at hx
        have:k - ch.length = 0:=by
          rcases Nat.eq_zero_or_pos (k - ch.length) with h | h
          · exact h
          · rw [List.getElem?_eq_none (by simp;omega)] at hx;cases hx
        obtain rfl:k = ch.length:=by omega
        rw [this] at hx
        cases hx
        exact ⟨_,h1.row⟩
omit [Payload] in
theorem shutAt_eq {w:World} {b cap s r:Nat} {buf:Array Value} {cl tm:Bool} (h:w.heap[b]? = some (.chan cap buf cl s r tm)):QY w b = { w with heap:=w.heap.setIfInBounds b (.chan cap buf true s r tm) }:=by
  unfold QY
  congr 1
  apply Array.ext_getElem?
  intro j
  rw [Array.getElem?_modify]
  by_cases e:b = j
  · subst e
    have hlt:=(Array.getElem?_eq_some_iff.1 h).1
    rw [if_pos rfl,h,Array.getElem?_setIfInBounds_self_of_lt hlt];rfl
  · rw [if_neg e,Array.getElem?_setIfInBounds_ne e]
theorem mn_close {t:TypeId} (ho:ops[i]? = some ⟨d,.call ⟨.builtin .close,#[x],#[t]⟩,ty,pos,af,g⟩) (hw:Region.wanted ⟨d,.call ⟨.builtin .close,#[x],#[t]⟩,ty,pos,af,g⟩ (yielded ops a.tmps) = true) (hk:b.kind ≠ .early) (hh:ch[r]? = some h) (hx:a.eval x = chv h.goes)
    (hq:(P.funcs[b.fn]?).any (·.norace) = false) (hg:v.output = gm (Kw ⟨.close r,ch⟩)) (hJ:(mnB P c End).J (G (b.at (a.put d (.tuple #[])) (.inRegion ops rest :: kk)) cs) { v with output:=gm (Kw ⟨c.nClose (r + 1),ch⟩) }) (hne:h.goes ≠ c.wg) (hnS:∀ x ∈ ch,x.S ≠ h.goes) (hnB:¬ c.inB h.goes) :
    (mnB P c End).J (G (b.at a (.inRegion ops (i :: rest) :: kk)) cs) v :=
  mn_ask hg fun v1 w1 hv hp hs=>⟨rfl,h,hh,fun ⟨s,r',hc⟩=>by
    refine ⟨_,(stepG_close ho hw hk rfl (show a.eval x = .chan (some h.goes) from hx) hc hq).trans (by rw [shutAt_eq hc];rfl),by simp [mayWake,G,Frame.at,ho],rfl,?_⟩
    have hat:∀ j:Nat,(QY w1 h.goes).heap[j]? = if j = h.goes then some (.chan 0 #[] true s r' false) else w1.heap[j]?:=fun j=>by
      rw [shutAt_eq hc]
      by_cases e:j = h.goes
      · subst e
        have hlt:=(Array.getElem?_eq_some_iff.1 hc).1
        rw [if_pos rfl];exact Array.getElem?_setIfInBounds_self_of_lt hlt
      · rw [if_neg e];exact Array.getElem?_setIfInBounds_ne (Ne.symm e)
    have hsz:(QY w1 h.goes).heap.size = w1.heap.size:=by simp [QY]
    have hhid:c.hidM ch h.goes:=.inr (.inr (.inr (.inr (.inl ⟨h,List.mem_of_getElem? hh,.inr (.inr (.inl rfl))⟩))))
    refine mn_next hJ hv ⟨hp.tape,hp.drawn,hp.os,hp.size.trans hsz.symm,fun j h1 h2=>?_,fun j _ h2=>h2.elim,fun j h1=>?_,hp.nov⟩ ⟨fun j hj=>by rw [hsz];exact hs.low j hj,fun k x hx=>?_,hs.live.of ?_,fun b o ho=>(hat b).trans ((if_neg fun e=>hnB (by rw [← e];simp [Co.inB,ho])).trans (hs.lin b o ho)),hs.nwg⟩
    · rw [hat,if_neg (fun (e:j = h.goes)=>h1 (by rw [e];exact hhid))];exact hp.same j h1 h2
    · rw [hp.bad j h1,hat]
      split
      · rename_i e;subst e;rw [hc];rfl
      · rfl
    · obtain ⟨y,hy⟩:=hs.row k x hx
      exact ⟨y,Co.SAt.of hy (by rw [hat,if_neg (hnS x (List.mem_of_getElem? hx))])⟩
    · rw [hat,if_neg (Ne.symm hne)]⟩
end
end Go.KL
namespace Go.KL
open Go.Conc
open Go.RowKit
open Go.ConcR (KK WgAt stA smA mk Payload Bk)
open Go.ConcN (WgLive WSit WD Mode CTag Vc cnt pend isOpen isW3 isFin OpenSt AllQuit RW upd upd_same upd_ne)
variable {P:Program} [Payload] {c:Co}
inductive RS | tr (r:Rk (RP × Goroutine × World)) (p:RP) | pk (r:Rk (RP × Goroutine × World)) (p:RP) | wg (s m d:Nat)
def RS.pos:RS → RP | .tr _ p | .pk _ p=>p | .wg _ _ _=>.fin
def RS.wd:RS → WD | .tr _ _ | .pk _ _=>⟨7,0,0⟩ | .wg s m d=>⟨s,m,d⟩
def NoL (_:Nat) (_:Loc):Prop:=False
abbrev RTree (P:Program) (c:Co) (k:Nat) (h:Ch):Rk (RP × Goroutine × World) → RP → Goroutine → World → Prop:=Tree P false (fun _=>c.RR h) (c.RD k h) (RAsk P c k h)
def rcvC (c:Co) (h:Ch):Array CommCase:=#[rcase h.goes c.zi]
def selC (c:Co) (h:Ch):Array CommCase:=#[rcase h.hears c.zq]
def sndC (c:Co) (k s:Nat):Array CommCase:=#[scase c.heard (KZ k (c.pl k s)) (.tuple #[])]
def RSit (P:Program) (c:Co) (k:Nat) (h:Ch):RS → Goroutine → World → Prop
  | .tr r p,g,w=>g.status = .running∧RTree P c k h r p g w
  | .pk r p,g,w=>∃ g0 sh,g0.status = .running∧RTree P c k h r p g0 w∧match p with
    | .rcv s=>g = parked (core g0) (rcvC c h) sh∧(s ≤ c.A → ∃ r1,Rk.lt r1 r∧RTree P c k h r1 (c.nGot s) ((core g0).finishComm P (rcvC c h) sh 0 (i64 s) true) w)
    | .snd s=>g = parked (core g0) (sndC c k s) sh∧∃ r1,Rk.lt r1 r∧RTree P c k h r1 (.rcv (s + 1)) ((core g0).finishComm P (sndC c k s) sh 0 undef false) w
    | _=>False
  | .wg s m d,g,w=>s ≤ 6∧∃ x,WSit P c.tWg c.wg h.S 5 NoL NoL 0 2 x s m d g w
omit [Payload] in
theorem cell_at {w w1:World} {b:Nat} (e:w1.heap[b]? = w.heap[b]?) (o:Nat):w1.cell? ⟨b,o,none⟩ = w.cell? ⟨b,o,none⟩:=by simp [World.cell?,e]
theorem Co.RR.rw {h:Ch} {w w1:World} (r:c.RR h w w1):RW c.tWg c.wg h.S 5 0 (2 - 1) w w1 :=
  ⟨fun b hb=>absurd hb (by omega),r.live,fun ⟨cs,h1,h2⟩=>⟨cs,(r.blk _ (.inr rfl)).trans h1,h2⟩,cell_at (r.blk _ (.inr rfl)) 1⟩
theorem RTree.rely {k:Nat} {h:Ch} {r:Rk (RP × Goroutine × World)} {p:RP} {g:Goroutine} {w w1:World} (x:RTree P c k h r p g w) (e:c.RR h w w1):RTree P c k h r p g w1:=Tree.rely (fun _ _ _ _ a b=>a.trans b) x e
theorem RSit.rely {k:Nat} {h:Ch} {D:RS} {g:Goroutine} {w w1:World} (x:RSit P c k h D g w) (e:c.RR h w w1):RSit P c k h D g w1:=by
  cases D with
  | tr r p=>exact ⟨x.1,RTree.rely x.2 e⟩
  | pk r p =>
    obtain ⟨g0,sh,h1,h2,h3⟩:=x
    refine ⟨g0,sh,h1,RTree.rely h2 e,?_⟩
    cases p with
    | rcv s=>exact ⟨h3.1,fun hs=>let ⟨r1,a,b⟩:=h3.2 hs;⟨r1,a,RTree.rely b e⟩⟩
    | snd s=>exact ⟨h3.1,let ⟨r1,a,b⟩:=h3.2;⟨r1,a,RTree.rely b e⟩⟩
    | _=>exact h3
  | wg s m d=>exact ⟨x.1,let ⟨v,y⟩:=x.2;⟨v,y.rely e.rw⟩⟩
theorem RSit.status {k:Nat} {h:Ch} {D:RS} {g:Goroutine} {w:World} (x:RSit P c k h D g w):g.status = .running ∨ g.status = .finished ∨ (g.status = .blocked∧∃ r p,D = .pk r p):=by
  cases D with
  | tr r p=>exact .inl x.1
  | pk r p =>
    refine .inr (.inr ⟨?_,r,p,rfl⟩)
    obtain ⟨g0,sh,h1,h2,h3⟩:=x
    cases p with
    | rcv s=>rw [h3.1];rfl
    | snd s=>rw [h3.1];rfl
    | _=>exact h3.elim
  | wg s m d =>
    obtain ⟨_,v,y⟩:=x
    exact y.status.elim .inl (fun z=>.inr (.inl z))
theorem RSit.awake {k:Nat} {h:Ch} {D:RS} {g:Goroutine} {w:World} (x:RSit P c k h D g w):awake g:=by
  intro t
  rcases x.status with e | e | ⟨e,_⟩ <;> rw [e] <;> simp
theorem RSit.woken_open {k:Nat} {h:Ch} {D:RS} {g:Goroutine} {w w':World} (x:RSit P c k h D g w) (a a':Goroutine) (hg:∀ r s,D = .pk r (.rcv s) → ∃ cap buf s r tm,w'.heap[h.goes]? = some (.chan cap buf false s r tm)) (hh:∃ cap buf s r tm,w'.heap[c.heard]? = some (.chan cap buf false s r tm)) :
    woken P a a' w' g = g:=by
  cases D with
  | tr r p=>exact woken_run x.1
  | pk r p =>
    obtain ⟨g0,sh,h1,h2,h3⟩:=x
    cases p with
    | rcv s=>obtain ⟨cap,buf,s,r,tm,e⟩:=hg r s rfl;rw [h3.1];exact woken_recv_open a a' e
    | snd s=>obtain ⟨cap,buf,s,r,tm,e⟩:=hh;rw [h3.1];exact woken_send_open a a' e
    | _=>exact h3.elim
  | wg s m d =>
    obtain ⟨_,v,y⟩:=x
    exact y.woken _ _ _
theorem RAsk.core {k:Nat} {h:Ch} {p:RP} {g g':Goroutine} {w:World} {K:RP → Goroutine → World → Prop} (hst:∀ w,stepG P false g' w = stepG P false g w) (hc:core g' = core g) (hr:g'.status = .running) (hp:p ≠ .fin) (x:RAsk P c k h p g w K):RAsk P c k h p g' w K:=by
  cases p with
  | rcv s=>obtain ⟨a,sh,b,d,e⟩:=x;exact ⟨hr,sh,by rw [hst,hc];exact b,by rw [hc];exact d,by rw [hc];exact e⟩
  | sel s=>obtain ⟨a,sh,b,d,e⟩:=x;exact ⟨hr,sh,by rw [hst,hc];exact b,by rw [hc];exact d,by rw [hc];exact e⟩
  | snd s=>obtain ⟨a,sh,b,d⟩:=x;exact ⟨hr,sh,by rw [hst,hc];exact b,by rw [hc];exact d⟩
  | fin=>exact absurd rfl hp
  | got s=>exact x
theorem RTree.core {k:Nat} {h:Ch} {p:RP} {g g':Goroutine} {w:World} {r:Rk (RP × Goroutine × World)} (hst:∀ w,stepG P false g' w = stepG P false g w) (hc:Go.Conc.core g' = Go.Conc.core g) (hr:g'.status = .running) (hp:p ≠ .fin) (x:RTree P c k h r p g w):RTree P c k h r p g' w:=by
  cases r with
  | z=>exact x
  | mk f =>
    intro w1 h1
    rcases x w1 h1 with ⟨_,y⟩ | y
    · obtain ⟨p',g2,w',es,a,b⟩:=y
      exact .inl ⟨hr,p',g2,w',es,by rw [hst];exact a,b⟩
    · exact .inr (RAsk.core hst hc hr hp y)
theorem RSit.woken_shut {k:Nat} {h:Ch} {r:Rk (RP × Goroutine × World)} {s:Nat} {g a a':Goroutine} {w w':World} (x:RSit P c k h (.pk r (.rcv s)) g w) (hm:mayWake P a = true) (hr:a'.status = .running) (hg:∃ cap buf s r tm,w'.heap[h.goes]? = some (.chan cap buf true s r tm)) :
    RSit P c k h (.tr r (.rcv s)) (woken P a a' w' g) w:=by
  obtain ⟨g0,sh,h1,h2,h3,_⟩:=x
  obtain ⟨cap,buf,s',r',tm,e⟩:=hg
  have ew:woken P a a' w' g = { parked (core g0) (rcvC c h) sh with status:=.running }:=by
    rw [h3]
    unfold Go.Conc.woken
    rw [if_pos (by simp [hm,hr])]
    exact again_recv_closed e
  rw [ew]
  exact ⟨rfl,RTree.core (g:=g0) (fun w=>rfl) rfl rfl (by simp) h2⟩
inductive MS | tr (r:Rk (MP × Goroutine × World)) (t:MT) | pk (r:Rk (MP × Goroutine × World)) (t:MT) | blk (r:Rk (MP × Goroutine × World))
def MS.t:MS → MT | .tr _ t | .pk _ t=>t | .blk _=>.w3
def MT.tag:MT → CTag
  | .spawn=>.sp 0 5 | .a1=>.sp 0 4 | .ake=>.sp 0 3 | .ago=>.sp 0 2 | .hears _ _ | .goes _ _ | .listen _ _ | .close _=>.anch
  | .kd=>.kd | .w1 _=>.w1 | .w2 v=>.w2 v | .w3=>.w3 | .w4=>.w4 | .ke=>.ke | .acq=>.acq | .back=>.ret
def MS.tag:MS → CTag | .tr _ t | .pk _ t=>t.tag | .blk _=>.blk
def MT.deaf:MT → Nat | .a1 | .ake | .w1 _ | .w2 _ | .w3 | .w4 | .ke=>1 | _=>0
abbrev MTree (P:Program) (c:Co) (End:List Ch → Goroutine → World → Prop):Rk (MP × Goroutine × World) → MP → Goroutine → World → Prop:=Tree P true (fun p=>c.RM p.ch) (MDD c) (MAsk P c End)
def gosC (i:Nat) (h:Ch):Array CommCase:=#[scase h.goes (i64 i) (.tuple #[])]
def lisC (c:Co):Array CommCase:=#[rcase c.heard c.zs]
variable {End:List Ch → Goroutine → World → Prop}
def MSit (P:Program) (c:Co) (End:List Ch → Goroutine → World → Prop) (ch:List Ch):MS → Goroutine → World → Prop
  | .tr r t,a,w=>a.status = .running∧MTree P c End r ⟨t,ch⟩ a w
  | .pk r t,a,w=>∃ a0,a0.status = .running∧match t with
    | .goes i x=>∃ h,ch[x]? = some h∧a = parked (core a0) (gosC i h) .send∧∃ r1,Rk.lt r1 r∧MTree P c End r1 ⟨c.nGoes i (x + 1),ch⟩ ((core a0).finishComm P (gosC i h) .send 0 undef false) w
    | .listen i hs=>a = parked (core a0) (lisC c) (.recv false)∧∀ k,k < c.n → k ∉ hs → ∃ r1,Rk.lt r1 r∧MTree P c End r1 ⟨c.nListen i (hs ++ [k]),ch⟩ ((core a0).finishComm P (lisC c) (.recv false) 0 (KZ k (c.pl k i)) true) w
    | _=>False
  | .blk r,a,w=>∃ a0,a0.status = .running∧a0.offers = none∧a = { a0 with status:=.blocked }∧MTree P c End r ⟨.w3,ch⟩ a0 w
theorem MTree.rely {ch:List Ch} {r:Rk (MP × Goroutine × World)} {t:MT} {g:Goroutine} {w w1:World} (x:MTree P c End r ⟨t,ch⟩ g w) (e:c.RM ch w w1):MTree P c End r ⟨t,ch⟩ g w1:=Tree.rely (R:=fun (p:MP)=>c.RM p.ch) (fun _ _ _ _ a b=>a.trans b) x e
theorem MSit.rely {ch:List Ch} {M:MS} {a:Goroutine} {w w1:World} (x:MSit P c End ch M a w) (e:c.RM ch w w1):MSit P c End ch M a w1:=by
  cases M with
  | tr r t=>exact ⟨x.1,MTree.rely x.2 e⟩
  | pk r t =>
    obtain ⟨a0,h1,h2⟩:=x
    refine ⟨a0,h1,?_⟩
    cases t with
    | goes i x=>obtain ⟨h,e1,e2,r1,e3,e4⟩:=h2;exact ⟨h,e1,e2,r1,e3,MTree.rely e4 e⟩
    | listen i hs=>exact ⟨h2.1,fun k hk hn=>let ⟨r1,e3,e4⟩:=h2.2 k hk hn;⟨r1,e3,MTree.rely e4 e⟩⟩
    | _=>exact h2
  | blk r=>obtain ⟨a0,h1,h2,h3,h4⟩:=x;exact ⟨a0,h1,h2,h3,MTree.rely h4 e⟩
theorem MSit.status {ch:List Ch} {M:MS} {a:Goroutine} {w:World} (x:MSit P c End ch M a w):(a.status = .running∧∃ r t,M = .tr r t) ∨ (a.status = .blocked∧((∃ r t,M = .pk r t) ∨ ∃ r,M = .blk r)):=by
  cases M with
  | tr r t=>exact .inl ⟨x.1,r,t,rfl⟩
  | pk r t =>
    refine .inr ⟨?_,.inl ⟨r,t,rfl⟩⟩
    obtain ⟨a0,h1,h2⟩:=x
    cases t with
    | goes i x=>obtain ⟨h,e1,e2,_⟩:=h2;rw [e2];rfl
    | listen i hs=>rw [h2.1];rfl
    | _=>exact h2.elim
  | blk r=>obtain ⟨a0,h1,h2,h3,h4⟩:=x;exact .inr ⟨by rw [h3],.inr ⟨r,rfl⟩⟩
theorem MSit.awake {ch:List Ch} {M:MS} {a:Goroutine} {w:World} (x:MSit P c End ch M a w):Go.Conc.awake a:=by
  intro t
  rcases x.status with ⟨e,_⟩ | ⟨e,_⟩ <;> rw [e] <;> simp
theorem MSit.woken {ch:List Ch} {M:MS} {a:Goroutine} {w w':World} (x:MSit P c End ch M a w) (g g':Goroutine) (hg:∀ r i x h,M = .pk r (.goes i x) → ch[x]? = some h → ∃ cap buf s r tm,w'.heap[h.goes]? = some (.chan cap buf false s r tm)) (hh:∃ cap buf s r tm,w'.heap[c.heard]? = some (.chan cap buf false s r tm)) :
    ∃ M',MSit P c End ch M' (woken P g g' w' a) w∧(M' = M ∨ ∃ r,M = .blk r∧M' = .tr r .w3)∧(mayWake P g = true → g'.status = .running → ∀ r,M' ≠ .blk r):=by
  cases M with
  | tr r t=>exact ⟨.tr r t,by rw [woken_run x.1];exact x,.inl rfl,fun _ _ _=>by simp⟩
  | pk r t =>
    have e:Go.Conc.woken P g g' w' a = a:=by
      obtain ⟨a0,h1,h2⟩:=x
      cases t with
      | goes i x=>obtain ⟨h,e1,e2,_⟩:=h2;obtain ⟨cap,buf,s,r,tm,e⟩:=hg r i x h rfl e1;rw [e2];exact woken_send_open g g' e
      | listen i hs=>obtain ⟨cap,buf,s,r,tm,e⟩:=hh;rw [h2.1];exact woken_recv_open g g' e
      | _=>exact h2.elim
    exact ⟨.pk r t,by rw [e];exact x,.inl rfl,fun _ _ _=>by simp⟩
  | blk r =>
    obtain ⟨a0,h1,h2,h3,h4⟩:=x
    unfold Go.Conc.woken
    split
    · refine ⟨.tr r .w3,?_,.inr ⟨r,rfl,rfl⟩,fun _ _ _=>by simp⟩
      rw [h3,Go.ConcR.again_blocked h1 h2]
      exact ⟨h1,h4⟩
    · rename_i hc
      exact ⟨.blk r,⟨a0,h1,h2,h3,h4⟩,.inl rfl,fun e1 e2=>absurd (by simp [e1,e2]) hc⟩
end Go.KL
namespace Go.KL
open Go.Conc
open Go.RowKit
open Go.ConcR (KK WgAt stA smA mk Payload Bk bk_of_mute ofEvent_loc_mark DC0)
open Go.ConcN
variable {P:Program} [Payload]
structure WStep (P:Program) (ty:TypeId) (Wg C n:Nat) (Own Rd:Nat → Loc → Prop) (Low k:Nat) (v:Value) (j i:Nat) (Dw:Nat → WD) (tag:CTag) (s m dd:Nat) (g:Goroutine) (w:World) (g':Goroutine) (w':World) (es:Array Event) (s' m' dd':Nat) (st' sm':Int):Prop where
  go:stepG P false g w = .go g' w' es
  aside:Aside Wg w w'
  at':WgAt ty Wg w' st' sm'
  bk:∀ e ∈ es,Bk Wg e
  deaf:∀ jx e,es[jx]? = some e → (MemAct.ofEvent e).touch? = none ∨ 0 < deafBehind dd (es.extract 0 jx)
  six:s' ≤ 6
  sit:WSit P ty Wg C n Own Rd Low k v s' m' dd' g' w'
  dd:deafBehind dd es = dd'
  mode:∀ tag',(tag' = tag ∨ (tag = .blk∧tag' = .w3)) → (mayWake P g = true → g'.status = .running → tag' ≠ .blk) → Go.ConcN.Mode j (upd Dw i ⟨s',m',dd'⟩) tag' st' sm'
  less:s' < s ∨ (s' = s∧m' + 1 = m)
  cnt:Vc j (upd Dw i ⟨s',m',dd'⟩) ≤ Vc j Dw
set_option maxHeartbeats 1600000 in
theorem wsit_step {ty:TypeId} {Wg C n:Nat} {Own Rd:Nat → Loc → Prop} {Low k:Nat} {v:Value} {j i:Nat} {Dw:Nat → WD} {tag:CTag} {s m dd:Nat} {g:Goroutine} {w:World} {st sm:Int}
    (hm:Go.ConcN.Mode j Dw tag st sm) (hwg:WgAt ty Wg w st sm) (hi:i < j) (hD:Dw i = ⟨s,m,dd⟩) (hb:j + pend tag < 2147483648) (hs:WSit P ty Wg C n Own Rd Low k v s m dd g w) (h6:s ≤ 6) (hrun:g.status = .running) :
    ∃ g' w' es s' m' dd' st' sm',WStep P ty Wg C n Own Rd Low k v j i Dw tag s m dd g w g' w' es s' m' dd' st' sm':=by
  have hsg:(Dw i).stage = s:=by rw [hD]
  have hVj:=Vc_le j Dw
  have low:∀ s' m' dd',cnt ⟨s',m',dd'⟩ ≤ cnt (Dw i) → Vc j (upd Dw i ⟨s',m',dd'⟩) ≤ Vc j Dw:=fun s' m' dd' h=>by have:=Vc_upd Dw (⟨s',m',dd'⟩:WD) hi;omega
  have idle:∀ {g':Goroutine} {m':Nat},stepG P false g w = .go g' w #[] → WSit P ty Wg C n Own Rd Low k v s m' dd g' w → m' + 1 = m →
      ∃ g' w' es s' m' dd' st' sm',WStep P ty Wg C n Own Rd Low k v j i Dw tag s m dd g w g' w' es s' m' dd' st' sm':=fun {g' m'} hgo hs' he =>
    ⟨g',w,#[],s,m',dd,st,sm,hgo,.refl Wg w,hwg,by simp,by simp,h6,hs',rfl,fun _ ht _=>Go.ConcN.Mode.retag (by have:=hm.same (i:=i) m' dd;rwa [hsg] at this) ht,.inr ⟨rfl,he⟩,low _ _ _ (by simp [Go.ConcN.cnt,hsg])⟩
  cases hs with
  | r0 h=>omega
  | k1 h =>
    rcases Goes.cases h with hstop | ⟨m',rfl,hstep⟩
    · obtain ⟨_,g',hgo,m₂,hk⟩:=hstop w (RW.refl w)
      exact ⟨g',w,_,5,m₂,1,st,sm,hgo,.refl Wg w,hwg,by intro e he;simp at he;subst he;exact .inl rfl,by intro jx e he;exact .inl (by have:=Array.mem_of_getElem? he;simp at this;subst this;rfl),by omega,.d1 hk,rfl,fun _ ht _=>(hm.counted hi (by omega) (.inr rfl) _ _).retag ht,.inl (by omega),low _ _ _ (by simp [Go.ConcN.cnt,hsg])⟩
    · obtain ⟨g',w',es,hgo,⟨rfl,rfl⟩,hg'⟩:=hstep w (RW.refl w)
      exact idle hgo (.k1 hg') rfl
  | d1 h =>
    rcases Goes.cases h with hstop | ⟨m',rfl,hstep⟩
    · obtain ⟨_,hall⟩:=hstop w (RW.refl w)
      have hc1:cnt (Dw i) = 1:=by simp [Go.ConcN.cnt,hsg]
      have hV1:1 ≤ Vc j Dw:=by have:=le_sumTo (f:=fun x=>cnt (Dw x)) hi;simp only [Vc];omega
      have bk2:∀ e ∈ #[Go.ConcR.rd (stA Wg),Go.ConcR.wr (stA Wg)],Bk Wg e:=bk_rw
      have df2:∀ jx e,(#[Go.ConcR.rd (stA Wg),Go.ConcR.wr (stA Wg)]:Array Event)[jx]? = some e → (MemAct.ofEvent e).touch? = none ∨ 0 < deafBehind 1 ((#[Go.ConcR.rd (stA Wg),Go.ConcR.wr (stA Wg)]:Array Event).extract 0 jx):=by
        intro jx e he
        match jx,he with
        | 0,_=>exact .inr (by simp [deafBehind])
        | 1,_=>exact .inr (by simp [deafBehind,Go.ConcR.rd])
        | jx + 2,he=>simp at he
      have opq:∀ q,OpenSt j Dw → OpenSt j (upd Dw i ⟨1,q,1⟩):=fun q h a ha=>by
        by_cases e:a = i
        · subst e;rw [upd_same];simp
        · rw [upd_ne Dw _ e];exact h a ha
      cases hm with
      | opn h1 h2 h3 =>
        obtain ⟨u,hu⟩:∃ u,Vc j Dw + pend tag = u + 1:=⟨Vc j Dw + pend tag - 1,by omega⟩
        rw [hu] at hwg
        have hw1:WgAt ty Wg w (((u:Nat) + 1) * KK + ((0:Nat):Int)) 0:=by simpa using hwg
        obtain ⟨g',hgo,_,hq⟩:=hall u 0 (by omega) (by omega) hw1
        obtain ⟨q,hq⟩:=hq (by omega)
        have hv':Vc j (upd Dw i ⟨1,q,1⟩) + pend tag = u:=by have:=Vc_upd Dw (⟨1,q,1⟩:WD) hi;have:cnt (⟨1,q,1⟩:WD) = 0:=rfl;omega
        refine ⟨g',_,_,1,q,1,_,_,hgo,aside_setCell w (stA Wg) _,hwg.setSt _,bk2,df2,by omega,.quit hq,rfl,fun _ ht _=>Go.ConcN.Mode.retag ?_ ht,.inl (by omega),low _ _ _ (by simp [Go.ConcN.cnt])⟩
        have e:((u:Nat):Int) * KK + ((0:Nat):Int) = ((Vc j (upd Dw i ⟨1,q,1⟩) + pend tag:Nat):Int) * KK:=by rw [hv'];simp
        rw [e]
        exact .opn h1 (opq q h2) (fun vs ev=>by have:=h3 vs ev;omega)
      | reg h1 h2 h3 =>
        obtain ⟨u,hu⟩:∃ u,Vc j Dw = u + 1:=⟨Vc j Dw - 1,by omega⟩
        rw [hu] at hwg
        have hw1:WgAt ty Wg w (((u:Nat) + 1) * KK + ((1:Nat):Int)) 0:=by simpa using hwg
        obtain ⟨g',hgo,hl,hq⟩:=hall u 1 (by omega) (by omega) hw1
        by_cases hv0:u = 0
        · subst hv0
          obtain ⟨m₂,hk⟩:=hl ⟨rfl,rfl⟩
          refine ⟨g',_,_,4,m₂,1,_,_,hgo,aside_setCell w (stA Wg) _,hwg.setSt _,bk2,df2,by omega,.d2 hk,rfl,fun _ ht _=>Go.ConcN.Mode.retag ?_ ht,.inl (by omega),low _ _ _ (by simp [Go.ConcN.cnt])⟩
          have hoth:∀ a,a < j → a ≠ i → (Dw a).stage = 1:=fun a ha e=>by
            have c0:=others_uncounted hi hu hc1 a ha e
            have:=h2 a ha
            simp only [Go.ConcN.cnt] at c0
            split at c0 <;> omega
          have:=Go.ConcN.Mode.last (j:=j) (D:=upd Dw i ⟨4,m₂,1⟩) (tag:=tag) i h1 hi (by rw [upd_same];simp) (fun a ha e=>by rw [upd_ne Dw _ e];exact hoth a ha e)
          rw [upd_same] at this
          simpa using this
        · obtain ⟨q,hq⟩:=hq (by omega)
          have hv':Vc j (upd Dw i ⟨1,q,1⟩) = u:=by have:=Vc_upd Dw (⟨1,q,1⟩:WD) hi;have:cnt (⟨1,q,1⟩:WD) = 0:=rfl;omega
          refine ⟨g',_,_,1,q,1,_,_,hgo,aside_setCell w (stA Wg) _,hwg.setSt _,bk2,df2,by omega,.quit hq,rfl,fun _ ht _=>Go.ConcN.Mode.retag ?_ ht,.inl (by omega),low _ _ _ (by simp [Go.ConcN.cnt])⟩
          have e:((u:Nat):Int) * KK + ((1:Nat):Int) = ((Vc j (upd Dw i ⟨1,q,1⟩):Nat):Int) * KK + 1:=by rw [hv'];simp
          rw [e]
          exact .reg h1 (opq q h2) (by omega)
      | last L _ h2 h3 h4 =>
        by_cases e:i = L
        · subst e;omega
        · have:=h4 i hi e;omega
      | sema h2=>have:=h2 i hi;omega
      | fin _ h2=>have:=h2 i hi;omega
    · obtain ⟨g',w',es,hgo,⟨rfl,rfl⟩,hg'⟩:=hstep w (RW.refl w)
      exact idle hgo (.d1 hg') rfl
  | d2 h =>
    rcases Goes.cases h with hstop | ⟨m',rfl,hstep⟩
    · obtain ⟨_,hx⟩:=hstop w (RW.refl w)
      obtain ⟨hW3,hoth,rfl,rfl⟩:=hm.isLast hi (by omega)
      simp only [hsg] at hwg
      obtain ⟨g',hgo,m₂,hk⟩:=hx (by simpa using hwg)
      refine ⟨g',w,_,3,m₂,1,_,_,hgo,.refl Wg w,hwg,bk_rd,by intro jx e he;match jx,he with | 0,_=>exact .inr (by simp [deafBehind]) | jx + 1,he=>simp at he,by omega,.d3 hk,rfl,fun _ ht _=>Go.ConcN.Mode.retag ?_ ht,.inl (by omega),low _ _ _ (by simp [Go.ConcN.cnt])⟩
      have:=Go.ConcN.Mode.last (j:=j) (D:=upd Dw i ⟨3,m₂,1⟩) (tag:=tag) i hW3 hi (by rw [upd_same];simp) (fun a ha e=>by rw [upd_ne Dw _ e];exact hoth a ha e)
      rw [upd_same] at this
      simpa using this
    · obtain ⟨g',w',es,hgo,⟨rfl,rfl⟩,hg'⟩:=hstep w (RW.refl w)
      exact idle hgo (.d2 hg') rfl
  | d3 h =>
    rcases Goes.cases h with hstop | ⟨m',rfl,hstep⟩
    · obtain ⟨_,hx⟩:=hstop w (RW.refl w)
      obtain ⟨hW3,hoth,rfl,rfl⟩:=hm.isLast hi (by omega)
      simp only [hsg] at hwg
      obtain ⟨g',hgo,m₂,hk⟩:=hx (by simpa using hwg)
      refine ⟨g',_,_,2,m₂,1,_,_,hgo,aside_setCell w (stA Wg) _,hwg.setSt 0,by intro e he;simp at he;subst he;exact bk_cell _ _ rfl,by intro jx e he;match jx,he with | 0,_=>exact .inr (by simp [deafBehind]) | jx + 1,he=>simp at he,by omega,.d4 hk,rfl,fun _ ht _=>Go.ConcN.Mode.retag ?_ ht,.inl (by omega),low _ _ _ (by simp [Go.ConcN.cnt])⟩
      have:=Go.ConcN.Mode.last (j:=j) (D:=upd Dw i ⟨2,m₂,1⟩) (tag:=tag) i hW3 hi (by rw [upd_same];simp) (fun a ha e=>by rw [upd_ne Dw _ e];exact hoth a ha e)
      rw [upd_same] at this
      simpa using this
    · obtain ⟨g',w',es,hgo,⟨rfl,rfl⟩,hg'⟩:=hstep w (RW.refl w)
      exact idle hgo (.d3 hg') rfl
  | d4 h =>
    rcases Goes.cases h with hstop | ⟨m',rfl,hstep⟩
    · obtain ⟨_,hmw,hx⟩:=hstop w (RW.refl w)
      obtain ⟨hW3,hoth,rfl,rfl⟩:=hm.isLast hi (by omega)
      simp only [hsg] at hwg
      obtain ⟨g',hgo,q,hq⟩:=hx (by simpa using hwg)
      have hrun':g'.status = .running:=by
        cases q with
        | zero=>exact absurd hq.2 (by decide)
        | succ q=>exact hq.elim (fun x=>absurd x.2 (by decide)) (fun x=>x.1)
      refine ⟨g',_,_,1,q,1,_,_,hgo,aside_setCell w (smA Wg) _,hwg.setSm 1,bk_sem,?_,by omega,.quit hq,by simp [deafBehind,semEvents],fun tag' ht hw=>?_,.inl (by omega),low _ _ _ (by simp [Go.ConcN.cnt])⟩
      · intro jx e he
        match jx,he with
        | 0,he=>simp [semEvents] at he;subst he;exact .inl rfl
        | 1,_=>exact .inr (by simp [deafBehind,semEvents])
        | 2,_=>exact .inr (by simp [deafBehind,semEvents])
        | 3,he=>simp [semEvents] at he;subst he;exact .inl rfl
        | jx + 4,he=>simp [semEvents] at he
      · have hnb:=hw hmw hrun'
        have e3:tag' = .w3:=by
          rcases ht with rfl | ⟨_,rfl⟩
          · cases tag' <;> first | rfl | exact hW3.elim | exact absurd rfl hnb
          · rfl
        subst e3
        simp only [if_true]
        exact .sema fun a ha=>by
          by_cases e:a = i
          · subst e;rw [upd_same]
          · rw [upd_ne Dw _ e];exact hoth a ha e
    · obtain ⟨g',w',es,hgo,⟨rfl,rfl⟩,hg'⟩:=hstep w (RW.refl w)
      exact idle hgo (.d4 hg') rfl
  | quit h =>
    cases m with
    | zero=>rw [h.1] at hrun;cases hrun
    | succ q =>
      rcases h with ⟨hf,_⟩ | ⟨_,g',es,hmute,hstep,hq⟩
      · rw [hf] at hrun;cases hrun
      · refine ⟨g',w,es,1,q,_,st,sm,hstep w,.refl Wg w,hwg,fun e he=>bk_of_mute (hmute e he),fun jx e he=>.inl ?_,by omega,.quit hq,rfl,fun _ ht _=>Go.ConcN.Mode.retag (by have:=hm.same (i:=i) q (deafBehind dd es);rwa [hsg] at this) ht,.inr ⟨rfl,rfl⟩,low _ _ _ (by simp [Go.ConcN.cnt])⟩
        rcases bk_of_mute (Wg:=Wg) (hmute e (Array.mem_of_getElem? he)) with h1 | h1 | ⟨a,wr,rfl,_⟩
        · rw [ofEvent_loc_mark h1];rfl
        · rw [ofEvent_loc_mark h1];rfl
        · have:=hmute _ (Array.mem_of_getElem? he);simp [Event.mute] at this
end Go.KL
namespace Go.KL
open Go.Conc
open Go.RowKit
open Go.ConcR (KK WgAt stA smA mk Payload Bk bk_of_mute ofEvent_loc_mark ofEvent_cell g_of_ofEvents)
open Go.ConcN (CT Ok0 OkW Apart RelBy WD PermW)
variable {P:Program} {c:Co}
def four (h:Ch):List Nat:=[h.S,h.v,h.goes,h.hears]
structure SepC (c:Co) (ch:List Ch):Prop where
  wgr:c.wg ≠ c.rung
  wgs:shn c.gh0 c.wg
  rgs:shn c.gh0 c.rung
  base:∀ b,c.inB b → ¬ hid c.gh0 b
  heard:¬ hid c.gh0 c.heard∧¬ c.inB c.heard
  each:∀ h ∈ ch,∀ x ∈ four h,x ≠ c.heard∧¬ c.inB x∧¬ hid c.gh0 x
  ins:∀ h ∈ ch,h.S ≠ h.v∧h.S ≠ h.goes∧h.S ≠ h.hears∧h.v ≠ h.goes∧h.v ≠ h.hears∧h.goes ≠ h.hears
  ne:∀ (i j:Nat) (h h':Ch) (x y:Nat),i ≠ j → ch[i]? = some h → ch[j]? = some h' → x ∈ four h → y ∈ four h' → x ≠ y
theorem SepC.hid_of {ch:List Ch} (_:SepC c ch) {b:Nat} (h:shn c.gh0 b):hid c.gh0 b:=.inr h
theorem SepC.one {ch:List Ch} (A:SepC c ch) {k:Nat} {h:Ch} (hk:ch[k]? = some h) {x:Nat} (hx:x ∈ four h):x ≠ c.wg∧x ≠ c.rung∧x ≠ c.heard∧¬ c.inB x∧¬ hid c.gh0 x:=by
  obtain ⟨a,b,d⟩:=A.each h (List.mem_of_getElem? hk) x hx
  exact ⟨fun e=>d (e ▸ A.hid_of A.wgs),fun e=>d (e ▸ A.hid_of A.rgs),a,b,d⟩
theorem Kl (h:Ch):h.S ∈ four h∧h.v ∈ four h∧h.goes ∈ four h∧h.hears ∈ four h:=by simp [four]
def OwnC (c:Co) (ch:List Ch) (g:Nat) (l:Loc):Prop:=∃ k h,ch[k]? = some h∧g = c.m0 + 1 + k∧l = Co.own h
def RdC (c:Co) (ch:List Ch) (g:Nat) (l:Loc):Prop:=∃ k h,ch[k]? = some h∧g = c.m0 + 1 + k∧c.Rd h l
theorem SepC.apart {ch:List Ch} (A:SepC c ch):Apart (Shl c.gh0) (OwnC c ch) (RdC c ch):=by
  refine ⟨?_,?_,?_,?_⟩
  · rintro g g' l ⟨k,h,h1,rfl,rfl⟩ ⟨k',h',h2,rfl,e⟩
    by_cases hk:k = k'
    · rw [hk]
    · refine absurd ?_ (A.ne k k' h h' _ _ hk h1 h2 (Kl h).1 (Kl h').1)
      simp only [Co.own,Loc.cell.injEq,Addr.mk.injEq] at e
      exact e.1
  · rintro g g' l ⟨k,h,h1,rfl,rfl⟩ ⟨k',h',h2,rfl,hne,hr⟩
    have hr':c.RO h' h.S ∨ h.S = h'.S:=hr
    have hb:=(A.one h1 (Kl h).1).2.2.2.1
    by_cases hk:k = k'
    · subst hk
      rw [h1] at h2;cases h2
      exact hne rfl
    · rcases hr' with (hr | hr) | hr
      · exact hb hr
      · exact A.ne k k' h h' _ _ hk h1 h2 (Kl h).1 (Kl h').2.1 hr
      · exact A.ne k k' h h' _ _ hk h1 h2 (Kl h).1 (Kl h').1 hr
  · rintro g l ⟨k,h,h1,rfl,rfl⟩ ⟨a,e,hs⟩
    cases e
    exact (A.one h1 (Kl h).1).2.2.2.2 (.inr hs)
  · rintro g l ⟨k,h,h1,rfl,_,hr⟩ ⟨a,rfl,hs⟩
    have hr':c.RO h a.block ∨ a.block = h.S:=hr
    rcases hr' with (hr | hr) | hr
    · exact A.base _ hr (.inr hs)
    · exact (A.one h1 (Kl h).2.1).2.2.2.2 (hr ▸ .inr hs)
    · exact (A.one h1 (Kl h).1).2.2.2.2 (hr ▸ .inr hs)
structure RelS (c:Co) (t:Trace) (g r:Nat):Prop where
  by_:RelBy (stA c.wg) t g r
  aft:∀ i a,r < i → t.g? i = some g → touchAt t i = some a → Shl c.gh0 a.loc∧a.kind = .atomic
structure TI (c:Co) (ch:List Ch) (B:Nat) (t:Trace) (D:Nat → WD) (d0:Nat):Prop where
  ct:CT (Shl c.gh0) (OwnC c ch) (RdC c ch) t (c.m0 + ch.length)
  nor:∀ op ∈ t,∀ a,op.act = .mark (.release a) → ¬ shn c.gh0 a.block
  deaf0:Deaf t 0 = d0
  deafW:∀ k,k < ch.length → Deaf t (c.m0 + 1 + k) = (D k).deaf
  rel:∀ k,k < ch.length → (D k).stage ≤ 6 → ∃ r,RelS c t (c.m0 + 1 + k) r
  known:∀ i a,touchAt t i = some a → a.loc.isMemory = true → Knows t 0 i ∨ (Shl c.gh0 a.loc∧a.kind = .atomic) ∨ ∃ g,c.m0 < g∧t.g? i = some g
  over:∀ i g,t.g? i = some g → g ≠ 0 → g ≤ c.m0 → t.counts i → ∃ j,t.g? j = some 0∧HappensBefore t i j
  seen:∀ op ∈ t,op.act.low B
  mem:∀ op ∈ t,∀ x,op.act.touch? = some x → x.loc.isMemory = true
variable {ch:List Ch} {B B':Nat} {t u:Trace} {D D':Nat → WD} {d0 d0':Nat}
theorem g?_app {i g:Nat} (h:(t ++ u).g? i = some g):(i < t.size∧t.g? i = some g) ∨ (t.size ≤ i∧∃ op ∈ u,op.g = g∧(t ++ u)[i]? = some op):=by
  obtain ⟨op,ho,hg⟩:=Option.map_eq_some_iff.1 h
  rcases getElem?_append_cases ho with ⟨hi,ho'⟩ | ⟨hi,hou⟩
  · exact .inl ⟨hi,by rw [Trace.g?,ho'];exact congrArg some hg⟩
  · exact .inr ⟨hi,op,hou,hg,ho⟩
theorem RelS.appNot {g r:Nat} (h:RelS c t g r) (hu:∀ op ∈ u,op.g ≠ g):RelS c (t ++ u) g r :=
  ⟨Go.ConcN.RelBy.appNot h.by_ hu,fun i a hi hg ha=>by
    rcases g?_app hg with ⟨hl,hg'⟩ | ⟨_,op,hm,e,_⟩
    · exact h.aft i a hi hg' (by rw [← touchAt_old hl];exact ha)
    · exact absurd e (hu op hm)⟩
theorem TI.app (h:TI c ch B t D d0) (hct:CT (Shl c.gh0) (OwnC c ch) (RdC c ch) (t ++ u) (c.m0 + ch.length)) (hB:B ≤ B') (hnor:∀ op ∈ u,∀ a,op.act ≠ .mark (.release a)) (hlow:∀ op ∈ u,op.act.low B')
    (hd0:Deaf (t ++ u) 0 = d0') (hdW:∀ k,k < ch.length → Deaf (t ++ u) (c.m0 + 1 + k) = (D' k).deaf) (hrel:∀ k,k < ch.length → (D' k).stage ≤ 6 → ∃ r,RelS c (t ++ u) (c.m0 + 1 + k) r)
    (hold:∀ op ∈ u,op.g = 0 ∨ c.m0 < op.g ∨ op.act.touch? = none) (hmem:∀ op ∈ u,∀ x,op.act.touch? = some x → x.loc.isMemory = true):TI c ch B' (t ++ u) D' d0':=by
  refine ⟨hct,nor_app h.nor hnor,hd0,hdW,hrel,fun i a ha hm=>?_,fun i g hg hne hle hc=>?_,seen_app (fun op hop=>MemAct.low_mono hB (h.seen op hop)) hlow,mem_app h.mem hmem⟩
  · obtain ⟨x,hx,hxa⟩:=touch_of ha
    rcases getElem?_append_cases hx with ⟨hi,hx'⟩ | ⟨_,hxu⟩
    · rcases h.known i a (by rw [touchAt_of hx'];exact hxa) hm with hk | hk | ⟨g,hg,hk⟩
      · exact .inl (hk.app u)
      · exact .inr (.inl hk)
      · exact .inr (.inr ⟨g,hg,by rw [g?_old hi];exact hk⟩)
    · rcases hold x hxu with h0 | h0 | h0
      · have:=knows_own hx;rw [h0] at this;exact .inl this
      · exact .inr (.inr ⟨x.g,h0,by rw [Trace.g?,hx];rfl⟩)
      · rw [h0] at hxa;cases hxa
  · rcases g?_app hg with ⟨hl,hg'⟩ | ⟨_,op,hm,e,ho⟩
    · obtain ⟨j,hj,hb⟩:=h.over i g hg' hne hle ((counts_old hl).1 hc)
      have hjl:j < t.size:=by
        obtain ⟨z,hz,_⟩:=Option.map_eq_some_iff.1 hj
        exact lt_size_of_getElem? hz
      exact ⟨j,by rw [g?_old hjl];exact hj,hb_app u hb⟩
    · exfalso
      obtain ⟨x,hx,_⟩:=hc
      obtain ⟨act,ha,hxt⟩:=Option.bind_eq_some_iff.1 hx
      rw [act?_of ho] at ha
      cases ha
      rcases hold op hm with h0 | h0 | h0
      · exact hne (e ▸ h0)
      · omega
      · rw [h0] at hxt;cases hxt
theorem CT.calm {Sh:Loc → Prop} {Own Rd:Nat → Loc → Prop} (A:Apart Sh Own Rd) {j:Nat}:∀ (l:List MemOp) (t:Trace),CT Sh Own Rd t j → (∀ op ∈ l,op.g ≤ j∧op.act.touch? = none) → CT Sh Own Rd (t ++ l.toArray) j
  | [],t,h,_=>by simpa using h
  | x :: l,t,h,hu=>by
    have e:t ++ (x :: l).toArray = (t ++ #[x]) ++ l.toArray:=by apply Array.ext';simp
    rw [e]
    refine CT.calm A l _ ?_ fun op hop=>hu op (List.mem_cons_of_mem _ hop)
    obtain ⟨h1,h2⟩:=hu x (by simp)
    rcases Nat.eq_zero_or_pos x.g with h0 | h0
    · exact h.app0 A fun op hop=>by
        simp only [List.mem_toArray,List.mem_singleton] at hop
        subst hop
        exact ⟨h0,fun y hy=>by rw [h2] at hy;cases hy⟩
    · exact h.appW A h0 h1 fun op hop=>by
        simp only [List.mem_toArray,List.mem_singleton] at hop
        subst hop
        exact ⟨rfl,fun y hy=>by rw [h2] at hy;cases hy⟩
structure Calm (c:Co) (j B:Nat) (op:MemOp):Prop where
  g:op.g = 0 ∨ c.m0 < op.g
  le:op.g ≤ c.m0 + j
  touch:op.act.touch? = none
  dis:op.act ≠ .mark .disable∧op.act ≠ .mark .enable
  rel:∀ a,op.act ≠ .mark (.release a)
  low:op.act.low B
theorem TI.calm (A:SepC c ch) (h:TI c ch B t D d0) (hu:∀ op ∈ u,Calm c ch.length B op) (hD:∀ k,k < ch.length → (D' k).deaf = (D k).deaf∧(D' k).stage = (D k).stage) (hr:∀ k,k < ch.length → (D k).stage ≤ 6 → ∀ op ∈ u,op.g ≠ c.m0 + 1 + k):TI c ch B (t ++ u) D' d0:=by
  have hc:CT (Shl c.gh0) (OwnC c ch) (RdC c ch) (t ++ u) (c.m0 + ch.length):=by
    have:=CT.calm A.apart u.toList t h.ct fun op hop=>⟨(hu op (by simpa using hop)).le,(hu op (by simpa using hop)).touch⟩
    simpa using this
  refine h.app hc (Nat.le_refl _) (fun op hop=>(hu op hop).rel) (fun op hop=>(hu op hop).low) ((Go.ConcN.Deaf_still t 0 u fun op hop=>(hu op hop).dis).trans h.deaf0) (fun k hk=>?_) (fun k hk hs=>?_) (fun op hop=>.inr (.inr (hu op hop).touch)) (fun op hop x hx=>by rw [(hu op hop).touch] at hx;cases hx)
  · rw [Go.ConcN.Deaf_still t _ u fun op hop=>(hu op hop).dis,h.deafW k hk,(hD k hk).1]
  · rw [(hD k hk).2] at hs
    obtain ⟨r,hrr⟩:=h.rel k hk hs
    exact ⟨r,hrr.appNot (hr k hk hs)⟩
theorem KH {g:Nat} {fn:FuncId} {pos:String} {es:Array Event} {op:MemOp} (h:op ∈ MemOp.ofEvents g fn pos es):∃ e ∈ es,op = { g,fn,pos,act:=.ofEvent e }:=Go.Conc.mem_ofEvents h
theorem low_ofEvent {F:Hid} {n:Nat} {e:Event} (h:LocOf F n e.loc):(MemAct.ofEvent e).low n:=by
  obtain ⟨loc,wr,sy⟩:=e
  cases loc with
  | cell a=>exact h.2
  | obj r=>cases wr <;> cases sy <;> exact h.2
  | mark m=>obtain rfl:m = .noRoom:=h;trivial
  | _=>exact h.elim
theorem TI.app0 (A:SepC c ch) (h:TI c ch B t D d0) {fn:FuncId} {pos:String} {es:Array Event} (hB:B ≤ B') (hok:∀ op ∈ MemOp.ofEvents 0 fn pos es,Ok0 (Shl c.gh0) (OwnC c ch) (RdC c ch) (c.m0 + ch.length) op) (hnor:∀ e ∈ es,∀ a,e.loc ≠ .mark (.release a)) (hlow:∀ e ∈ es,(MemAct.ofEvent e).low B') (hmem:∀ e ∈ es,∀ x,(MemAct.ofEvent e).touch? = some x → x.loc.isMemory = true) :
    TI c ch B' (t ++ MemOp.ofEvents 0 fn pos es) D (deafBehind d0 es):=by
  refine h.app (h.ct.app0 A.apart hok) hB (Xl hnor) (fun op hop=>by obtain ⟨e,he,rfl⟩:=KH hop;exact hlow e he) (by rw [Deaf_own,h.deaf0]) (fun k hk=>?_) (fun k hk hs=>?_) (fun op hop=>by obtain ⟨e,he,rfl⟩:=KH hop;exact .inl rfl) (mem_own hmem)
  · rw [Deaf_other t (by omega) _ g_of_ofEvents,h.deafW k hk]
  · obtain ⟨r,hr⟩:=h.rel k hk hs
    exact ⟨r,hr.appNot fun op hop=>by obtain ⟨e,he,rfl⟩:=KH hop;show (0:Nat) ≠ _;omega⟩
theorem TI.appW (A:SepC c ch) (h:TI c ch B t D d0) {k:Nat} (hk:k < ch.length) {fn:FuncId} {pos:String} {es:Array Event} (hB:B ≤ B') (hok:∀ op ∈ MemOp.ofEvents (c.m0 + 1 + k) fn pos es,OkW (Shl c.gh0) (OwnC c ch) (RdC c ch) (c.m0 + 1 + k) op) (hnor:∀ e ∈ es,∀ a,e.loc ≠ .mark (.release a)) (hlow:∀ e ∈ es,(MemAct.ofEvent e).low B') (hmem:∀ e ∈ es,∀ x,(MemAct.ofEvent e).touch? = some x → x.loc.isMemory = true)
    (hD:∀ i,i ≠ k → D' i = D i) (hd:(D' k).deaf = deafBehind (D k).deaf es) (hrel:(D' k).stage ≤ 6 → ∃ r,RelS c (t ++ MemOp.ofEvents (c.m0 + 1 + k) fn pos es) (c.m0 + 1 + k) r) :
    TI c ch B' (t ++ MemOp.ofEvents (c.m0 + 1 + k) fn pos es) D' d0:=by
  refine h.app (h.ct.appW A.apart (by omega) (by omega) hok) hB (Xl hnor) (fun op hop=>by obtain ⟨e,he,rfl⟩:=KH hop;exact hlow e he) (by rw [Deaf_other t (by omega) _ g_of_ofEvents,h.deaf0]) (fun i hi=>?_) (fun i hi hs=>?_) (fun op hop=>by obtain ⟨e,he,rfl⟩:=KH hop;exact .inr (.inl (by show c.m0 < c.m0 + 1 + k;omega))) (mem_own hmem)
  · by_cases e:i = k
    · subst e;rw [Deaf_own,h.deafW i hi,hd]
    · rw [Deaf_other t (by omega) _ g_of_ofEvents,h.deafW i hi,hD i e]
  · by_cases e:i = k
    · subst e;exact hrel hs
    · rw [hD i e] at hs
      obtain ⟨r,hr⟩:=h.rel i hi hs
      exact ⟨r,hr.appNot fun op hop=>by obtain ⟨e',he,rfl⟩:=KH hop;show c.m0 + 1 + k ≠ _;omega⟩
theorem TI.appOld (A:SepC c ch) (h:TI c ch B t D d0) {g:Nat} (h0:0 < g) (hg:g ≤ c.m0) {fn:FuncId} {pos:String} {es:Array Event} (hm:∀ e ∈ es,e.mute = true):TI c ch B (t ++ MemOp.ofEvents g fn pos es) D d0:=by
  have ht:∀ op ∈ MemOp.ofEvents g fn pos es,op.act.touch? = none:=fun op hop=>by obtain ⟨e,he,rfl⟩:=KH hop;exact touch_mute (hm e he)
  refine h.app (h.ct.appW A.apart (k:=g) h0 (by omega) fun op hop=>⟨by obtain ⟨e,he,rfl⟩:=KH hop;rfl,fun x hx=>by rw [ht op hop] at hx;cases hx⟩) (Nat.le_refl _) (Xl fun e he a ea=>?_) (fun op hop=>by obtain ⟨e,he,rfl⟩:=KH hop;exact low_mute (hm e he) B) (by rw [Deaf_other t (by omega) _ g_of_ofEvents,h.deaf0]) (fun i hi=>by rw [Deaf_other t (by omega) _ g_of_ofEvents,h.deafW i hi]) (fun i hi hs=>?_) (fun op hop=>.inr (.inr (ht op hop))) (mem_own (mem_mute hm))
  · have:=hm e he
    obtain ⟨loc,wr,sy⟩:=e
    cases ea
    simp [Event.mute] at this
  · obtain ⟨r,hr⟩:=h.rel i hi hs
    exact ⟨r,hr.appNot fun op hop=>by obtain ⟨e,he,rfl⟩:=KH hop;show g ≠ _;omega⟩
theorem okW_bk (A:SepC c ch) {g:Nat} {fn:FuncId} {pos:String} {es:Array Event} (h:∀ e ∈ es,Bk c.wg e):∀ op ∈ MemOp.ofEvents g fn pos es,OkW (Shl c.gh0) (OwnC c ch) (RdC c ch) g op:=by
  intro op hop
  obtain ⟨e,he,rfl⟩:=KH hop
  refine ⟨rfl,fun x hx=>?_⟩
  rcases h e he with h1 | h1 | ⟨a,wr,rfl,ha⟩
  · simp only [ofEvent_loc_mark h1] at hx;cases hx
  · simp only [ofEvent_loc_mark h1] at hx;cases hx
  · simp only [ofEvent_cell,MemAct.touch?,Option.some.injEq] at hx
    subst hx
    exact .inl ⟨⟨a,rfl,ha ▸ A.wgs⟩,by simp,by simp⟩
theorem ok0_bk (A:SepC c ch) {j:Nat} {fn:FuncId} {pos:String} {es:Array Event} (h:∀ e ∈ es,Bk c.wg e):∀ op ∈ MemOp.ofEvents 0 fn pos es,Ok0 (Shl c.gh0) (OwnC c ch) (RdC c ch) j op:=by
  intro op hop
  obtain ⟨e,he,rfl⟩:=KH hop
  refine ⟨rfl,fun x hx=>?_⟩
  rcases h e he with h1 | h1 | ⟨a,wr,rfl,ha⟩
  · simp only [ofEvent_loc_mark h1] at hx;cases hx
  · simp only [ofEvent_loc_mark h1] at hx;cases hx
  · simp only [ofEvent_cell,MemAct.touch?,Option.some.injEq] at hx
    subst hx
    exact .inl ⟨⟨a,rfl,ha ▸ A.wgs⟩,by simp⟩
theorem nor_bk {Wg:Nat} {es:Array Event} (h:∀ e ∈ es,Bk Wg e):∀ e ∈ es,∀ a,e.loc ≠ .mark (.release a):=fun e he a ea=>by
  rcases h e he with h1 | h1 | ⟨x,wr,rfl,_⟩
  · rw [h1] at ea;cases ea
  · rw [h1] at ea;cases ea
  · cases ea
theorem low_bk {Wg B:Nat} {es:Array Event} (hB:Wg < B) (h:∀ e ∈ es,Bk Wg e):∀ e ∈ es,(MemAct.ofEvent e).low B:=fun e he=>by
  rcases h e he with h1 | h1 | ⟨x,wr,rfl,hx⟩
  · rw [ofEvent_loc_mark h1];trivial
  · rw [ofEvent_loc_mark h1];trivial
  · rw [ofEvent_cell];show x.block < B;omega
theorem mem_bk {Wg:Nat} {es:Array Event} (h:∀ e ∈ es,Bk Wg e):∀ e ∈ es,∀ x,(MemAct.ofEvent e).touch? = some x → x.loc.isMemory = true:=fun e he x hx=>by
  rcases h e he with h1 | h1 | ⟨y,wr,rfl,_⟩
  · simp only [ofEvent_loc_mark h1] at hx;cases hx
  · simp only [ofEvent_loc_mark h1] at hx;cases hx
  · simp only [ofEvent_cell,MemAct.touch?,Option.some.injEq] at hx;subst hx;rfl
theorem RelS.book (A:SepC c ch) {g r d:Nat} (h:RelS c t g r) (hdk:Deaf t g = d) (fn:FuncId) (pos:String) {es:Array Event} (hes:∀ e ∈ es,Bk c.wg e)
    (hd:∀ j e,es[j]? = some e → (MemAct.ofEvent e).touch? = none ∨ 0 < deafBehind d (es.extract 0 j)):RelS c (t ++ MemOp.ofEvents g fn pos es) g r :=
  ⟨Go.ConcN.RelBy.book h.by_ hdk fn pos hes hd,fun i a hi hg ha=>by
    rcases g?_app hg with ⟨hl,hg'⟩ | ⟨_,op,hm,e,ho⟩
    · exact h.aft i a hi hg' (by rw [← touchAt_old hl];exact ha)
    · obtain ⟨e',he,rfl⟩:=KH hm
      rw [touchAt_of ho] at ha
      rcases hes e' he with h1 | h1 | ⟨x,wr,rfl,hx⟩
      · simp only [ofEvent_loc_mark h1] at ha;cases ha
      · simp only [ofEvent_loc_mark h1] at ha;cases ha
      · simp only [ofEvent_cell,MemAct.touch?,Option.some.injEq] at ha
        subst ha
        exact ⟨⟨x,rfl,hx ▸ A.wgs⟩,by simp⟩⟩
theorem RelS.new {g:Nat} (hd:Deaf t g = 0) (fn:FuncId) (pos:String):RelS c (t ++ MemOp.ofEvents g fn pos #[Go.ConcR.mk (.releaseMerge (stA c.wg))]) g t.size :=
  ⟨Go.ConcN.RelBy.new hd fn pos,fun i a hi hg ha=>by
    exfalso
    rcases g?_app hg with ⟨hl,hg'⟩ | ⟨_,op,hm,e,ho⟩
    · omega
    · have hlt:i < (t ++ MemOp.ofEvents g fn pos #[Go.ConcR.mk (.releaseMerge (stA c.wg))]).size:=(Array.getElem?_eq_some_iff.1 ho).1
      rw [ofEvents_eq] at hlt
      simp at hlt
      omega⟩
theorem CT.families {Sh:Loc → Prop} {Own Rd Own' Rd':Nat → Loc → Prop} {j:Nat} (h:CT Sh Own Rd t j) (ho:∀ k l,k ≤ j → (Own' k l ↔ Own k l)) (hr:∀ k l,k ≤ j → (Rd' k l ↔ Rd k l)):CT Sh Own' Rd' t j :=
  ⟨h.quiet,fun k a b l x=>h.own k a b l ((ho k l b).1 x),fun k a b l x=>h.rd k a b l ((hr k l b).1 x),fun l a b=>h.free l a fun k x y=>⟨fun z=>(b k x y).1 ((ho k l y).2 z),fun z=>(b k x y).2 ((hr k l y).2 z)⟩,
    fun l a b=>h.mine l a fun k x y z=>b k x y ((ho k l y).2 z),h.nr,h.gs⟩
theorem TI.fork {hn:Ch} (A:SepC c (ch ++ [hn])) (h:TI c ch B t D 0) {x y:MemOp} (hx:x.g = 0∧x.act = .go (c.m0 + 1 + ch.length)) (hy:y.g = c.m0 + 1 + ch.length∧y.act = .start) (hD:∀ i,i < ch.length → D' i = D i) (hd:D' ch.length = ⟨7,0,0⟩) :
    TI c (ch ++ [hn]) B (t ++ #[x,y]) D' 0:=by
  have e1:∀ k,k ≤ c.m0 + ch.length → ∀ i,k = c.m0 + 1 + i → i < ch.length:=fun k hk i e=>by omega
  have hct:CT (Shl c.gh0) (OwnC c (ch ++ [hn])) (RdC c (ch ++ [hn])) t (c.m0 + ch.length):=by
    refine CT.families h.ct (fun k l hk=>?_) (fun k l hk=>?_)
    · exact ⟨fun ⟨i,h',a,b,d⟩=>⟨i,h',by rw [List.getElem?_append_left (e1 k hk i b)] at a;exact a,b,d⟩,fun ⟨i,h',a,b,d⟩=>⟨i,h',by rw [List.getElem?_append_left (e1 k hk i b)];exact a,b,d⟩⟩
    · exact ⟨fun ⟨i,h',a,b,d⟩=>⟨i,h',by rw [List.getElem?_append_left (e1 k hk i b)] at a;exact a,b,d⟩,fun ⟨i,h',a,b,d⟩=>⟨i,h',by rw [List.getElem?_append_left (e1 k hk i b)];exact a,b,d⟩⟩
  have e2:c.m0 + 1 + ch.length = c.m0 + ch.length + 1:=by omega
  have hf:=hct.fork A.apart (x:=x) (y:=y) (by rw [← e2];exact hx) (by rw [← e2];exact hy) h.deaf0
  have hmem:∀ op ∈ #[x,y],op = x ∨ op = y:=by intro op hop;simpa using hop
  have hst:∀ op ∈ #[x,y],op.act ≠ .mark .disable∧op.act ≠ .mark .enable:=by
    intro op hop
    rcases hmem op hop with rfl | rfl
    · rw [hx.2];exact ⟨by simp,by simp⟩
    · rw [hy.2];exact ⟨by simp,by simp⟩
  have ht:∀ op ∈ #[x,y],op.act.touch? = none:=by
    intro op hop
    rcases hmem op hop with rfl | rfl
    · rw [hx.2];rfl
    · rw [hy.2];rfl
  have hl:(ch ++ [hn]).length = ch.length + 1:=by simp
  refine ⟨by rw [hl];exact hf,nor_app h.nor (fun op hop a=>?_),by rw [Go.ConcN.Deaf_still t 0 _ hst,h.deaf0],fun k hk=>?_,fun k hk hs=>?_,fun i a ha hm=>?_,fun i g hg hne hle hc=>?_,seen_app h.seen fun op hop=>?_,mem_app h.mem fun op hop x hx=>by rw [ht op hop] at hx;cases hx⟩
  · rcases hmem op hop with rfl | rfl
    · rw [hx.2];simp
    · rw [hy.2];simp
  · rw [Go.ConcN.Deaf_still t _ _ hst]
    rcases Nat.lt_or_ge k ch.length with hlt | hge
    · rw [h.deafW k hlt,hD k hlt]
    · obtain rfl:k = ch.length:=by omega
      rw [hd]
      exact Go.ConcN.Deaf_absent fun i op hi e=>by have:=h.ct.gs i op hi;omega
  · rcases Nat.lt_or_ge k ch.length with hlt | hge
    · rw [hD k hlt] at hs
      obtain ⟨r,hr⟩:=h.rel k hlt hs
      refine ⟨r,hr.appNot fun op hop=>?_⟩
      rcases hmem op hop with rfl | rfl
      · rw [hx.1];omega
      · rw [hy.1];omega
    · obtain rfl:k = ch.length:=by omega
      rw [hd] at hs
      simp at hs
  · obtain ⟨z,hz,hza⟩:=touch_of ha
    rcases getElem?_append_cases hz with ⟨hi,hz'⟩ | ⟨_,hzu⟩
    · rcases h.known i a (by rw [touchAt_of hz'];exact hza) hm with hk | hk | ⟨g,hg,hk⟩
      · exact .inl (hk.app _)
      · exact .inr (.inl hk)
      · exact .inr (.inr ⟨g,hg,by rw [g?_old hi];exact hk⟩)
    · rw [ht z hzu] at hza;cases hza
  · rcases g?_app hg with ⟨hl',hg'⟩ | ⟨_,op,hm,e,ho⟩
    · obtain ⟨j,hj,hb⟩:=h.over i g hg' hne hle ((counts_old hl').1 hc)
      have hjl:j < t.size:=by
        obtain ⟨z,hz,_⟩:=Option.map_eq_some_iff.1 hj
        exact lt_size_of_getElem? hz
      exact ⟨j,by rw [g?_old hjl];exact hj,hb_app _ hb⟩
    · exfalso
      obtain ⟨x',hx',_⟩:=hc
      obtain ⟨act,ha,hxt⟩:=Option.bind_eq_some_iff.1 hx'
      rw [act?_of ho] at ha
      cases ha
      rw [ht op hm] at hxt;cases hxt
  · rcases hmem op hop with rfl | rfl
    · rw [hx.2];trivial
    · rw [hy.2];trivial
def AcqA (c:Co) (n:Nat) (t:Trace):Prop:=∃ q,t.act? q = some (.mark (.acquire (stA c.wg)))∧t.g? q = some 0∧t.heard q∧∀ k,k < n → ∃ r,RelS c t (c.m0 + 1 + k) r∧r < q
theorem AcqA.app {n:Nat} (h:AcqA c n t) (hu:∀ k r,k < n → RelS c t (c.m0 + 1 + k) r → RelS c (t ++ u) (c.m0 + 1 + k) r):AcqA c n (t ++ u):=by
  obtain ⟨q,h1,h2,h3,h4⟩:=h
  have hq:=lt_of_act? h1
  exact ⟨q,by rw [act?_old hq];exact h1,by rw [g?_old hq];exact h2,(heard_old hq).2 h3,fun k hk=>let ⟨r,hr,hrq⟩:=h4 k hk;⟨r,hu k r hk hr,hrq⟩⟩
theorem TI.acq (h:TI c ch B t D 0) (hs:∀ k,k < ch.length → (D k).stage ≤ 6) (fn:FuncId) (pos:String):AcqA c ch.length (t ++ MemOp.ofEvents 0 fn pos #[Go.ConcR.mk (.acquire (stA c.wg))]):=by
  have e1:MemOp.ofEvents 0 fn pos #[Go.ConcR.mk (.acquire (stA c.wg))] = #[{ g:=0,fn,pos,act:=.mark (.acquire (stA c.wg)) }]:=by rw [ofEvents_eq];simp [Go.ConcR.ofEvent_mk]
  have hy:(t ++ #[({ g:=0,fn,pos,act:=.mark (.acquire (stA c.wg)) }:MemOp)])[t.size]? = some { g:=0,fn,pos,act:=.mark (.acquire (stA c.wg)) }:=by simp
  rw [e1]
  refine ⟨t.size,by rw [act?_of hy],by simp [Trace.g?],⟨0,by simp [Trace.g?],by rw [deaf_old (Nat.le_refl _)];exact h.deaf0⟩,fun k hk=>?_⟩
  obtain ⟨r,hr⟩:=h.rel k hk (hs k hk)
  refine ⟨r,hr.appNot fun op hop=>?_,lt_of_act? hr.by_.act⟩
  simp only [List.mem_toArray,List.mem_singleton] at hop
  subst hop
  show (0:Nat) ≠ _;omega
theorem TI.past (A:SepC c ch) (h:TI c ch B t D 0) (ha:AcqA c ch.length t) {gh:Array (Nat × ByteArray)} (hs:∀ l,Shl gh l ↔ Shl c.gh0 l):Past (Shl gh) B t:=by
  obtain ⟨q,h1,h2,h3,h4⟩:=ha
  have nr:NoRelease (stA c.wg) t:=fun i e=>by
    obtain ⟨op,ho,hoa⟩:=Option.map_eq_some_iff.1 e
    exact h.nor op (Array.mem_of_getElem? ho) _ hoa A.wgs
  have edge:∀ k,k < ch.length → ∃ r,RelS c t (c.m0 + 1 + k) r∧r < q∧HappensBefore t r q:=fun k hk=>by
    obtain ⟨r,hr,hrq⟩:=h4 k hk
    exact ⟨r,hr,hrq,.single (.inr ⟨.marked hrq (.inr hr.by_.act) h1 (fun k _ _=>nr k),hr.by_.heard,h3⟩)⟩
  have who:∀ i g,t.g? i = some g → c.m0 < g → ∃ k,k < ch.length∧g = c.m0 + 1 + k:=fun i g hg hm=>by
    obtain ⟨op,ho,hog⟩:=Option.map_eq_some_iff.1 hg
    have:=h.ct.gs i op ho
    exact ⟨g - c.m0 - 1,by omega,by omega⟩
  have early:∀ i k r,RelS c t (c.m0 + 1 + k) r → HappensBefore t r q → t.g? i = some (c.m0 + 1 + k) → i ≤ r → HappensBefore t i q:=fun i k r hr hb hg hi=>by
    rcases Nat.lt_or_ge i r with hlt | hge
    · exact .trans (.single (.inl ⟨hlt,_,hg,hr.by_.g⟩)) hb
    · obtain rfl:i = r:=by omega
      exact hb
  obtain ⟨zq,hzq,hzg⟩:=Option.map_eq_some_iff.1 h2
  refine ⟨h.ct.nr,fun i a hta hm=>?_,fun i g hg hne hc=>?_,h.deaf0,h.seen⟩
  · rcases h.known i a hta hm with hk | hk | ⟨g,hg,hgi⟩
    · exact .inl hk
    · exact .inr ⟨(hs _).2 hk.1,hk.2⟩
    · obtain ⟨k,hk,rfl⟩:=who i g hgi hg
      obtain ⟨r,hr,_,hb⟩:=edge k hk
      rcases Nat.lt_or_ge r i with hlt | hge
      · have:=hr.aft i a hlt hgi hta
        exact .inr ⟨(hs _).2 this.1,this.2⟩
      · exact .inl ⟨q,zq,hzq,hzg,.inr (early i k r hr hb hgi hge)⟩
  · by_cases hle:g ≤ c.m0
    · exact h.over i g hg hne hle hc
    · obtain ⟨k,hk,rfl⟩:=who i g hg (by omega)
      obtain ⟨r,hr,_,hb⟩:=edge k hk
      rcases Nat.lt_or_ge r i with hlt | hge
      · exact absurd hc (hr.by_.after i hlt hg)
      · exact ⟨q,h2,early i k r hr hb hg hge⟩
theorem TI.begin {gs:Array Goroutine} (A:SepC c []) (hp:Past (Shl c.gh0) B t) (hq:Quiet (Shl c.gh0) t) (hw:∀ op ∈ t,op.g < gs.size) (hg:gs.size = c.m0 + 1) (hn:∀ op ∈ t,∀ a,op.act = .mark (.release a) → ¬ shn c.gh0 a.block) (hm:∀ op ∈ t,∀ x,op.act.touch? = some x → x.loc.isMemory = true) (D:Nat → WD):TI c [] B t D 0:=by
  have no:∀ k l,¬ OwnC c [] k l:=fun k l ⟨i,h,e,_⟩=>by simp at e
  have nr:∀ k l,¬ RdC c [] k l:=fun k l ⟨i,h,e,_⟩=>by simp at e
  have kn:∀ l,¬ Shl c.gh0 l → ∀ i a,touchAt t i = some a → a.loc = l → Knows t 0 i:=fun l hl i a ha e=>by
    obtain ⟨x,hx,hxa⟩:=touch_of ha
    rcases hp.known i a ha (hm x (Array.mem_of_getElem? hx) a hxa) with h | ⟨h,_⟩
    · exact h
    · exact absurd (e ▸ h) hl
  refine ⟨⟨hq,fun k _ _ l h=>absurd h (no k l),fun k _ _ l h=>absurd h (nr k l),fun l hl _=>kn l hl,fun l hl _ i a ha e _=>kn l hl i a ha e,hp.clean,fun i op hi=>?_⟩,hn,hp.hears,fun k hk=>by simp at hk,fun k hk=>by simp at hk,fun i a ha hm=>(hp.known i a ha hm).imp id .inl,fun i g hgi hne _ hc=>hp.over i g hgi hne hc,hp.seen,hm⟩
  have:=hw op (Array.mem_of_getElem? hi)
  simp only [List.length_nil]
  omega
end Go.KL
namespace Go.KL
open Go.Conc
open Go.RowKit
open Go.ConcR (KK WgAt stA smA Payload Bk)
open Go.ConcN (WgLive WD CTag Vc upd upd_same upd_ne)
variable {P:Program} [Payload] {c:Co} {End:List Ch → Goroutine → World → Prop} {W:World}
def MOk (c:Co) (j:Nat):MT → Prop
  | .spawn | .a1 | .ake | .ago=>j < c.n
  | .hears i x=>j = c.n∧x < c.n∧i % c.C = 0∧i < c.A
  | .goes i x=>j = c.n∧x < c.n∧i ≤ c.A
  | .listen i hs=>j = c.n∧i ≤ c.A∧hs.length < c.n∧hs.Nodup∧∀ k ∈ hs,k < c.n
  | .close x=>j = c.n∧x < c.n
  | _=>j = c.n
def got3 (c:Co) (s:Nat) (p:RP):Prop:=p = .got s ∨ (p = .sel s∧s % c.C = 0) ∨ p = .snd s
def Fit (c:Co) (k:Nat) (p:RP):MT → Prop
  | .spawn | .a1 | .ake | .ago=>p = .rcv 0
  | .hears i _=>p = .rcv i
  | .goes i x=>(k < x → got3 c i p)∧(¬ k < x → p = .rcv i)
  | .listen i hs=>(k ∈ hs → p = .rcv (i + 1))∧(k ∉ hs → got3 c i p)
  | .close x=>p = .rcv (c.A + 1) ∨ (k < x∧p = .fin)
  | _=>p = .rcv (c.A + 1) ∨ p = .fin
def Due (c:Co) (i:Nat) (p:RP):Prop:=i % c.C = 0∧i < c.A∧(p = .rcv i ∨ p = .got i ∨ p = .sel i)
def Kv (c:Co) (k:Nat) (p:RP) (buf:Array Value):MT → Prop
  | .hears i x=>(k < x → buf = #[i64 (c.q (i / c.C))])∧(¬ k < x → buf = #[])
  | .goes i _ | .listen i _=>(Due c i p → buf = #[i64 (c.q (i / c.C))])∧(¬ Due c i p → buf = #[])
  | _=>buf = #[]
def KF (k:Nat):MT → Bool
  | .close x=>decide (k < x)
  | .spawn | .a1 | .ake | .ago | .hears _ _ | .goes _ _ | .listen _ _=>false
  | _=>true
structure Num (c:Co):Prop where
  n0:0 < c.n
  nlt:c.n < 2147483647
  C0:0 < c.C
structure Turn (Z:Nat → Prop) (w w1:World):Prop where
  tape:w1.tape = w.tape
  os:w1.os = w.os
  output:w1.output = w.output
  size:w1.heap.size = w.heap.size
  blk:∀ b,¬ Z b → w1.heap[b]? = w.heap[b]?
  kin:∀ b:Nat,(w1.heap[b]?).map kd = (w.heap[b]?).map kd
omit [Payload] in
theorem Turn.at (Z:Nat → Prop) (w:World) (d:Nat):Turn Z w (w.at d):=⟨rfl,rfl,rfl,rfl,fun _ _=>rfl,fun _=>rfl⟩
omit [Payload] in
theorem Turn.trans {Z:Nat → Prop} {w w1 w2:World} (a:Turn Z w w1) (b:Turn Z w1 w2):Turn Z w w2 :=
  ⟨b.tape.trans a.tape,b.os.trans a.os,b.output.trans a.output,b.size.trans a.size,fun x hx=>(b.blk x hx).trans (a.blk x hx),fun x=>(b.kin x).trans (a.kin x)⟩
omit [Payload] in
theorem Turn.outs {Z:Nat → Prop} {w w1:World} (a:Turn Z w w1) (h:Outs W w):Outs W w1:=⟨fun b x u e=>view_kd (a.kin b) (h.vis b x u e),a.tape.trans h.tape,a.os.trans h.os,a.output.trans h.output⟩
omit [Payload] in
theorem Turn.RR {Z:Nat → Prop} {w w1:World} {h:Ch} (a:Turn Z w w1) (hz:∀ b,c.RO h b ∨ b = h.S → ¬ Z b) (hl:WgLive c.tWg c.wg w → WgLive c.tWg c.wg w1) (hr:c.RungAt w → c.RungAt w1):c.RR h w w1 :=
  ⟨fun b hb=>a.blk b (hz b hb),fun b _=>a.kin b,Nat.le_of_eq a.size.symm,a.os,hl,hr⟩
omit [Payload] in
theorem Turn.RM {Z:Nat → Prop} {w w1:World} {ch:List Ch} (a:Turn Z w w1) (hz:∀ b,Z b → c.hidM ch b) (hl:WgLive c.tWg c.wg w → WgLive c.tWg c.wg w1) (hs:∀ k h,ch[k]? = some h → (∃ x,c.SAt k h x w) → ∃ x,c.SAt k h x w1) (hB:∀ b,Z b → ¬ c.inB b):c.RM ch w w1 :=
  ⟨fun b hb=>a.blk b fun h=>hb (hz b h),a.kin,a.size,a.os,fun s=>⟨fun b hb=>by rw [a.size];exact s.low b hb,fun k h hk=>hs k h hk (s.row k h hk),hl s.live,fun b o ho=>(a.blk b fun hz=>hB b hz (by simp [Co.inB,ho])).trans (s.lin b o ho),s.nwg⟩⟩
omit [Payload] in
theorem turn_chan {w:World} {b cap s r cap' s' r':Nat} {buf buf':Array Value} {cl cl' tm tm':Bool} (h:w.heap[b]? = some (.chan cap buf cl s r tm)):Turn (· = b) w { w with heap:=w.heap.setIfInBounds b (.chan cap' buf' cl' s' r' tm') }:=by
  have hlt:=(Array.getElem?_eq_some_iff.1 h).1
  refine ⟨rfl,rfl,rfl,by simp,fun x hx=>Array.getElem?_setIfInBounds_ne (Ne.symm hx),fun x=>?_⟩
  show ((w.heap.setIfInBounds b _)[x]?).map _ = _
  by_cases e:x = b
  · subst e;rw [Array.getElem?_setIfInBounds_self_of_lt hlt,h];rfl
  · rw [Array.getElem?_setIfInBounds_ne (Ne.symm e)]
omit [Payload] in
theorem turn_aside {w w1:World} {b:Nat} {st sm st' sm':Int} {ty:TypeId} (a:Aside b w w1) (h:WgAt ty b w st sm) (h1:WgAt ty b w1 st' sm'):Turn (· = b) w w1 :=
  ⟨a.tape,a.os,a.output,a.size,fun x hx=>a.block x hx,fun x=>by
    by_cases e:x = b
    · subst e
      rw [show w1.heap[x]? = _ from h1,show w.heap[x]? = _ from h];rfl
    · rw [a.block x e]⟩
structure Inv (P:Program) (c:Co) (W:World) (End:List Ch → Goroutine → World → Prop) (ch:List Ch) (gs:Array Goroutine) (w:World) (t:Trace) (M:MS) (D:Nat → RS) (q:Nat → Nat):Prop where
  size:gs.size = c.m0 + 1 + ch.length
  main:∃ a,gs[0]? = some a∧MSit P c End ch M a w
  rs:∀ (k:Nat) (h:Ch),ch[k]? = some h → ∃ g,gs[c.m0 + 1 + k]? = some g∧RSit P c k h (D k) g w
  old:∀ i,0 < i → i ≤ c.m0 → ∃ g,gs[i]? = some g∧QuitsD P (q i) (Deaf t i) g
  mok:MOk c ch.length M.t
  fit:∀ k,k < ch.length → Fit c k (D k).pos M.t
  pk1:∀ k r s,k < ch.length → D k = .pk r (.rcv s) → KF k M.t = false
  pk2:∀ r i x,M = .pk r (.goes i x) → ∀ r' p,D x ≠ .pk r' p
  pk3:∀ r i hs,M = .pk r (.listen i hs) → ∀ k r' s,k < ch.length → D k ≠ .pk r' (.snd s)
  sep:SepC c ch
  low:∀ b,c.hidM ch b → b < w.heap.size
  S:∀ (k:Nat) (h:Ch),ch[k]? = some h → c.SAp k h (D k).pos w
  goes:∀ (k:Nat) (h:Ch),ch[k]? = some h → ∃ s r,w.heap[h.goes]? = some (.chan 0 #[] (KF k M.t) s r false)
  hears:∀ (k:Nat) (h:Ch),ch[k]? = some h → ∃ buf s r,w.heap[h.hears]? = some (.chan 1 buf false s r false)∧Kv c k (D k).pos buf M.t
  heard:∃ s r,w.heap[c.heard]? = some (.chan 0 #[] false s r false)
  rung:c.RungAt w
  lin:∀ b o,c.ro b = some o → w.heap[b]? = some o
  wg:∃ st sm,WgAt c.tWg c.wg w st sm∧Go.ConcN.Mode ch.length (fun k=>(D k).wd) M.tag st sm∧∀ v,M.t = .w1 v → Vc ch.length (fun k=>(D k).wd) ≤ v∧v < 2147483648
  tr:TI c ch w.heap.size t (fun k=>(D k).wd) M.t.deaf
  acq:M.t = .back → AcqA c ch.length t
  outs:Outs W w
abbrev RAl:=Nat × (Rk (RP × Goroutine × World)) × Nat
def ltA:RAl → RAl → Prop:=Prod.Lex (· < ·) (Prod.Lex Rk.lt (· < ·))
def RS.al:RS → RAl | .tr r _=>(7,r,1) | .pk r _=>(7,r,0) | .wg s m _=>(s,.z,m)
def MS.rk:MS → Rk (MP × Goroutine × World) | .tr r _ | .pk r _ | .blk r=>r
def MS.bit:MS → Nat | .tr _ _=>1 | _=>0
def muV (c:Co) (D:Nat → RS) (q:Nat → Nat) (i:Nat):RAl:=if i < c.m0 then (0,.z,q (i + 1)) else (D (i - c.m0)).al
abbrev Mu:=Rk (MP × Goroutine × World) × (Nat → RAl) × Nat
def ltM (c:Co):Mu → Mu → Prop:=Prod.Lex Rk.lt (Prod.Lex (Pw ltA (c.m0 + c.n)) (· < ·))
def mu (c:Co) (M:MS) (D:Nat → RS) (q:Nat → Nat):Mu:=(M.rk,muV c D q,M.bit)
omit [Payload] in
theorem ltM.wf (c:Co):WellFounded (ltM c):=(Prod.lex ⟨Rk.lt,Rk.wf⟩ (Prod.lex ⟨Pw ltA (c.m0 + c.n),Pw.wf (Prod.lex Nat.lt_wfRel (Prod.lex ⟨Rk.lt,Rk.wf⟩ Nat.lt_wfRel)).wf _⟩ Nat.lt_wfRel)).wf
omit [Payload] in
theorem ltM.main {M M':MS} {D D':Nat → RS} {q q':Nat → Nat} (h:Rk.lt M'.rk M.rk):ltM c (mu c M' D' q') (mu c M D q):=Prod.Lex.left _ _ h
omit [Payload] in
theorem ltM.bit {M M':MS} {D:Nat → RS} {q:Nat → Nat} (h:M'.rk = M.rk) (hb:M'.bit < M.bit):ltM c (mu c M' D q) (mu c M D q):=by
  unfold mu;rw [h];exact Prod.Lex.right _ (Prod.Lex.right _ hb)
omit [Payload] in
theorem ltM.ring {M M':MS} {D:Nat → RS} {q:Nat → Nat} {k:Nat} {x:RS} (h:M'.rk = M.rk) (hk:k < c.n) (hx:ltA x.al (D k).al):ltM c (mu c M' (upd D k x) q) (mu c M D q):=by
  unfold mu;rw [h]
  refine Prod.Lex.right _ (Prod.Lex.left _ _ ⟨c.m0 + k,by omega,?_,fun j hj=>?_⟩)
  · simp only [muV]
    rw [if_neg (by omega),if_neg (by omega),show c.m0 + k - c.m0 = k by omega,upd_same];exact hx
  · simp only [muV]
    split
    · rfl
    · rw [upd_ne D _ (by omega)]
omit [Payload] in
theorem ltM.old {M M':MS} {D:Nat → RS} {q:Nat → Nat} {i x:Nat} (h:M'.rk = M.rk) (h0:0 < i) (hi:i ≤ c.m0) (hx:x < q i):ltM c (mu c M' D (upd q i x)) (mu c M D q):=by
  unfold mu;rw [h]
  refine Prod.Lex.right _ (Prod.Lex.left _ _ ⟨i - 1,by omega,?_,fun j hj=>?_⟩)
  · simp only [muV]
    rw [if_pos (by omega),if_pos (by omega),show i - 1 + 1 = i by omega,upd_same]
    exact Prod.Lex.right _ (Prod.Lex.right _ hx)
  · simp only [muV]
    split
    · rw [upd_ne q _ (by omega)]
    · rfl
omit [Payload] in
theorem al_lt {r r1:Rk (RP × Goroutine × World)} {a b:Nat} (h:Rk.lt r1 r):ltA (7,r1,a) (7,r,b):=Prod.Lex.right _ (Prod.Lex.left _ _ h)
omit [Payload] in
theorem al_pk (r:Rk (RP × Goroutine × World)):ltA (7,r,0) (7,r,1):=Prod.Lex.right _ (Prod.Lex.right _ (by decide))
omit [Payload] in
theorem al_stage {s s':Nat} (h:s' < s) (x y:Rk (RP × Goroutine × World) × Nat):ltA (s',x) (s,y):=Prod.Lex.left _ _ h
omit [Payload] in
theorem al_fuel {s m m':Nat} (h:m' + 1 = m) (x:Rk (RP × Goroutine × World)):ltA (s,x,m') (s,x,m):=Prod.Lex.right _ (Prod.Lex.right _ (by omega))
def BelM (P:Program) (c:Co) (W:World) (Post:Value → World → Prop) (End:List Ch → Goroutine → World → Prop) (μ:Mu):Prop :=
  ∀ ch gs w sl t M D q,ltM c (mu c M D q) μ → Inv P c W End ch gs w t M D q → EndsGood P Post (crowd gs w sl) t
end Go.KL
namespace Go.KL
open Go.Conc
open Go.RowKit
open Go.ConcR (KK WgAt stA smA Payload Bk g_of_ofEvents)
open Go.ConcN (WgLive WD CTag Vc upd upd_same upd_ne get_map_set get_map_set_same)
variable {P:Program} [Payload] {c:Co} {End:List Ch → Goroutine → World → Prop} {W:World} {Post:Value → World → Prop} {ch:List Ch} {gs gs':Array Goroutine} {w w':World} {t u:Trace} {M M':MS} {D D':Nat → RS} {q:Nat → Nat} {sl:Option (Nat × Nat)}
omit [Payload] in
theorem wd_upd (D:Nat → RS) (k:Nat) (x:RS):(fun i=>(upd D k x i).wd) = upd (fun i=>(D i).wd) k x.wd:=by
  funext i
  by_cases e:i = k
  · subst e;rw [upd_same,upd_same]
  · rw [upd_ne _ _ e,upd_ne _ _ e]
omit [Payload] in
theorem JB {α:Type} {l:List α} {k:Nat} {x:α} (h:l[k]? = some x):k < l.length:=(List.getElem?_eq_some_iff.1 h).1
omit [Payload] in
theorem MS.back_t {r:Rk (MP × Goroutine × World)} (h:M' = M ∨ ∃ r,M = .blk r∧M' = .tr r .w3):M'.t = M.t∧(M'.tag = M.tag ∨ (M.tag = .blk∧M'.tag = .w3))∧M'.rk = M.rk:=by
  have _:=r
  rcases h with rfl | ⟨r,rfl,rfl⟩
  · exact ⟨rfl,.inl rfl,rfl⟩
  · exact ⟨rfl,.inr ⟨rfl,rfl⟩,rfl⟩
theorem Inv.stt (h:Inv P c W End ch gs w t M D q):c.MSt ch w:=⟨h.low,fun k x hx=>by
    have:=h.S k x hx
    cases hp:(D k).pos with
    | fin=>rw [hp] at this;exact this
    | _=>rw [hp] at this;exact ⟨_,this⟩,let ⟨st,sm,a,_⟩:=h.wg;⟨st,sm,a⟩,h.lin,fun e=>h.sep.base _ e (h.sep.hid_of h.sep.wgs)⟩
structure Few (c:Co) (ch:List Ch) (k:Nat) (w:World) (Z:Nat → Prop):Prop where
  cells:∀ b,Z b → ∃ cs e fr,w.heap[b]? = some (.cells cs e fr)
  hid:∀ b,Z b → c.hidM ch b
  inb:∀ b,Z b → ¬ c.inB b
  oth:∀ (i:Nat) (h:Ch),i ≠ k → ch[i]? = some h → ∀ b,c.RO h b ∨ b = h.S → ¬ Z b
omit [Payload] in
theorem Few.chan {k:Nat} {Z:Nat → Prop} (F:Few c ch k w Z) (T:Turn Z w w') {b cap s r:Nat} {buf:Array Value} {cl tm:Bool} (h:w.heap[b]? = some (.chan cap buf cl s r tm)):w'.heap[b]? = some (.chan cap buf cl s r tm):=by
  rw [T.blk b fun hz=>?_];exact h
  obtain ⟨cs,e,fr,hc⟩:=F.cells b hz
  rw [h] at hc;cases hc
theorem Inv.ringGo (h:Inv P c W End ch gs w t M D q) {k:Nat} {hk:Ch} (hc:ch[k]? = some hk) {g g':Goroutine} {es:Array Event} {x:RS} {Z:Nat → Prop} {st' sm':Int} {m0:Machine} (hm0:stepT P m0 = runT P (crowd gs w sl) (c.m0 + 1 + k))
    (hg:gs[c.m0 + 1 + k]? = some g) (hgo:stepG P false g w = .go g' w' es) (hx:RSit P c k hk x g' w') (hF:Few c ch k w Z) (hT:Turn Z w w') (hn:ch.length ≤ c.n)
    (hS:c.SAp k hk x.pos w') (hrg:c.RungAt w') (hwg:WgAt c.tWg c.wg w' st' sm') (hfit:Fit c k x.pos M.t) (hnp:∀ r p,x ≠ .pk r p) (hbuf:∀ buf,Kv c k (D k).pos buf M.t → Kv c k x.pos buf M.t)
    (hmode:∀ tag',(tag' = M.tag ∨ (M.tag = .blk∧tag' = .w3)) → (mayWake P g = true → g'.status = .running → tag' ≠ .blk) → Go.ConcN.Mode ch.length (upd (fun i=>(D i).wd) k x.wd) tag' st' sm') (hV:Vc ch.length (upd (fun i=>(D i).wd) k x.wd) ≤ Vc ch.length fun i=>(D i).wd)
    (htr:TI c ch w'.heap.size (t ++ MemOp.ofEvents (c.m0 + 1 + k) g.frame.fn g.frame.place es) (fun i=>(upd D k x i).wd) M.t.deaf) (hacq:M.t = .back → AcqA c ch.length (t ++ MemOp.ofEvents (c.m0 + 1 + k) g.frame.fn g.frame.place es)) (hlt:ltA x.al (D k).al)
    (ih:BelM P c W Post End (mu c M D q)):EndsGood P Post m0 t:=by
  have hkl:=JB hc
  have h0:((c.m0 + 1 + k) == 0) = false:=by simp
  have hrunT:=runT_crowd_go (P:=P) (sl:=sl) (i:=c.m0 + 1 + k) hg (by rw [h0];exact hgo)
  have hsz:((gs.map (woken P g g' w')).setIfInBounds (c.m0 + 1 + k) g').size = gs.size:=by simp
  obtain ⟨st,sm,hw0,_,hw1⟩:=h.wg
  have live:WgLive c.tWg c.wg w → WgLive c.tWg c.wg w':=fun _=>⟨_,_,hwg⟩
  have hSk:∃ y,c.SAt k hk y w':=by
    cases hp:x.pos with
    | fin=>rw [hp] at hS;exact hS
    | _=>rw [hp] at hS;exact ⟨_,hS⟩
  have goes':∀ (i:Nat) (h':Ch),ch[i]? = some h' → ∃ s r,w'.heap[h'.goes]? = some (.chan 0 #[] (KF i M.t) s r false):=fun i h' hi=>let ⟨s,r,e⟩:=h.goes i h' hi;⟨s,r,hF.chan hT e⟩
  have heard':∃ s r,w'.heap[c.heard]? = some (.chan 0 #[] false s r false):=let ⟨s,r,e⟩:=h.heard;⟨s,r,hF.chan hT e⟩
  have hRR:∀ (i:Nat) (h':Ch),i ≠ k → ch[i]? = some h' → c.RR h' w w':=fun i h' hi hc'=>hT.RR (hF.oth i h' hi hc') live (fun _=>hrg)
  have hRM:c.RM ch w w':=hT.RM hF.hid live (fun i h' hi ⟨y,hy⟩=>by
    by_cases e:i = k
    · subst e;rw [hc] at hi;cases hi;exact hSk
    · exact ⟨y,Co.SAt.of hy (hT.blk _ (hF.oth i h' e hi _ (.inr rfl)))⟩) hF.inb
  obtain ⟨a,ha,hma⟩:=h.main
  obtain ⟨M',hM',hMM,hMb⟩:=hma.woken g g' (w':=w') (fun r i y h' e e2=>by
    have hx:=h.mok
    rw [e] at hx
    have hy:y < c.n:=hx.2.1
    obtain ⟨s,r,e3⟩:=goes' y h' e2
    rw [e] at e3
    exact ⟨_,_,s,r,_,e3⟩) (let ⟨s,r,e⟩:=heard';⟨_,_,s,r,_,e⟩)
  obtain ⟨et,etag,erk⟩:=MS.back_t (r:=M.rk) hMM
  refine EndsGood.next (hm0.trans hrunT) (ih ch _ w' sl _ M' (upd D k x) q (ltM.ring erk (by omega) hlt) ⟨by rw [hsz];exact h.size,⟨_,by rw [get_map_set _ _ _ _ (by omega),ha];rfl,hM'.rely hRM⟩,fun i h' hi=>?_,fun i h1 h2=>?_,by rw [et];exact h.mok,fun i hi=>?_,fun i r s hi e=>?_,fun r i y e r' p=>?_,fun r i hs e j r' s hj=>?_,h.sep,fun b hb=>by rw [hT.size];exact h.low b hb,fun i h' hi=>?_,by rw [et];exact goes',fun i h' hi=>?_,heard',hrg,fun b o ho=>(hT.blk b fun hz=>hF.inb b hz (by simp [Co.inB,ho])).trans (h.lin b o ho),⟨st',sm',hwg,?_,fun v e=>by rw [wd_upd];rw [et] at e;have:=hw1 v e;exact ⟨Nat.le_trans hV this.1,this.2⟩⟩,by rw [et];exact htr,fun e=>hacq (et ▸ e),hT.outs h.outs⟩)
  · by_cases e:i = k
    · subst e;rw [hc] at hi;cases hi
      exact ⟨g',get_map_set_same _ _ _ (by rw [h.size];omega),by rw [upd_same];exact hx⟩
    · obtain ⟨y,hy,hsy⟩:=h.rs i h' hi
      refine ⟨y,?_,by rw [upd_ne D _ e];exact hsy.rely (hRR i h' e hi)⟩
      rw [get_map_set _ _ _ _ (by omega),hy,Option.map_some,hsy.woken_open g g' (fun r s e2=>?_) (let ⟨s,r,e⟩:=heard';⟨_,_,s,r,_,e⟩)]
      obtain ⟨s',r',e3⟩:=goes' i h' hi
      rw [h.pk1 i r s (JB hi) e2] at e3
      exact ⟨_,_,s',r',_,e3⟩
  · obtain ⟨y,hy,hq⟩:=h.old i h1 h2
    refine ⟨y,by rw [get_map_set _ _ _ _ (by omega),hy,Option.map_some,woken_quitsD hq],?_⟩
    rw [Deaf_other t (by omega) _ g_of_ofEvents];exact hq
  · rw [et]
    by_cases e:i = k
    · subst e;rw [upd_same];exact hfit
    · rw [upd_ne D _ e];exact h.fit i hi
  · rw [et]
    by_cases e':i = k
    · subst e';rw [upd_same] at e;exact absurd e (hnp _ _)
    · rw [upd_ne D _ e'] at e;exact h.pk1 i r s hi e
  · have e':M = .pk r (.goes i y):=by rcases hMM with rfl | ⟨r',_,h2⟩;exact e;rw [h2] at e;cases e
    by_cases e2:y = k
    · subst e2;rw [upd_same];exact hnp _ _
    · rw [upd_ne D _ e2];exact h.pk2 r i y e' r' p
  · have e':M = .pk r (.listen i hs):=by rcases hMM with rfl | ⟨r',_,h2⟩;exact e;rw [h2] at e;cases e
    by_cases e2:j = k
    · subst e2;rw [upd_same];exact hnp _ _
    · rw [upd_ne D _ e2];exact h.pk3 r i hs e' j r' s hj
  · by_cases e:i = k
    · subst e;rw [hc] at hi;cases hi;rw [upd_same];exact hS
    · rw [upd_ne D _ e];exact Co.SAp.of (h.S i h' hi) (hT.blk _ (hF.oth i h' e hi _ (.inr rfl)))
  · obtain ⟨buf,s,r,e1,e2⟩:=h.hears i h' hi
    refine ⟨buf,s,r,hF.chan hT e1,?_⟩
    rw [et]
    by_cases e:i = k
    · subst e;rw [upd_same];exact hbuf buf e2
    · rw [upd_ne D _ e];exact e2
  · rw [wd_upd]
    refine hmode _ etag fun e1 e2 e3=>?_
    obtain ⟨r,rfl⟩:∃ r,M' = .blk r:=by
      cases M' with
      | blk r=>exact ⟨r,rfl⟩
      | tr r t=>cases t <;> cases e3
      | pk r t=>cases t <;> cases e3
    exact hMb e1 e2 r rfl
theorem Inv.mainRR (h:Inv P c W End ch gs w t M D q) (hk:∀ b,c.hidM ch b → (∀ (i:Nat) (h':Ch),ch[i]? = some h' → b = h'.goes → False) → b ≠ c.wg → w'.heap[b]? = w.heap[b]?) (kin:∀ b,b < w.heap.size → (w'.heap[b]?).map kd = (w.heap[b]?).map kd) (hs:w.heap.size ≤ w'.heap.size) (ho:w'.os = w.os)
    (live:WgLive c.tWg c.wg w') {k:Nat} {h':Ch} (hc:ch[k]? = some h'):c.RR h' w w':=by
  have hm:=List.mem_of_getElem? hc
  have hn:=fun (x:Nat) (hx:x ∈ four h')=>h.sep.one hc hx
  have ne1:∀ x,x ∈ four h' → (x = h'.S ∨ x = h'.v) → ∀ (i:Nat) (h2:Ch),ch[i]? = some h2 → x = h2.goes → False:=fun x hx hv i h2 hi e=>by
    by_cases hik:k = i
    · subst hik;rw [hc] at hi;cases hi
      obtain ⟨a1,a2,a3,a4,a5,a6⟩:=h.sep.ins h' hm
      rcases hv with rfl | rfl
      · exact a2 e
      · exact a4 e
    · exact h.sep.ne k i h' h2 x h2.goes hik hc hi hx (Kl h2).2.2.1 e
  refine ⟨fun b hb=>?_,kin,hs,ho,fun _=>live,fun ⟨x,hx⟩=>⟨x,?_⟩⟩
  · rcases hb with (hb | rfl) | rfl
    · refine hk b (.inr (.inr (.inr (.inl hb)))) (fun i h2 hi e=>?_) fun e=>h.sep.base b hb (e ▸ h.sep.hid_of h.sep.wgs)
      exact (h.sep.one hi (Kl h2).2.2.1).2.2.2.1 (e ▸ hb)
    · exact hk _ (.inr (.inr (.inr (.inr (.inl ⟨h',hm,.inr (.inl rfl)⟩))))) (ne1 _ (Kl h').2.1 (.inr rfl)) (hn _ (Kl h').2.1).1
    · exact hk _ (.inr (.inr (.inr (.inr (.inl ⟨h',hm,.inl rfl⟩))))) (ne1 _ (Kl h').1 (.inl rfl)) (hn _ (Kl h').1).1
  · refine (hk c.rung (.inr (.inl rfl)) (fun i h2 hi e=>?_) (Ne.symm h.sep.wgr)).trans hx
    exact (h.sep.one hi (Kl h2).2.2.1).2.1 e.symm
theorem Inv.mainGo (h:Inv P c W End ch gs w t M D q) {a a':Goroutine} {es:Array Event} {st' sm':Int} {m0:Machine} (hm0:stepT P m0 = runT P (crowd gs w sl) 0) (ha:gs[0]? = some a) (hgo:stepG P true a w = .go a' w' es) (hM:MSit P c End ch M' a' w')
    (hk:∀ b,c.hidM ch b → (∀ (i:Nat) (h':Ch),ch[i]? = some h' → b = h'.goes → False) → b ≠ c.wg → w'.heap[b]? = w.heap[b]?) (kin:∀ b,b < w.heap.size → (w'.heap[b]?).map kd = (w.heap[b]?).map kd) (hs:w.heap.size ≤ w'.heap.size) (ho:Outs W w')
    (hwg:WgAt c.tWg c.wg w' st' sm') (hmode:Go.ConcN.Mode ch.length (fun i=>(D i).wd) M'.tag st' sm') (hw1:∀ v,M'.t = .w1 v → Vc ch.length (fun i=>(D i).wd) ≤ v∧v < 2147483648)
    (hmok:MOk c ch.length M'.t) (hwk:∀ (k:Nat) (h':Ch) (g:Goroutine),ch[k]? = some h' → gs[c.m0 + 1 + k]? = some g → RSit P c k h' (D k) g w → RSit P c k h' (D' k) (woken P a a' w' g) w) (hwd:∀ k,k < ch.length → (D' k).wd = (D k).wd∧(D' k).pos = (D k).pos∧((∃ r p,D' k = .pk r p) → D' k = D k))
    (hfit:∀ k,k < ch.length → Fit c k (D k).pos M'.t) (hsh:∀ k r s,k < ch.length → D' k = .pk r (.rcv s) → KF k M'.t = false) (hpk:∀ r t,M' ≠ .pk r t) (hgoes:∀ (k:Nat) (h':Ch),ch[k]? = some h' → ∃ s r,w'.heap[h'.goes]? = some (.chan 0 #[] (KF k M'.t) s r false))
    (hbuf:∀ k buf,k < ch.length → Kv c k (D k).pos buf M.t → Kv c k (D k).pos buf M'.t) (htr:TI c ch w'.heap.size (t ++ MemOp.ofEvents 0 a.frame.fn a.frame.place es) (fun i=>(D i).wd) M'.t.deaf) (hacq:M'.t = .back → AcqA c ch.length (t ++ MemOp.ofEvents 0 a.frame.fn a.frame.place es))
    (hlt:ltM c (mu c M' D' q) (mu c M D q)) (ih:BelM P c W Post End (mu c M D q)):EndsGood P Post m0 t:=by
  have hrunT:=runT_crowd_go (P:=P) (sl:=sl) (i:=0) ha (show stepG P (0 == 0) a w = _ from hgo)
  have hsz:((gs.map (woken P a a' w')).setIfInBounds 0 a').size = gs.size:=by simp
  have live:WgLive c.tWg c.wg w':=⟨_,_,hwg⟩
  have hRR:∀ (i:Nat) (h':Ch),ch[i]? = some h' → c.RR h' w w':=fun i h' hc=>h.mainRR hk kin hs (ho.os.trans h.outs.os.symm) live hc
  have wdE:(fun i=>(D' i).wd) = (fun i=>(D' i).wd):=rfl
  have hct:Vc ch.length (fun i=>(D' i).wd) = Vc ch.length fun i=>(D i).wd:=Go.ConcN.sumTo_congr fun i hi=>congrArg Go.ConcN.cnt (hwd i hi).1
  have hin:∀ (k:Nat) (h':Ch),ch[k]? = some h' → ∀ (i:Nat) (h2:Ch),ch[i]? = some h2 → h'.hears ≠ h2.goes:=fun k h' hk' i h2 hi=>by
    by_cases e:k = i
    · subst e;rw [hk'] at hi;cases hi
      obtain ⟨a1,a2,a3,a4,a5,a6⟩:=h.sep.ins h' (List.mem_of_getElem? hk')
      exact Ne.symm a6
    · exact h.sep.ne k i h' h2 _ _ e hk' hi (Kl h').2.2.2 (Kl h2).2.2.1
  refine EndsGood.next (hm0.trans hrunT) (ih ch _ w' sl _ M' D' q hlt ⟨by rw [hsz];exact h.size,⟨a',get_map_set_same _ _ _ (by rw [h.size];omega),hM⟩,fun i h' hi=>?_,fun i h1 h2=>?_,hmok,fun i hi=>by rw [(hwd i hi).2.1];exact hfit i hi,hsh,fun r i y e=>absurd e (hpk _ _),fun r i hs e=>absurd e (hpk _ _),h.sep,fun b hb=>Nat.lt_of_lt_of_le (h.low b hb) hs,fun i h' hi=>?_,hgoes,fun i h' hi=>?_,?_,?_,fun b o ho=>?_,⟨st',sm',hwg,hmode.congr fun i hi=>by rw [(hwd i hi).1],fun v e=>by rw [hct];exact hw1 v e⟩,?_,hacq,ho⟩)
  · obtain ⟨y,hy,hsy⟩:=h.rs i h' hi
    exact ⟨_,by rw [get_map_set _ _ _ _ (by omega),hy];rfl,(hwk i h' y hi hy hsy).rely (hRR i h' hi)⟩
  · obtain ⟨y,hy,hq⟩:=h.old i h1 h2
    refine ⟨y,by rw [get_map_set _ _ _ _ (by omega),hy,Option.map_some,woken_quitsD hq],?_⟩
    rw [Deaf_other t (by omega) _ g_of_ofEvents];exact hq
  · rw [(hwd i (JB hi)).2.1]
    exact Co.SAp.of (h.S i h' hi) ((hRR i h' hi).blk _ (.inr rfl))
  · obtain ⟨buf,s,r,e1,e2⟩:=h.hears i h' hi
    refine ⟨buf,s,r,(hk _ (.inr (.inr (.inr (.inr (.inl ⟨h',List.mem_of_getElem? hi,.inr (.inr (.inr rfl))⟩))))) (fun i2 h2 hi2 e=>hin i h' hi i2 h2 hi2 e) (h.sep.one hi (Kl h').2.2.2).1).trans e1,?_⟩
    rw [(hwd i (JB hi)).2.1]
    exact hbuf i buf (JB hi) e2
  · obtain ⟨s,r,e⟩:=h.heard
    exact ⟨s,r,(hk _ (.inr (.inr (.inl rfl))) (fun i h2 hi e2=>(h.sep.one hi (Kl h2).2.2.1).2.2.1 e2.symm) fun e2=>h.sep.heard.1 (e2 ▸ h.sep.hid_of h.sep.wgs)).trans e⟩
  · obtain ⟨x,hx⟩:=h.rung
    exact ⟨x,(hk _ (.inr (.inl rfl)) (fun i h2 hi e2=>(h.sep.one hi (Kl h2).2.2.1).2.1 e2.symm) (Ne.symm h.sep.wgr)).trans hx⟩
  · have hb:c.inB b:=by simp [Co.inB,ho]
    exact (hk b (.inr (.inr (.inr (.inl hb)))) (fun i h2 hi e=>(h.sep.one hi (Kl h2).2.2.1).2.2.2.1 (e ▸ hb)) fun e=>h.sep.base b hb (e ▸ h.sep.hid_of h.sep.wgs)).trans (h.lin b o ho)
  · refine ⟨htr.ct,htr.nor,htr.deaf0,fun k hk=>by rw [(hwd k hk).1];exact htr.deafW k hk,fun k hk hs=>htr.rel k hk (by rw [(hwd k hk).1] at hs;exact hs),htr.known,htr.over,htr.seen,htr.mem⟩
theorem Inv.comm (h:Inv P c W End ch gs w t M D q) {b:Nat} (hb:(∀ (k:Nat) (h':Ch),ch[k]? = some h' → b ≠ h'.S∧b ≠ h'.v)∧b ≠ c.rung∧b ≠ c.wg∧¬ c.inB b) (hT:Turn (· = b) w w') (hsz:gs'.size = gs.size) (hold:∀ i,0 < i → i ≤ c.m0 → gs'[i]? = gs[i]?)
    (hmain:∃ a,gs'[0]? = some a∧MSit P c End ch M' a w') (hrs:∀ (k:Nat) (h':Ch),ch[k]? = some h' → ∃ g,gs'[c.m0 + 1 + k]? = some g∧RSit P c k h' (D' k) g w')
    (hmok:MOk c ch.length M'.t) (hfit:∀ k,k < ch.length → Fit c k (D' k).pos M'.t) (pk1:∀ k r s,k < ch.length → D' k = .pk r (.rcv s) → KF k M'.t = false) (pk2:∀ r i x,M' = .pk r (.goes i x) → ∀ r' p,D' x ≠ .pk r' p) (pk3:∀ r i hs,M' = .pk r (.listen i hs) → ∀ k r' s,k < ch.length → D' k ≠ .pk r' (.snd s))
    (hS:∀ (k:Nat) (h':Ch),ch[k]? = some h' → c.SAp k h' (D k).pos w → c.SAp k h' (D' k).pos w) (hgoes:∀ (k:Nat) (h':Ch),ch[k]? = some h' → ∃ s r,w'.heap[h'.goes]? = some (.chan 0 #[] (KF k M'.t) s r false)) (hhears:∀ (k:Nat) (h':Ch),ch[k]? = some h' → ∃ buf s r,w'.heap[h'.hears]? = some (.chan 1 buf false s r false)∧Kv c k (D' k).pos buf M'.t)
    (hheard:∃ s r,w'.heap[c.heard]? = some (.chan 0 #[] false s r false)) (htag:M'.tag = M.tag) (hdf:M'.t.deaf = M.t.deaf) (hwd:∀ k,k < ch.length → (D' k).wd = (D k).wd) (hw1:∀ v,M'.t = .w1 v → M.t = .w1 v) (hbk:M'.t = .back → M.t = .back∧u = #[]) (hu:∀ op ∈ u,Calm c ch.length w.heap.size op) (hur:∀ k,k < ch.length → (D k).wd.stage ≤ 6 → ∀ op ∈ u,op.g ≠ c.m0 + 1 + k) :
    Inv P c W End ch gs' w' (t ++ u) M' D' q:=by
  obtain ⟨st,sm,e1,e2,e3⟩:=h.wg
  refine ⟨by rw [hsz];exact h.size,hmain,hrs,fun i h1 h2=>?_,hmok,hfit,pk1,pk2,pk3,h.sep,fun b hb=>by rw [hT.size];exact h.low b hb,fun k h' hk=>Co.SAp.of (hS k h' hk (h.S k h' hk)) (hT.blk _ (Ne.symm (hb.1 k h' hk).1)),hgoes,hhears,hheard,?_,fun x o ho=>(hT.blk x fun e=>hb.2.2.2 (e ▸ (by simp [Co.inB,ho]))).trans (h.lin x o ho),⟨st,sm,?_,?_,fun v e=>?_⟩,?_,fun e=>?_,hT.outs h.outs⟩
  · obtain ⟨y,hy,hq⟩:=h.old i h1 h2
    exact ⟨y,(hold i h1 h2).trans hy,by rw [Go.ConcN.Deaf_still t i u fun op hop=>(hu op hop).dis];exact hq⟩
  · obtain ⟨x,hx⟩:=h.rung
    exact ⟨x,(hT.blk _ (Ne.symm hb.2.1)).trans hx⟩
  · exact (hT.blk _ (Ne.symm hb.2.2.1)).trans e1
  · rw [htag];exact e2.congr fun i hi=>by rw [hwd i hi]
  · rw [show Vc ch.length (fun i=>(D' i).wd) = Vc ch.length fun i=>(D i).wd from Go.ConcN.sumTo_congr fun i hi=>congrArg Go.ConcN.cnt (hwd i hi)]
    exact e3 v (hw1 v e)
  · rw [hT.size,hdf]
    exact h.tr.calm h.sep hu (fun k hk=>by rw [hwd k hk];exact ⟨rfl,rfl⟩) hur
  · obtain ⟨e4,rfl⟩:=hbk e
    rw [Array.append_empty];exact h.acq e4
end Go.KL
