/- Rows of records that are owned and written; interface values that hold a struct; calls of their methods. -/
import Derived.Test.YtfgkhpkbehhflaaDoorBookOpensK2
import Derived.Test.YtfgkhpkbehhflaaDoorBookOpensK1
import Derived.Laws.BitsAllLaws
import Derived.Below
import Derived.WideLaws
import Derived.Lib.AtoiErrMem
import Derived.Lib.LaidTab
import Derived.Lib.AppendIntMem
import Derived.Lib.AtoiAllCases
import Derived.Lib.ItoaLen
import Derived.Lib.ConvBytes
import Derived.ProofKit
import Derived.JoinedCond
import Derived.SizedLaws
import Derived.Deep.Slices
import Derived.Deep.CondSized
import Derived.Stop.LaidErr
import Derived.LaidSub
import Derived.Lay
import Derived.MakeChecks
import Derived.Deep.DeepHandedRow
namespace Go.KL
open Go.RowKit
def recC (p : Rec) : List Ty := [Ty.int p.1, Ty.int p.2.1, Ty.str p.2.2.1, Ty.lst Ty.str p.2.2.2]
theorem recOne : ∀ x, ∀ U ∈ recC x, One U := fun x U hU => by
  simp only [recC, List.mem_cons, List.not_mem_nil, or_false] at hU
  rcases hU with rfl | rfl | rfl | rfl
  · exact one_val rfl
  · exact one_val rfl
  · exact one_val rfl
  · exact one_sl
theorem recs_len {xs : List Rec} : (xs.flatMap recC).length = xs.length * 4 := by
  induction xs with
  | nil => rfl
  | cons x xs ih => rw [List.flatMap_cons, List.length_append, ih, List.length_cons]; show 4 + _ = _; omega
theorem recs_drop : ∀ {xs : List Rec} {i : Nat}, i < xs.length → ((xs.flatMap recC).drop (i * 4)).take 4 = recC (xs.getD i Rec0)
  | x :: xs, 0, _ => rfl
  | x :: xs, i + 1, h => by
    have ih := recs_drop (xs := xs) (i := i) (by simpa using h)
    rw [List.flatMap_cons, show (i + 1) * 4 = 4 + i * 4 by omega, ← List.drop_drop]
    exact ih
/-! ### A struct stored into a row -/
def setL {α : Type} (l : List α) (o : Nat) : List α → List α
  | [] => l
  | v :: vs => setL (l.set o v) (o + 1) vs
theorem setL_len {α : Type} : ∀ {vs l : List α} {o : Nat}, (setL l o vs).length = l.length
  | [], _, _ => rfl
  | v :: vs, l, o => by rw [setL, setL_len, List.length_set]
theorem setL_cons {α : Type} {x : α} : ∀ {vs l : List α} {o : Nat}, setL (x :: l) (o + 1) vs = x :: setL l o vs
  | [], _, _ => rfl
  | v :: vs, l, o => by rw [setL, List.set_cons_succ, setL_cons, setL]
theorem recs_set : ∀ {xs : List Rec} {i : Nat} {r : Rec}, i < xs.length → setL (xs.flatMap recC) (i * 4) (recC r) = (xs.set i r).flatMap recC
  | x :: xs, 0, r, _ => rfl
  | x :: xs, i + 1, r, h => by
    have ih := recs_set (xs := xs) (i := i) (r := r) (by simpa using h)
    rw [List.flatMap_cons, List.set_cons_succ, List.flatMap_cons, ← ih]
    show setL (_ :: _ :: _ :: _ :: xs.flatMap recC) ((i + 1) * 4) (recC r) = _
    rw [show (i + 1) * 4 = i * 4 + 1 + 1 + 1 + 1 by omega, setL_cons, setL_cons, setL_cons, setL_cons]
    rfl
section
variable {P : Program} {d : Option Tmp} {ty : TypeId} {pos : String} {af : Array Edge} {g : Option (Nat × Bool)} {a : Act} {σ : GW}
theorem row_setCells {base e c n gg cap : Nat} : ∀ {vs : List Value} {o : Nat} {w : World} {us : List Value}, w.ownsRow base e c (.slice (some ⟨gg, 0, none⟩) n cap) n us → o + vs.length ≤ us.length → (w.setCells gg o vs).ownsRow base e c (.slice (some ⟨gg, 0, none⟩) n cap) n (setL us o vs)
  | [], _, _, _, h, _ => h
  | v :: vs, o, w, us, h, hl => by
    simp only [List.length_cons] at hl
    have h2 := (h.stored o v).1
    exact row_setCells (vs := vs) (o := o + 1) h2 (by rw [List.length_set]; omega)
theorem setL_typed {τ : GW} : ∀ {vs us : List Value} {Us ts : List Ty} {o : Nat}, vs.length = Us.length → (∀ (j : Nat) (T : Ty) (u : Value), ts[j]? = some T → us[j]? = some u → T.has τ u) → (∀ (j : Nat) (T : Ty) (u : Value), Us[j]? = some T → vs[j]? = some u → T.has τ u) →
    ∀ (j : Nat) (T : Ty) (u : Value), (setL ts o Us)[j]? = some T → (setL us o vs)[j]? = some u → T.has τ u
  | [], us, [], ts, o, _, h, _ => h
  | [], _, _ :: _, _, _, hl, _, _ => by simp at hl
  | _ :: _, _, [], _, _, hl, _, _ => by simp at hl
  | v :: vs, us, U :: Us, ts, o, hl, h, hv => by
    rw [setL, setL]
    refine setL_typed (by simpa using hl) (fun j T u hT hu => ?_) (fun j T u hT hu => hv (j + 1) T u (by simpa using hT) (by simpa using hu))
    by_cases e : o = j
    · subst e
      rw [List.getElem?_set] at hT hu
      rw [if_pos rfl] at hT hu
      split at hT
      · split at hu
        · cases hT; cases hu
          exact hv 0 U v rfl rfl
        · cases hu
      · cases hT
    · rw [List.getElem?_set_ne e] at hT hu
      exact h j T u hT hu
theorem m_storec {k c n o : Nat} {x y : Operand} {ts us : List Ty} {t e : TypeId} {z v : Value} {by_ : Nat} (he : Info P t z us.length by_) (hk : 2 ≤ k) (h : Own σ k e c v n ts) (hx : a.eval x = cellPtr v o) (hi : o + us.length ≤ ts.length) (hpos : 0 < us.length) (hy : At (.agg us) σ a y) (h1 : ∀ U, U ∈ us → One U) :
    YldM k P ⟨d, .store t x y, ty, pos, af, g⟩ a σ (fun _ τ => Own τ k e c v n (setL ts o us)) := by
  have hlen := h.len
  have hn : 0 < n := by
    rcases Nat.eq_zero_or_pos n with h0 | h0
    · subst h0; omega
    · exact h0
  obtain ⟨gg, cap, rfl, hst, hgl⟩ := h.at hn
  obtain ⟨ls, r1, r2, r3, r4⟩ := h
  obtain ⟨cs, ey, hcl, hc⟩ := hy
  have hone : cs.all (·.oneCell') = true := by
    rw [Array.all_eq_true]
    intro i hi2
    have hT : us[i]? = some us[i] := by simp [show i < us.length by omega]
    exact h1 us[i] (List.getElem_mem _) _ _ (hc i _ cs[i] hT (by simp [hi2]))
  have hx' : a.eval x = .pointer (some ⟨gg, o, none⟩) := hx
  intro K Q hK
  have hs1 : (storeVar t ⟨gg, o, none⟩ (.agg cs)).run P σ.w = .ok () (σ.w.setCells gg o cs.toList) := by
    refine run_storeVar_mid σ.w gg o t cs (fun j hj => ?_) ?_ hone
    · have hcell := r1.cellAt (o + j) (by omega)
      rw [List.getElem?_eq_getElem (by omega)] at hcell
      exact ⟨by rw [hcell]; rfl, r1.frozenAt (o + j)⟩
    · obtain ⟨i, hi2, _, hs, _⟩ := he.get
      rw [hi2]; simp [hs, hcl]
  have hr : (execOp a.eval ⟨d, .store t x y, ty, pos, af, g⟩).run P σ.w = .ok .skip (σ.w.setCells gg o cs.toList) := by
    simp only [execOp, hx', ey]
    simp [Instr.storeAt, Instr.sureAddr, hs1]
  unfold Oper.wp
  rw [hr]
  obtain ⟨cur, hcur, hcs⟩ : ∃ cur, σ.w.heap[gg]? = some (.cells cur e (0, 0)) ∧ o + cs.size ≤ cur.size := by
    rcases r1.2 with ⟨h0, _⟩ | ⟨g2, cap2, cur, h0, _, h3, h4, h5, h6, h7⟩
    · cases h0
    · cases h0
      refine ⟨cur, h3, ?_⟩
      have h8 := congrArg List.length h7
      rw [List.length_take] at h8
      have h9 : cur.toList.length = cur.size := by simp
      omega
  obtain ⟨cur', c1, c2, c3, _, c5, c6⟩ := heap_setCells (b := gg) (e := e) cs.toList o σ.w cur hcur (by simpa using hcs)
  have hstp : Stp k σ ⟨σ.w.setCells gg o cs.toList, σ.st, fun b hb => by rw [c5]; exact σ.lt b hb⟩ :=
    ⟨World.os_setCells _ _ _ _, c6, World.output_setCells _ _ _ _, by (refine .inl ?_; show _ ≤ (σ.w.setCells gg o cs.toList).drawn; rw [drawn_setCells]; exact Nat.le_refl _), by rw [c5]; exact Nat.le_refl _, fun b hb hm => World.heap_setCells_other _ _ _ _ hb (fun e0 => by
      have h4 := r4 gg rfl
      rw [← e0] at h4
      rcases hm with h5 | h5
      · omega
      · exact h5 h4), fun _ _ _ => rfl⟩
  have hcl2 : cs.toList.length = us.length := by simpa using hcl
  refine hK undef _ hstp ⟨setL ls o cs.toList, row_setCells r1 (by omega), by rw [setL_len, setL_len, r2], setL_typed hcl2 (fun j T u hT hu => T.up (hstp.le (by omega)) (r3 j T u hT hu)) (fun j T u hT hu => T.up (hstp.le (by omega)) (hc j T u hT (by simpa using hu))), r4⟩
/-! ### Interface values -/
def Ty.ent (t : TypeId) (r : Rec) : Ty := ⟨fun σ v => ∃ u, v = .iface t u ∧ (Ty.agg (recC r)).has σ u, fun h ⟨u, e, k⟩ => ⟨u, e, Ty.up _ h k⟩⟩
theorem one_ent {t : TypeId} {r : Rec} : One (Ty.ent t r) := fun _ v ⟨u, e, _⟩ => by rw [e]; rfl
theorem y_mkent {x : Operand} {t : TypeId} {fs : Array Field} {r : Rec} (ht : P.underlying t = some (.struct fs)) (hx : At (Ty.agg (recC r)) σ a x) : Yld P ⟨d, .makeInterface t x, ty, pos, af, g⟩ a σ (Ty.ent t r).pr := by
  refine Yld.of_run (v := .iface t (a.eval x)) ?_ ⟨_, rfl, hx⟩
  simp only [execOp]
  simp [Instr.makeInterface, Sem.run_bind, run_underlying ht]
theorem y_asent {x : Operand} {xt t : TypeId} {fs : Array Field} {r : Rec} (ht : P.underlying t = some (.struct fs)) (hx : At (Ty.ent t r) σ a x) : Yld P ⟨d, .typeAssert x xt t true, ty, pos, af, g⟩ a σ (Ty.tup2 (Ty.agg (recC r)) (Ty.bool true)).pr := by
  obtain ⟨u, e, h⟩ := hx
  refine Yld.of_run (v := .tuple #[u, .bool true]) ?_ ⟨u, .bool true, rfl, h, rfl⟩
  simp only [execOp, e]
  simp [Instr.typeAssert, Sem.run_bind, run_underlying ht]
def invOf (P : Program) (t : TypeId) (name : String) : Option FuncId :=
  match P.info? t with
  | some ti => match ti.methods.find? (·.name == name) with
    | some m => match m.path.toList, m.func with
      | [], some (f, false) => some f
      | _, _ => none
    | none => none
  | none => none
theorem y_invoke {q : Operand} {name : String} {tys : Array TypeId} {f : FuncId} {fn : Func} {t : TypeId} {fs : Array Field} {r : Rec} {R : Ty} (hq : At (Ty.ent t r) σ a q) (hi : invOf P t name = some f) (ht : P.underlying t = some (.struct fs)) (hf : P.funcs[f]? = some fn) (hn : (fn.name == "runtime.NumGoroutine") = false) (hb : fn.body.isNone = false)
    (hc : ∀ u, (Ty.agg (recC r)).has σ u → FnC P f #[u] σ R) : Yld P ⟨d, .call ⟨.invoke q name, #[], tys⟩, ty, pos, af, g⟩ a σ R.pr := by
  intro K Q hk
  obtain ⟨u, e, h⟩ := hq
  have hm : ∀ n, (method (n + 1) t u name).run P σ.w = .ok (f, u) σ.w := by
    intro n
    unfold invOf at hi
    split at hi
    · rename_i ti hti
      split at hi
      · rename_i m hmf
        split at hi
        · rename_i hp hfn
          cases hi
          unfold method
          simp [Sem.run_bind, typeInfo, program, Sem.run, hti, hmf, hp, hfn, follow, receiverAt, run_underlying ht, Place.get]
        · cases hi
      · cases hi
    · cases hi
  have hr : (execOp a.eval ⟨d, .call ⟨.invoke q name, #[], tys⟩, ty, pos, af, g⟩).run P σ.w = .ok (.enter f #[u]) σ.w := by
    have hn' : ¬ fn.name = "runtime.NumGoroutine" := by simpa using hn
    have hb' : ¬ fn.body = none := by intro e; simp [e] at hb
    simp only [execOp, resolve, e]
    have hm2 := hm (P.types.size + 99)
    simp only [invoke, Sem.run_bind, Sem.run_pure, Result.andThen_ok]
    have hm3 : (method (P.types.size + Made.depth) t u name).run P σ.w = .ok (f, u) σ.w := hm2
    have he : (#[Value.iface t u] ++ Array.map a.eval #[])[0]? = some (Value.iface t u) := by simp
    have he2 : (#[Value.iface t u] ++ Array.map a.eval #[]).extract 1 = #[] := by simp
    rw [he, he2]
    have hp : (program).run P σ.w = .ok P σ.w := rfl
    unfold callMethod
    simp only [Sem.run_bind, hp, Result.andThen_ok, hm3]
    simp [callFunc, hf, hn', hb', program, Sem.run, Sem.run_bind]
  unfold Oper.wp
  rw [hr]
  refine Calls.mono (hc u h) ?_
  rintro e w' ⟨v, τ, rfl, hs, rfl, hv⟩
  exact hk v τ hs hv
end
end Go.KL

/- Bits of numbers of 32 and of 8 bits; a text's check. -/
namespace Go.KL
open Go.RowKit
section
variable {P : Program} {d : Option Tmp} {ty : TypeId} {pos : String} {af : Array Edge} {g : Option (Nat × Bool)} {a : Act} {σ : GW}
theorem y_mul33 {x y : Operand} {t u : TypeId} {h : Nat} (hx : a.eval x = .int .u32 ((h : Nat) : Int)) (hy : a.eval y = .int .u32 33) : Yld P ⟨d, .binOp .mul t x y u, ty, pos, af, g⟩ a σ (Ty.val (.int .u32 ((h * 33 % 4294967296 : Nat) : Int))).pr := by
  have e : IntKind.u32.wrap (((h : Nat) : Int) * 33) = ((h * 33 % 4294967296 : Nat) : Int) := by
    simp [IntKind.wrap, IntKind.bits, IntKind.signed]
  exact Yld.of_run (v := .int .u32 ((h * 33 % 4294967296 : Nat) : Int)) (by simp only [execOp, hx, hy]; simp only [go_sem, e]; try rfl) rfl
theorem y_xor32 {x y : Operand} {t u : TypeId} {m n : Nat} (hx : a.eval x = .int .u32 ((m : Nat) : Int)) (hy : a.eval y = .int .u32 ((n : Nat) : Int)) (hm : m < 4294967296) (hn : n < 4294967296) : Yld P ⟨d, .binOp .xor t x y u, ty, pos, af, g⟩ a σ (Ty.val (.int .u32 ((m ^^^ n : Nat) : Int))).pr := by
  have e := u32_xor_nat m n hm hn
  exact Yld.of_run (v := .int .u32 ((m ^^^ n : Nat) : Int)) (by simp only [execOp, hx, hy]; simp only [go_sem, e]; try rfl) rfl
end
def ckT (l : List UInt8) (i : Nat) : Nat := chk (l.take i)
theorem ckT_lt {l : List UInt8} {i : Nat} : ckT l i < 4294967296 := chk_lt
theorem ckT_succ {l : List UInt8} {i : Nat} (h : i < l.length) : ckT l (i + 1) = ckS (ckT l i) (l.getD i 0) := by
  unfold ckT chk
  rw [List.take_add_one, List.foldl_append]
  simp [List.getD_eq_getElem?_getD, h]
theorem ckT_all {l : List UInt8} : ckT l l.length = chk l := by unfold ckT; rw [List.take_length]
end Go.KL

/- Contracts of the shelf, as contracts here. -/
namespace Go.KL
variable {P : Program}
def GW.grow (σ : GW) (w' : World) (h : σ.w.heap.size ≤ w'.heap.size) : GW := ⟨w', fun b => if b < σ.w.heap.size then σ.st b else 0, fun b hb => by
  by_cases hlt : b < σ.w.heap.size
  · omega
  · simp [hlt] at hb⟩
theorem GW.grow_stp {σ : GW} {w' : World} (h : RowKit.Below σ.w.heap.size σ.w w') : Stp 0 σ (σ.grow w' h.size) :=
  ⟨h.os, h.tape, h.output, .inr trivial, h.size, fun b hb _ => h.block b hb, fun b hb _ => by simp [GW.grow, hb]⟩
theorem fnc_below {f : FuncId} {args : Array Value} {σ : GW} {R : Ty} {v : Value} (h : Calls P f args σ.w fun e w' => e = .returned v ∧ RowKit.Below σ.w.heap.size σ.w w') (hR : ∀ τ, R.has τ v) : FnC P f args σ R := by
  refine Calls.mono h ?_
  rintro e w' ⟨rfl, hb⟩
  exact ⟨v, σ.grow w' hb.size, rfl, GW.grow_stp hb, rfl, hR _⟩
end Go.KL

/- A global that is there; errors held against nil; numbers read by the library. -/
namespace Go.KL
variable {P : Program}
def Glb (G : Nat) (σ : GW) : Prop := σ.st G = 1 ∧ ∃ ev, σ.w.cell? ⟨G, 0, none⟩ = some ev ∧ (ev = .nilIface ∨ ∃ te pe, ev = .iface te pe)
theorem Glb.up {G : Nat} {σ τ : GW} (h : σ.Le τ) (k : Glb G σ) : Glb G τ := by
  obtain ⟨h1, ev, h2, h3⟩ := k
  exact ⟨h.st G h1, ev, by rw [World.cell?_of_block (w := σ.w) (h.blk G h1)]; exact h2, h3⟩
theorem Glb.fl {G : Nat} {L : List Nat} {σ τ : GW} (h : FromL L σ τ) (hL : L.all (2 ≤ ·) = true) (k : Glb G σ) : Glb G τ := by
  have k1 := k.1
  have hn : σ.st G ∉ L := fun hm => by
    have := List.all_eq_true.1 hL _ hm
    rw [k1] at this
    simp at this
  have hlt := σ.lt G (by omega)
  obtain ⟨_, ev, h2, h3⟩ := k
  exact ⟨(h.stp.st G hlt hn).trans k1, ev, by rw [World.cell?_of_block (w := σ.w) (h.stp.blk G hlt hn)]; exact h2, h3⟩
def isNilV : Value → Bool
  | .nilIface => true
  | _ => false
def ErrV (ev : Value) : Prop := ev = .nilIface ∨ ∃ te pe, ev = .iface te pe
section
variable {σ : GW} {a : Act} {d : Option Tmp} {ty : TypeId} {pos : String} {af : Array Edge} {g : Option (Nat × Bool)}
end
theorem fnl_below {f : FuncId} {args : Array Value} {σ : GW} {R : Value → GW → Prop} (h : Calls P f args σ.w fun e w' => ∃ v, e = .returned v ∧ RowKit.Below σ.w.heap.size σ.w w' ∧ ∀ τ, R v τ) : FnL P f args σ [] R := by
  refine Calls.mono h ?_
  rintro e w' ⟨v, rfl, hb, hR⟩
  exact ⟨v, σ.grow w' hb.size, rfl, (GW.grow_stp hb).toL0, rfl, hR _⟩
end Go.KL

/- The library's variables that are read: two errors and a table; numbers read and printed; texts joined. -/
namespace Go.KL
open Go.Lib Go.RowKit Go.Sort
variable {P : Program}
def Tab (P : Program) (n : String) (k : IntKind) (zs : List Int) (σ : GW) : Prop := ∃ g, P.globalNamed n = some g ∧ σ.st g = 1 ∧ TabIs P σ.w n k zs
theorem tab_blk {n : String} {k : IntKind} {zs : List Int} {g : Nat} {w w' : World} (h1 : P.globalNamed n = some g) (hb : w'.heap[g]? = w.heap[g]?) (h : TabIs P w n k zs) : TabIs P w' n k zs := by
  unfold TabIs World.var? at h ⊢
  rw [h1] at h ⊢
  simp only [Option.bind_some] at h ⊢
  rw [hb]; exact h
theorem Tab.up {n : String} {k : IntKind} {zs : List Int} {σ τ : GW} (h : σ.Le τ) : Tab P n k zs σ → Tab P n k zs τ := fun ⟨g, h1, h2, h3⟩ => ⟨g, h1, h.st g h2, tab_blk h1 (h.blk g h2) h3⟩
theorem Tab.fl {n : String} {k : IntKind} {zs : List Int} {L : List Nat} {σ τ : GW} (h : FromL L σ τ) (hL : L.all (2 ≤ ·) = true) : Tab P n k zs σ → Tab P n k zs τ := fun ⟨g, h1, h2, h3⟩ => by
  have hn : σ.st g ∉ L := fun hm => by
    have := List.all_eq_true.1 hL _ hm
    rw [h2] at this
    simp at this
  have hlt := σ.lt g (by omega)
  exact ⟨g, h1, (h.stp.st g hlt hn).trans h2, tab_blk h1 (h.stp.blk g hlt hn) h3⟩
def p10N : String := "internal/strconv.uint64pow10"
structure Gbk (P : Program) (A B : Nat) (σ : GW) : Prop where
  syn : Glb A σ
  ran : Glb B σ
  tab : Tab P p10N .u64 pow10Tab σ
theorem Gbk.up {A B : Nat} {σ τ : GW} (h : σ.Le τ) (k : Gbk P A B σ) : Gbk P A B τ := ⟨Glb.up h k.syn, Glb.up h k.ran, Tab.up h k.tab⟩
theorem Gbk.fl {A B : Nat} {L : List Nat} {σ τ : GW} (h : FromL L σ τ) (hL : L.all (2 ≤ ·) = true) (k : Gbk P A B σ) : Gbk P A B τ := ⟨Glb.fl h hL k.syn, Glb.fl h hL k.ran, Tab.fl h hL k.tab⟩
theorem Tab.is {n : String} {k : IntKind} {zs : List Int} {σ : GW} (h : Tab P n k zs σ) : TabIs P σ.w n k zs := h.elim fun _ h => h.2.2
theorem fnc_grow {f : FuncId} {args : Array Value} {σ : GW} {R : Ty} {v : Value} (h : Calls P f args σ.w fun e w' => e = .returned v ∧ ∃ k os, w' = grow (σ.w.drewN k) os) (hR : ∀ τ, R.has τ v) : FnC P f args σ R :=
  fnc_below (v := v) (h.mono fun _ _ ⟨h1, k, os, h2⟩ => ⟨h1, h2 ▸ below_grow _ _ (Nat.le_refl _) k os⟩) hR
/-! ### Numbers read -/
def AtA (s : ByteArray) (n : Int) (ev : Value) : Prop := ErrV ev ∧ (-9223372036854775808 ≤ n ∧ n ≤ 9223372036854775807) ∧ ((isNilV ev = true ∧ atoiAll s.data.toList = .ok n) ∨ (isNilV ev = false ∧ ∀ v, atoiAll s.data.toList ≠ .ok v))
theorem ata_of {f : FuncId} {s : ByteArray} {σ : GW} {ti : TypeId} {te : TypeId} {G H : Nat} (hs : Glb G σ) (hg : Glb H σ)
    (hok : ∀ v, Lib.atoiAll s.data.toList = .ok v → Calls P f #[.string s] σ.w fun e w' => e = .returned (.tuple #[.int .i64 v, .nilIface]) ∧ (w' = σ.w ∨ ∃ t, w' = Lib.bytesWorld σ.w ti t))
    (hsy : (∀ v, Lib.atoiAll s.data.toList ≠ .ok v) → Lib.atoiAll s.data.toList ≠ .range → ∀ ev, σ.w.cell? ⟨G, 0, none⟩ = some ev → (ev = .nilIface ∨ ∃ te pe, ev = .iface te pe) → Calls P f #[.string s] σ.w fun e w' => ∃ N, e = .returned (.tuple #[.int .i64 0, .iface te (.pointer (some ⟨N, 0, none⟩))]) ∧ RowKit.Below σ.w.heap.size σ.w w')
    (hra : Lib.atoiAll s.data.toList = .range → ∀ ev, σ.w.cell? ⟨H, 0, none⟩ = some ev → (ev = .nilIface ∨ ∃ te pe, ev = .iface te pe) → Calls P f #[.string s] σ.w fun e w' => ∃ N, e = .returned (.tuple #[.int .i64 (Lib.atoiSat s.data.toList), .iface te (.pointer (some ⟨N, 0, none⟩))]) ∧ RowKit.Below σ.w.heap.size σ.w w') :
    FnL P f #[.string s] σ [] (fun v τ => ∃ (n : Int) (ev : Value), (Ty.has (.tup2 (.int n) (.val ev)) τ v) ∧ AtA s n ev) := by
  refine fnl_below ?_
  cases e : Lib.atoiAll s.data.toList
  · rename_i v
    refine (hok v e).mono ?_
    rintro e1 w' ⟨rfl, hw⟩
    have hb := Lib.atoiAll_bounds e
    refine ⟨_, rfl, ?_, fun τ => ⟨v, .nilIface, ⟨_, _, rfl, rfl, rfl⟩, .inl rfl, hb, .inl ⟨rfl, e⟩⟩⟩
    rcases hw with rfl | ⟨t, rfl⟩
    · exact RowKit.Below.refl _ _
    · exact Lib.bytesWorld_below _ _ _
  · obtain ⟨_, ev, hv, hev⟩ := hs
    refine (hsy (fun v h => by rw [e] at h; cases h) (fun h => by rw [e] at h; cases h) ev hv hev).mono ?_
    rintro e1 w' ⟨N, rfl, hb⟩
    exact ⟨_, rfl, hb, fun τ => ⟨0, _, ⟨_, _, rfl, rfl, rfl⟩, .inr ⟨_, _, rfl⟩, ⟨by decide, by decide⟩, .inr ⟨rfl, fun v h => by rw [e] at h; cases h⟩⟩⟩
  · obtain ⟨_, ev, hv, hev⟩ := hg
    refine (hra e ev hv hev).mono ?_
    rintro e1 w' ⟨N, rfl, hb⟩
    exact ⟨_, rfl, hb, fun τ => ⟨_, _, ⟨_, _, rfl, rfl, rfl⟩, .inr ⟨_, _, rfl⟩, Lib.atoiSat_bounds _, .inr ⟨rfl, fun v h => by rw [e] at h; cases h⟩⟩⟩
theorem atoi_dec {m : Nat} (h : m ≤ 9223372036854775807) : atoiAll (decDigits m) = .ok (m : Int) := by
  have hd : ∀ b ∈ decDigits m, isDig b := decDigits_dig m
  have hx := exN_dec m
  cases e : decDigits m with
  | nil => exact absurd e (decDigits_ne m)
  | cons c r =>
    rw [e] at hd hx
    have hc := hd c (by simp)
    unfold isDig at hc
    have e1 : (if c.toNat = 43 ∨ c.toNat = 45 then r else c :: r) = c :: r := if_neg (by omega)
    have hM : parseMag (c :: r) = parseUint10 0 (c :: r) := by unfold parseMag; rw [if_neg (by simp)]
    have hn : ¬ c.toNat = 45 := by omega
    rcases parse_dig (c :: r) 0 hd with h1 | ⟨h1, h64⟩
    · rw [hx] at h1
      simp only [atoiAll, e1, hM, h1]
      rw [if_neg (fun e => by omega), if_neg (fun e => hn e.1), if_neg hn]
    · omega
def NumBk (s : ByteArray) (n : Int) (b : Bool) : Prop := (b = true → 0 ≤ n ∧ n ≤ 9223372036854775807 ∧ s.data.toList = decDigits n.toNat) ∧ (b = false → ∀ m, m ≤ 9223372036854775807 → s.data.toList ≠ decDigits m)
theorem numP_of {s : ByteArray} {n : Int} {ev : Value} (h : AtA s n ev) {b : Bool} (hb : b = true ↔ (isNilV ev = true ∧ 0 ≤ n ∧ bsL (decDigits n.toNat) = s)) : NumBk s n b := by
  refine ⟨fun e => ?_, fun e m hm hs => ?_⟩
  · obtain ⟨h1, h2, h3⟩ := hb.1 e
    rcases h.2.2 with h4 | h4
    · exact ⟨h2, h.2.1.2, by rw [← h3, data_bsL]⟩
    · rw [h4.1] at h1; cases h1
  · have h1 := atoi_dec hm
    rw [← hs] at h1
    rcases h.2.2 with h4 | h4
    · rw [h1] at h4
      have h5 : (m : Int) = n := by have := h4.2; injection this
      have : b = true := hb.2 ⟨h4.1, by omega, by rw [show n.toNat = m by omega, ← hs, bsL_data]⟩
      rw [this] at e; cases e
    · exact h4.2 _ h1
theorem parts_two {body : List UInt8} {l : List ByteArray} {n k : Int} {b c : Bool} (hl : l = cutT 124 (bsL body)) (h4 : l.length = 4) (h1 : NumBk (l.getD 0 ByteArray.empty) n b) (h2 : NumBk (l.getD 1 ByteArray.empty) k c) :
    partsR body = if b = true ∧ c = true then some (n, k, l.getD 2 ByteArray.empty, cutT 44 (l.getD 3 ByteArray.empty)) else none := by
  unfold cutT at hl
  rw [data_bsL] at hl
  unfold partsR
  match hc : cutL 124 body with
  | [] => rw [hc] at hl; subst hl; simp at h4
  | [_] => rw [hc] at hl; subst hl; simp at h4
  | [_, _] => rw [hc] at hl; subst hl; simp at h4
  | [_, _, _] => rw [hc] at hl; subst hl; simp at h4
  | _ :: _ :: _ :: _ :: _ :: _ => rw [hc] at hl; subst hl; simp at h4
  | [x, y, m, q] =>
    rw [hc] at hl
    subst hl
    simp only [List.map_cons, List.map_nil, List.getD_cons_zero, List.getD_cons_succ] at h1 h2 ⊢
    have key : ∀ {z : List UInt8} {n : Int} {b : Bool}, NumBk (bsL z) n b → (b = true → decDigits (exN 0 z) = z ∧ exN 0 z < 9223372036854775808 ∧ ((exN 0 z : Nat) : Int) = n) ∧ (b = false → ¬ (decDigits (exN 0 z) = z ∧ exN 0 z < 9223372036854775808)) := by
      intro z n b h
      unfold NumBk at h
      rw [data_bsL] at h
      refine ⟨fun e => ?_, fun e k => ?_⟩
      · obtain ⟨g1, g2, g3⟩ := h.1 e
        have g4 := exN_dec n.toNat
        rw [← g3] at g4
        rw [g4]
        exact ⟨g3.symm, by omega, by omega⟩
      · exact h.2 e (exN 0 z) (by omega) k.1.symm
    have k1 := key h1
    have k2 := key h2
    cases b with
    | false => rw [if_neg (fun e => (k1.2 rfl) ⟨e.1, e.2.1⟩), if_neg (by simp)]
    | true =>
      cases c with
      | false => rw [if_neg (fun e => (k2.2 rfl) ⟨e.2.2.1, e.2.2.2⟩), if_neg (by simp)]
      | true =>
        obtain ⟨g1, g2, g3⟩ := k1.1 rfl
        obtain ⟨g4, g5, g6⟩ := k2.1 rfl
        rw [if_pos ⟨g1, g2, g4, g5⟩, if_pos ⟨rfl, rfl⟩, g3, g6]
        simp [cutT, data_bsL]
section
variable {σ : GW} {a : Act} {d : Option Tmp} {ty : TypeId} {pos : String} {af : Array Edge} {g : Option (Nat × Bool)}
theorem y_eqnil {t u : TypeId} {x : Operand} {ev : Value} (ht : P.underlying t = some (.interface (P.methodsAt t))) (hx : a.eval x = ev) (h : ErrV ev) :
    Yld P ⟨d, .binOp .eql t x (.const .nilIface) u, ty, pos, af, g⟩ a σ (Ty.bool (isNilV ev)).pr := by
  rcases h with rfl | ⟨te, pe, rfl⟩
  · exact Yld.of_run (v := .bool true) (by simp only [execOp, hx]; simp [go_sem, eqGuard, Act.eval, run_eql_nil_nil σ.w t ht]) rfl
  · exact Yld.of_run (v := .bool false) (by simp only [execOp, hx]; simp [go_sem, eqGuard, Act.eval, run_eql_held_nil σ.w t te pe ht]) rfl
end
/-! ### Texts joined -/
theorem lst_strs {σ : GW} {v : Value} {xs : List ByteArray} (h : Ty.has (Ty.lst Ty.str xs) σ v) : (∃ a c, v = .slice a 0 c ∧ xs = []) ∨ ∃ b o c, v = .slice (some ⟨b, o, none⟩) xs.length c ∧ xs.length ≤ c ∧ b < σ.w.heap.size ∧ ∀ (j : Nat) x, xs[j]? = some x → σ.w.cell? ⟨b, o + j, none⟩ = some (.string x) := by
  obtain ⟨a, cap, b, o, rfl, hn, hl, hs, hc⟩ := h
  rcases hs with hs | ⟨rfl, hs⟩
  · refine .inl ⟨a, cap, ?_⟩
    have : xs = [] := by simpa using hs
    subst this
    exact ⟨rfl, rfl⟩
  · refine .inr ⟨b, o, cap, rfl, hn.1, σ.lt b (by omega), fun j x hj => ?_⟩
    obtain ⟨u, hu, hT⟩ := hc j (Ty.str x) (by rw [List.getElem?_map, hj]; rfl)
    rw [hu, show u = _ from hT]
def jnB (xs : List ByteArray) : ByteArray := bsL (joinR xs)
theorem join_of {f : FuncId} {σ : GW} {v : Value} {xs : List ByteArray} {sep : ByteArray} (h : Ty.has (Ty.lst Ty.str xs) σ v)
    (h0 : ∀ a c, Calls P f #[.slice a 0 c, .string sep] σ.w fun e w' => e = .returned (.string ⟨#[]⟩) ∧ w' = σ.w)
    (h1 : ∀ b o c, (∀ (j : Nat) x, xs[j]? = some x → σ.w.cell? ⟨b, o + j, none⟩ = some (.string x)) → b < σ.w.heap.size → xs.length ≤ c → Calls P f #[.slice (some ⟨b, o, none⟩) xs.length c, .string sep] σ.w fun e w' => e = .returned (.string ⟨(join (xs.map (·.data.toList)) sep.data.toList).toArray⟩) ∧ Below σ.w.heap.size σ.w w') :
    FnC P f #[v, .string sep] σ (Ty.str (bsL (join (xs.map (·.data.toList)) sep.data.toList))) := by
  rcases lst_strs h with ⟨a, c, rfl, rfl⟩ | ⟨b, o, c, rfl, hc, hb, hcells⟩
  · exact fnc_below ((h0 a c).mono fun _ _ ⟨h2, h3⟩ => ⟨h2, h3 ▸ Below.refl _ _⟩) (fun τ => rfl)
  · exact fnc_below (h1 b o c hcells hb hc) (fun τ => rfl)
end Go.KL

/- Records looked through; what is read, by steps. -/
namespace Go.KL
open Go.Lib Go.RowKit
/-! ### Perhaps a record behind an interface -/
def Ty.ento (t : TypeId) (o : Option Rec) : Ty := ⟨fun σ v => ∀ r, o = some r → (Ty.ent t r).has σ v, fun h k r hr => Ty.up _ h (k r hr)⟩
theorem ento_is {t : TypeId} {o : Option Rec} {r : Rec} {σ : GW} {v : Value} (h : ∀ q, o = some q → q = r) (hx : (Ty.ent t r).has σ v) : (Ty.ento t o).has σ v := fun q hq => by rw [h q hq]; exact hx
theorem ento_none {t : TypeId} {o : Option Rec} {σ : GW} {v : Value} (h : o = none) : (Ty.ento t o).has σ v := fun q hq => by rw [h] at hq; cases hq
theorem ento_some {t : TypeId} {o : Option Rec} {r : Rec} {σ : GW} {v : Value} (h : o = some r) (hx : (Ty.ento t o).has σ v) : (Ty.ent t r).has σ v := hx r h
/-! ### May it be? -/
section
variable {dy ch : Int} {mt : ByteArray} {rg : List ByteArray} {k : Nat}
theorem may_val (h : dy < 0 ∨ 1000000 < dy ∨ ch < 1 ∨ 1000000 < ch) : mayR (dy, ch, mt, rg) = 12 := by unfold mayR; rw [if_pos h]
theorem may_name (h : ¬ (dy < 0 ∨ 1000000 < dy ∨ ch < 1 ∨ 1000000 < ch)) (h2 : nameL mt = false) : mayR (dy, ch, mt, rg) = 7 := by unfold mayR; rw [if_neg h, if_pos h2]
theorem may_cnt (h : ¬ (dy < 0 ∨ 1000000 < dy ∨ ch < 1 ∨ 1000000 < ch)) (h2 : nameL mt = true) (h3 : rg.length < 1 ∨ 12 < rg.length) : mayR (dy, ch, mt, rg) = 1 := by
  unfold mayR; rw [if_neg h, if_neg (by show ¬ nameL mt = false; rw [h2]; simp), if_pos h3]
theorem may_run (h : ¬ (dy < 0 ∨ 1000000 < dy ∨ ch < 1 ∨ 1000000 < ch)) (h2 : nameL mt = true) (h3 : ¬ (rg.length < 1 ∨ 12 < rg.length)) : rgM (rg.take 0) (rg.drop 0) = mayR (dy, ch, mt, rg) := by
  unfold mayR; rw [if_neg h, if_neg (by show ¬ nameL mt = false; rw [h2]; simp), if_neg h3]; rfl
theorem rg_drop (h : k < rg.length) : rg.drop k = rg.getD k ByteArray.empty :: rg.drop (k + 1) := by
  rw [List.drop_eq_getElem_cons h]; simp [List.getD_eq_getElem?_getD, h]
theorem rg_name {z : Int} (h : k < rg.length) (hq : rgM (rg.take k) (rg.drop k) = z) (hn : nameL (rg.getD k ByteArray.empty) = false) : z = 7 := by
  rw [rg_drop h, rgM_cons, if_pos hn] at hq; exact hq.symm
theorem rg_dbl {z : Int} (h : k < rg.length) (hq : rgM (rg.take k) (rg.drop k) = z) (hn : nameL (rg.getD k ByteArray.empty) = true) (hd : hasSt (rg.take k) (rg.getD k ByteArray.empty) = true) : z = 8 := by
  rw [rg_drop h, rgM_cons, if_neg (by rw [hn]; simp), if_pos hd] at hq; exact hq.symm
theorem rg_step {z : Int} (h : k < rg.length) (hq : rgM (rg.take k) (rg.drop k) = z) (hn : nameL (rg.getD k ByteArray.empty) = true) (hd : hasSt (rg.take k) (rg.getD k ByteArray.empty) = false) : rgM (rg.take (k + 1)) (rg.drop (k + 1)) = z := by
  rw [rg_drop h, rgM_cons, if_neg (by rw [hn]; simp), if_neg (by rw [hd]; simp)] at hq
  rw [List.take_add_one, show rg[k]? = some (rg.getD k ByteArray.empty) by simp [List.getD_eq_getElem?_getD, h]]
  exact hq
theorem rg_end {z : Int} (h : ¬ k < rg.length) (hq : rgM (rg.take k) (rg.drop k) = z) : z = 0 := by
  rw [List.drop_eq_nil_of_le (by omega)] at hq; exact hq.symm
end
theorem getD_memS {rg : List ByteArray} {k : Nat} (h : k < rg.length) : rg.getD k ByteArray.empty ∈ rg := by
  rw [List.getD_eq_getElem?_getD, List.getElem?_eq_getElem h]; exact List.getElem_mem h
/-! ### Texts looked for -/
def idxB (xs : List ByteArray) (x : ByteArray) : Int := if hasSt xs x = true then ((xs.findIdx (fun y => decide (y = x)) : Nat) : Int) else -1
theorem idxB_yes {xs : List ByteArray} {x : ByteArray} {k : Nat} (h : k < xs.length) (e : x = xs.getD k ByteArray.empty) (hno : ∀ j, j < k → xs.getD j ByteArray.empty ≠ x) : idxB xs x = k := by
  have hg : ∀ j (hj : j < xs.length), xs[j] = xs.getD j ByteArray.empty := fun j hj => by simp [List.getD_eq_getElem?_getD, hj]
  have hm : hasSt xs x = true := hasSt_iff.2 (by rw [e, ← hg k h]; exact List.getElem_mem h)
  unfold idxB
  rw [if_pos hm]
  congr 1
  rw [List.findIdx_eq h]
  refine ⟨decide_eq_true (by rw [hg k h]; exact e.symm), fun j hj => ?_⟩
  have := hno j hj
  rw [← hg j (by omega)] at this
  simpa using this
theorem idxB_no {xs : List ByteArray} {x : ByteArray} (hno : ∀ j, j < xs.length → xs.getD j ByteArray.empty ≠ x) : idxB xs x = -1 := by
  unfold idxB
  rw [if_neg]
  intro hm
  obtain ⟨j, hj, e⟩ := List.getElem_of_mem (hasSt_iff.1 hm)
  exact hno j hj (by rw [← e]; simp [List.getD_eq_getElem?_getD, hj])
theorem idxB_has {xs : List ByteArray} {x : ByteArray} : decide (0 ≤ idxB xs x) = hasSt xs x := by
  unfold idxB
  by_cases h : hasSt xs x = true
  · rw [if_pos h, h]; simp
  · rw [if_neg h]; simp at h; rw [h]; rfl
theorem ix_self {s : ByteArray} (h : s.size = 1) : indexByte s.data.toList (s.get! 0) = 0 := by
  have hl : 0 < s.data.toList.length := by simp; omega
  have hg : s.get! 0 = s.data.toList[0] := get_list (by omega)
  rw [hg]
  exact (by
    intro l hl
    cases l with
    | nil => simp at hl
    | cons c r => simp [indexByte] : ∀ (l : List UInt8) (hl : 0 < l.length), indexByte l l[0] = 0) _ hl
/-! ### Cut -/
def cutA (c : UInt8) (s : ByteArray) : ByteArray := if indexByte s.data.toList c = -1 then s else bsL (s.data.toList.take (indexByte s.data.toList c).toNat)
def cutZ (c : UInt8) (s : ByteArray) : ByteArray := if indexByte s.data.toList c = -1 then ByteArray.empty else bsL (s.data.toList.drop ((indexByte s.data.toList c).toNat + 1))
theorem cutA_yes {c : UInt8} {s : ByteArray} {o : Nat} (h : indexByte s.data.toList c = o) : ByteArray.extract s 0 o = cutA c s := by
  unfold cutA; rw [h, if_neg (by omega), ext_bsL]; simp
theorem cutZ_yes {c : UInt8} {s : ByteArray} {o : Nat} (h : indexByte s.data.toList c = o) : ByteArray.extract s (o + 1) s.size = cutZ c s := by
  unfold cutZ; rw [h, if_neg (by omega), ext_bsL]
  rw [List.take_of_length_le (by simp)]; rfl
theorem cutA_no {c : UInt8} {s : ByteArray} (h : indexByte s.data.toList c = -1) : s = cutA c s := by unfold cutA; rw [if_pos h]
theorem cutZ_no {c : UInt8} {s : ByteArray} (h : indexByte s.data.toList c = -1) : ByteArray.empty = cutZ c s := by unfold cutZ; rw [if_pos h]
section
variable {c : UInt8} {ys T : List ByteArray} {L : List UInt8} {i j : Nat} {s : ByteArray}
theorem ctc_yes (hq : ys ++ (addH ((L.take i).drop j) (cutL c (L.drop i))).map bsL = T) (hc : (s.get! i).toNat = c.toNat) (hi : i < L.length) (hL : L = s.data.toList) : (ys ++ [s.extract j i]) ++ (addH ((L.take (i + 1)).drop (i + 1)) (cutL c (L.drop (i + 1)))).map bsL = T := by
  have hb : L[i] = c := UInt8.toNat_inj.1 (by rw [← get_L hL hi, hc])
  rw [drop_b hi, hb, addH_yes] at hq
  rw [List.drop_eq_nil_of_le (by rw [List.length_take]; omega), addH_nil, ext_bsL, ← hL, ← hq]
  simp
theorem ctc_no (hq : ys ++ (addH ((L.take i).drop j) (cutL c (L.drop i))).map bsL = T) (hc : (s.get! i).toNat ≠ c.toNat) (hj : j ≤ i) (hi : i < L.length) (hL : L = s.data.toList) : ys ++ (addH ((L.take (i + 1)).drop j) (cutL c (L.drop (i + 1)))).map bsL = T := by
  have hb : L[i] ≠ c := fun e => hc (by rw [get_L hL hi, e])
  rw [drop_b hi, addH_no hb] at hq
  rw [take_b hi hj, hq]
theorem ctc_end (hq : ys ++ (addH ((L.take i).drop j) (cutL c (L.drop i))).map bsL = T) (hi : i = L.length) (hL : L = s.data.toList) : ys ++ [s.extract j s.size] = T := by
  rw [hi, List.drop_length, List.take_length] at hq
  have hs : s.size = L.length := by rw [hL]; simp
  rw [ext_bsL, ← hL, hs, List.take_length, ← hq]
  simp [cutL, addH]
end
/-! ### A check, byte by byte -/
theorem ckT_step {s : ByteArray} {k : Nat} (h : k < s.size) : (ckT s.data.toList k * 33 % 4294967296) ^^^ (s.get! k).toNat = ckT s.data.toList (k + 1) := by
  have hl : k < s.data.toList.length := by simpa using h
  rw [ckT_succ hl]
  unfold ckS
  congr 2
  rw [get_list h, List.getD_eq_getElem?_getD, List.getElem?_eq_getElem hl]; rfl
theorem ckT_end {s : ByteArray} {k : Nat} (h : k = s.size) : ckT s.data.toList k = chk s.data.toList := by
  subst h
  have := ckT_all (l := s.data.toList)
  rwa [show s.data.toList.length = s.size by simp] at this
/-! ### The document's numbers -/
def dcB (n : Nat) : ByteArray := bsL (decDigits n)
theorem dec_small {n : Nat} (h : n < 10) : bsL [UInt8.ofNat (48 + n)] = dcB n := by unfold dcB; rw [decDigits, dif_pos h]
theorem dec_great {n : Nat} (h : ¬ n < 10) : dcB (n / 10) ++ bsL [UInt8.ofNat (48 + n % 10)] = dcB n := by
  conv => rhs; unfold dcB; rw [decDigits, dif_neg h]
  unfold dcB
  apply ByteArray.ext; simp [bsL]
theorem dcB_le {n : Nat} (h : n < 18446744073709551616) : (dcB n).size ≤ 20 := by unfold dcB; rw [bsL_size, decDigits_length]; exact nDigits_le20 n h
/-! ### A line, put together -/
theorem ba_list {x y : ByteArray} (h : x.data.toList = y.data.toList) : x = y := by rw [← bsL_data x, h, bsL_data]
theorem body_eq {dy ch : Int} {mt : ByteArray} {rg : List ByteArray} : (((((dcB dy.toNat ++ ByteArray.mk #[124]) ++ dcB ch.toNat) ++ ByteArray.mk #[124]) ++ mt) ++ ByteArray.mk #[124]) ++ jnB rg = bsL (bodyR (dy, ch, mt, rg)) := by
  apply ba_list
  rw [data_bsL]
  simp [bodyR, dcB, jnB, bsL]
theorem line_eq {r : Rec} : ((bsL (bodyR r) ++ ByteArray.mk #[35]) ++ dcB (chk (ByteArray.data (bsL (bodyR r))).toList)) ++ ByteArray.mk #[10] = bsL (lineR r) := by
  apply ba_list
  rw [data_bsL, data_bsL]
  simp [lineR, stamp, dcB, bsL]
theorem body_len {r : Rec} (h : mayR r = 0) (h1 : r.2.2.1.size ≤ 1000000) (h2 : (joinR r.2.2.2).length ≤ 1000000) : (bodyR r).length ≤ 3000000 := by
  have hro := mayR_ok h
  have := hro.d0; have := hro.d1; have := hro.c0; have := hro.c1
  have h3 : (decDigits r.1.toNat).length ≤ 20 := by rw [decDigits_length]; exact nDigits_le20 _ (by omega)
  have h4 : (decDigits r.2.1.toNat).length ≤ 20 := by rw [decDigits_length]; exact nDigits_le20 _ (by omega)
  unfold bodyR
  simp only [List.length_append, List.length_cons]
  have h5 : r.2.2.1.data.toList.length = r.2.2.1.size := by simp
  omega
/-! ### A line, read -/
theorem cutl_len {c : UInt8} : ∀ {l : List UInt8}, (∀ p ∈ cutL c l, p.length ≤ l.length) ∧ (cutL c l).length ≤ l.length + 1
  | [] => by simp [cutL]
  | b :: r => by
    obtain ⟨h1, h2⟩ := @cutl_len c r
    rw [cutL]
    split
    · refine ⟨fun p hp => ?_, by simp only [List.length_cons]; omega⟩
      rcases List.mem_cons.1 hp with rfl | hp
      · simp
      · have := h1 p hp; simp only [List.length_cons]; omega
    · cases e : cutL c r with
      | nil => exact absurd e cutL_ne
      | cons q qs =>
        rw [e] at h1 h2
        simp only
        refine ⟨fun p hp => ?_, by simp only [List.length_cons] at h2 ⊢; omega⟩
        rcases List.mem_cons.1 hp with rfl | hp
        · have := h1 q (by simp); simp only [List.length_cons]; omega
        · have := h1 p (by simp [hp]); simp only [List.length_cons]; omega
theorem cutT_sz {c : UInt8} {s p : ByteArray} (h : p ∈ cutT c s) : p.size ≤ s.size := by
  unfold cutT at h
  obtain ⟨q, hq, rfl⟩ := List.mem_map.1 h
  have := cutl_len.1 q hq
  rw [bsL_size]
  simpa using this
theorem cutT_get {c : UInt8} {s : ByteArray} (k : Nat) : ((cutT c s).getD k ByteArray.empty).size ≤ s.size := by
  by_cases h : k < (cutT c s).length
  · exact cutT_sz (getD_memS h)
  · rw [List.getD_eq_getElem?_getD, List.getElem?_eq_none (by omega)]; exact Nat.zero_le _
theorem cutT_n {c : UInt8} {s : ByteArray} : (cutT c s).length ≤ s.size + 1 := by
  unfold cutT
  rw [List.length_map]
  have := (@cutl_len c s.data.toList).2
  simpa using this
theorem cutA_sz {c : UInt8} {s : ByteArray} : (cutA c s).size ≤ s.size := by
  unfold cutA
  split
  · exact Nat.le_refl _
  · rw [bsL_size, List.length_take]; simp; omega
theorem cutA_list {c : UInt8} {s : ByteArray} (h : indexByte s.data.toList c ≠ -1) : cutA c s = bsL (s.data.toList.take (indexByte s.data.toList c).toNat) := by unfold cutA; rw [if_neg h]
theorem dcB_inj {n : Nat} {l : List UInt8} : dcB n = bsL l ↔ decDigits n = l := by
  unfold dcB
  constructor
  · intro h; rw [← data_bsL (decDigits n), h, data_bsL]
  · intro h; rw [h]
theorem rd_bad {s : ByteArray} (h : indexByte s.data.toList 35 = -1 ∨ (cutT 124 (cutA 35 s)).length ≠ 4 ∨ dcB (chk (cutA 35 s).data.toList) ≠ cutZ 35 s) : readR s.data.toList = none := by
  by_cases h1 : indexByte s.data.toList 35 = -1
  · unfold readR; rw [if_pos h1]
  · have h := h.resolve_left h1
    rw [cutA_list h1, data_bsL] at h
    unfold readR
    rw [if_neg h1]
    by_cases h2 : decDigits (chk (s.data.toList.take (indexByte s.data.toList 35).toNat)) = s.data.toList.drop ((indexByte s.data.toList 35).toNat + 1)
    · rw [if_neg (by simpa using h2)]
      have h3 := h.resolve_right (fun k => k (by unfold cutZ; rw [if_neg h1]; exact dcB_inj.2 h2))
      have : partsR (s.data.toList.take (indexByte s.data.toList 35).toNat) = none := by
        unfold partsR
        unfold cutT at h3
        rw [data_bsL, List.length_map] at h3
        split
        · rename_i a b m l e
          rw [e] at h3; simp at h3
        · rfl
      rw [this]
    · rw [if_pos h2]
theorem rd_parts {s : ByteArray} {n k : Int} {b c : Bool} (h35 : indexByte s.data.toList 35 ≠ -1) (h4 : (cutT 124 (cutA 35 s)).length = 4) (hsum : dcB (chk (cutA 35 s).data.toList) = cutZ 35 s)
    (h1 : NumBk ((cutT 124 (cutA 35 s)).getD 0 ByteArray.empty) n b) (h2 : NumBk ((cutT 124 (cutA 35 s)).getD 1 ByteArray.empty) k c) :
    readR s.data.toList = if b = true ∧ c = true then (if mayR (n, k, (cutT 124 (cutA 35 s)).getD 2 ByteArray.empty, cutT 44 ((cutT 124 (cutA 35 s)).getD 3 ByteArray.empty)) = 0 then some (n, k, (cutT 124 (cutA 35 s)).getD 2 ByteArray.empty, cutT 44 ((cutT 124 (cutA 35 s)).getD 3 ByteArray.empty)) else none) else none := by
  have hp := parts_two (body := s.data.toList.take (indexByte s.data.toList 35).toNat) (by rw [← cutA_list h35]) h4 h1 h2
  have hs2 : decDigits (chk (s.data.toList.take (indexByte s.data.toList 35).toNat)) = s.data.toList.drop ((indexByte s.data.toList 35).toNat + 1) := by
    rw [cutA_list h35, data_bsL] at hsum
    unfold cutZ at hsum
    rw [if_neg h35] at hsum
    exact dcB_inj.1 hsum
  unfold readR
  rw [if_neg h35, if_neg (by simpa using hs2), hp]
  by_cases e : b = true ∧ c = true
  · rw [if_pos e, if_pos e]
  · rw [if_neg e, if_neg e]
theorem rd_c1 {s : ByteArray} (c : (((!(!(decide (Lib.indexByte ((ByteArray.data s).toList) 35 = -1)))) || (decide ((((List.length (cutT 124 (cutA 35 s))) : Nat) : Int) ≠ (4 : Int)))) || (!(decide ((dcB ((chk (ByteArray.data ((cutA 35 s))).toList))) = (cutZ 35 s))))) = true) : readR s.data.toList = none := by
  refine rd_bad ?_
  simp only [Bool.not_not, Bool.or_eq_true, decide_eq_true_eq, Bool.not_eq_true', decide_eq_false_iff_not] at c
  rcases c with (h | h) | h
  · exact .inl h
  · exact .inr (.inl (by omega))
  · exact .inr (.inr h)
theorem rd_c0 {s : ByteArray} (c : (((!(!(decide (Lib.indexByte ((ByteArray.data s).toList) 35 = -1)))) || (decide ((((List.length (cutT 124 (cutA 35 s))) : Nat) : Int) ≠ (4 : Int)))) || (!(decide ((dcB ((chk (ByteArray.data ((cutA 35 s))).toList))) = (cutZ 35 s))))) = false) : indexByte s.data.toList 35 ≠ -1 ∧ (cutT 124 (cutA 35 s)).length = 4 ∧ dcB (chk (cutA 35 s).data.toList) = cutZ 35 s := by
  simp only [Bool.not_not, Bool.or_eq_false_iff, decide_eq_false_iff_not, Bool.not_eq_false', decide_eq_true_eq] at c
  exact ⟨c.1.1, by omega, c.2⟩
theorem rd_some {r : Rec} : (if mayR r = 0 then some r else none).isSome = decide (mayR r = 0) := by
  by_cases h : mayR r = 0
  · rw [if_pos h, decide_eq_true h]; rfl
  · rw [if_neg h, decide_eq_false h]; rfl
theorem rd_is {o : Option Rec} {r q : Rec} (h : o = if mayR r = 0 then some r else none) (hq : o = some q) : q = r := by
  rw [h] at hq
  split at hq
  · injection hq with hq; exact hq.symm
  · cases hq
/-! ### A book, opened line by line -/
section
variable {xs : List Rec} {l : List UInt8} {a : Nat} {r : Rec} {T : List Rec × Nat}
theorem cutA_take {c : UInt8} {L : List UInt8} (h : indexByte L c ≠ -1) : (ByteArray.data (cutA c (bsL L))).toList = L.take (indexByte L c).toNat := by
  unfold cutA; rw [data_bsL, if_neg h, data_bsL]
theorem cutA_size {c : UInt8} {L : List UInt8} (h : indexByte L c ≠ -1) : (cutA c (bsL L)).size = (indexByte L c).toNat ∧ (indexByte L c).toNat + 1 ≤ L.length := by
  have hs := congrArg List.length (ix_split h).1
  rw [List.length_append, List.length_cons, List.length_take, List.length_drop] at hs
  have h2 : (cutA c (bsL L)).size = (ByteArray.data (cutA c (bsL L))).toList.length := by simp
  rw [h2, cutA_take h, List.length_take]
  omega
theorem opn_next (hx : xs.length < 1000) (h : indexByte (l.drop a) 10 ≠ -1) (hr : readR ((l.drop a).take (indexByte (l.drop a) 10).toNat) = some r) (hq : xs ++ (opn (1000 - xs.length) (l.drop a)).1 = T.1 ∧ a + (opn (1000 - xs.length) (l.drop a)).2 = T.2) :
    (xs ++ [r]) ++ (opn (1000 - (xs ++ [r]).length) (l.drop (a + ((indexByte (l.drop a) 10).toNat + 1)))).1 = T.1 ∧ (a + ((indexByte (l.drop a) 10).toNat + 1)) + (opn (1000 - (xs ++ [r]).length) (l.drop (a + ((indexByte (l.drop a) 10).toNat + 1)))).2 = T.2 := by
  rw [show 1000 - xs.length = (1000 - (xs ++ [r]).length) + 1 by rw [List.length_append, List.length_singleton]; omega, opn_good h hr, List.drop_drop] at hq
  refine ⟨by rw [← hq.1]; simp, by rw [← hq.2]; simp only; omega⟩
theorem opn_fin0 (hx : ¬ xs.length < 1000) (hx2 : xs.length ≤ 1000) (hq : xs ++ (opn (1000 - xs.length) (l.drop a)).1 = T.1 ∧ a + (opn (1000 - xs.length) (l.drop a)).2 = T.2) : xs = T.1 ∧ a = T.2 := by
  rw [show 1000 - xs.length = 0 by omega] at hq
  simpa [opn] using hq
theorem opn_fin1 (h : indexByte (l.drop a) 10 = -1) (hq : xs ++ (opn (1000 - xs.length) (l.drop a)).1 = T.1 ∧ a + (opn (1000 - xs.length) (l.drop a)).2 = T.2) : xs = T.1 ∧ a = T.2 := by
  rw [opn_end h] at hq
  simpa using hq
theorem opn_fin2 (h : indexByte (l.drop a) 10 ≠ -1) (hr : readR ((l.drop a).take (indexByte (l.drop a) 10).toNat) = none) (hq : xs ++ (opn (1000 - xs.length) (l.drop a)).1 = T.1 ∧ a + (opn (1000 - xs.length) (l.drop a)).2 = T.2) : xs = T.1 ∧ a = T.2 := by
  rw [opn_bad h hr] at hq
  simpa using hq
end
end Go.KL

/- A text as bytes; a book's lines; records by day. -/
namespace Go.KL
open Go.Lib Go.RowKit
section
variable {P : Program} {d : Option Tmp} {ty : TypeId} {pos : String} {af : Array Edge} {g : Option (Nat × Bool)} {a : Act} {σ : GW}
def GW.byt (σ : GW) (e : TypeId) (s : ByteArray) : GW := ⟨bytesWorld σ.w e s, fun b => if b = σ.w.heap.size then 1 else σ.st b, fun b hb => by
  rw [bytesWorld_size]
  by_cases h : b = σ.w.heap.size
  · omega
  · rw [if_neg h] at hb
    have := σ.lt b hb; omega⟩
theorem byt_stp {e : TypeId} {s : ByteArray} : Stp 0 σ (σ.byt e s) :=
  ⟨rfl, rfl, rfl, .inl (Nat.le_succ _), by show _ ≤ (bytesWorld σ.w e s).heap.size; rw [bytesWorld_size]; omega, fun b hb _ => bytesWorld_at_old σ.w e s b hb, fun b hb _ => by show (if b = σ.w.heap.size then 1 else σ.st b) = _; rw [if_neg (by omega)]⟩
theorem grown_ge {w : World} {n : Nat} {e : TypeId} : n ≤ grownCap w n 0 e ∧ (n ≤ 281474976710656 → grownCap w n 0 e ≤ 9223372036854775807) :=
  ⟨grownCap_ge w n 0 e, fun h => grownCap_le_maxLen w n 0 e (by show n ≤ 9223372036854775807; omega)⟩
theorem y_convSB {x : Operand} {t u e : TypeId} {s : ByteArray} (ht : P.underlying t = some .string) (hu : P.underlying u = some (.slice e)) (he : P.underlying e = some (.int .u8)) (hx : a.eval x = .string s) (hs : s.size ≤ 281474976710656) :
    Yld P ⟨d, .convert t u x, ty, pos, af, g⟩ a σ (Ty.lst Ty.byte s.data.toList).pr := by
  intro K Q hk
  have hr := Go.Lib.run_convert_string_bytes (P := P) σ.w t u e s ht hu he
  have hr' : (execOp a.eval ⟨d, .convert t u x, ty, pos, af, g⟩).run P σ.w = .ok (.value (.slice (some ⟨σ.w.heap.size, 0, none⟩) s.size (grownCap σ.w s.size 0 e))) (bytesWorld σ.w e s) := by
    simp only [execOp, hx, Sem.run_bind, hr, Result.andThen_ok, Sem.run_pure]
  unfold Oper.wp
  rw [hr']
  have hg := grown_ge (w := σ.w) (n := s.size) (e := e)
  have hl : s.data.toList.length = s.size := by simp
  refine hk _ (σ.byt e s) byt_stp ⟨_, _, σ.w.heap.size, 0, by rw [hl], ⟨by rw [hl]; exact hg.1, hg.2 hs⟩, by simp, .inr ⟨rfl, by show (if _ = _ then 1 else _) = 1; rw [if_pos rfl]⟩, fun j T hj => ?_⟩
  rw [List.getElem?_map] at hj
  cases e1 : s.data.toList[j]? with
  | none => rw [e1] at hj; cases hj
  | some c =>
    rw [e1] at hj
    cases hj
    have hj2 : j < s.size := by rw [← hl]; exact (List.getElem?_eq_some_iff.1 e1).1
    refine ⟨_, by rw [Nat.zero_add]; exact bytesWorld_cell σ.w e s j hj2, ?_⟩
    show _ = _
    rw [List.getD_eq_getElem?_getD, e1]; rfl
end
theorem half_l {D E : List Rec} {a s mid e b : Nat} (h : StHalf D E a s mid e b) (h1 : s = a ∨ s = mid) : Srt E a mid := by
  rcases h1 with h1 | h1
  · have := h.p2; rwa [h1] at this
  · have := h.p1; rwa [h1] at this
theorem half_r {D E : List Rec} {a s mid e b : Nat} (h : StHalf D E a s mid e b) (h1 : e = mid ∨ e = b) : Srt E mid b := by
  rcases h1 with h1 | h1
  · have := h.p4; rwa [h1] at this
  · have := h.p3; rwa [h1] at this
theorem rot_id {D : List Rec} {s m e : Nat} (h : s = m ∨ m = e) : rotF D s m e = D := by
  refine rD_ext by_x_len fun i hi => ?_
  rw [show (rotF D s m e).length = D.length from by_x_len] at hi
  rw [rot_at hi]
  congr 1
  unfold rtx
  (repeat' split) <;> omega
/-! ### Lines -/
theorem lines_step {xs : List Rec} {k : Nat} (h : k < xs.length) : linesR (xs.take k) ++ lineR (xs.getD k Rec0) = linesR (xs.take (k + 1)) := by
  unfold linesR
  rw [List.take_add_one, List.flatMap_append, show xs[k]? = some (xs.getD k Rec0) by simp [List.getD_eq_getElem?_getD, h]]
  simp
theorem lines_len {xs : List Rec} {k : Nat} : (linesR (xs.take k)).length ≤ (linesR xs).length := by
  conv => rhs; rw [← List.take_append_drop k xs]
  unfold linesR
  rw [List.flatMap_append, List.length_append]; omega
theorem line_len {xs : List Rec} {r : Rec} (h : r ∈ xs) : (lineR r).length ≤ (linesR xs).length := by
  induction xs with
  | nil => cases h
  | cons x xs ih =>
    unfold linesR at ih ⊢
    rw [List.flatMap_cons, List.length_append]
    rcases List.mem_cons.1 h with rfl | h
    · omega
    · have := ih h; omega
theorem line_parts {r : Rec} : r.2.2.1.size ≤ (lineR r).length ∧ (joinR r.2.2.2).length ≤ (lineR r).length := by
  unfold lineR stamp bodyR
  simp only [List.length_append, List.length_cons]
  have : r.2.2.1.data.toList.length = r.2.2.1.size := by simp
  omega
theorem getD_memR {xs : List Rec} {k : Nat} (h : k < xs.length) : xs.getD k Rec0 ∈ xs := by
  rw [List.getD_eq_getElem?_getD, List.getElem?_eq_getElem h]; exact List.getElem_mem h
/-! ### By day -/
def putD (r : Rec) : List Rec → List Rec
  | [] => [r]
  | x :: D => if r.1 < x.1 then r :: x :: D else x :: putD r D
def byDay (l : List Rec) : List Rec := l.foldl (fun D r => putD r D) []
theorem putD_at (r : Rec) : ∀ D : List Rec, ∃ k, k ≤ D.length ∧ putD r D = D.take k ++ ([r] ++ D.drop k) ∧ (k = 0 ∨ (rD D (k - 1)).1 ≤ r.1) ∧ (k = D.length ∨ r.1 < (rD D k).1)
  | [] => ⟨0, Nat.le_refl _, rfl, .inl rfl, .inl rfl⟩
  | x :: D => by
    by_cases h : r.1 < x.1
    · exact ⟨0, Nat.zero_le _, by rw [putD, if_pos h]; rfl, .inl rfl, .inr h⟩
    · obtain ⟨k, h1, h2, h3, h4⟩ := putD_at r D
      refine ⟨k + 1, by simp only [List.length_cons]; omega, by rw [putD, if_neg h, h2]; rfl, .inr ?_, ?_⟩
      · rcases h3 with rfl | h3
        · show x.1 ≤ r.1; omega
        · by_cases e : k = 0
          · subst e; show x.1 ≤ r.1; omega
          · obtain ⟨j, rfl⟩ : ∃ j, k = j + 1 := ⟨k - 1, by omega⟩
            exact h3
      · rcases h4 with rfl | h4
        · exact .inl rfl
        · exact .inr h4
theorem put_eq {D : List Rec} {r : Rec} {k : Nat} (hk : k ≤ D.length) (hs : SrtL D) (f : k = 0 ∨ (rD D (k - 1)).1 ≤ r.1) (g : k = D.length ∨ r.1 < (rD D k).1) : D.take k ++ ([r] ++ D.drop k) = putD r D := by
  obtain ⟨q, h1, h2, h3, h4⟩ := putD_at r D
  have a1 := day_put hk hs f g
  have a2 := day_put h1 hs h3 h4
  rw [h2]
  exact st_one a1.1 a2.1 (a1.2.symm.trans a2.2)
theorem putD_ok {D : List Rec} {r : Rec} (hs : SrtL D) : SrtL (putD r D) ∧ StEq (D ++ [r]) (putD r D) := by
  obtain ⟨q, h1, h2, h3, h4⟩ := putD_at r D
  rw [h2]; exact day_put h1 hs h3 h4
theorem byF_ok : ∀ (l acc pre : List Rec), SrtL acc → StEq pre acc → SrtL (l.foldl (fun D r => putD r D) acc) ∧ StEq (pre ++ l) (l.foldl (fun D r => putD r D) acc)
  | [], acc, pre, h1, h2 => by simpa using ⟨h1, h2⟩
  | r :: l, acc, pre, h1, h2 => by
    have h3 := putD_ok (r := r) h1
    have := byF_ok l (putD r acc) (pre ++ [r]) h3.1 ((h2.app (StEq.refl [r])).trans h3.2)
    rw [List.append_assoc] at this
    exact this
theorem byDay_ok (l : List Rec) : SrtL (byDay l) ∧ StEq l (byDay l) := by
  have := byF_ok l [] [] List.Pairwise.nil (StEq.refl _)
  rwa [List.nil_append] at this
theorem byDay_of {l m : List Rec} (h1 : SrtL m) (h2 : StEq l m) : m = byDay l := st_one h1 (byDay_ok l).1 (h2.symm.trans (byDay_ok l).2)
theorem byDay_sg {D E : List Rec} (h : Sg 0 D.length D E) (hs : Srt E 0 D.length) : E = byDay D := byDay_of (srt_list (by rw [h.len]; exact hs)) h.st
theorem byDay_step {l : List Rec} {i : Nat} (h : i < l.length) : putD (l.getD i Rec0) (byDay (l.take i)) = byDay (l.take (i + 1)) := by
  unfold byDay
  rw [List.take_add_one, List.foldl_append, show l[i]? = some (l.getD i Rec0) by simp [List.getD_eq_getElem?_getD, h]]
  rfl
theorem putD_len {D : List Rec} {r : Rec} : (putD r D).length = D.length + 1 := by
  obtain ⟨q, h1, h2, _⟩ := putD_at r D
  rw [h2]; simp only [List.length_append, List.length_take, List.length_drop, List.length_singleton]; omega
theorem byDay_len : ∀ {l : List Rec} {i : Nat}, i ≤ l.length → (byDay (l.take i)).length = i
  | l, 0, _ => by rw [List.take_zero]; rfl
  | l, i + 1, h => by rw [← byDay_step (by omega), putD_len, byDay_len (by omega)]
theorem recs_take {xs : List Rec} {k : Nat} (h : k < xs.length) : xs.take k ++ [xs.getD k Rec0] = xs.take (k + 1) := by
  rw [List.take_add_one, show xs[k]? = some (xs.getD k Rec0) by simp [List.getD_eq_getElem?_getD, h]]; rfl
theorem hasSt_yes {rg : List ByteArray} {i k : Nat} {x : ByteArray} (hi : i < k) (hk : k < rg.length) (e : rg.getD i ByteArray.empty = x) : hasSt (rg.take k) x = true := by
  refine hasSt_iff.2 ?_
  rw [← e, List.getD_eq_getElem?_getD, List.getElem?_eq_getElem (by omega)]
  exact List.mem_take_iff_getElem.2 ⟨i, by omega, rfl⟩
theorem hasSt_no {rg : List ByteArray} {k : Nat} {x : ByteArray} (h : ∀ i, i < k → rg.getD i ByteArray.empty ≠ x) (hk : k < rg.length) : hasSt (rg.take k) x = false := by
  cases e : hasSt (rg.take k) x with
  | false => rfl
  | true =>
    obtain ⟨i, hi, e2⟩ := List.mem_take_iff_getElem.1 (hasSt_iff.1 e)
    refine absurd ?_ (h i (by omega))
    rw [List.getD_eq_getElem?_getD, List.getElem?_eq_getElem (by omega)]; exact e2
end Go.KL

/- The document's books: a line put together, a line read, a book read. -/
namespace Go.KL
open Go.Lib
/-! ### A line put together -/
def hdB (dy ch : Int) (mt : ByteArray) : ByteArray := ((((dcB dy.toNat ++ ByteArray.mk #[124]) ++ dcB ch.toNat) ++ ByteArray.mk #[124]) ++ mt) ++ ByteArray.mk #[124]
def jnC (rg : List ByteArray) (k : Nat) : ByteArray := if k = 0 then ByteArray.empty else jnB (rg.take k) ++ ByteArray.mk #[44]
theorem ba_add_nil (x : ByteArray) : x ++ ByteArray.empty = x := by apply ba_list; simp
theorem bk_assoc (x y z : ByteArray) : (x ++ y) ++ z = x ++ (y ++ z) := by apply ba_list; simp
theorem jnB_nil : jnB [] = ByteArray.empty := rfl
theorem jnC_no {h : ByteArray} {rg : List ByteArray} {k : Nat} (hk : k = 0) : h ++ jnB (rg.take k) = h ++ jnC rg k := by
  subst hk; unfold jnC; rw [if_pos rfl, List.take_zero, jnB_nil]
theorem jnC_yes {h : ByteArray} {rg : List ByteArray} {k : Nat} (hk : 0 < k) : (h ++ jnB (rg.take k)) ++ ByteArray.mk #[44] = h ++ jnC rg k := by
  unfold jnC; rw [if_neg (by omega), bk_assoc]
theorem joinTail_app {sep : List UInt8} (l m : List (List UInt8)) : joinTail sep (l ++ m) = joinTail sep l ++ joinTail sep m := by
  unfold joinTail; rw [List.map_append, List.flatten_append]
theorem joinR_snoc {l : List ByteArray} {x : ByteArray} (h : l ≠ []) : joinR (l ++ [x]) = joinR l ++ 44 :: x.data.toList := by
  unfold joinR
  cases l with
  | nil => exact absurd rfl h
  | cons y l =>
    rw [List.cons_append, List.map_cons, List.map_cons, join_cons, join_cons, List.map_append, joinTail_app]
    simp [joinTail]
theorem jnC_step {h : ByteArray} {rg : List ByteArray} {k : Nat} (hk : k < rg.length) : (h ++ jnC rg k) ++ rg.getD k ByteArray.empty = h ++ jnB (rg.take (k + 1)) := by
  have e : rg.take (k + 1) = rg.take k ++ [rg.getD k ByteArray.empty] := by
    rw [List.take_add_one, show rg[k]? = some (rg.getD k ByteArray.empty) by simp [List.getD_eq_getElem?_getD, hk]]; rfl
  rw [bk_assoc]
  congr 1
  rw [e]
  unfold jnC
  split
  · rename_i h0
    subst h0
    apply ba_list
    unfold jnB joinR
    rw [data_bsL]
    simp [join]
  · rename_i h0
    apply ba_list
    unfold jnB
    rw [data_bsL, joinR_snoc (by intro e2; have := congrArg List.length e2; rw [List.length_take] at this; simp only [List.length_nil] at this; omega)]
    simp [data_bsL]
theorem joinR_take {rg : List ByteArray} {k : Nat} : (joinR (rg.take k)).length ≤ (joinR rg).length := by
  by_cases hk : k < rg.length
  · have := congrArg List.length (show joinR rg = _ from rfl)
    have e := List.take_append_drop k rg
    cases h0 : rg.take k with
    | nil => exact Nat.zero_le _
    | cons y l =>
      rw [← e, h0]
      unfold joinR
      rw [List.cons_append, List.map_cons, List.map_cons, join_cons, join_cons, List.map_append, joinTail_app]
      simp only [List.length_append]; omega
  · rw [List.take_of_length_le (by omega)]; exact Nat.le_refl _
theorem joinR_mem {rg : List ByteArray} {x : ByteArray} (h : x ∈ rg) : x.size ≤ (joinR rg).length := by
  have hx : x.size = x.data.toList.length := by simp
  rw [hx]
  unfold joinR
  cases rg with
  | nil => cases h
  | cons y l =>
    rw [List.map_cons, join_cons, List.length_append]
    rcases List.mem_cons.1 h with rfl | h
    · omega
    · have : ∀ l : List ByteArray, x ∈ l → x.data.toList.length ≤ (joinTail [44] (l.map fun s => s.data.toList)).length := by
        intro l
        induction l with
        | nil => intro h; cases h
        | cons z l ih =>
          intro h
          rw [List.map_cons, joinTail, List.map_cons, List.flatten_cons, List.length_append, List.length_append]
          rcases List.mem_cons.1 h with rfl | h
          · omega
          · have := ih h; rw [joinTail] at this; omega
      have := this l h
      omega
theorem jnC_sz {rg : List ByteArray} {k : Nat} : (jnC rg k).size ≤ (joinR rg).length + 1 := by
  unfold jnC
  split
  · exact Nat.zero_le _
  · rw [ByteArray.size_append]
    have h := @joinR_take rg k
    have e : (jnB (rg.take k)).size = (joinR (rg.take k)).length := bsL_size _
    have e2 : (ByteArray.mk #[44]).size = 1 := rfl
    omega
theorem hd_body {r : Rec} {k : Nat} (hk : k = r.2.2.2.length) : hdB r.1 r.2.1 r.2.2.1 ++ jnB (r.2.2.2.take k) = bsL (bodyR r) := by
  rw [hk, List.take_length]; exact body_eq
theorem hd_sz {dy ch : Int} {mt : ByteArray} (h1 : dy.toNat < 18446744073709551616) (h2 : ch.toNat < 18446744073709551616) : (hdB dy ch mt).size ≤ 43 + mt.size := by
  have a := dcB_le h1
  have b := dcB_le h2
  unfold hdB
  simp only [ByteArray.size_append]
  have e : (ByteArray.mk #[124]).size = 1 := rfl
  rw [e]; omega
/-! ### A line read -/
def p0B (s : ByteArray) : ByteArray := (cutT 35 s).getD 0 ByteArray.empty
def ptB (s : ByteArray) : List ByteArray := cutT 124 (p0B s)
def refB (s : ByteArray) : Rec := (digE ((ptB s).getD 0 ByteArray.empty), digE ((ptB s).getD 1 ByteArray.empty), (ptB s).getD 2 ByteArray.empty, cutT 44 ((ptB s).getD 3 ByteArray.empty))
theorem getD_bs {l : List (List UInt8)} {k : Nat} : (l.map bsL).getD k ByteArray.empty = bsL (l.getD k []) := by
  rw [List.getD_eq_getElem?_getD, List.getD_eq_getElem?_getD, List.getElem?_map]
  cases l[k]? <;> rfl
theorem p0B_eq {s : ByteArray} : p0B s = bsL ((cutL 35 s.data.toList).getD 0 []) := by unfold p0B cutT; exact getD_bs
theorem ptB_eq {s : ByteArray} : ptB s = (cutL 124 ((cutL 35 s.data.toList).getD 0 [])).map bsL := by unfold ptB cutT; rw [p0B_eq, data_bsL]
theorem refB_eq {s : ByteArray} : refB s = refR s.data.toList := by
  unfold refB refR
  rw [ptB_eq, getD_bs, getD_bs, getD_bs, getD_bs]
  unfold cutT
  rw [data_bsL]
theorem cutT_pos {c : UInt8} {s : ByteArray} : 1 ≤ (cutT c s).length := by
  unfold cutT
  rw [List.length_map]
  cases e : cutL c s.data.toList with
  | nil => exact absurd e cutL_ne
  | cons p ps => simp
theorem rb_bad {s : ByteArray} (h : (ptB s).length ≠ 4) : readR s.data.toList = none := by
  refine ref_no fun hr => h ?_
  rw [ptB_eq, List.length_map]
  exact hr.1
theorem rb_eq {s : ByteArray} (h : (ptB s).length = 4) : readR s.data.toList = if mayR (refB s) = 0 ∧ bsL (lineR (refB s)) = s ++ ByteArray.mk #[10] then some (refB s) else none := by
  have h4 : (cutL 124 ((cutL 35 s.data.toList).getD 0 [])).length = 4 := by rw [ptB_eq, List.length_map] at h; exact h
  have hb : bsL (lineR (refB s)) = s ++ ByteArray.mk #[10] ↔ lineR (refR s.data.toList) = s.data.toList ++ [10] := by
    rw [refB_eq]
    constructor
    · intro e
      have := congrArg (fun x : ByteArray => x.data.toList) e
      simpa [bsL] using this
    · intro e
      apply ba_list
      rw [data_bsL, e]; simp
  by_cases hr : refOk s.data.toList
  · rw [if_pos ⟨by rw [refB_eq]; exact hr.2.1, hb.2 hr.2.2⟩, ref_readR hr, refB_eq]
  · rw [if_neg, ref_no hr]
    rintro ⟨h1, h2⟩
    exact hr ⟨h4, by rw [← refB_eq]; exact h1, hb.1 h2⟩
theorem rb_is {s : ByteArray} (h : (ptB s).length = 4) : ∀ q, readR s.data.toList = some q → q = refB s := by
  intro q hq
  rw [rb_eq h] at hq
  split at hq
  · injection hq with hq; exact hq.symm
  · cases hq
theorem rb_ok {s : ByteArray} (h : (ptB s).length = 4) : (decide (mayR (refB s) = 0) && decide (bsL (lineR (refB s)) = s ++ ByteArray.mk #[10])) = (readR s.data.toList).isSome := by
  rw [rb_eq h]
  by_cases h1 : mayR (refB s) = 0 ∧ bsL (lineR (refB s)) = s ++ ByteArray.mk #[10]
  · rw [if_pos h1, decide_eq_true h1.1, decide_eq_true h1.2]; rfl
  · rw [if_neg h1]
    by_cases h2 : mayR (refB s) = 0
    · rw [decide_eq_true h2, decide_eq_false (fun h3 => h1 ⟨h2, h3⟩)]; rfl
    · rw [decide_eq_false h2]; rfl
theorem p0B_sz {s : ByteArray} : (p0B s).size ≤ s.size := cutT_get 0
theorem ptB_sz {s : ByteArray} (k : Nat) : ((ptB s).getD k ByteArray.empty).size ≤ s.size := Nat.le_trans (cutT_get k) p0B_sz
theorem refB_join {s : ByteArray} : (joinR (refB s).2.2.2).length ≤ s.size := by
  have h := @ptB_sz s 3
  show (joinR (cutT 44 ((ptB s).getD 3 ByteArray.empty))).length ≤ _
  unfold cutT
  rw [joinR_cut]
  simpa using h
/-! ### A book read -/
def noNl (l : List UInt8) (a i : Nat) : Prop := ∀ j, a ≤ j → j < i → l.getD j 0 ≠ 10
theorem noNl_ix {l : List UInt8} {a i : Nat} (h : noNl l a i) (hi : i < l.length) (ha : a ≤ i) (hc : l.getD i 0 = 10) : indexByte (l.drop a) 10 = ((i - a : Nat) : Int) := by
  have e : l.drop a = (l.drop a).take (i - a) ++ (10 : UInt8) :: l.drop (i + 1) := by
    conv => lhs; rw [← List.take_append_drop (i - a) (l.drop a)]
    rw [List.drop_drop, show a + (i - a) = i by omega, List.drop_eq_getElem_cons hi]
    congr 2
    rw [List.getD_eq_getElem?_getD, List.getElem?_eq_getElem hi] at hc
    exact hc
  rw [e, ix_app]
  · rw [List.length_take, List.length_drop]; congr 1; omega
  · intro b hb e2
    obtain ⟨j, hj, e3⟩ := List.mem_take_iff_getElem.1 hb
    have hj2 : j < i - a ∧ j < l.length - a := by rw [List.length_drop] at hj; omega
    refine h (a + j) (by omega) (by omega) ?_
    rw [List.getD_eq_getElem?_getD, List.getElem?_eq_getElem (by omega)]
    rw [List.getElem_drop] at e3
    rw [← e2, ← e3]; rfl
theorem noNl_end {l : List UInt8} {a i : Nat} (h : noNl l a i) (hi : l.length ≤ i) : indexByte (l.drop a) 10 = -1 := by
  rw [ix_none]
  intro b hb e
  obtain ⟨j, hj, e3⟩ := List.getElem_of_mem hb
  rw [List.length_drop] at hj
  refine h (a + j) (by omega) (by omega) ?_
  rw [List.getD_eq_getElem?_getD, List.getElem?_eq_getElem (by omega)]
  rw [List.getElem_drop] at e3
  rw [← e, ← e3]; rfl
theorem noNl_step {l : List UInt8} {a i : Nat} (h : noNl l a i) (hc : l.getD i 0 ≠ 10) : noNl l a (i + 1) := fun j h1 h2 => by
  by_cases e : j = i
  · subst e; exact hc
  · exact h j h1 (by omega)
theorem noNl_nil {l : List UInt8} {a : Nat} : noNl l a a := fun j h1 h2 => by omega
def Pr.stP (k : Nat) (v : Value) (ts : List Ty) : Pr := ⟨fun σ _ => OwnP σ k v ts, fun hs h => h.keep hs (by decide) (.inl rfl)⟩
section
variable {P : Program} {d : Option Tmp} {ty : TypeId} {pos : String} {af : Array Edge} {g : Option (Nat × Bool)} {a : Act} {σ : GW}
theorem y_mid {α : Type} {f : α → Ty} {xs : List α} {x y y' : Operand} {t e : TypeId} {z : Value} {b : Nat} {k k' : IntKind} {l h : Nat} (ht : P.underlying t = some (.slice e)) (he : Info P e z 1 b) (hx : At (.lst f xs) σ a x) (hy : a.eval y = .int k l) (hy' : a.eval y' = .int k' h) (hl : l ≤ h) (hh : h ≤ xs.length) :
    Yld P ⟨d, .slice t x (some y) (some y') none, ty, pos, af, g⟩ a σ (Ty.lst f ((xs.drop l).take (h - l))).pr := (y_cut_lh ht he hx hy hy' hl hh).mono fun _ _ q => by
  rw [Nat.mul_one, Nat.mul_one, ← List.map_drop, ← List.map_take] at q
  have e : ((xs.drop l).take (h - l)).length = h - l := by rw [List.length_take, List.length_drop]; omega
  show (Ty.sl 1 ((xs.drop l).take (h - l)).length (((xs.drop l).take (h - l)).map f)).has _ _
  rw [e]; exact q
end
section
variable {xs : List Rec} {l : List UInt8} {a i : Nat} {r : Rec} {T : List Rec × Nat}
theorem obk_next (hx : xs.length < 1000) (hn : noNl l a i) (hi : i < l.length) (ha : a ≤ i) (hc : l.getD i 0 = 10) (hr : readR ((l.drop a).take (i - a)) = some r) (hq : xs ++ (opn (1000 - xs.length) (l.drop a)).1 = T.1 ∧ a + (opn (1000 - xs.length) (l.drop a)).2 = T.2) :
    (xs ++ [r]) ++ (opn (1000 - (xs ++ [r]).length) (l.drop (i + 1))).1 = T.1 ∧ (i + 1) + (opn (1000 - (xs ++ [r]).length) (l.drop (i + 1))).2 = T.2 := by
  have hix := noNl_ix hn hi ha hc
  have e : (indexByte (l.drop a) 10).toNat = i - a := by rw [hix]; simp
  have h := opn_next hx (by rw [hix]; omega) (by rw [e]; exact hr) hq
  rwa [e, show a + (i - a + 1) = i + 1 by omega] at h
theorem obk_bad (hn : noNl l a i) (hi : i < l.length) (ha : a ≤ i) (hc : l.getD i 0 = 10) (hr : readR ((l.drop a).take (i - a)) = none) (hq : xs ++ (opn (1000 - xs.length) (l.drop a)).1 = T.1 ∧ a + (opn (1000 - xs.length) (l.drop a)).2 = T.2) : xs = T.1 ∧ a = T.2 := by
  have hix := noNl_ix hn hi ha hc
  have e : (indexByte (l.drop a) 10).toNat = i - a := by rw [hix]; simp
  exact opn_fin2 (by rw [hix]; omega) (by rw [e]; exact hr) hq
theorem obk_end (hc : ¬ (i < l.length ∧ xs.length < 1000)) (hx : xs.length ≤ 1000) (hn : noNl l a i) (hq : xs ++ (opn (1000 - xs.length) (l.drop a)).1 = T.1 ∧ a + (opn (1000 - xs.length) (l.drop a)).2 = T.2) : xs = T.1 ∧ a = T.2 := by
  by_cases h : xs.length < 1000
  · exact opn_fin1 (noNl_end hn (by omega)) hq
  · exact opn_fin0 h hx hq
theorem nl_eq {c : UInt8} (h : c.toNat = 10) : c = 10 := UInt8.toNat_inj.1 h
theorem nl_ne {c : UInt8} (h : c.toNat ≠ 10) : c ≠ 10 := fun e => h (by rw [e]; rfl)
theorem mid_len : ((l.drop a).take (i - a)).length ≤ l.length := by rw [List.length_take, List.length_drop]; omega
end
end Go.KL

/- 'append' to a row that never changes and has no room; 's[:h:h]' (never beside KlKnd). -/
namespace Go.KL
open Go.RowKit
variable {P : Program}
def Ty.capd (T : Ty) : Ty := ⟨fun σ v => T.has σ v ∧ ∃ ad n, v = .slice ad n n, fun h k => ⟨Ty.up _ h k.1, k.2⟩⟩
theorem flat_dropR {α : Type} {c : Nat} {F : α → List Ty} (hF : ∀ x, (F x).length = c) : ∀ (xs : List α) (h : Nat), (xs.flatMap F).drop (h * c) = (xs.drop h).flatMap F
  | [], h => by simp
  | x :: xs, 0 => by simp
  | x :: xs, h + 1 => by
    rw [List.flatMap_cons, List.drop_succ_cons, ← flat_dropR hF xs h, Nat.add_mul, Nat.one_mul, Nat.add_comm, ← List.drop_drop, List.drop_left' (hF x)]
theorem flat_lenR {α : Type} {c : Nat} {F : α → List Ty} (hF : ∀ x, (F x).length = c) : ∀ (xs : List α), (xs.flatMap F).length = xs.length * c
  | [] => by simp
  | x :: xs => by rw [List.flatMap_cons, List.length_append, hF, flat_lenR hF xs, List.length_cons, Nat.add_mul]; omega
section
variable {d : Option Tmp} {ty : TypeId} {pos : String} {af : Array Edge} {g : Option (Nat × Bool)} {a : Act} {σ : GW}
theorem y_dropR {α : Type} {c : Nat} {F : α → List Ty} {xs : List α} {x y : Operand} {t e : TypeId} {z : Value} {b : Nat} {k : IntKind} {l : Nat} (ht : P.underlying t = some (.slice e)) (he : Info P e z c b) (hx : At (Ty.lstc c F xs) σ a x) (hy : a.eval y = .int k l) (hl : l ≤ xs.length) (hF : ∀ x, (F x).length = c) :
    Yld P ⟨d, .slice t x (some y) none none, ty, pos, af, g⟩ a σ (Ty.lstc c F (xs.drop l)).pr := (y_cut_l ht he hx hy hl).mono fun _ _ h => by
  rw [flat_dropR hF] at h
  show (Ty.sl c (xs.drop l).length ((xs.drop l).flatMap F)).has _ _
  rw [List.take_of_length_le (by rw [flat_lenR hF, List.length_drop]; exact Nat.le_refl _)] at h
  rwa [List.length_drop]
theorem y_capR {α : Type} {c : Nat} {F : α → List Ty} {xs : List α} {x y y' : Operand} {t e : TypeId} {z : Value} {b : Nat} {k k' : IntKind} {l : Nat} (ht : P.underlying t = some (.slice e)) (he : Info P e z c b) (hx : At (Ty.lstc c F xs) σ a x) (hy : a.eval y = .int k l) (hy' : a.eval y' = .int k' l) (hl : l ≤ xs.length) (hF : ∀ x, (F x).length = c) :
    Yld P ⟨d, .slice t x none (some y) (some y'), ty, pos, af, g⟩ a σ (Ty.capd (Ty.lstc c F (xs.take l))).pr := by
  have hx0 := hx
  obtain ⟨ad, cap, b', o, e1, ⟨hn, hcap⟩, h5, h6, h7⟩ := hx
  have hx1 : (Ty.sl c xs.length (xs.flatMap F)).has σ (.slice ad xs.length cap) := by rw [← e1]; exact hx0
  have hs : sliced ad 0 l l c = .slice ad l l := by
    unfold sliced
    cases ad <;> simp [Addr.add_zero']
  have hr : (execOp a.eval ⟨d, .slice t x none (some y) (some y'), ty, pos, af, g⟩).run P σ.w = .ok (.value (.slice ad l l)) σ.w := by
    have h1 := run_slice_hm (P := P) σ.w t ad xs.length cap (elem_of ht) k k' (l : Int) (l : Int) (by omega) (by omega) (by omega)
    rw [elem_eq ht, he.size] at h1
    simp only [execOp, e1, hy, hy', Option.map_some, Option.map_none, Sem.run_bind, run_sliceAt_slice σ.w t _ _ _ _ (elem_of ht), h1, Result.andThen_ok, Sem.run_pure, Int.toNat_natCast, hs]
  refine Yld.of_run (v := .slice ad l l) hr ⟨?_, ad, l, rfl⟩
  have e2 : (xs.take l).length = l := by rw [List.length_take]; omega
  show (Ty.sl c (xs.take l).length ((xs.take l).flatMap F)).has _ _
  rw [e2, ← flat_take hF]
  have hlc : l * c ≤ (xs.flatMap F).length := by rw [h5]; exact Nat.mul_le_mul_right _ hl
  refine ⟨ad, l, b', o, rfl, ⟨Nat.le_refl _, by omega⟩, by rw [List.length_take]; omega, ?_, fun j T hj => h7 j T ?_⟩
  · rcases h6 with h6 | h6
    · exact .inl (by rw [h6, List.take_nil])
    · exact .inr h6
  · rw [List.getElem?_take] at hj
    split at hj
    · exact hj
    · cases hj
theorem y_build1x {c : Nat} {x : Operand} {t e : TypeId} {ts : List Ty} {z : Value} {b : Nat} (ht : P.underlying t = some (.slice e)) (he : Info P e z c b) (hz : z.cells.size = c) (hc : 0 < c) (hc2 : c ≤ 16777216) (hl : ts.length = c) (hx : At (.agg ts) σ a x) :
    Yld P ⟨d, .buildSlice t 1 #[(0, x)], ty, pos, af, g⟩ a σ (Ty.capd (Ty.sl c 1 ts)).pr := by
  obtain ⟨cs, e1, hcs, hcl⟩ := hx
  have hsz : cs.size = c := by omega
  intro K Q hk
  have hr : (execOp a.eval ⟨d, .buildSlice t 1 #[(0, x)], ty, pos, af, g⟩).run P σ.w = .ok (.value (.slice (some ⟨σ.w.heap.size, 0, none⟩) 1 1)) (σ.w.alloc (.cells cs e)) := by
    simp only [execOp, List.map_toArray, List.map_cons, List.map_nil, e1]
    have hw : ∀ q : Array Value, q.size = c → cs.zipIdx.foldl (fun (q : Array Value) (p : Value × Nat) => q.setIfInBounds p.2 p.1) q = cs := fun q hq => fold_whole (by omega)
    have h1 : ¬ c > 16777216 := by omega
    have h2 : ¬ c = 0 := by omega
    simp [Instr.buildSlice, run_underlying ht, he.size, he.zero, Instr.fill, Value.cells, hsz, h2, newRow, newObj, Sem.run, Sem.run_bind, show ¬ 16777216 < c by omega]
    generalize hq : Array.map _ (Array.range c) = q
    have hqs : q.size = c := by rw [← hq]; simp
    have h5 := hw q hqs
    simp only [Array.size_zipIdx] at h5
    first | rw [h5] | (rw [hsz] at h5; rw [h5])
  unfold Oper.wp
  rw [hr]
  refine hk _ (σ.seal (.cells cs e)) (Stp.seal _ _) ⟨⟨_, 1, σ.w.heap.size, 0, rfl, ⟨Nat.le_refl _, by decide⟩, by omega, .inr ⟨rfl, by simp [GW.seal]⟩, fun j V hj => ?_⟩, _, _, rfl⟩
  have hj2 : j < cs.size := by rw [hsz, ← hl]; exact (List.getElem?_eq_some_iff.1 hj).1
  refine ⟨cs[j], ?_, V.up (Stp.seal _ _).le0 (hcl j V _ hj (by simp [hj2]))⟩
  show World.cell? (σ.w.alloc _) _ = _
  simp only [World.cell?, heap_alloc_new]
  simp [hj2]
theorem capx_append {t ty e : TypeId} {z : Value} {c by_ : Nat} {v src : Value} {n m : Nat} {ts us : List Ty} (ht : P.underlying t = some (.slice e)) (he : Info P e z c by_) (hc : 0 < c)
    (h : (Ty.capd (Ty.sl c n ts)).has σ v) (hx : (Ty.sl c m us).has σ src) (hlen : n + m ≤ 9223372036854775807) (hbytes : (n + m) * by_ ≤ 140737488355328) :
    ∃ v' τ, (Builtin.append_ #[t, t] ty #[v, src]).run P σ.w = .ok v' τ.w ∧ Stp 0 σ τ ∧ (Ty.sl c (n + m) (ts ++ us)).has τ v' := by
  obtain ⟨⟨ad1, cap1, b1, o1, e1, hcap1, hl1, hs1, hcl1⟩, ad2, n2, e2⟩ := h
  rw [e2] at e1
  cases e1
  subst e2
  obtain ⟨ad, cap0, b, o, rfl, hcap0, hl, hs, hcl⟩ := hx
  obtain ⟨i, hi, hi1, rfl, rfl⟩ := he.get
  by_cases hm0 : m = 0
  · subst hm0
    have hus : us = [] := List.eq_nil_of_length_eq_zero (by rw [hl]; simp)
    subst hus
    refine ⟨.slice ad1 n n, σ, ?_, Stp.refl _ _, ?_⟩
    · cases ad1 <;> cases ad <;> simp [Builtin.append_, run_underlying ht, sizeOf, typeInfo, hi, Builtin.lenOf, Builtin.firstCells, storeCells, loadCells, loadCellsFrom]
    · rw [Nat.add_zero, List.append_nil]
      exact ⟨ad1, n, b1, o1, rfl, hcap1, hl1, hs1, hcl1⟩
  · have hus : us ≠ [] := by
      intro e; subst e
      have : 0 < m * i.size := Nat.mul_pos (by omega) hc
      simp only [List.length_nil] at hl
      omega
    obtain ⟨rfl, hst⟩ := hs.resolve_left hus
    obtain ⟨ws, w1, w2, w3⟩ := sl_news hcl
    obtain ⟨vs, r2, q2, r3⟩ := sl_news hcl1
    have hlw : ws.length = m * i.size := by rw [w1]; exact hl
    have hlv : vs.length = n * i.size := by rw [r2]; exact hl1
    have hnews : ∀ (j : Nat) (u : Value), ws[j]? = some u → σ.w.cell? ((⟨b, o, none⟩ : Addr).add j) = some u := fun j u hj => by rw [Addr.add_lit]; exact w2 j u hj
    have new : ∀ (old : Nat) (τw : World), τw = σ.w.drew.alloc (.cells (vs.toArray ++ ws.toArray ++ Builtin.zeroCells z.cells (grownCap σ.w (n + m) old e - (n + m))) e) →
        ∃ τ : GW, τ.w = τw ∧ Stp 0 σ τ ∧ (Ty.sl i.size (n + m) (ts ++ us)).has τ (.slice (some ⟨σ.w.heap.size, 0, none⟩) (n + m) (grownCap σ.w (n + m) old e)) := by
      intro old τw hτ
      subst hτ
      have hge := grownCap_ge σ.w (n + m) old e
      have hcm : grownCap σ.w (n + m) old e ≤ maxLen := grownCap_le_maxLen σ.w (n + m) old e hlen
      have hstp : Stp 0 σ (σ.drew.seal (.cells (vs.toArray ++ ws.toArray ++ Builtin.zeroCells z.cells (grownCap σ.w (n + m) old e - (n + m))) e)) := (Stp.drew σ).trans (Stp.seal σ.drew _)
      refine ⟨_, rfl, hstp, _, _, σ.w.heap.size, 0, rfl, ⟨hge, hcm⟩, by rw [List.length_append, hl1, hl, Nat.add_mul], .inr ⟨rfl, ?_⟩, fun j V hj => ?_⟩
      · show (if _ = _ then 1 else _) = 1
        rw [if_pos]; rfl
      · have hlt : j < (vs ++ ws).length := by
          have := (List.getElem?_eq_some_iff.1 hj).1
          rw [List.length_append] at this ⊢; omega
        have hu : (vs ++ ws)[j]? = some (vs ++ ws)[j] := by simp [hlt]
        refine ⟨(vs ++ ws)[j], ?_, V.up hstp.le0 (typed_append r2 r3 w3 j V _ hj hu)⟩
        show World.cell? (σ.w.drew.alloc _) _ = _
        have hA : (vs.toArray ++ ws.toArray ++ Builtin.zeroCells z.cells (grownCap σ.w (n + m) old e - (n + m)))[j]? = some (vs ++ ws)[j] := by
          rw [Array.getElem?_append_left (by simpa using hlt), ← hu]
          simp
        have hh := heap_alloc_new σ.w.drew (.cells (vs.toArray ++ ws.toArray ++ Builtin.zeroCells z.cells (grownCap σ.w (n + m) old e - (n + m))) e)
        simp only [World.cell?]
        rw [show (σ.w.heap.size) = σ.w.drew.heap.size from rfl, hh]
        simpa using hA
    by_cases hnone : ad1 = none
    · subst hnone
      have hts : ts = [] := hs1.resolve_right (fun h => by cases h.1)
      have hn0 : n = 0 := by
        subst hts
        rcases Nat.eq_zero_or_pos n with h | h
        · exact h
        · have : 0 < n * i.size := Nat.mul_pos h hc
          simp only [List.length_nil] at hl1
          omega
      subst hn0
      have hvs : vs = [] := List.eq_nil_of_length_eq_zero (by rw [hlv]; simp)
      have hr := run_append_nil (P := P) σ.w t ty e i z ht hi hi1 ⟨b, o, none⟩ m cap0 ws hlw hnews (by omega) (by omega) (by simp only [Nat.zero_add] at hbytes; omega)
      obtain ⟨τ, e1, e2, e3⟩ := new 0 _ rfl
      simp only [Nat.zero_add] at e1 e3 ⊢
      exact ⟨_, τ, by rw [hr, e1, hvs]; simp, e2, e3⟩
    · obtain ⟨ad', rfl⟩ := Option.ne_none_iff_exists'.1 hnone
      have holds : ∀ (j : Nat) (u : Value), vs[j]? = some u → σ.w.cell? (ad'.add j) = some u := fun j u hj => by
        rcases hs1 with rfl | ⟨he', _⟩
        · have : vs = [] := List.eq_nil_of_length_eq_zero r2
          subst this; simp at hj
        · cases he'; rw [Addr.add_lit]; exact q2 j u hj
      have hr := run_append_grow (P := P) σ.w t ty e i z ht hi hi1 ad' n n vs hlv holds ⟨b, o, none⟩ m cap0 ws hlw hnews (by omega) (by omega) (growslice_fits (by omega) hbytes)
      obtain ⟨τ, e1, e2, e3⟩ := new n _ rfl
      exact ⟨_, τ, by rw [hr, e1], e2, e3⟩
theorem y_appx {α : Type} {t e : TypeId} {z : Value} {c by_ : Nat} {x y : Operand} {F : α → List Ty} {xs ys : List α} (ht : P.underlying t = some (.slice e)) (he : Info P e z c by_) (hc : 0 < c)
    (h : At (Ty.capd (Ty.lstc c F xs)) σ a x) (hx : At (Ty.lstc c F ys) σ a y) (hlen : xs.length + ys.length ≤ 9223372036854775807) (hbytes : (xs.length + ys.length) * by_ ≤ 140737488355328) :
    Yld P ⟨d, .call ⟨.builtin .append, #[x, y], #[t, t]⟩, ty, pos, af, g⟩ a σ (Ty.lstc c F (xs ++ ys)).pr := by
  intro K Q hk'
  obtain ⟨v', τ, hr, hs, ho⟩ := capx_append (ty := ty) ht he hc h hx hlen hbytes
  have hr' : (execOp a.eval ⟨d, .call ⟨.builtin .append, #[x, y], #[t, t]⟩, ty, pos, af, g⟩).run P σ.w = .ok (.value v') τ.w := by
    simp only [execOp, resolve, Sem.run_bind, Sem.run_pure, Result.andThen_ok, invoke, List.map_toArray, List.map_cons, List.map_nil, builtin, hr]
  unfold Oper.wp
  rw [hr']
  refine hk' v' τ hs ?_
  show (Ty.sl c (xs ++ ys).length ((xs ++ ys).flatMap F)).has _ _
  rw [List.length_append, List.flatMap_append]; exact ho
end
theorem nil_lstc {α : Type} {c : Nat} {F : α → List Ty} {xs : List α} {σ : GW} {v : Value} (e : xs = []) (h : (Ty.val (.slice none 0 0)).has σ v) : (Ty.lstc c F xs).has σ v := by
  subst e
  have h' : v = .slice none 0 0 := h
  rw [h']; exact sl_nil
end Go.KL

/- A book opened by the program and by the document. -/
namespace Go.KL
theorem mem_putD {r x : Rec} : ∀ {D : List Rec}, x ∈ putD r D → x = r ∨ x ∈ D
  | [], h => by simp [putD] at h; exact .inl h
  | y :: D, h => by
    rw [putD] at h
    split at h
    · rcases List.mem_cons.1 h with h | h
      · exact .inl h
      · exact .inr h
    · rcases List.mem_cons.1 h with h | h
      · exact .inr (by rw [h]; exact List.mem_cons_self ..)
      · exact (mem_putD h).imp id (fun h => List.mem_cons_of_mem _ h)
theorem mem_foldP {x : Rec} : ∀ {l acc : List Rec}, x ∈ l.foldl (fun D r => putD r D) acc → x ∈ acc ∨ x ∈ l
  | [], _, h => .inl h
  | r :: l, acc, h => by
    rcases mem_foldP (l := l) (acc := putD r acc) h with h | h
    · rcases mem_putD h with h | h
      · exact .inr (by rw [h]; exact List.mem_cons_self ..)
      · exact .inl h
    · exact .inr (List.mem_cons_of_mem _ h)
theorem mem_byDay {l : List Rec} {x : Rec} (h : x ∈ byDay l) : x ∈ l := (mem_foldP h).resolve_left (by simp)
theorem byDay_n {l : List Rec} : (byDay l).length = l.length := by
  have := byDay_len (l := l) (Nat.le_refl _)
  rwa [List.take_length] at this
theorem byDay_rg {l : List Rec} (h : ∀ r ∈ l, mayR r = 0) : ∀ r ∈ byDay l, r.2.2.2.length ≤ 12 := fun r hr => (mayR_ok (h r (mem_byDay hr))).n2
section
open Go.RowKit
variable {P : Program} {d : Option Tmp} {ty : TypeId} {pos : String} {af : Array Edge} {g : Option (Nat × Bool)} {a : Act} {σ : GW}
theorem y_refne {x y : Operand} {t u : TypeId} {ts : List Ty} {e : TypeId} (ht : P.underlying t = some (.pointer e)) (h : At (.ref ts) σ a x) (hy : a.eval y = .pointer none) : Yld P ⟨d, .binOp .neq t x y u, ty, pos, af, g⟩ a σ (Ty.bool true).pr := by
  obtain ⟨b, o, hx, _⟩ := h
  have hp : P.underlying t = some (.pointer (P.pointee t)) := by
    have : P.pointee t = e := by simp [Program.pointee, ht]
    rw [this]; exact ht
  have h1 := run_neq_pointer_nil (P := P) (w := σ.w) t (some ⟨b, o, none⟩) hp
  refine Yld.of_run (v := .bool true) ?_ rfl
  simp only [execOp, hx, hy]
  simp_all [eqGuard]
end
end Go.KL

/- A region in whatever order, of which one operation appends to what another one has made. -/
namespace Go.KL
open Go.RowKit
variable {P : Program}

/-! ### The operation that writes appends to what an operation of the region has made -/
structure Mid5 (p q d c N : Nat) (D : List Deferred) (W : List Nat) (A B : Pr) (ops : Array Oper) (Φ : Nat → Ty) (a0 : Act) (σ0 : GW) (L : Nat → Bool) (a : Act) (σ : GW) : Prop where
  stp : StpL W σ0 σ
  stp0 : L p = false → Stp 0 σ0 σ
  ok : Ok N D a
  done : ∀ j, L j = true → rd ops (fun i => (Φ i).pr) j a σ
  doneq : L q = true → L p = false → A.has σ (a.eval (.tmp d))
  donep : L p = true → B.has σ (a.eval (.tmp c))
  same : ∀ t, (∀ j, dstOf ops j = some t → L j = false) → a.eval (.tmp t) = a0.eval (.tmp t)

def OblS5 (P : Program) (N d : Nat) (D : List Deferred) (W : List Nat) (A B : Pr) (ops : Array Oper) (Φ : Nat → Ty) (a0 : Act) (σ0 : GW) (i : Nat) (o : Oper) : Prop :=
  ∀ a σ, Stp 0 σ0 σ → Ok N D a → (∀ t, free ops i t = true → a.eval (.tmp t) = a0.eval (.tmp t)) → A.has σ (a.eval (.tmp d)) → Deps ops (fun i => (Φ i).pr) a σ o.after.toList (YldL W P o a σ (fun v τ => B.has τ v))
def Obls5 (P : Program) (p q d c N : Nat) (D : List Deferred) (W : List Nat) (A B : Pr) (ops : Array Oper) (Φ : Nat → Ty) (a0 : Act) (σ0 : GW) : Nat → List Oper → Prop
  | _, [] => True
  | i, o :: l => (if i = p then OblS5 P N d D W A B ops Φ a0 σ0 i o else if i = q then OblQ P N D A ops Φ a0 σ0 i o else Obl3 P N D W ops Φ a0 σ0 i o) ∧ Obls5 P p q d c N D W A B ops Φ a0 σ0 (i + 1) l
theorem Obls5.get {p q d c N : Nat} {D : List Deferred} {W : List Nat} {A B : Pr} {ops : Array Oper} {Φ : Nat → Ty} {a0 : Act} {σ0 : GW} : ∀ (l : List Oper) (k : Nat), Obls5 P p q d c N D W A B ops Φ a0 σ0 k l → ∀ j o, l[j]? = some o →
    (if k + j = p then OblS5 P N d D W A B ops Φ a0 σ0 (k + j) o else if k + j = q then OblQ P N D A ops Φ a0 σ0 (k + j) o else Obl3 P N D W ops Φ a0 σ0 (k + j) o)
  | [], _, _, j, o, h => by simp at h
  | x :: l, k, h, 0, o, hj => by simp at hj; subst hj; exact h.1
  | x :: l, k, h, j + 1, o, hj => by
    have := Obls5.get l (k + 1) h.2 j o (by simpa using hj)
    rwa [show k + 1 + j = k + (j + 1) by omega] at this
theorem Obls5.up {p q d c N : Nat} {D : List Deferred} {W : List Nat} {A B : Pr} {ops : Array Oper} {Φ : Nat → Ty} {a0 : Act} {σ0 σ1 : GW} (hs : Stp 0 σ0 σ1) : ∀ (l : List Oper) (k : Nat), Obls5 P p q d c N D W A B ops Φ a0 σ0 k l → Obls5 P p q d c N D W A B ops Φ a0 σ1 k l
  | [], _, _ => trivial
  | x :: l, k, h => by
    refine ⟨?_, Obls5.up hs l (k + 1) h.2⟩
    have h1 := h.1
    split at h1
    · rename_i e; rw [if_pos e]; exact fun a σ hs' => h1 a σ (hs.trans hs')
    · rename_i e
      rw [if_neg e]
      split at h1
      · rename_i e; rw [if_pos e]; exact fun a σ hs' => h1 a σ (hs.trans hs')
      · rename_i e; rw [if_neg e]; exact fun a σ hs' => h1 a σ (hs.toL0.trans hs')

theorem Mid5.op {p q d c N : Nat} {D : List Deferred} {W : List Nat} {A B : Pr} {ops : Array Oper} {Φ : Nat → Ty} {a0 : Act} {σ0 : GW} {L : Nat → Bool} {a : Act} {σ : GW} {i : Nat} {o : Oper} {Q : Exit → Act → World → Prop} {K : Act → World → Prop}
    (hF : Form N ops) (h1 : 1 ∉ W) (hp : dstOf ops p = some c) (hq : dstOf ops q = some d) (hpq : p ≠ q) (hΦ : ∀ e v, (Φ q).has e v) (hΦp : ∀ e v, (Φ p).has e v) (hpg : ∀ o, ops[p]? = some o → o.guard = none ∧ ∃ e ∈ o.after, Region.binds .any e = true ∧ e.on = q) (hm : Mid5 p q d c N D W A B ops Φ a0 σ0 L a σ) (ho : ops[i]? = some o) (hL : L i = false)
    (hpo : ∃ o, ops[p]? = some o)
    (hob : if i = p then OblS5 P N d D W A B ops Φ a0 σ0 i o else if i = q then OblQ P N D A ops Φ a0 σ0 i o else Obl3 P N D W ops Φ a0 σ0 i o)
    (hall : ∀ e ∈ o.after, Region.binds .any e = true → L e.on = true) (hclosed : ∀ (j : Nat) oj, ops[j]? = some oj → L j = true → ∀ e ∈ oj.after, Region.binds .any e = true → L e.on = true)
    (hK : ∀ a' σ', Mid5 p q d c N D W A B ops Φ a0 σ0 (fun j => L j || j == i) a' σ' → K a' σ'.w) : wpOp P ops Q i K a σ.w := by
  have hdi : dstOf ops i = o.dst := by simp [dstOf, ho]
  have hsame : ∀ t, free ops i t = true → a.eval (.tmp t) = a0.eval (.tmp t) := by
    intro t ht
    refine hm.same t fun j hj => ?_
    cases hLj : L j with
    | false => rfl
    | true =>
      exfalso
      unfold dstOf at hj
      obtain ⟨oj, hoj, hd⟩ := Option.bind_eq_some_iff.1 hj
      unfold free at ht
      have := (List.all_eq_true.1 ht) oj (List.mem_of_getElem? hoj)
      simp only [hd, bne_self_eq_false, Bool.false_or, List.any_eq_true, Bool.and_eq_true, beq_iff_eq] at this
      obtain ⟨e, he, hb, hon⟩ := this
      have := hclosed j oj (by simpa using hoj) hLj e (by simpa using he) hb
      rw [hon, hL] at this
      cases this
  have hLpq : L p = true → L q = true := fun h => by
    obtain ⟨op, hop⟩ := hpo
    obtain ⟨_, e, he, hb, hon⟩ := hpg op hop
    rw [← hon]; exact hclosed p op hop h e he hb
  have hdeps : ∀ e ∈ o.after.toList, Region.binds .any e = true → rd ops (fun i => (Φ i).pr) e.on a σ := fun e he hb => hm.done e.on (hall e (by simpa using he) hb)
  have done' : ∀ v (τ : GW), σ.Le τ → ((Φ i).has τ v ∨ dstOf ops i = none) → ∀ j, (L j || j == i) = true → rd ops (fun i => (Φ i).pr) j (a.put o.dst v) τ := by
    intro v τ hle hv j hLj
    by_cases hji : j = i
    · subst hji
      unfold rd
      cases hd : dstOf ops j with
      | none => trivial
      | some d =>
        have : o.dst = some d := by rw [← hdi]; exact hd
        simp only [this]
        rw [eval_put_same hm.ok (hF.lt j d hd)]
        exact hv.resolve_right (by rw [hd]; simp)
    · have hLj' : L j = true := by simpa [hji] using hLj
      have h0 := hm.done j hLj'
      unfold rd at h0 ⊢
      cases hd : dstOf ops j with
      | none => trivial
      | some d =>
        rw [hd] at h0
        simp only at h0 ⊢
        rw [eval_put_ne (fun he => hji (hF.uniq j i d hd (by rw [hdi]; exact he)))]
        exact (Φ j).up hle h0
  have same' : ∀ v t, (∀ j, dstOf ops j = some t → (L j || j == i) = false) → (a.put o.dst v).eval (.tmp t) = a0.eval (.tmp t) := by
    intro v t ht
    have h1 : o.dst ≠ some t := fun he => by
      have := ht i (by rw [hdi]; exact he)
      simp at this
    rw [eval_put_ne h1]
    exact hm.same t fun j hj => by
      have := ht j hj
      simp at this
      exact this.1
  by_cases hip : i = p
  · subst hip
    rw [if_pos rfl] at hob
    obtain ⟨hg, e, he, hb, hon⟩ := hpg o ho
    have hLq : L q = true := by rw [← hon]; exact hall e he hb
    have hy := Deps.elim o.after.toList hdeps (hob a σ (hm.stp0 hL) hm.ok hsame (hm.doneq hLq hL))
    have hdn : o.dst = some c := by rw [← hdi]; exact hp
    unfold wpOp
    simp only [ho]
    have hw : Region.wanted o (yielded ops a.tmps) = true := by simp [Region.wanted, hg]
    rw [if_pos hw]
    refine .inl (hy K Q fun v τ hs hr => hK _ τ ⟨hm.stp.trans hs, fun h => (by simp at h), hm.ok.put _ _, done' v τ (hs.le h1) (.inl (hΦp _ _)), fun _ h => (by simp at h), fun _ => ?_, same' v⟩)
    rw [hdn, eval_put_same hm.ok (hF.lt i c hp)]
    exact hr
  · rw [if_neg hip] at hob
    by_cases hiq : i = q
    · subst hiq
      rw [if_pos rfl] at hob
      have hLp : L p = false := by
        cases h : L p with
        | false => rfl
        | true => rw [hLpq h] at hL; cases hL
      have hrun := Deps.elim o.after.toList hdeps (hob a σ (hm.stp0 hLp) hm.ok hsame)
      have next : ∀ v τ, Stp 0 σ τ → A.has τ v → K (a.put o.dst v) τ.w := by
        intro v τ hs hv
        refine hK _ τ ⟨hm.stp.trans hs.toL0, fun _ => (hm.stp0 hLp).trans hs, hm.ok.put _ _, done' v τ hs.le0 (.inl (hΦ _ _)), fun _ _ => ?_, fun h => ?_, same' v⟩
        · have : o.dst = some d := by rw [← hdi]; exact hq
          rw [this, eval_put_same hm.ok (hF.lt i d hq)]
          exact hv
        · rw [hLp] at h
          simp at h; exact absurd h hpq
      unfold wpOp
      simp only [ho]
      by_cases hw : Region.wanted o (yielded ops a.tmps) = true
      · rw [if_pos hw]
        exact .inl (hrun.1 hw K Q next)
      · rw [if_neg hw]
        exact next undef σ (Stp.refl _ _) (hrun.2 (by simpa using hw))
    · rw [if_neg hiq] at hob
      have hrun := Deps.elim o.after.toList hdeps (hob a σ hm.stp hm.ok hsame)
      have hne : o.dst ≠ some d := fun he => hiq (hF.uniq i q d (by rw [hdi]; exact he) hq)
      have hne2 : o.dst ≠ some c := fun he => hip (hF.uniq i p c (by rw [hdi]; exact he) hp)
      have next : ∀ v τ, Stp 0 σ τ → (Φ i).has τ v → K (a.put o.dst v) τ.w := by
        intro v τ hs hv
        refine hK _ τ ⟨hm.stp.trans hs.toL0, fun h => ?_, hm.ok.put _ _, done' v τ hs.le0 (.inl hv), fun h h2 => ?_, fun h => ?_, same' v⟩
        · simp at h; exact (hm.stp0 h.1).trans hs
        · have hLq : L q = true := by simpa [Ne.symm hiq] using h
          have hLp : L p = false := by simp at h2; exact h2.1
          rw [eval_put_ne hne]
          exact A.up hs (hm.doneq hLq hLp)
        · have hLp : L p = true := by simpa [Ne.symm hip] using h
          rw [eval_put_ne hne2]
          exact B.up hs (hm.donep hLp)
      unfold wpOp
      simp only [ho]
      by_cases hw : Region.wanted o (yielded ops a.tmps) = true
      · rw [if_pos hw]
        exact .inl (hrun.1 hw K Q next)
      · rw [if_neg hw]
        exact next undef σ (Stp.refl _ _) (hrun.2 (by simpa using hw))
end Go.KL

/- A region in whatever order, of which one operation appends to what another one has made (sealed at once), and a third one writes what was there. -/
namespace Go.KL
open Go.RowKit
variable {P : Program}

theorem StpL.wid {L L' : List Nat} {σ τ : GW} (h : StpL L σ τ) (hL : ∀ x ∈ L, x ∈ L') : StpL L' σ τ :=
  ⟨h.os, h.tape, h.output, h.dr, h.size, fun b hb hm => h.blk b hb fun hx => hm (hL _ hx), fun b hb hm => h.st b hb fun hx => hm (hL _ hx)⟩
/-! ### The operation that writes appends to what an operation of the region has made; another one writes; another one writes -/
structure Mid6 (p q r z d c y N : Nat) (D : List Deferred) (W V : List Nat) (Z A B : Pr) (ops : Array Oper) (Φ : Nat → Ty) (a0 : Act) (σ0 : GW) (L : Nat → Bool) (a : Act) (σ : GW) : Prop where
  stp : StpL (W ++ V) σ0 σ
  stp1 : L r = false → StpL W σ0 σ
  stp0 : L p = false → Stp 0 σ0 σ
  ok : Ok N D a
  done : ∀ j, L j = true → rd ops (fun i => (Φ i).pr) j a σ
  donez : L z = true → L q = false → Z.has σ (a.eval (.tmp y))
  doneq : L q = true → L p = false → A.has σ (a.eval (.tmp d))
  donep : L r = true → B.has σ (a.eval (.tmp c))
  same : ∀ t, (∀ j, dstOf ops j = some t → L j = false) → a.eval (.tmp t) = a0.eval (.tmp t)

def OblS6 (P : Program) (N d : Nat) (D : List Deferred) (W : List Nat) (A : Pr) (T : Ty) (ops : Array Oper) (Φ : Nat → Ty) (a0 : Act) (σ0 : GW) (i : Nat) (o : Oper) : Prop :=
  ∀ a σ, Stp 0 σ0 σ → Ok N D a → (∀ t, free ops i t = true → a.eval (.tmp t) = a0.eval (.tmp t)) → A.has σ (a.eval (.tmp d)) → Deps ops (fun i => (Φ i).pr) a σ o.after.toList (YldL W P o a σ (fun v τ => T.has τ v))
def OblQ2 (P : Program) (N y : Nat) (D : List Deferred) (Z A : Pr) (ops : Array Oper) (Φ : Nat → Ty) (a0 : Act) (σ0 : GW) (i : Nat) (o : Oper) : Prop :=
  ∀ a σ, Stp 0 σ0 σ → Ok N D a → (∀ t, free ops i t = true → a.eval (.tmp t) = a0.eval (.tmp t)) → Z.has σ (a.eval (.tmp y)) → Deps ops (fun i => (Φ i).pr) a σ o.after.toList (Run P ops o a σ A)
def OblV (P : Program) (N : Nat) (D : List Deferred) (W V : List Nat) (B : Pr) (ops : Array Oper) (Φ : Nat → Ty) (a0 : Act) (σ0 : GW) (i : Nat) (o : Oper) : Prop :=
  ∀ a σ, StpL W σ0 σ → Ok N D a → (∀ t, free ops i t = true → a.eval (.tmp t) = a0.eval (.tmp t)) → Deps ops (fun i => (Φ i).pr) a σ o.after.toList (YldL V P o a σ (fun v τ => B.has τ v))
def earlyB (r : Nat) (ops : Array Oper) (i : Nat) : Bool := ((ancs ops.toList []).getD r []).contains i
theorem early_spec {r : Nat} {ops : Array Oper} {i : Nat} {L : Nat → Bool} (h : earlyB r ops i = true) (hr : ∃ o, ops[r]? = some o)
    (hcl : ∀ (j : Nat) oj, ops[j]? = some oj → L j = true → ∀ e ∈ oj.after, Region.binds .any e = true → L e.on = true) (hL : L r = true) : L i = true := by
  have hcl' : ∀ (j : Nat) o, ops.toList[j]? = some o → L j = true → ∀ e ∈ edges o, L e = true := fun j o ho hj e he => by
    unfold edges at he
    obtain ⟨x, hx, rfl⟩ := List.mem_map.1 he
    obtain ⟨h1, h2⟩ := List.mem_filter.1 hx
    exact hcl j o (by simpa using ho) hj x (by simpa using h1) h2
  obtain ⟨o, ho⟩ := hr
  have ho' : ops.toList[r]? = some o := by simpa using ho
  have := ancs_spec (all := ops.toList) hcl' ops.toList [] (fun j => by simp) (by simp) (fun i o _ hi => by simp at hi) r o ho' (fun e he => hcl' r o ho' hL e he)
  unfold earlyB at h
  exact this i (List.contains_iff_mem.1 h)
def Obls6 (P : Program) (p q r z d c y N : Nat) (D : List Deferred) (W V : List Nat) (Z A B : Pr) (ops : Array Oper) (Φ : Nat → Ty) (a0 : Act) (σ0 : GW) : Nat → List Oper → Prop
  | _, [] => True
  | i, o :: l => (if i = p then OblS6 P N d D W A (Φ p) ops Φ a0 σ0 i o else if i = q then OblQ2 P N y D Z A ops Φ a0 σ0 i o else if i = z then OblQ P N D Z ops Φ a0 σ0 i o else if i = r then OblV P N D W V B ops Φ a0 σ0 i o else if earlyB r ops i = true then Obl3 P N D W ops Φ a0 σ0 i o else Obl3 P N D (W ++ V) ops Φ a0 σ0 i o) ∧ Obls6 P p q r z d c y N D W V Z A B ops Φ a0 σ0 (i + 1) l
theorem Obls6.get {p q r z d c y N : Nat} {D : List Deferred} {W V : List Nat} {Z A B : Pr} {ops : Array Oper} {Φ : Nat → Ty} {a0 : Act} {σ0 : GW} : ∀ (l : List Oper) (k : Nat), Obls6 P p q r z d c y N D W V Z A B ops Φ a0 σ0 k l → ∀ j o, l[j]? = some o →
    (if k + j = p then OblS6 P N d D W A (Φ p) ops Φ a0 σ0 (k + j) o else if k + j = q then OblQ2 P N y D Z A ops Φ a0 σ0 (k + j) o else if k + j = z then OblQ P N D Z ops Φ a0 σ0 (k + j) o else if k + j = r then OblV P N D W V B ops Φ a0 σ0 (k + j) o else if earlyB r ops (k + j) = true then Obl3 P N D W ops Φ a0 σ0 (k + j) o else Obl3 P N D (W ++ V) ops Φ a0 σ0 (k + j) o)
  | [], _, _, j, o, h => by simp at h
  | x :: l, k, h, 0, o, hj => by simp at hj; subst hj; exact h.1
  | x :: l, k, h, j + 1, o, hj => by
    have := Obls6.get l (k + 1) h.2 j o (by simpa using hj)
    rwa [show k + 1 + j = k + (j + 1) by omega] at this
theorem Obls6.up {p q r z d c y N : Nat} {D : List Deferred} {W V : List Nat} {Z A B : Pr} {ops : Array Oper} {Φ : Nat → Ty} {a0 : Act} {σ0 σ1 : GW} (hs : Stp 0 σ0 σ1) : ∀ (l : List Oper) (k : Nat), Obls6 P p q r z d c y N D W V Z A B ops Φ a0 σ0 k l → Obls6 P p q r z d c y N D W V Z A B ops Φ a0 σ1 k l
  | [], _, _ => trivial
  | x :: l, k, h => by
    refine ⟨?_, Obls6.up hs l (k + 1) h.2⟩
    have h1 := h.1
    split at h1
    · rename_i e; rw [if_pos e]; exact fun a σ hs' => h1 a σ (hs.trans hs')
    · rename_i e
      rw [if_neg e]
      split at h1
      · rename_i e; rw [if_pos e]; exact fun a σ hs' => h1 a σ (hs.trans hs')
      · rename_i e
        rw [if_neg e]
        split at h1
        · rename_i e; rw [if_pos e]; exact fun a σ hs' => h1 a σ (hs.trans hs')
        · rename_i e
          rw [if_neg e]
          split at h1
          · rename_i e; rw [if_pos e]; exact fun a σ hs' => h1 a σ (hs.toL0.trans hs')
          · rename_i e
            rw [if_neg e]
            split at h1
            · rename_i e; rw [if_pos e]; exact fun a σ hs' => h1 a σ (hs.toL0.trans hs')
            · rename_i e; rw [if_neg e]; exact fun a σ hs' => h1 a σ (hs.toL0.trans hs')

theorem Mid6.op {p q r t z d c y N : Nat} {D : List Deferred} {W V : List Nat} {Z A B : Pr} {ops : Array Oper} {Φ : Nat → Ty} {a0 : Act} {σ0 : GW} {L : Nat → Bool} {a : Act} {σ : GW} {i : Nat} {o : Oper} {Q : Exit → Act → World → Prop} {K : Act → World → Prop}
    (hF : Form N ops) (h1 : 1 ∉ W) (h1V : 1 ∉ V) (hr : dstOf ops r = some c) (hq : dstOf ops q = some d) (hpq : p ≠ q) (hrp : r ≠ p) (hrq : r ≠ q) (hzq : z ≠ q) (hzp : z ≠ p) (hzr : z ≠ r) (hz : dstOf ops z = some y) (hΦz : ∀ e v, (Φ z).has e v) (hqg : ∀ o, ops[q]? = some o → o.guard = none ∧ ∃ e ∈ o.after, Region.binds .any e = true ∧ e.on = z) (hqo : ∃ o, ops[q]? = some o) (hΦ : ∀ e v, (Φ q).has e v) (hΦr : ∀ e v, (Φ r).has e v) (hpg : ∀ o, ops[p]? = some o → o.guard = none ∧ ∃ e ∈ o.after, Region.binds .any e = true ∧ e.on = q) (hrg : ∀ o, ops[r]? = some o → o.guard = none) (hrs : ∀ o, ops[r]? = some o → ∃ e ∈ o.after, Region.binds .any e = true ∧ e.on = t) (hts : ∃ ot, ops[t]? = some ot ∧ ∃ e ∈ ot.after, Region.binds .any e = true ∧ e.on = p) (hro : ∃ o, ops[r]? = some o) (hm : Mid6 p q r z d c y N D W V Z A B ops Φ a0 σ0 L a σ) (ho : ops[i]? = some o) (hL : L i = false)
    (hpo : ∃ o, ops[p]? = some o)
    (hob : if i = p then OblS6 P N d D W A (Φ p) ops Φ a0 σ0 i o else if i = q then OblQ2 P N y D Z A ops Φ a0 σ0 i o else if i = z then OblQ P N D Z ops Φ a0 σ0 i o else if i = r then OblV P N D W V B ops Φ a0 σ0 i o else if earlyB r ops i = true then Obl3 P N D W ops Φ a0 σ0 i o else Obl3 P N D (W ++ V) ops Φ a0 σ0 i o)
    (hall : ∀ e ∈ o.after, Region.binds .any e = true → L e.on = true) (hclosed : ∀ (j : Nat) oj, ops[j]? = some oj → L j = true → ∀ e ∈ oj.after, Region.binds .any e = true → L e.on = true)
    (hK : ∀ a' σ', Mid6 p q r z d c y N D W V Z A B ops Φ a0 σ0 (fun j => L j || j == i) a' σ' → K a' σ'.w) : wpOp P ops Q i K a σ.w := by
  have hdi : dstOf ops i = o.dst := by simp [dstOf, ho]
  have hsame : ∀ u, free ops i u = true → a.eval (.tmp u) = a0.eval (.tmp u) := by
    intro u ht
    refine hm.same u fun j hj => ?_
    cases hLj : L j with
    | false => rfl
    | true =>
      exfalso
      unfold dstOf at hj
      obtain ⟨oj, hoj, hd⟩ := Option.bind_eq_some_iff.1 hj
      unfold free at ht
      have := (List.all_eq_true.1 ht) oj (List.mem_of_getElem? hoj)
      simp only [hd, bne_self_eq_false, Bool.false_or, List.any_eq_true, Bool.and_eq_true, beq_iff_eq] at this
      obtain ⟨e, he, hb, hon⟩ := this
      have := hclosed j oj (by simpa using hoj) hLj e (by simpa using he) hb
      rw [hon, hL] at this
      cases this
  have hLpq : L p = true → L q = true := fun h => by
    obtain ⟨op, hop⟩ := hpo
    obtain ⟨_, e, he, hb, hon⟩ := hpg op hop
    rw [← hon]; exact hclosed p op hop h e he hb
  have hLqz : L q = true → L z = true := fun h => by
    obtain ⟨op, hop⟩ := hqo
    obtain ⟨_, e, he, hb, hon⟩ := hqg op hop
    rw [← hon]; exact hclosed q op hop h e he hb
  have hLtp : L t = true → L p = true := fun h => by
    obtain ⟨ot, hot, e, he, hb, hon⟩ := hts
    rw [← hon]; exact hclosed t ot hot h e he hb
  have hLrp : L r = true → L p = true := fun h => by
    obtain ⟨o', ho'⟩ := hro
    obtain ⟨e, he, hb, hon⟩ := hrs o' ho'
    exact hLtp (by rw [← hon]; exact hclosed r o' ho' h e he hb)
  have hdeps : ∀ e ∈ o.after.toList, Region.binds .any e = true → rd ops (fun i => (Φ i).pr) e.on a σ := fun e he hb => hm.done e.on (hall e (by simpa using he) hb)
  have done' : ∀ v (τ : GW), σ.Le τ → ((Φ i).has τ v ∨ dstOf ops i = none) → ∀ j, (L j || j == i) = true → rd ops (fun i => (Φ i).pr) j (a.put o.dst v) τ := by
    intro v τ hle hv j hLj
    by_cases hji : j = i
    · subst hji
      unfold rd
      cases hd : dstOf ops j with
      | none => trivial
      | some d =>
        have : o.dst = some d := by rw [← hdi]; exact hd
        simp only [this]
        rw [eval_put_same hm.ok (hF.lt j d hd)]
        exact hv.resolve_right (by rw [hd]; simp)
    · have hLj' : L j = true := by simpa [hji] using hLj
      have h0 := hm.done j hLj'
      unfold rd at h0 ⊢
      cases hd : dstOf ops j with
      | none => trivial
      | some d =>
        rw [hd] at h0
        simp only at h0 ⊢
        rw [eval_put_ne (fun he => hji (hF.uniq j i d hd (by rw [hdi]; exact he)))]
        exact (Φ j).up hle h0
  have same' : ∀ v t, (∀ j, dstOf ops j = some t → (L j || j == i) = false) → (a.put o.dst v).eval (.tmp t) = a0.eval (.tmp t) := by
    intro v t ht
    have h1 : o.dst ≠ some t := fun he => by
      have := ht i (by rw [hdi]; exact he)
      simp at this
    rw [eval_put_ne h1]
    exact hm.same t fun j hj => by
      have := ht j hj
      simp at this
      exact this.1
  by_cases hip : i = p
  · subst hip
    rw [if_pos rfl] at hob
    obtain ⟨hg, e, he, hb, hon⟩ := hpg o ho
    have hLq : L q = true := by rw [← hon]; exact hall e he hb
    have hLr : L r = false := by
      cases h : L r with
      | false => rfl
      | true => rw [hLrp h] at hL; cases hL
    have hy := Deps.elim o.after.toList hdeps (hob a σ (hm.stp0 hL) hm.ok hsame (hm.doneq hLq hL))
    unfold wpOp
    simp only [ho]
    have hw : Region.wanted o (yielded ops a.tmps) = true := by simp [Region.wanted, hg]
    rw [if_pos hw]
    refine .inl (hy K Q fun v τ hs hv => hK _ τ ⟨hm.stp.trans (hs.wid fun x hx => List.mem_append_left _ hx), fun _ => (hm.stp1 hLr).trans hs, fun h => (by simp at h), hm.ok.put _ _, done' v τ (hs.le h1) (.inl hv), fun _ h => (by rw [hLq] at h; simp at h), fun _ h => (by simp at h), fun h => ?_, same' v⟩)
    rw [hLr] at h
    simp at h; exact absurd h hrp
  · rw [if_neg hip] at hob
    by_cases hiq : i = q
    · subst hiq
      rw [if_pos rfl] at hob
      have hLp : L p = false := by
        cases h : L p with
        | false => rfl
        | true => rw [hLpq h] at hL; cases hL
      have hLr : L r = false := by
        cases h : L r with
        | false => rfl
        | true => rw [hLrp h] at hLp; cases hLp
      obtain ⟨hg, e, he, hb, hon⟩ := hqg o ho
      have hLz : L z = true := by rw [← hon]; exact hall e he hb
      have hrun := Deps.elim o.after.toList hdeps (hob a σ (hm.stp0 hLp) hm.ok hsame (hm.donez hLz hL))
      have next : ∀ v τ, Stp 0 σ τ → A.has τ v → K (a.put o.dst v) τ.w := by
        intro v τ hs hv
        refine hK _ τ ⟨hm.stp.trans hs.toL0, fun _ => (hm.stp1 hLr).trans hs.toL0, fun _ => (hm.stp0 hLp).trans hs, hm.ok.put _ _, done' v τ hs.le0 (.inl (hΦ _ _)), fun _ h => (by simp at h), fun _ _ => ?_, fun h => ?_, same' v⟩
        · have : o.dst = some d := by rw [← hdi]; exact hq
          rw [this, eval_put_same hm.ok (hF.lt i d hq)]
          exact hv
        · rw [hLr] at h
          simp at h; exact absurd h hrq
      unfold wpOp
      simp only [ho]
      by_cases hw : Region.wanted o (yielded ops a.tmps) = true
      · rw [if_pos hw]
        exact .inl (hrun.1 hw K Q next)
      · rw [if_neg hw]
        exact next undef σ (Stp.refl _ _) (hrun.2 (by simpa using hw))
    · rw [if_neg hiq] at hob
      by_cases hiz : i = z
      · subst hiz
        rw [if_pos rfl] at hob
        have hLq : L q = false := by
          cases h : L q with
          | false => rfl
          | true => rw [hLqz h] at hL; cases hL
        have hLp : L p = false := by
          cases h : L p with
          | false => rfl
          | true => rw [hLpq h] at hLq; cases hLq
        have hLr : L r = false := by
          cases h : L r with
          | false => rfl
          | true => rw [hLrp h] at hLp; cases hLp
        have hrun := Deps.elim o.after.toList hdeps (hob a σ (hm.stp0 hLp) hm.ok hsame)
        have next : ∀ v τ, Stp 0 σ τ → Z.has τ v → K (a.put o.dst v) τ.w := by
          intro v τ hs hv
          refine hK _ τ ⟨hm.stp.trans hs.toL0, fun _ => (hm.stp1 hLr).trans hs.toL0, fun _ => (hm.stp0 hLp).trans hs, hm.ok.put _ _, done' v τ hs.le0 (.inl (hΦz _ _)), fun _ _ => ?_, fun h _ => ?_, fun h => ?_, same' v⟩
          · have : o.dst = some y := by rw [← hdi]; exact hz
            rw [this, eval_put_same hm.ok (hF.lt i y hz)]
            exact hv
          · rw [hLq] at h
            simp at h; exact absurd h.symm hzq
          · rw [hLr] at h
            simp at h; exact absurd h.symm hzr
        unfold wpOp
        simp only [ho]
        by_cases hw : Region.wanted o (yielded ops a.tmps) = true
        · rw [if_pos hw]
          exact .inl (hrun.1 hw K Q next)
        · rw [if_neg hw]
          exact next undef σ (Stp.refl _ _) (hrun.2 (by simpa using hw))
      · rw [if_neg hiz] at hob
        have hne0 : o.dst ≠ some y := fun he => hiz (hF.uniq i z y (by rw [hdi]; exact he) hz)
        have hne : o.dst ≠ some d := fun he => hiq (hF.uniq i q d (by rw [hdi]; exact he) hq)
        by_cases hir : i = r
        · subst hir
          rw [if_pos rfl] at hob
          have hg := hrg o ho
          have hLp : L p = true := by
            obtain ⟨e, he, hb, hon⟩ := hrs o ho
            exact hLtp (by rw [← hon]; exact hall e he hb)
          have hy := Deps.elim o.after.toList hdeps (hob a σ (hm.stp1 hL) hm.ok hsame)
          have hdn : o.dst = some c := by rw [← hdi]; exact hr
          unfold wpOp
          simp only [ho]
          have hw : Region.wanted o (yielded ops a.tmps) = true := by simp [Region.wanted, hg]
          rw [if_pos hw]
          refine .inl (hy K Q fun v τ hs hv => hK _ τ ⟨hm.stp.trans (hs.wid fun x hx => List.mem_append_right _ hx), fun h => (by simp at h), fun h => (by rw [hLp] at h; simp at h), hm.ok.put _ _, done' v τ (hs.le h1V) (.inl (hΦr _ _)), fun _ h => (by rw [hLpq hLp] at h; simp at h), fun _ h => (by rw [hLp] at h; simp at h), fun _ => ?_, same' v⟩)
          rw [hdn, eval_put_same hm.ok (hF.lt i c hr)]
          exact hv
        · rw [if_neg hir] at hob
          have hrun : Run P ops o a σ (Φ i).pr := by
            by_cases hea : earlyB r ops i = true
            · rw [if_pos hea] at hob
              have hLr : L r = false := by
                cases h : L r with
                | false => rfl
                | true => rw [early_spec hea hro hclosed h] at hL; cases hL
              exact Deps.elim o.after.toList hdeps (hob a σ (hm.stp1 hLr) hm.ok hsame)
            · rw [if_neg hea] at hob
              exact Deps.elim o.after.toList hdeps (hob a σ hm.stp hm.ok hsame)
          have hne2 : o.dst ≠ some c := fun he => hir (hF.uniq i r c (by rw [hdi]; exact he) hr)
          have next : ∀ v τ, Stp 0 σ τ → (Φ i).has τ v → K (a.put o.dst v) τ.w := by
            intro v τ hs hv
            refine hK _ τ ⟨hm.stp.trans hs.toL0, fun h => ?_, fun h => ?_, hm.ok.put _ _, done' v τ hs.le0 (.inl hv), fun h h2 => ?_, fun h h2 => ?_, fun h => ?_, same' v⟩
            · simp at h; exact (hm.stp1 h.1).trans hs.toL0
            · simp at h; exact (hm.stp0 h.1).trans hs
            · have hLz : L z = true := by simpa [Ne.symm hiz] using h
              have hLq : L q = false := by simp at h2; exact h2.1
              rw [eval_put_ne hne0]
              exact Z.up hs (hm.donez hLz hLq)
            · have hLq : L q = true := by simpa [Ne.symm hiq] using h
              have hLp : L p = false := by simp at h2; exact h2.1
              rw [eval_put_ne hne]
              exact A.up hs (hm.doneq hLq hLp)
            · have hLr : L r = true := by simpa [Ne.symm hir] using h
              rw [eval_put_ne hne2]
              exact B.up hs (hm.donep hLr)
          unfold wpOp
          simp only [ho]
          by_cases hw : Region.wanted o (yielded ops a.tmps) = true
          · rw [if_pos hw]
            exact .inl (hrun.1 hw K Q next)
          · rw [if_neg hw]
            exact next undef σ (Stp.refl _ _) (hrun.2 (by simpa using hw))
end Go.KL

/- A region in whatever order, one operation of which stores: the others neither read nor write what it writes. -/
namespace Go.KL
open Go.RowKit
variable {P : Program}
structure Mid7 (p N : Nat) (D : List Deferred) (W : List Nat) (B : Pr) (ops : Array Oper) (Φ : Nat → Ty) (a0 : Act) (σ0 : GW) (L : Nat → Bool) (a : Act) (σ : GW) : Prop where
  stp : StpL W σ0 σ
  stp0 : L p = false → Stp 0 σ0 σ
  ok : Ok N D a
  done : ∀ j, L j = true → j ≠ p → rd ops (fun i => (Φ i).pr) j a σ
  donep : L p = true → B.has σ undef
  same : ∀ t, (∀ j, dstOf ops j = some t → L j = false) → a.eval (.tmp t) = a0.eval (.tmp t)

def OblW7 (P : Program) (N : Nat) (D : List Deferred) (W : List Nat) (B : Pr) (ops : Array Oper) (Φ : Nat → Ty) (a0 : Act) (σ0 : GW) (i : Nat) (o : Oper) : Prop :=
  ∀ a σ, Stp 0 σ0 σ → Ok N D a → (∀ t, free ops i t = true → a.eval (.tmp t) = a0.eval (.tmp t)) → Deps ops (fun i => (Φ i).pr) a σ o.after.toList (YldL W P o a σ (fun _ τ => B.has τ undef))
def Obls7 (P : Program) (p N : Nat) (D : List Deferred) (W : List Nat) (B : Pr) (ops : Array Oper) (Φ : Nat → Ty) (a0 : Act) (σ0 : GW) : Nat → List Oper → Prop
  | _, [] => True
  | i, o :: l => (if i = p then OblW7 P N D W B ops Φ a0 σ0 i o else Obl3 P N D W ops Φ a0 σ0 i o) ∧ Obls7 P p N D W B ops Φ a0 σ0 (i + 1) l
theorem Obls7.get {p N : Nat} {D : List Deferred} {W : List Nat} {B : Pr} {ops : Array Oper} {Φ : Nat → Ty} {a0 : Act} {σ0 : GW} : ∀ (l : List Oper) (k : Nat), Obls7 P p N D W B ops Φ a0 σ0 k l → ∀ j o, l[j]? = some o → (if k + j = p then OblW7 P N D W B ops Φ a0 σ0 (k + j) o else Obl3 P N D W ops Φ a0 σ0 (k + j) o)
  | [], _, _, j, o, h => by simp at h
  | x :: l, k, h, 0, o, hj => by simp at hj; subst hj; exact h.1
  | x :: l, k, h, j + 1, o, hj => by
    have := Obls7.get l (k + 1) h.2 j o (by simpa using hj)
    rwa [show k + 1 + j = k + (j + 1) by omega] at this
theorem Obls7.up {p N : Nat} {D : List Deferred} {W : List Nat} {B : Pr} {ops : Array Oper} {Φ : Nat → Ty} {a0 : Act} {σ0 σ1 : GW} (hs : Stp 0 σ0 σ1) : ∀ (l : List Oper) (k : Nat), Obls7 P p N D W B ops Φ a0 σ0 k l → Obls7 P p N D W B ops Φ a0 σ1 k l
  | [], _, _ => trivial
  | x :: l, k, h => by
    refine ⟨?_, Obls7.up hs l (k + 1) h.2⟩
    have h1 := h.1
    split at h1
    · rename_i e; rw [if_pos e]; exact fun a σ hs' => h1 a σ (hs.trans hs')
    · rename_i e; rw [if_neg e]; exact fun a σ hs' => h1 a σ (hs.toL0.trans hs')

theorem Mid7.op {p N : Nat} {D : List Deferred} {W : List Nat} {B : Pr} {ops : Array Oper} {Φ : Nat → Ty} {a0 : Act} {σ0 : GW} {L : Nat → Bool} {a : Act} {σ : GW} {i : Nat} {o : Oper} {Q : Exit → Act → World → Prop} {K : Act → World → Prop}
    (hF : Form N ops) (h1 : 1 ∉ W) (hp : dstOf ops p = none) (hpg : ∀ o, ops[p]? = some o → o.guard = none) (hm : Mid7 p N D W B ops Φ a0 σ0 L a σ) (ho : ops[i]? = some o) (hL : L i = false)
    (hob : if i = p then OblW7 P N D W B ops Φ a0 σ0 i o else Obl3 P N D W ops Φ a0 σ0 i o)
    (hall : ∀ e ∈ o.after, Region.binds .any e = true → L e.on = true) (hclosed : ∀ (j : Nat) oj, ops[j]? = some oj → L j = true → ∀ e ∈ oj.after, Region.binds .any e = true → L e.on = true)
    (hK : ∀ a' σ', Mid7 p N D W B ops Φ a0 σ0 (fun j => L j || j == i) a' σ' → K a' σ'.w) : wpOp P ops Q i K a σ.w := by
  have hdi : dstOf ops i = o.dst := by simp [dstOf, ho]
  have hsame : ∀ t, free ops i t = true → a.eval (.tmp t) = a0.eval (.tmp t) := by
    intro t ht
    refine hm.same t fun j hj => ?_
    cases hLj : L j with
    | false => rfl
    | true =>
      exfalso
      unfold dstOf at hj
      obtain ⟨oj, hoj, hd⟩ := Option.bind_eq_some_iff.1 hj
      unfold free at ht
      have := (List.all_eq_true.1 ht) oj (List.mem_of_getElem? hoj)
      simp only [hd, bne_self_eq_false, Bool.false_or, List.any_eq_true, Bool.and_eq_true, beq_iff_eq] at this
      obtain ⟨e, he, hb, hon⟩ := this
      have := hclosed j oj (by simpa using hoj) hLj e (by simpa using he) hb
      rw [hon, hL] at this
      cases this
  have hdeps : ∀ e ∈ o.after.toList, Region.binds .any e = true → rd ops (fun i => (Φ i).pr) e.on a σ := fun e he hb => by
    by_cases hep : e.on = p
    · rw [hep]; unfold rd; rw [hp]; trivial
    · exact hm.done e.on (hall e (by simpa using he) hb) hep
  -- whatever step of whichever kind: what holds behind it
  have done' : ∀ v (τ : GW), σ.Le τ → (i ≠ p → (Φ i).has τ v) → ∀ j, (L j || j == i) = true → j ≠ p → rd ops (fun i => (Φ i).pr) j (a.put o.dst v) τ := by
    intro v τ hle hv j hLj hjp
    by_cases hji : j = i
    · subst hji
      unfold rd
      cases hd : dstOf ops j with
      | none => trivial
      | some d =>
        have : o.dst = some d := by rw [← hdi]; exact hd
        simp only [this]
        rw [eval_put_same hm.ok (hF.lt j d hd)]
        exact hv hjp
    · have hLj' : L j = true := by simpa [hji] using hLj
      have h0 := hm.done j hLj' hjp
      unfold rd at h0 ⊢
      cases hd : dstOf ops j with
      | none => trivial
      | some d =>
        rw [hd] at h0
        simp only at h0 ⊢
        rw [eval_put_ne (fun he => hji (hF.uniq j i d hd (by rw [hdi]; exact he)))]
        exact (Φ j).up hle h0
  have same' : ∀ v t, (∀ j, dstOf ops j = some t → (L j || j == i) = false) → (a.put o.dst v).eval (.tmp t) = a0.eval (.tmp t) := by
    intro v t ht
    have h1 : o.dst ≠ some t := fun he => by
      have := ht i (by rw [hdi]; exact he)
      simp at this
    rw [eval_put_ne h1]
    exact hm.same t fun j hj => by
      have := ht j hj
      simp at this
      exact this.1
  by_cases hip : i = p
  · subst hip
    rw [if_pos rfl] at hob
    have hy := Deps.elim o.after.toList hdeps (hob a σ (hm.stp0 hL) hm.ok hsame)
    unfold wpOp
    simp only [ho]
    have hw : Region.wanted o (yielded ops a.tmps) = true := by simp [Region.wanted, hpg o ho]
    rw [if_pos hw]
    refine .inl (hy K Q fun v τ hs hr => hK _ τ ⟨hm.stp.trans hs, fun h => (by simp at h), hm.ok.put _ _, done' v τ (hs.le h1) (fun h => absurd rfl h), fun _ => ?_, same' v⟩)
    exact hr
  · rw [if_neg hip] at hob
    have hrun := Deps.elim o.after.toList hdeps (hob a σ hm.stp hm.ok hsame)
    have next : ∀ v τ, Stp 0 σ τ → (Φ i).has τ v → K (a.put o.dst v) τ.w := by
      intro v τ hs hv
      refine hK _ τ ⟨hm.stp.trans hs.toL0, fun h => ?_, hm.ok.put _ _, done' v τ hs.le0 (fun _ => hv), fun h => ?_, same' v⟩
      · simp at h; exact (hm.stp0 h.1).trans hs
      · have hLp : L p = true := by simpa [Ne.symm hip] using h
        exact B.up hs (hm.donep hLp)
    unfold wpOp
    simp only [ho]
    by_cases hw : Region.wanted o (yielded ops a.tmps) = true
    · rw [if_pos hw]
      exact .inl (hrun.1 hw K Q next)
    · rw [if_neg hw]
      exact next undef σ (Stp.refl _ _) (hrun.2 (by simpa using hw))

structure Half7 (m N : Nat) (D : List Deferred) (W : List Nat) (B : Pr) (ops : Array Oper) (Φ : Nat → Ty) (a0 : Act) (σ0 : GW) (a : Act) (σ : GW) : Prop where
  stp : StpL W σ0 σ
  ok : Ok N D a
  done : ∀ j, j < m → rd ops (fun i => (Φ i).pr) j a σ
  donep : B.has σ undef
  same : ∀ t, ((ops.toList.take m).all fun o => o.dst != some t) = true → a.eval (.tmp t) = a0.eval (.tmp t)

theorem Mid7.half {m p N : Nat} {D : List Deferred} {W : List Nat} {B : Pr} {ops : Array Oper} {Φ : Nat → Ty} {a0 : Act} {σ0 : GW} {a : Act} {σ : GW} (h : Mid7 p N D W B ops Φ a0 σ0 (fun j => decide (j < m)) a σ) (hpm : p < m) (hp : dstOf ops p = none) : Half7 m N D W B ops Φ a0 σ0 a σ := by
  refine ⟨h.stp, h.ok, fun j hj => ?_, h.donep (by simpa using hpm), fun t ht => h.same t fun j hj => ?_⟩
  · by_cases hjp : j = p
    · rw [hjp]; unfold rd; rw [hp]; trivial
    · exact h.done j (by simpa using hj) hjp
  · by_cases hjm : j < m
    · obtain ⟨o, ho, hd⟩ := Option.bind_eq_some_iff.1 hj
      have := (List.all_eq_true.1 ht) o (List.mem_of_getElem? (i := j) (by rw [List.getElem?_take, if_pos hjm]; exact ho))
      simp [hd] at this
    · simpa using hjm

theorem reg7 {N : Nat} {D : List Deferred} {ops : Array Oper} {id : Nat} {draw : Bool} {Q : Exit → Act → World → Prop} {a : Act} {σ : GW} (hP : P.follows .mixedOrders = true) (m p : Nat) (W : List Nat) (h1 : 1 ∉ W) (B : Pr) (Φ : Nat → Ty) (ok : Ok N D a) (hF : formB N ops = true) (hm : m ≤ ops.size) (hB : (!draw || forcedB m ops.toList) = true)
    (hpm : p < m) (hp : dstOf ops p = none) (hpg : (ops.toList[p]?).all (fun o => o.guard.isNone) = true) (hob : Obls7 P p N D W B ops Φ a σ 0 (ops.toList.take m))
    (hQ : ∀ a' σ', Half7 m N D W B ops Φ a σ a' σ' → wpList P ops Q (ops.toList.drop m) a' σ'.w) : (Code.region id ops draw).wp P Q a σ.w := by
  have hF' := Form.of_B hF
  have hpg' : ∀ o, ops[p]? = some o → o.guard = none := fun o ho => by
    rw [show ops.toList[p]? = some o by simpa using ho] at hpg
    simpa using hpg
  have step : ∀ σ0, Stp 0 σ σ0 → ∀ (i : Nat) o (L : Nat → Bool) a' σ' (K : Act → World → Prop), ops[i]? = some o → i < m → Mid7 p N D W B ops Φ a σ0 L a' σ' → L i = false → (∀ e ∈ o.after, Region.binds .any e = true → L e.on = true) →
      (∀ (j : Nat) oj, ops[j]? = some oj → L j = true → ∀ e ∈ oj.after, Region.binds .any e = true → L e.on = true) → (∀ a' σ', Mid7 p N D W B ops Φ a σ0 (fun j => L j || j == i) a' σ' → K a' σ'.w) → wpOp P ops Q i K a' σ'.w :=
    fun σ0 hs i o L a' σ' K ho him hmid hL hall hcl hK => Mid7.op hF' h1 hp hpg' hmid ho hL
      (by simpa using Obls7.get (ops.toList.take m) 0 (Obls7.up hs _ _ hob) i o (by rw [List.getElem?_take, if_pos him]; simpa using ho)) hall hcl hK
  have start : ∀ σ0, Mid7 p N D W B ops Φ a σ0 (fun _ => false) a σ0 := fun σ0 => ⟨StpL.refl _ _, fun _ => Stp.refl _ _, ok, fun _ h => (by cases h), fun h => (by cases h), fun _ _ => rfl⟩
  cases draw with
  | false =>
    refine wp_region ?_
    rw [List.range_eq_range']
    have := half_seq3 (Q := Q) hF' hm (Mid7 p N D W B ops Φ a σ) (step σ (Stp.refl _ _)) (fun a' σ' h => ?_) m 0 a σ (by simp) (by have := start σ; simpa using this)
    · rwa [show m + (ops.size - m) = ops.size by omega] at this
    · have := wpOps_eq_wpList (P := P) (ops := ops) (Q := Q) (ops.toList.drop m) m (fun j => by rw [List.getElem?_drop]; simp)
      rw [show (ops.toList.drop m).length = ops.size - m by simp] at this
      rw [this]
      exact hQ a' σ' (h.half hpm hp)
  | true =>
    refine wp_region_any hP ?_
    have hd := Stp.drew σ
    refine half_any3 hF' hm (by simpa using hB) (Mid7 p N D W B ops Φ a σ.drew) (step σ.drew hd) (fun a' σ' h => ?_) _ _ a σ.drew (by simp) (Nat.le_trans List.countP_le_length (by simp)) ?_ ?_ ?_
    · have h2 := h.half hpm hp
      exact hQ a' σ' ⟨hd.toL0.trans h2.stp, h2.ok, h2.done, h2.donep, h2.same⟩
    · intro j hj _; simp [hj]
    · intro j oj hj h
      have : j < ops.size := (Array.getElem?_eq_some_iff.1 hj).1
      simp [this] at h
    · have e : (fun j => decide (j < m) && (Array.replicate ops.size false).getD j true) = fun _ => false := by
        funext j; by_cases hj : j < ops.size
        · simp [hj]
        · simp; omega
      rw [e]; exact start σ.drew
theorem Half7.kt {m N : Nat} {D : List Deferred} {W : List Nat} {B : Pr} {ops : Array Oper} {Φ : Nat → Ty} {a0 a : Act} {σ0 σ : GW} {T : Ty} {t : Nat} (h : Half7 m N D W B ops Φ a0 σ0 a σ) (h1 : 1 ∉ W) (k : T.has σ0 (a0.eval (.tmp t))) (ht : ((ops.toList.take m).all fun o => o.dst != some t) = true) : T.has σ (a.eval (.tmp t)) := by
  rw [h.same t ht]; exact T.up (h.stp.le h1) k
def At0 (v : Value) (n : Nat) : Prop := 0 < n → ∃ g cap, v = .slice (some ⟨g, 0, none⟩) n cap
theorem Own.at0 {σ : GW} {k : Nat} {e : TypeId} {c n : Nat} {v : Value} {ts : List Ty} (h : Own σ k e c v n ts) : At0 v n := fun hn => by
  obtain ⟨g, cap, e, _, _⟩ := h.at hn
  exact ⟨g, cap, e⟩
def Pr.st (k : Nat) (e : TypeId) (c : Nat) (v : Value) (n : Nat) (ts : List Ty) : Pr := ⟨fun σ _ => Own σ k e c v n ts, fun hs h => h.keep hs (by decide) (.inl rfl)⟩
end Go.KL

/- A region in whatever order, one operation of which stores; what it waits for may read what it writes. -/
namespace Go.KL
open Go.RowKit
variable {P : Program}
def OblE (P : Program) (N : Nat) (D : List Deferred) (ops : Array Oper) (Φ : Nat → Ty) (a0 : Act) (σ0 : GW) (i : Nat) (o : Oper) : Prop :=
  ∀ a σ, Stp 0 σ0 σ → Ok N D a → (∀ t, free ops i t = true → a.eval (.tmp t) = a0.eval (.tmp t)) → Deps ops (fun i => (Φ i).pr) a σ o.after.toList (Run P ops o a σ (Φ i).pr)
def Obls9 (P : Program) (p N : Nat) (D : List Deferred) (W : List Nat) (B : Pr) (ops : Array Oper) (Φ : Nat → Ty) (a0 : Act) (σ0 : GW) : Nat → List Oper → Prop
  | _, [] => True
  | i, o :: l => (if i = p then OblW7 P N D W B ops Φ a0 σ0 i o else if earlyB p ops i = true then OblE P N D ops Φ a0 σ0 i o else Obl3 P N D W ops Φ a0 σ0 i o) ∧ Obls9 P p N D W B ops Φ a0 σ0 (i + 1) l
theorem Obls9.get {p N : Nat} {D : List Deferred} {W : List Nat} {B : Pr} {ops : Array Oper} {Φ : Nat → Ty} {a0 : Act} {σ0 : GW} : ∀ (l : List Oper) (k : Nat), Obls9 P p N D W B ops Φ a0 σ0 k l → ∀ j o, l[j]? = some o → (if k + j = p then OblW7 P N D W B ops Φ a0 σ0 (k + j) o else if earlyB p ops (k + j) = true then OblE P N D ops Φ a0 σ0 (k + j) o else Obl3 P N D W ops Φ a0 σ0 (k + j) o)
  | [], _, _, j, o, h => by simp at h
  | x :: l, k, h, 0, o, hj => by simp at hj; subst hj; exact h.1
  | x :: l, k, h, j + 1, o, hj => by
    have := Obls9.get l (k + 1) h.2 j o (by simpa using hj)
    rwa [show k + 1 + j = k + (j + 1) by omega] at this
theorem Obls9.up {p N : Nat} {D : List Deferred} {W : List Nat} {B : Pr} {ops : Array Oper} {Φ : Nat → Ty} {a0 : Act} {σ0 σ1 : GW} (hs : Stp 0 σ0 σ1) : ∀ (l : List Oper) (k : Nat), Obls9 P p N D W B ops Φ a0 σ0 k l → Obls9 P p N D W B ops Φ a0 σ1 k l
  | [], _, _ => trivial
  | x :: l, k, h => by
    refine ⟨?_, Obls9.up hs l (k + 1) h.2⟩
    have h1 := h.1
    split at h1
    · rename_i e; rw [if_pos e]; exact fun a σ hs' => h1 a σ (hs.trans hs')
    · rename_i e
      rw [if_neg e]
      split at h1
      · rename_i e2; rw [if_pos e2]; exact fun a σ hs' => h1 a σ (hs.trans hs')
      · rename_i e2; rw [if_neg e2]; exact fun a σ hs' => h1 a σ (hs.toL0.trans hs')

theorem Mid7.op9 {p N : Nat} {D : List Deferred} {W : List Nat} {B : Pr} {ops : Array Oper} {Φ : Nat → Ty} {a0 : Act} {σ0 : GW} {L : Nat → Bool} {a : Act} {σ : GW} {i : Nat} {o : Oper} {Q : Exit → Act → World → Prop} {K : Act → World → Prop}
    (hF : Form N ops) (h1 : 1 ∉ W) (hp : dstOf ops p = none) (hpg : ∀ o, ops[p]? = some o → o.guard = none) (hm : Mid7 p N D W B ops Φ a0 σ0 L a σ) (ho : ops[i]? = some o) (hL : L i = false)
    (hpo : ∃ o, ops[p]? = some o) (hob : if i = p then OblW7 P N D W B ops Φ a0 σ0 i o else if earlyB p ops i = true then OblE P N D ops Φ a0 σ0 i o else Obl3 P N D W ops Φ a0 σ0 i o)
    (hall : ∀ e ∈ o.after, Region.binds .any e = true → L e.on = true) (hclosed : ∀ (j : Nat) oj, ops[j]? = some oj → L j = true → ∀ e ∈ oj.after, Region.binds .any e = true → L e.on = true)
    (hK : ∀ a' σ', Mid7 p N D W B ops Φ a0 σ0 (fun j => L j || j == i) a' σ' → K a' σ'.w) : wpOp P ops Q i K a σ.w := by
  have hdi : dstOf ops i = o.dst := by simp [dstOf, ho]
  have hsame : ∀ t, free ops i t = true → a.eval (.tmp t) = a0.eval (.tmp t) := by
    intro t ht
    refine hm.same t fun j hj => ?_
    cases hLj : L j with
    | false => rfl
    | true =>
      exfalso
      unfold dstOf at hj
      obtain ⟨oj, hoj, hd⟩ := Option.bind_eq_some_iff.1 hj
      unfold free at ht
      have := (List.all_eq_true.1 ht) oj (List.mem_of_getElem? hoj)
      simp only [hd, bne_self_eq_false, Bool.false_or, List.any_eq_true, Bool.and_eq_true, beq_iff_eq] at this
      obtain ⟨e, he, hb, hon⟩ := this
      have := hclosed j oj (by simpa using hoj) hLj e (by simpa using he) hb
      rw [hon, hL] at this
      cases this
  have hdeps : ∀ e ∈ o.after.toList, Region.binds .any e = true → rd ops (fun i => (Φ i).pr) e.on a σ := fun e he hb => by
    by_cases hep : e.on = p
    · rw [hep]; unfold rd; rw [hp]; trivial
    · exact hm.done e.on (hall e (by simpa using he) hb) hep
  -- whatever step of whichever kind: what holds behind it
  have done' : ∀ v (τ : GW), σ.Le τ → (i ≠ p → (Φ i).has τ v) → ∀ j, (L j || j == i) = true → j ≠ p → rd ops (fun i => (Φ i).pr) j (a.put o.dst v) τ := by
    intro v τ hle hv j hLj hjp
    by_cases hji : j = i
    · subst hji
      unfold rd
      cases hd : dstOf ops j with
      | none => trivial
      | some d =>
        have : o.dst = some d := by rw [← hdi]; exact hd
        simp only [this]
        rw [eval_put_same hm.ok (hF.lt j d hd)]
        exact hv hjp
    · have hLj' : L j = true := by simpa [hji] using hLj
      have h0 := hm.done j hLj' hjp
      unfold rd at h0 ⊢
      cases hd : dstOf ops j with
      | none => trivial
      | some d =>
        rw [hd] at h0
        simp only at h0 ⊢
        rw [eval_put_ne (fun he => hji (hF.uniq j i d hd (by rw [hdi]; exact he)))]
        exact (Φ j).up hle h0
  have same' : ∀ v t, (∀ j, dstOf ops j = some t → (L j || j == i) = false) → (a.put o.dst v).eval (.tmp t) = a0.eval (.tmp t) := by
    intro v t ht
    have h1 : o.dst ≠ some t := fun he => by
      have := ht i (by rw [hdi]; exact he)
      simp at this
    rw [eval_put_ne h1]
    exact hm.same t fun j hj => by
      have := ht j hj
      simp at this
      exact this.1
  by_cases hip : i = p
  · subst hip
    rw [if_pos rfl] at hob
    have hy := Deps.elim o.after.toList hdeps (hob a σ (hm.stp0 hL) hm.ok hsame)
    unfold wpOp
    simp only [ho]
    have hw : Region.wanted o (yielded ops a.tmps) = true := by simp [Region.wanted, hpg o ho]
    rw [if_pos hw]
    refine .inl (hy K Q fun v τ hs hr => hK _ τ ⟨hm.stp.trans hs, fun h => (by simp at h), hm.ok.put _ _, done' v τ (hs.le h1) (fun h => absurd rfl h), fun _ => ?_, same' v⟩)
    exact hr
  · rw [if_neg hip] at hob
    have hrun : Run P ops o a σ (Φ i).pr := by
      by_cases he : earlyB p ops i = true
      · rw [if_pos he] at hob
        have hLp : L p = false := by
          cases h : L p with
          | false => rfl
          | true => have := early_spec he hpo hclosed h; rw [hL] at this; cases this
        exact Deps.elim o.after.toList hdeps (hob a σ (hm.stp0 hLp) hm.ok hsame)
      · rw [if_neg he] at hob
        exact Deps.elim o.after.toList hdeps (hob a σ hm.stp hm.ok hsame)
    have next : ∀ v τ, Stp 0 σ τ → (Φ i).has τ v → K (a.put o.dst v) τ.w := by
      intro v τ hs hv
      refine hK _ τ ⟨hm.stp.trans hs.toL0, fun h => ?_, hm.ok.put _ _, done' v τ hs.le0 (fun _ => hv), fun h => ?_, same' v⟩
      · simp at h; exact (hm.stp0 h.1).trans hs
      · have hLp : L p = true := by simpa [Ne.symm hip] using h
        exact B.up hs (hm.donep hLp)
    unfold wpOp
    simp only [ho]
    by_cases hw : Region.wanted o (yielded ops a.tmps) = true
    · rw [if_pos hw]
      exact .inl (hrun.1 hw K Q next)
    · rw [if_neg hw]
      exact next undef σ (Stp.refl _ _) (hrun.2 (by simpa using hw))

theorem reg9 {N : Nat} {D : List Deferred} {ops : Array Oper} {id : Nat} {draw : Bool} {Q : Exit → Act → World → Prop} {a : Act} {σ : GW} (hP : P.follows .mixedOrders = true) (m p : Nat) (W : List Nat) (h1 : 1 ∉ W) (B : Pr) (Φ : Nat → Ty) (ok : Ok N D a) (hF : formB N ops = true) (hm : m ≤ ops.size) (hB : (!draw || forcedB m ops.toList) = true)
    (hpm : p < m) (hp : dstOf ops p = none) (hpg : (ops.toList[p]?).all (fun o => o.guard.isNone) = true) (hob : Obls9 P p N D W B ops Φ a σ 0 (ops.toList.take m))
    (hQ : ∀ a' σ', Half7 m N D W B ops Φ a σ a' σ' → wpList P ops Q (ops.toList.drop m) a' σ'.w) : (Code.region id ops draw).wp P Q a σ.w := by
  have hF' := Form.of_B hF
  have hpg' : ∀ o, ops[p]? = some o → o.guard = none := fun o ho => by
    rw [show ops.toList[p]? = some o by simpa using ho] at hpg
    simpa using hpg
  have hpo : ∃ o, ops[p]? = some o := ⟨ops[p]'(by omega), by simp⟩
  have step : ∀ σ0, Stp 0 σ σ0 → ∀ (i : Nat) o (L : Nat → Bool) a' σ' (K : Act → World → Prop), ops[i]? = some o → i < m → Mid7 p N D W B ops Φ a σ0 L a' σ' → L i = false → (∀ e ∈ o.after, Region.binds .any e = true → L e.on = true) →
      (∀ (j : Nat) oj, ops[j]? = some oj → L j = true → ∀ e ∈ oj.after, Region.binds .any e = true → L e.on = true) → (∀ a' σ', Mid7 p N D W B ops Φ a σ0 (fun j => L j || j == i) a' σ' → K a' σ'.w) → wpOp P ops Q i K a' σ'.w :=
    fun σ0 hs i o L a' σ' K ho him hmid hL hall hcl hK => Mid7.op9 hF' h1 hp hpg' hmid ho hL hpo
      (by simpa using Obls9.get (ops.toList.take m) 0 (Obls9.up hs _ _ hob) i o (by rw [List.getElem?_take, if_pos him]; simpa using ho)) hall hcl hK
  have start : ∀ σ0, Mid7 p N D W B ops Φ a σ0 (fun _ => false) a σ0 := fun σ0 => ⟨StpL.refl _ _, fun _ => Stp.refl _ _, ok, fun _ h => (by cases h), fun h => (by cases h), fun _ _ => rfl⟩
  cases draw with
  | false =>
    refine wp_region ?_
    rw [List.range_eq_range']
    have := half_seq3 (Q := Q) hF' hm (Mid7 p N D W B ops Φ a σ) (step σ (Stp.refl _ _)) (fun a' σ' h => ?_) m 0 a σ (by simp) (by have := start σ; simpa using this)
    · rwa [show m + (ops.size - m) = ops.size by omega] at this
    · have := wpOps_eq_wpList (P := P) (ops := ops) (Q := Q) (ops.toList.drop m) m (fun j => by rw [List.getElem?_drop]; simp)
      rw [show (ops.toList.drop m).length = ops.size - m by simp] at this
      rw [this]
      exact hQ a' σ' (h.half hpm hp)
  | true =>
    refine wp_region_any hP ?_
    have hd := Stp.drew σ
    refine half_any3 hF' hm (by simpa using hB) (Mid7 p N D W B ops Φ a σ.drew) (step σ.drew hd) (fun a' σ' h => ?_) _ _ a σ.drew (by simp) (Nat.le_trans List.countP_le_length (by simp)) ?_ ?_ ?_
    · have h2 := h.half hpm hp
      exact hQ a' σ' ⟨hd.toL0.trans h2.stp, h2.ok, h2.done, h2.donep, h2.same⟩
    · intro j hj _; simp [hj]
    · intro j oj hj h
      have : j < ops.size := (Array.getElem?_eq_some_iff.1 hj).1
      simp [this] at h
    · have e : (fun j => decide (j < m) && (Array.replicate ops.size false).getD j true) = fun _ => false := by
        funext j; by_cases hj : j < ops.size
        · simp [hj]
        · simp; omega
      rw [e]; exact start σ.drew
theorem ob9 {i p : Nat} {A B C : Prop} {b : Bool} (h : i ≠ p) (h5 : b = false) (k : C) : if i = p then A else if b = true then B else C := by rw [if_neg h, if_neg (by rw [h5]; decide)]; exact k
theorem ob9e {i p : Nat} {A B C : Prop} {b : Bool} (h : i ≠ p) (h5 : b = true) (k : B) : if i = p then A else if b = true then B else C := by rw [if_neg h, if_pos h5]; exact k
theorem y_indexFc {d : Option Tmp} {ty : TypeId} {pos : String} {af : Array Edge} {g : Option (Nat × Bool)} {a : Act} {σ : GW} {x y : Operand} {n c i : Nat} {t e : TypeId} {z v : Value} {b : Nat} {ki : IntKind} (ht : P.underlying t = some (.slice e)) (he : Info P e z c b)
    (h : At0 v n) (hx : a.eval x = v) (hy : a.eval y = .int ki ((i : Nat) : Int)) (h1 : i < n) :
    Yld P ⟨d, .indexAddr t x y, ty, pos, af, g⟩ a σ (Ty.val (cellPtr v (i * c))).pr := by
  obtain ⟨g, cap, rfl⟩ := h (by omega)
  refine Yld.of_run (v := .pointer (some ⟨g, i * c, none⟩)) ?_ rfl
  simp only [execOp, hx, hy]
  simp [Instr.indexAt, asIntOf, run_underlying ht, h1, he.size, Addr.add_lit]
end Go.KL

/- Calls of a function value that has captured nothing; halves (never beside KlKnd). -/
namespace Go.KL
open Go.RowKit
variable {P : Program} {d : Option Tmp} {ty : TypeId} {pos : String} {af : Array Edge} {g : Option (Nat × Bool)} {a : Act} {σ : GW}
theorem y_shr1 {x y : Operand} {t u : TypeId} {n : Nat} (hx : a.eval x = .int .u64 ((n : Nat) : Int)) (hy : a.eval y = .int .u64 1) : Yld P ⟨d, .binOp .shr t x y u, ty, pos, af, g⟩ a σ (Ty.val (.int .u64 ((n / 2 : Nat) : Int))).pr :=
  Yld.of_run (v := .int .u64 ((n / 2 : Nat) : Int)) (by simp only [execOp, hx, hy]; simp [go_sem]; try rfl) rfl
theorem y_callz {f : FuncId} {fn : Func} {q : Operand} {xs : Array Operand} {tys : Array TypeId} {R : Ty} (args : Array Value) (hq : At (.val (.func (.func f) #[] #[])) σ a q) (hf : P.funcs[f]? = some fn) (hn : (fn.name == "runtime.NumGoroutine") = false) (hb : fn.body.isNone = false)
    (hargs : xs.map a.eval = args) (hc : FnC P f args σ R) :
    Yld P ⟨d, .call ⟨.value q, xs, tys⟩, ty, pos, af, g⟩ a σ R.pr := by
  intro K Q hk
  have e : a.eval q = .func (.func f) #[] #[] := hq
  have hr : (execOp a.eval ⟨d, .call ⟨.value q, xs, tys⟩, ty, pos, af, g⟩).run P σ.w = .ok (.enter f args) σ.w := by
    have hn' : ¬ fn.name = "runtime.NumGoroutine" := by simpa using hn
    have hb' : ¬ fn.body = none := by intro e; simp [e] at hb
    rw [← hargs]
    simp only [execOp, resolve, e]
    simp [Deferred.ofValue, invoke, callFunc, hf, hn', hb', program, Sem.run, Sem.run_bind]
  unfold Oper.wp
  rw [hr]
  refine Calls.mono hc ?_
  rintro e w' ⟨v, τ, rfl, hs, rfl, hv⟩
  exact hk v τ hs hv
end Go.KL

/- From a row's reading of its arguments to semantic types, and from a law's contract back to the row. -/
namespace Go.KL
open Go.ChangeShapes Go.WideShapes Go.ChangeAt Go.RowKit Go.Deep
variable {P : Program}

def GW.all (W : World) : GW := ⟨W, fun b => if b < W.heap.size then 1 else 0, fun b h => by
  by_cases hb : b < W.heap.size
  · exact hb
  · simp [hb] at h⟩

structure Bulk {H : Type} (B : DataW H → Nat) (BA : List (DataW H) → Nat) : Prop where
  one : ∀ d, 1 ≤ B d
  str : ∀ l, B (.lit (.string l)) = l.length + 1
  slice : ∀ es sp, B (.slice es sp) = BA es + BA sp + 1
  agg : ∀ ps, B (.agg ps) = BA ps + 1
  nil : BA [] = 0
  cons : ∀ d r, BA (d :: r) = B d + BA r

def Rd (P : Program) (t : TypeId) {α : Type} (cells : α → List Ty) (wf : α → Prop) (sz : α → Nat) (rc : α → Prop) : Prop :=
  ∀ (H : Type) (enc : TypeId × Value → H) (B : DataW H → Nat) (BA : List (DataW H) → Nat), Bulk B BA → ∀ (W : World) (fuel : Nat) (cs : List Value) (d : DataW H) (ps : List MemPlace),
    DataW.trod enc P W 0 (fun _ => true) true fuel t cs = some (d, ps) → ∃ x : α, wf x ∧ sz x ≤ B d ∧ ((d.weights P t).all (· ≤ reachBytes) = true → rc x) ∧ cs.length = (cells x).length ∧
      ∀ (j : Nat) (T : Ty) (u : Value), (cells x)[j]? = some T → cs[j]? = some u → T.has (GW.all W) u

theorem one_cell {T : Ty} {v : Value} {σ : GW} (h : T.has σ v) : ∀ (j : Nat) (U : Ty) (u : Value), [T][j]? = some U → [v][j]? = some u → U.has σ u := by
  intro j U u h1 h2
  match j with
  | 0 => simp at h1 h2; subst h1; subst h2; exact h
  | j + 1 => simp at h1

theorem rd_int {t : TypeId} {k : IntKind} (ht : P.underlying t = some (.int k)) : Rd P t (fun n : Int => [Ty.val (.int k n)]) (fun n => (Lit.int k n).wf = true) (fun _ => 1) (fun _ => True) := by
  intro H enc B BA hB W fuel cs d ps h
  obtain ⟨n, rfl, e, hw⟩ := DataW.trod_int ht h
  obtain ⟨rfl, rfl⟩ := Prod.mk.inj e
  exact ⟨n, hw, hB.one _, fun _ => trivial, rfl, one_cell rfl⟩
theorem BA_map {H : Type} {B : DataW H → Nat} {BA : List (DataW H) → Nat} (hB : Bulk B BA) {α : Type} (sz : α → Nat) : ∀ (xs : List α) (D : List (DataW H)), xs.length = D.length → (∀ (i : Nat) x d, xs[i]? = some x → D[i]? = some d → sz x ≤ B d) → (xs.map sz).sum ≤ BA D
  | [], [], _, _ => by simp
  | x :: xs, d :: D, hl, h => by
    rw [hB.cons, List.map_cons, List.sum_cons]
    have h0 := h 0 x d rfl rfl
    have := BA_map hB sz xs D (by simpa using hl) (fun i y e hy he => h (i + 1) y e (by simpa using hy) (by simpa using he))
    omega

theorem weightsAll_mem {H : Type} {e : TypeId} : ∀ {D : List (DataW H)} {d : DataW H}, d ∈ D → ∀ n, n ∈ d.weights P e → n ∈ DataW.weightsAll P e D
  | x :: D, d, h, n, hn => by
    simp only [DataW.weightsAll, List.mem_append]
    rcases List.mem_cons.1 h with rfl | h
    · exact .inl hn
    · exact .inr (weightsAll_mem h n hn)

theorem spot_none {w : World} {a : Addr} {v : Value} (h : w.cell? a = some v) : a.spot = none := by
  unfold World.cell? at h
  split at h
  · split at h
    · cases h
    · rename_i hs; simpa using hs
  · cases h

theorem rd_slice {t e c : TypeId} {α : Type} {cells : α → List Ty} {wf : α → Prop} {sz : α → Nat} {rc : α → Prop} (ht : P.underlying t = some (.slice e)) (hc : P.cellsOf e = c) (hc0 : 0 < c) (he : Rd P e cells wf sz rc) (hcl : ∀ x, wf x → (cells x).length = c) :
    Rd P t (fun xs : List α => [Ty.sl c xs.length (xs.flatMap cells)]) (fun xs => xs.length ≤ maxLen ∧ ∀ x ∈ xs, wf x) (fun xs => (xs.map sz).sum + 1) (fun xs => xs.length * P.bytesOf e ≤ reachBytes ∧ ∀ x ∈ xs, rc x) := by
  intro H enc B BA hB W fuel cs d ps h
  rcases open_slice ht h with ⟨rfl, e1⟩ | ⟨a, len, cap, m, n, D, Pl, rfl, _, hlen, hcap, hm, e1, hel⟩
  · obtain ⟨rfl, rfl⟩ := Prod.mk.inj e1
    exact ⟨[], ⟨Nat.zero_le _, fun x h => by cases h⟩, by simpa using hB.one _, fun _ => ⟨by simp, fun x h => by cases h⟩, rfl, one_cell ⟨none, 0, 0, 0, rfl, ⟨Nat.le_refl _, by decide⟩, by simp, .inl rfl, fun j T hj => by simp at hj⟩⟩
  · obtain ⟨rfl, rfl⟩ := Prod.mk.inj e1
    subst hc
    simp only [if_true] at hm
    subst hm
    have hx : ∀ i : Fin len, ∃ x : α, ∃ cs' : List Value, W.cells? 0 (a.add (i * P.cellsOf e)) (P.cellsOf e) = some cs' ∧ wf x ∧ sz x ≤ B (D i) ∧ (((D i).weights P e).all (· ≤ reachBytes) = true → rc x) ∧ cs'.length = (cells x).length ∧
        ∀ (j : Nat) (T : Ty) (u : Value), (cells x)[j]? = some T → cs'[j]? = some u → T.has (GW.all W) u := by
      intro i
      obtain ⟨cs', h1, h2⟩ := hel i (by omega)
      obtain ⟨x, hx⟩ := he H enc B BA hB W n cs' _ _ h2
      exact ⟨x, cs', h1, hx⟩
    let f : Fin len → α := fun i => Classical.choose (hx i)
    have hf : ∀ i : Fin len, ∃ cs' : List Value, W.cells? 0 (a.add (i * P.cellsOf e)) (P.cellsOf e) = some cs' ∧ wf (f i) ∧ sz (f i) ≤ B (D i) ∧ (((D i).weights P e).all (· ≤ reachBytes) = true → rc (f i)) ∧ cs'.length = (cells (f i)).length ∧
        ∀ (j : Nat) (T : Ty) (u : Value), (cells (f i))[j]? = some T → cs'[j]? = some u → T.has (GW.all W) u := fun i => Classical.choose_spec (hx i)
    have hlf : (List.ofFn f).length = len := by simp
    have hget : ∀ (i : Nat) (x : α), (List.ofFn f)[i]? = some x → ∃ hi : i < len, x = f ⟨i, hi⟩ := fun i x h => by
      have hi : i < len := by have := (List.getElem?_eq_some_iff.1 h).1; simpa using this
      refine ⟨hi, ?_⟩
      rw [List.getElem?_ofFn] at h
      simp [hi] at h
      exact h.symm
    have hmem : ∀ x ∈ List.ofFn f, ∃ i : Fin len, x = f i := fun x h => by
      obtain ⟨i, hi⟩ := List.mem_iff_getElem?.1 h
      obtain ⟨hi', rfl⟩ := hget i x hi
      exact ⟨⟨i, hi'⟩, rfl⟩
    have hwf : ∀ x ∈ List.ofFn f, wf x := fun x h => by
      obtain ⟨i, rfl⟩ := hmem x h
      obtain ⟨_, _, h1, _⟩ := hf i
      exact h1
    have hflat : ∀ (xs : List α), (∀ x ∈ xs, wf x) → (xs.flatMap cells).length = xs.length * P.cellsOf e := fun xs h => by
      induction xs with
      | nil => simp
      | cons x xs ih =>
        rw [List.flatMap_cons, List.length_append, hcl x (h x (by simp)), ih (fun y hy => h y (by simp [hy])), List.length_cons, Nat.succ_mul]; omega
    refine ⟨List.ofFn f, ⟨by rw [hlf]; omega, hwf⟩, ?_, fun hr => ⟨?_, fun x h => ?_⟩, rfl, one_cell ?_⟩
    · rw [hB.slice]
      have := BA_map hB sz (List.ofFn f) ((List.range len).map D) (by simp) (fun i x d hx hd => by
        obtain ⟨hi, rfl⟩ := hget i x hx
        obtain ⟨_, _, _, h2, _⟩ := hf ⟨i, hi⟩
        rw [List.getElem?_map, List.getElem?_range hi] at hd
        simp at hd; subst hd; exact h2)
      show (List.map sz (List.ofFn f)).sum + 1 ≤ _
      omega
    · rw [hlf]
      have : (((List.range len).map D).length + ((List.range (m - len)).map fun j => D (len + j)).length) * P.bytesOf e ≤ reachBytes := by
        have := List.all_eq_true.1 hr _ (by simp only [DataW.weights, ht]; exact List.mem_cons_self)
        simpa using this
      refine Nat.le_trans (Nat.mul_le_mul_right _ ?_) this
      simp
    · obtain ⟨i, rfl⟩ := hmem x h
      obtain ⟨_, _, _, _, h3, _⟩ := hf i
      refine h3 (List.all_eq_true.2 fun k hk => ?_)
      refine List.all_eq_true.1 hr k ?_
      simp only [DataW.weights, ht]
      refine List.mem_cons_of_mem _ (List.mem_append.2 (.inl (weightsAll_mem (D := List.map D (List.range len)) (d := D i.val) (List.mem_map.2 ⟨i.val, List.mem_range.2 i.2, rfl⟩) k hk)))
    · -- the cells
      by_cases h0 : len = 0
      · have e0 : List.ofFn f = [] := List.eq_nil_of_length_eq_zero (by rw [hlf, h0])
        rw [e0, h0]
        exact ⟨some a, m, 0, 0, rfl, ⟨Nat.zero_le _, hcap⟩, by simp, .inl rfl, fun j T hj => by simp at hj⟩
      · have hcell : ∀ (i : Fin len) (k : Nat) (T : Ty), (cells (f i))[k]? = some T → ∃ u, W.cell? ((a.add (i * P.cellsOf e)).add k) = some u ∧ T.has (GW.all W) u := fun i k T hT => by
          obtain ⟨cs', h1, h2, _, _, h5, h6⟩ := hf i
          have hk : k < cs'.length := by rw [h5]; exact (List.getElem?_eq_some_iff.1 hT).1
          refine ⟨cs'[k], ?_, h6 k T _ hT (by simp [hk])⟩
          have hkc : k < P.cellsOf e := by rw [← hcl _ h2, ← h5]; exact hk
          unfold World.cells? at h1
          rw [if_pos (Nat.zero_le _)] at h1
          have := mapM_some_get h1 k k (by rw [List.getElem?_range hkc])
          rw [this]; simp [hk]
        have hspot : a.spot = none := by
          obtain ⟨cs', h1, h2, _, _, h5, h6⟩ := hf ⟨0, by omega⟩
          have h7 : 0 < (cells (f ⟨0, by omega⟩)).length := by rw [hcl _ h2]; exact hc0
          obtain ⟨u, hu, _⟩ := hcell ⟨0, by omega⟩ 0 _ (List.getElem?_eq_getElem h7)
          simp [Addr.add] at hu
          exact spot_none hu
        obtain ⟨ab, ao, asp⟩ := a
        simp only at hspot
        subst hspot
        have hlt : ab < W.heap.size := by
          obtain ⟨cs', h1, h2, _, _, h5, h6⟩ := hf ⟨0, by omega⟩
          have h7 : 0 < (cells (f ⟨0, by omega⟩)).length := by rw [hcl _ h2]; exact hc0
          obtain ⟨u, hu, _⟩ := hcell ⟨0, by omega⟩ 0 _ (List.getElem?_eq_getElem h7)
          simp [Addr.add] at hu
          exact World.block_lt_of_cell? _ _ hu
        refine ⟨some ⟨ab, ao, none⟩, m, ab, ao, by rw [hlf], ⟨by omega, hcap⟩, hflat _ hwf, .inr ⟨rfl, by simp [GW.all, hlt]⟩, fun j T hj => ?_⟩
        -- cell j is cell j % c of element j / c
        have key : ∀ (xs : List α) (o : Nat), (∀ x ∈ xs, wf x) → (∀ (i : Nat) x, xs[i]? = some x → ∀ (k : Nat) (T : Ty), (cells x)[k]? = some T → ∃ u, W.cell? ⟨ab, o + i * P.cellsOf e + k, none⟩ = some u ∧ T.has (GW.all W) u) →
            ∀ (j : Nat) (T : Ty), (xs.flatMap cells)[j]? = some T → ∃ u, W.cell? ⟨ab, o + j, none⟩ = some u ∧ T.has (GW.all W) u := by
          intro xs
          induction xs with
          | nil => intro o _ _ j T hj; simp at hj
          | cons x xs ih =>
            intro o hw hc j T hj
            rw [List.flatMap_cons] at hj
            have hlx := hcl x (hw x (by simp))
            by_cases hjl : j < (cells x).length
            · rw [List.getElem?_append_left hjl] at hj
              have := hc 0 x rfl j T hj
              simpa using this
            · rw [List.getElem?_append_right (by omega)] at hj
              have := ih (o + P.cellsOf e) (fun y hy => hw y (by simp [hy])) (fun i y hy k T hT => by
                have := hc (i + 1) y (by simpa using hy) k T hT
                rw [Nat.succ_mul] at this
                rw [show o + P.cellsOf e + i * P.cellsOf e + k = o + (i * P.cellsOf e + P.cellsOf e) + k by omega]
                exact this) _ T hj
              rw [hlx] at this hjl
              rwa [show o + P.cellsOf e + (j - P.cellsOf e) = o + j by omega] at this
        refine key (List.ofFn f) ao hwf (fun i x hx k T hT => ?_) j T hj
        obtain ⟨hi, rfl⟩ := hget i x hx
        have := hcell ⟨i, hi⟩ k T hT
        simp only [Addr.add_lit] at this
        exact this

theorem Rd.conv {t : TypeId} {α β : Type} {cells : α → List Ty} {wf : α → Prop} {sz : α → Nat} {rc : α → Prop} {cells' : β → List Ty} {wf' : β → Prop} {sz' : β → Nat} {rc' : β → Prop} (h : Rd P t cells wf sz rc) (g : α → β)
    (hg : ∀ x, wf x → wf' (g x) ∧ sz' (g x) ≤ sz x ∧ (rc x → rc' (g x)) ∧ cells' (g x) = cells x) : Rd P t cells' wf' sz' rc' := by
  intro H enc B BA hB W fuel cs d ps ht
  obtain ⟨x, h1, h2, h3, h4, h5⟩ := h H enc B BA hB W fuel cs d ps ht
  obtain ⟨g1, g2, g3, g4⟩ := hg x h1
  exact ⟨g x, g1, Nat.le_trans g2 h2, fun h => g3 (h3 h), by rw [g4]; exact h4, by rw [g4]; exact h5⟩

theorem flatMap_one {α : Type} (f : α → Ty) (xs : List α) : xs.flatMap (fun x => [f x]) = xs.map f := by
  induction xs with
  | nil => rfl
  | cons x xs ih => simp [ih]

theorem rd_lst {t e : TypeId} {α : Type} {f : α → Ty} {wf : α → Prop} {sz : α → Nat} {rc : α → Prop} (ht : P.underlying t = some (.slice e)) (hc : P.cellsOf e = 1) (he : Rd P e (fun x => [f x]) wf sz rc) :
    Rd P t (fun xs : List α => [Ty.lst f xs]) (fun xs => xs.length ≤ maxLen ∧ ∀ x ∈ xs, wf x) (fun xs => (xs.map sz).sum + 1) (fun xs => xs.length * P.bytesOf e ≤ reachBytes ∧ ∀ x ∈ xs, rc x) :=
  (rd_slice ht hc (by decide) he (fun _ _ => rfl)).conv id fun x h => ⟨h, Nat.le_refl _, id, by simp [flatMap_one, Ty.lst]⟩

/-! ### Back to the row -/
theorem trodAll_stays {H : Type} {enc : TypeId × Value → H} (hl : laidOutB P = true) {W W' : World} (hb : Below W.heap.size W W') : ∀ {ts : List TypeId} {vs : List Value} {ds : List (DataW H)} {ps : List MemPlace},
    DataW.TrodAll enc P W 0 (fun _ => true) true ts vs ds ps → (ts.all fun t => P.readableRec t && decide (t < P.types.size)) = true → (∀ x ∈ ps, x.block < W.heap.size) → DataW.TrodAll enc P W' 0 (fun b => decide (b < W.heap.size)) true ts vs ds ps
  | [], [], [], ps, h, _, _ => h
  | t :: ts, v :: vs, d :: ds, ps, h, ha, hp => by
    obtain ⟨p, q, h1, h2, rfl⟩ := h
    simp only [List.all_cons, Bool.and_eq_true, decide_eq_true_eq] at ha
    exact ⟨p, q, Below.trod hl ha.1.1 ha.1.2 h1 hb (fun x hx => hp x (List.mem_append.2 (.inl hx))), trodAll_stays hl hb h2 ha.2 (fun x hx => hp x (List.mem_append.2 (.inr hx))), rfl⟩
  | [], [], _ :: _, _, h, _, _ => h.elim
  | [], _ :: _, _, _, h, _, _ => h.elim
  | _ :: _, [], _, _, h, _, _ => h.elim
  | _ :: _, _ :: _, [], _, h, _, _ => h.elim

theorem law_post {H : Type} {enc : TypeId × Value → H} {fn : Func} {f : FuncId} {s : ChangeSpec} {W : World} {args : Array Value} {ds gs : List (DataW H)} {before : List MemPlace} {tb : TypeId}
    (hres : fn.resultTypes = #[tb]) (hb : P.underlying tb = some .bool) (hl : laidOutB P = true) (hr : (fn.params.toList.all fun t => P.readableRec t && decide (t < P.types.size)) = true)
    (hW : DataW.Whole enc P fn.params.toList s.vars false W args.toList ds gs before) (hv : s.vars = []) (hs : s.fn H (ds ++ gs) = { results := [.lit (.bool true)], args := ds })
    (hc : FnC P f args (GW.all W) (Ty.bool true)) : Calls P f args W fun e W' => ∃ v, e = .returned v ∧ s.post enc P fn false true false false W args v W' := by
  refine Calls.mono hc ?_
  rintro e W' ⟨v, τ, rfl, hstp, rfl, hvv⟩
  have hbel : Below W.heap.size W τ.w := ⟨hstp.os, hstp.tape, hstp.output, hstp.size, fun k hk => hstp.blk k hk (.inl rfl)⟩
  have hW' := hW
  obtain ⟨p, q, hA, hV, rfl, _, _⟩ := hW
  have hq : q = [] := by
    rw [hv] at hV
    cases gs with
    | nil => exact hV
    | cons _ _ => exact hV.elim
  subst hq
  have hgs : gs = [] := by
    rw [hv] at hV
    cases gs with
    | nil => rfl
    | cons _ _ => exact hV.elim
  subst hgs
  have hvv' : v = .bool true := hvv
  subst hvv'
  refine ⟨_, rfl, ds, [], _, [], p, [], hW', ?_, ?_, ?_, hbel.frame _, fun h => by cases h⟩
  · rw [hs, hres]
    exact trodAll_mk1 (shut_bool hb true)
  · rw [hs]
    exact trodAll_stays hl hbel hA hr (fun x hx => hW'.lt x (List.mem_append.2 (.inl hx)))
  · rw [hs, hv]; rfl

theorem arg_one {H : Type} {enc : TypeId × Value → H} {B : DataW H → Nat} {BA : List (DataW H) → Nat} (hB : Bulk B BA) {W : World} {t : TypeId} {v : Value} {d : DataW H} {ps : List MemPlace} {α : Type} {T : α → Ty} {wf : α → Prop} {sz : α → Nat} {rc : α → Prop}
    (h : Rd P t (fun x => [T x]) wf sz rc) (hone : v.cells = #[v]) (ht : DataW.Trod enc P W 0 (fun _ => true) true t v d ps) : ∃ x : α, wf x ∧ sz x ≤ B d ∧ ((d.weights P t).all (· ≤ reachBytes) = true → rc x) ∧ (T x).has (GW.all W) v := by
  obtain ⟨fuel, hf⟩ := ht
  rw [hone] at hf
  obtain ⟨x, h1, h2, h3, _, h5⟩ := h H enc B BA hB W fuel _ d ps hf
  exact ⟨x, h1, h2, h3, h5 0 _ _ rfl rfl⟩
theorem one_slice {e : TypeId} {w : World} {r : Reach} {base : Nat} {t : TypeId} {v : Value} (ht : P.underlying t = some (.slice e)) (h : Value.okWide P w r base t v) : v.cells = #[v] := by
  obtain ⟨a, l, c, rfl⟩ := okWide_slice ht h; rfl
theorem weightsEach_cons {H : Type} {t : TypeId} {ts : List TypeId} {d : DataW H} {ds : List (DataW H)} (h : (DataW.weightsEach P (t :: ts) (d :: ds)).all (· ≤ reachBytes) = true) : (d.weights P t).all (· ≤ reachBytes) = true ∧ (DataW.weightsEach P ts ds).all (· ≤ reachBytes) = true := by
  simpa [DataW.weightsEach, List.all_append] using h
end Go.KL

/- A listed global, as a row's cell says: it is there. -/
namespace Go.KL
open Go.RowKit
variable {P : Program}
theorem glb_laid {laid : List (String × DataW Unit)} {n nm : String} {text : List UInt8} {W : World} {g : Nat} {ti tp te ts : TypeId} {ms : Array (String × TypeId)} {f : Field}
    (h : laidMetH P laid W) (hl : (laid.filter fun x => x.2.handleName?.isNone).filter (fun x => x.1 == n) = [(n, .iface nm (.ptr (.agg [.lit (.string text)])))])
    (hg : P.globalNamed n = some g) (ht : (P.globals[g]?).map (·.type) = some ti) (hi : P.underlying ti = some (.interface ms)) (hrow : ∀ u, P.typeName? 3 u = some nm → u = tp)
    (hp : P.underlying tp = some (.pointer te)) (he : P.underlying te = some (.struct #[f])) (hft : f.type = ts) (hfo : f.offset = 0) (hs : P.underlying ts = some .string) (hc : P.cellsOf te = 1) (hcs : P.cellsOf ts = 1) :
    Glb g (GW.all W) := by
  have h1 := (laidMetH_iff.1 h).1.filter (fun x => x.1 == n)
  rw [hl] at h1
  obtain ⟨a, s, hv, _⟩ := laid_sentinel h1 hg ht hi hrow hp he hft hfo hs hc hcs
  have hcell : W.cell? ⟨g, 0, none⟩ = some (.iface tp (.pointer (some a))) := by simpa using World.var?_cell hg hv 0
  have hlt : g < W.heap.size := by
    unfold World.cell? at hcell
    by_cases hx : g < W.heap.size
    · exact hx
    · rw [Array.getElem?_eq_none (show W.heap.size ≤ g by omega)] at hcell
      cases hcell
  exact ⟨by simp [GW.all, hlt], _, hcell, .inr ⟨_, _, rfl⟩⟩
theorem laidH_all {os : Os} {laid : List (String × DataW Unit)} (args : Array Value) (hn : (laid.all fun x => x.2.handleName?.isNone) = true)
    (hf : (World.holding P os ⟨#[], #[], []⟩).layFits P laid [] = true) (hi : (World.holding P os ⟨#[], #[], []⟩).layIfaces P laid (World.laidAll P os laid) = true) :
    laidMetH P laid ((World.laidAll P os laid).forCall (fun _ _ => 0) ⟨#[], args, []⟩).memory := by
  rw [MakeChecks.laidMetH_plain _ _ _ hn]; exact laidMet_laidAll _ hf hi
theorem witness_row_sh {H : Type} {enc : TypeId × Value → H} {C : Checked} {os : Os} {f : FuncId} {fn : Func} {s : OpenSpec} {conds : List PathCond} {apart : Bool} {laid : List (String × DataW Unit)} (w0 : World) (args : Array Value) (hos : w0.os = os)
    (hsh : (w0.forCall (fun _ _ => 0) ⟨#[], args, []⟩).Shaped C.prog)
    (hok : Input.okWideB C.prog (w0.forCall (fun _ _ => 0) ⟨#[], args, []⟩) f ⟨#[], args, []⟩ = true)
    (hrow : s.preRow enc C.prog fn conds apart laid (w0.forCall (fun _ _ => 0) ⟨#[], args, []⟩).memory args) :
    ∃ (w : World) (tape : Tape) (i : Input), w.os = os ∧ (w.forCall tape i).Shaped C.prog ∧ i.vars = [] ∧ Input.okWide C.prog (w.forCall tape i) .any w.heap.size f i ∧
      s.preRow enc C.prog fn conds apart laid (w.forCall tape i).memory i.args ∧ ({} : Assume).holds C.prog (lone (Frame.enter C.prog f i.args .normal) [] (w.forCall tape i)) :=
  ⟨w0, fun _ _ => 0, ⟨#[], args, []⟩, hos, hsh, (Input.okWide_of_okWideB (base := 0) hok).1, (Input.okWide_of_okWideB hok).2, hrow, by
    simp only [Assume.holds]
    exact ⟨by simp, by simp, fun _ => Modest.zero, by simp, by simp⟩⟩
end Go.KL

/- Listed variables that a book reads; '[]byte' as an argument. -/
namespace Go.KL
open Go.RowKit
variable {P : Program}
theorem tab_laid {laid : List (String × DataW Unit)} {n : String} {k : IntKind} {zs : List Int} {W : World} {g : Nat} {t e : TypeId} {m : Nat}
    (h : laidMetH P laid W) (hl : (laid.filter fun x => x.2.handleName?.isNone).filter (fun x => x.1 == n) = [(n, Lib.tabData k zs)])
    (hg : P.globalNamed n = some g) (hty : (P.globals[g]?).map (·.type) = some t) (ht : P.underlying t = some (.array m e)) (he : P.underlying e = some (.int k)) (hce : P.cellsOf e = 1) (hct : P.cellsOf t = m) (hz : 0 < zs.length) :
    Tab P n k zs (GW.all W) := by
  have h1 := (laidMetH_iff.1 h).1.filter (fun x => x.1 == n)
  rw [hl] at h1
  have h2 := Lib.tabIs_of_head hg hty ht he hce hct h1
  have hcell := h2.cell hg 0 hz
  have hlt : g < W.heap.size := by
    unfold World.cell? at hcell
    by_cases hx : g < W.heap.size
    · exact hx
    · rw [Array.getElem?_eq_none (show W.heap.size ≤ g by omega)] at hcell
      cases hcell
  exact ⟨g, hg, by simp [GW.all, hlt], h2⟩
theorem rd_u8 {t : TypeId} (ht : P.underlying t = some (.int .u8)) : Rd P t (fun b : UInt8 => [Ty.byte b]) (fun _ => True) (fun _ => 1) (fun _ => True) :=
  (rd_int ht).conv (fun n => UInt8.ofNat n.toNat) fun n hn => ⟨trivial, Nat.le_refl _, id, by
    have h1 : 0 ≤ n ∧ n ≤ 255 := by
      have h2 := hn
      simp only [Lit.wf, decide_eq_true_eq, Bool.and_eq_true] at h2
      rw [show IntKind.u8.min = 0 from rfl, show IntKind.u8.max = 255 from rfl] at h2
      omega
    show [Ty.val (.int .u8 ((UInt8.ofNat n.toNat).toNat : Int))] = _
    rw [show ((UInt8.ofNat n.toNat).toNat : Int) = n by
      rw [UInt8.toNat_ofNat']; omega]⟩
end Go.KL

