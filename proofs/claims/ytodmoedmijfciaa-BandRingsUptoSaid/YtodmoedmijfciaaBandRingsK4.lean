/- What the proof of the law BandRings stands on, part 4. -/
import Derived.Test.YtodmoedmijfciaaBandRingsK3
import Derived.Test.YtodmoedmijfciaaBandRingsK2
import Derived.Test.YtodmoedmijfciaaBandRingsK1
import Derived.ProofKit
import Derived.JoinedCond
import Derived.SizedLaws
import Derived.Deep.Slices
import Derived.Deep.CondSized
import Derived.Conc.LeavingOf
import Derived.Deep.Strs
namespace Go.KL
open Go.Conc
open Go.RowKit
open Go.ConcR (KK WgAt stA smA mk Payload)
open Go.ConcN (WgLive)
open Go.Conc.Lib Go.ConcR.Gen Go.ConcN.Gen
variable {P:Program} [Payload] {c:Co} {End:List Ch → Goroutine → World → Prop} {L:WgLink} {ch:List Ch} {v:World}
set_option maxRecDepth 100000 in
set_option maxHeartbeats 8000000 in
theorem add_goes (H:WgLib P L) (hty:c.tWg = L.tWg) {b₀:Frame} {a₀:Act} {ops₀:Array Oper} {i₀:Nat} {rest₀:List Nat} {k₀:List Item} {cs:List Frame}
    (hT:∀ w,MStV c ch v w → MTr P c End ⟨.ago,ch⟩ (G (b₀.at (a₀.put ((ops₀[i₀]?).bind (·.dst)) (.tuple #[])) (.inRegion ops₀ rest₀ :: k₀)) cs) w) (w:World) (hF:MStV c ch v w) :
    MTr P c End ⟨.spawn,ch⟩ (G ((base L.add).at ⟨#[.pointer (some ⟨c.wg,0,none⟩),.int .i64 1,undef,undef,undef,undef,undef,undef,undef,undef,undef,undef,undef,undef,undef,undef,undef,undef,undef,undef,undef,undef,undef,undef,undef,undef,undef,undef,undef,undef,undef,undef,undef,undef,undef,undef,undef,undef,undef,undef,undef,undef,undef,undef,undef,undef,undef,undef,undef,undef,undef,undef,undef,undef,undef,undef,undef,undef,undef,undef,undef,undef,undef,undef,undef,undef,undef,undef,undef,undef,undef,undef,undef,undef,undef,undef,undef,undef,undef,undef,undef,undef,undef,undef,undef,undef,undef,undef,undef,undef,undef,undef,undef,undef,undef,undef,undef,undef,undef,undef,undef,undef,undef,undef,undef,undef,undef,undef,undef,undef,undef,undef,undef,undef,undef,undef,undef],[]⟩ [.code (body_add L)]) (b₀.at a₀ (.inRegion ops₀ (i₀ :: rest₀) :: k₀) :: cs)) w:=by
  lib_facts
  simp only [body_add,addFn,Option.getD_some]
  refine of_goes (n:=12) ?_
  u_c stepG_seq Jb hF
  u_cond true Jb hF
  u_c stepG_seq Jb hF
  u_c stepG_seq Jb hF
  u_reg Jb hF
  u_op Jb hF
  u_op Jb hF
  u_c stepG_region_end Jb hF
  u_cond false Jb hF
  u_c stepG_skip Jb hF
  u_c stepG_seq Jb hF
  u_reg Jb hF
  refine Goes.stop (fun w₁ h₁=>.inr ?_)
  replace hF:=Jb hF h₁
  clear h₁
  refine ⟨rfl,_,stepG_mark0 .disable (by simp) rfl rfl (by k_ne) rfl H.f_disable (x_disable_n L) (x_disable_b L) (x_disable_x L) (x_disable_f L),of_goes (n:=60) ?_⟩
  walk_nrm
  u_c stepG_region_end Jb hF
  u_reg Jb hF
  u_defer Jb hF
  u_c stepG_region_end Jb hF
  u_c stepG_seq Jb hF
  u_reg Jb hF
  u_op Jb hF
  u_c stepG_region_end Jb hF
  u_c stepG_seq Jb hF
  u_c stepG_seq Jb hF
  u_reg Jb hF
  u_bub Jb hF
  u_c stepG_region_end Jb hF
  u_cond false Jb hF
  u_c stepG_skip Jb hF
  u_c stepG_seq Jb hF
  u_reg Jb hF
  u_op Jb hF
  u_op Jb hF
  u_op Jb hF
  u_op Jb hF
  u_op Jb hF
  u_op Jb hF
  u_call H.f_uAdd (nm_uAdd L) uAddFn Jb hF
  u_c stepG_seq Jb hF
  u_reg Jb hF
  u_op Jb hF
  u_c stepG_region_end Jb hF
  u_c stepG_seq Jb hF
  u_reg Jb hF
  u_op Jb hF
  u_op Jb hF
  u_op Jb hF
  u_op Jb hF
  refine Goes.stop (fun w₂ h₂=>.inr ?_)
  replace hF:=Jb hF h₂
  clear h₂
  refine ⟨rfl,fun v hv hw=>?_⟩
  obtain ⟨V,hV⟩:∃ V:Int,V = (v:Int) + 1:=⟨_,rfl⟩
  obtain ⟨S,hS⟩:∃ S:Int,S = V * KK:=⟨_,rfl⟩
  have eS:IntKind.u64.wrap ((v:Int) * KK + 4294967296) = S:=by rw [IntKind.wrap_u64,hS,hV];simp only [KK];omega
  rw [← hV,← hS]
  have a1:S / 4294967296 = V:=by rw [hS];simp only [KK];omega
  have b1:bits .and .u64 S 2147483648 = 0:=by rw [hS,hV];have:=Go.ConcN.st_flag (v + 1) 0 (by omega) (by omega);simpa [KK] using this
  have b2:bits .and .u64 S 2147483647 = 0:=by rw [hS,hV];have:=Go.ConcN.st_waiters (v + 1) 0 (by omega) (by omega);simpa [KK] using this
  have c1:IntKind.i32.wrap V = V:=by rw [IntKind.wrap_i32];omega
  have hV1:1 ≤ V:=by omega
  have hV2:V < 2147483648:=by omega
  have q3:decide (V < 0) = false:=decide_eq_false (by omega)
  have q4:decide (0 < V) = true:=decide_eq_true (by omega)
  have q5:(V == 0) = false:=by simp;omega
  have q6:decide (V = 0) = false:=decide_eq_false (by omega)
  refine ⟨_,(stepG_add_atomic rfl rfl (by k_ne) rfl H.f_addU64 (x_addU64_n L) (x_addU64_b L) (x_addU64_x L) .u64 (x_addU64_f L) rfl rfl hw.cellSt (hw.thaw 0)).trans (by rw [eS];rfl),of_goes (n:=110) ?_⟩
  replace hF:=hF.setSt hw S
  clear hw hS hV eS
  walk_nrm
  u_op Jb hF
  u_c stepG_region_end Jb hF
  u_c stepG_ret' Jb hF
  u_leave1 H.f_uAdd Jb hF
  rcases Int.lt_or_le 1 V with hlt | hle
  · have q1:(V == 1) = false:=by simp;omega
    have q2:decide (V = 1) = false:=decide_eq_false (by omega)
    u_op Jb hF
    u_c stepG_region_end Jb hF
    u_c stepG_seq Jb hF
    u_c stepG_seq Jb hF
    u_reg Jb hF
    u_op Jb hF
    u_op Jb hF
    u_op Jb hF
    u_op Jb hF
    u_skip Jb hF
    u_skip Jb hF
    u_op Jb hF
    u_c stepG_region_end Jb hF
    u_cond false Jb hF
    u_c stepG_skip Jb hF
    u_c stepG_seq Jb hF
    u_reg Jb hF
    u_op Jb hF
    u_op Jb hF
    u_op Jb hF
    u_op Jb hF
    u_c stepG_region_end Jb hF
    u_c stepG_seq Jb hF
    u_reg Jb hF
    u_op Jb hF
    u_op Jb hF
    u_op Jb hF
    u_op Jb hF
    u_c stepG_region_end Jb hF
    u_c stepG_seq Jb hF
    u_c stepG_seq Jb hF
    u_reg Jb hF
    u_op Jb hF
    u_op Jb hF
    u_op Jb hF
    u_op Jb hF
    u_op Jb hF
    u_op Jb hF
    u_op Jb hF
    u_op Jb hF
    u_op Jb hF
    u_op Jb hF
    u_c stepG_region_end Jb hF
    u_cond false Jb hF
    u_c stepG_skip Jb hF
    u_c stepG_seq Jb hF
    u_c stepG_seq Jb hF
    u_reg Jb hF
    u_op Jb hF
    u_op Jb hF
    u_c stepG_region_end Jb hF
    u_cond false Jb hF
    u_c stepG_skip Jb hF
    u_c stepG_seq Jb hF
    u_c stepG_seq Jb hF
    u_reg Jb hF
    u_op Jb hF
    u_op Jb hF
    u_op Jb hF
    u_skip Jb hF
    u_skip Jb hF
    u_op Jb hF
    u_op Jb hF
    u_skip Jb hF
    u_skip Jb hF
    u_skip Jb hF
    u_skip Jb hF
    u_op Jb hF
    u_c stepG_region_end Jb hF
    u_cond false Jb hF
    u_c stepG_skip Jb hF
    u_c stepG_seq Jb hF
    u_c stepG_seq Jb hF
    u_reg Jb hF
    u_op Jb hF
    u_op Jb hF
    u_op Jb hF
    u_skip Jb hF
    u_skip Jb hF
    u_op Jb hF
    u_c stepG_region_end Jb hF
    u_cond true Jb hF
    u_c stepG_ret' Jb hF
    refine Goes.stop (fun w₃ h₃=>.inr ?_)
    replace hF:=Jb hF h₃
    clear h₃
    refine ⟨rfl,_,stepG_unwind_entry (v:=.tuple #[]) (evs:=#[mk .enable]) rfl H.f_enable (x_enable_n L) (x_enable_b L) (x_enable_x L) (x_enable_f L) (by simp [Extern.Race.none_]) (by simp [mk]) (by simp [mk]),of_goes (n:=1) ?_⟩
    u_leave0 H.f_add Jb hF
    exact Goes.stop (fun w₄ h₄=>.inl (hT _ (Jb hF h₄)))
  · obtain rfl:V = 1:=by omega
    u_op Jb hF
    u_c stepG_region_end Jb hF
    u_c stepG_seq Jb hF
    u_c stepG_seq Jb hF
    u_reg Jb hF
    u_op Jb hF
    u_op Jb hF
    u_op Jb hF
    u_op Jb hF
    u_skip Jb hF
    u_skip Jb hF
    u_op Jb hF
    u_c stepG_region_end Jb hF
    u_cond false Jb hF
    u_c stepG_skip Jb hF
    u_c stepG_seq Jb hF
    u_reg Jb hF
    u_op Jb hF
    u_op Jb hF
    u_op Jb hF
    u_op Jb hF
    u_c stepG_region_end Jb hF
    u_c stepG_seq Jb hF
    u_reg Jb hF
    u_op Jb hF
    u_op Jb hF
    u_op Jb hF
    u_op Jb hF
    u_c stepG_region_end Jb hF
    u_c stepG_seq Jb hF
    u_c stepG_seq Jb hF
    u_reg Jb hF
    u_op Jb hF
    u_op Jb hF
    u_op Jb hF
    u_op Jb hF
    u_op Jb hF
    u_op Jb hF
    u_op Jb hF
    u_op Jb hF
    u_op Jb hF
    u_op Jb hF
    u_c stepG_region_end Jb hF
    u_cond true Jb hF
    u_reg Jb hF
    u_op Jb hF
    u_op Jb hF
    u_op Jb hF
    u_conv H.underlying_tPU32 H.room_tU32 (WgLive.cell1 (hty ▸ hF.live)).choose_spec Jb hF
    refine Goes.stop (fun w₈ h₈=>.inl (tr_said ⟨c.wg,1,none⟩ (.inl rfl) rfl (Jb hF h₈) rfl fun w₉ hF=>⟨_,stepG_markAt .read (by simp) rfl rfl (by k_ne) rfl H.f_raceRead (x_raceRead_n L) (x_raceRead_b L) (x_raceRead_x L) (x_raceRead_f L) (ad:=⟨c.wg,1,none⟩) (by simp [Act.eval]),of_goes (n:=70) ?_⟩))
    clear h₈
    walk_nrm
    u_c stepG_region_end Jb hF
    u_c stepG_seq Jb hF
    u_c stepG_seq Jb hF
    u_reg Jb hF
    u_op Jb hF
    u_op Jb hF
    u_c stepG_region_end Jb hF
    u_cond false Jb hF
    u_c stepG_skip Jb hF
    u_c stepG_seq Jb hF
    u_c stepG_seq Jb hF
    u_reg Jb hF
    u_op Jb hF
    u_op Jb hF
    u_op Jb hF
    u_skip Jb hF
    u_skip Jb hF
    u_op Jb hF
    u_op Jb hF
    u_skip Jb hF
    u_skip Jb hF
    u_skip Jb hF
    u_skip Jb hF
    u_op Jb hF
    u_c stepG_region_end Jb hF
    u_cond false Jb hF
    u_c stepG_skip Jb hF
    u_c stepG_seq Jb hF
    u_c stepG_seq Jb hF
    u_reg Jb hF
    u_op Jb hF
    u_op Jb hF
    u_op Jb hF
    u_skip Jb hF
    u_skip Jb hF
    u_op Jb hF
    u_c stepG_region_end Jb hF
    u_cond true Jb hF
    u_c stepG_ret' Jb hF
    refine Goes.stop (fun w₃ h₃=>.inr ?_)
    replace hF:=Jb hF h₃
    clear h₃
    refine ⟨rfl,_,stepG_unwind_entry (v:=.tuple #[]) (evs:=#[mk .enable]) rfl H.f_enable (x_enable_n L) (x_enable_b L) (x_enable_x L) (x_enable_f L) (by simp [Extern.Race.none_]) (by simp [mk]) (by simp [mk]),of_goes (n:=1) ?_⟩
    u_leave0 H.f_add Jb hF
    exact Goes.stop (fun w₄ h₄=>.inl (hT _ (Jb hF h₄)))
end Go.KL
namespace Go.KL
open Go.Conc
open Go.RowKit
open Go.ConcR (KK WgAt stA smA Payload)
open Go.ConcN (WgLive)
open Go.Conc.Lib Go.ConcR.Gen Go.ConcN.Gen
variable {P:Program} {J:JdOf P}
section
variable [Payload] {c:Co} {W:World} {Post:Value → World → Prop} {Z:UInt8 → Obj} {ops:Array Oper} {Q:Exit → Act → World → Prop} {i N:Nat} {D:List Deferred} {d:Option Tmp} {x y:Operand} {ty:TypeId} {pos:String} {af:Array Edge} {tys:Array TypeId} {a:Act} {σ:GW} {ch:List Ch} {L:WgLink}
theorem mtr_of {g:Goroutine} {v v' w:World} {t:MT} {End:List Ch → Goroutine → World → Prop} (hg:v.output = gm (Kw ⟨t,ch⟩)):(mnB P c End).T v.output g w = MTr P c End ⟨t,ch⟩ g w:=by
  have hd:QJ (gm (Kw ⟨t,ch⟩)) = ⟨t,ch⟩:=decM_enc _
  show MTr P c End (QJ v.output) g w = _
  rw [hg,hd]
omit [Payload] in
set_option maxRecDepth 100000 in
theorem arr117 (x y:Value):#[x,y] ++ Array.replicate 115 undef = #[x,y,undef,undef,undef,undef,undef,undef,undef,undef,undef,undef,undef,undef,undef,undef,undef,undef,undef,undef,undef,undef,undef,undef,undef,undef,undef,undef,undef,undef,undef,undef,undef,undef,undef,undef,undef,undef,undef,undef,undef,undef,undef,undef,undef,undef,undef,undef,undef,undef,undef,undef,undef,undef,undef,undef,undef,undef,undef,undef,undef,undef,undef,undef,undef,undef,undef,undef,undef,undef,undef,undef,undef,undef,undef,undef,undef,undef,undef,undef,undef,undef,undef,undef,undef,undef,undef,undef,undef,undef,undef,undef,undef,undef,undef,undef,undef,undef,undef,undef,undef,undef,undef,undef,undef,undef,undef,undef,undef,undef,undef,undef,undef,undef,undef,undef,undef]:=by apply Array.ext';simp [List.replicate]
set_option maxRecDepth 100000 in
theorem xm_add (H:WgLib P L) (hty:c.tWg = L.tWg) (ok:Ok N D a) (ho:ops[i]? = some ⟨d,.call ⟨.value (.func L.add),#[x,y],tys⟩,ty,pos,af,none⟩) (hd:∀ e,d = some e → e < N) (hp:PlM c .spawn ch σ) (hx:a.eval x = Jg c.wg 0) (hy:a.eval y = .int .i64 1)
    (K:Then9 (cj P c W Post Z) ops Q i N D d (.tuple #[]) (gm (Kw ⟨.ago,ch⟩)) a σ):XT (cj P c W Post Z) ops Q i a σ.w:=fun b kk cs hk H'=>by
  rw [KM (Qx ho)]
  refine JdOf.call (args:=#[Jg c.wg 0,.int .i64 1]) ho rfl hk.1 ⟨_,_,_,#[],#[],addFn L,rfl,rfl,by simp [hx,hy],H.f_add,nm_add L,rfl⟩ ?_
  rw [Go.Conc.enter_at (c:=body_add L) _ H.f_add rfl,show (addFn L).ntmps - (#[Jg c.wg 0,.int .i64 1]:Array Value).size = 115 from rfl,arr117]
  refine (cj_in hp.out).2 fun v' hv w hpw hst=>?_
  have hd':QJ (gm (Kw ⟨.spawn,ch⟩)) = ⟨.spawn,ch⟩:=decM_enc _
  have hpw':Pois (c.MF ch) w v':=by
    have:Pois (c.MF (QJ σ.w.output).ch) w v':=hpw
    rwa [hp.out,hd'] at this
  have hst':c.MSt ch w:=by
    have:c.MSt (QJ σ.w.output).ch w:=hst
    rwa [hp.out,hd'] at this
  rw [mtr_of (v':=v') hp.out]
  refine add_goes (v:=σ.w) H hty (fun w1 hF=>?_) w ⟨hst',v',hv,hpw'⟩
  obtain ⟨v1,hv1,hp1⟩:=hF.vw
  have e:(ops[i]?).bind (·.dst) = d:=by rw [ho];rfl
  rw [e]
  exact mn_next ((cj_in rfl).1 (K.go ok hd b kk cs hk H')) hv1 hp1 hF.st
theorem xm_wait (H:WgLib P L) (hty:c.tWg = L.tWg) (hn:c.n < 2147483648) (ok:Ok N D a) (ho:ops[i]? = some ⟨d,.call ⟨.value (.func L.wait),#[x],tys⟩,ty,pos,af,none⟩) (hd:∀ e,d = some e → e < N) (hp:PlM c .kd ch σ) (hx:a.eval x = Jg c.wg 0)
    (K:Then9 (cj P c W Post Z) ops Q i N D d (.tuple #[]) (gm (Kw ⟨.back,ch⟩)) a σ):XT (cj P c W Post Z) ops Q i a σ.w:=fun b kk cs hk H'=>by
  rw [KM (Qx ho)]
  refine JdOf.call (args:=#[Jg c.wg 0]) ho rfl hk.1 ⟨_,_,_,#[],#[],waitFn L,rfl,rfl,by simp [hx],H.f_wait,nm_wait L,rfl⟩ ?_
  rw [Go.Conc.enter_at (c:=body_wait L) _ H.f_wait rfl]
  refine (cj_in hp.out).2 fun v' hv w hpw hst=>?_
  have hd':QJ (gm (Kw ⟨.kd,ch⟩)) = ⟨.kd,ch⟩:=decM_enc _
  have hpw':Pois (c.MF ch) w v':=by
    have:Pois (c.MF (QJ σ.w.output).ch) w v':=hpw
    rwa [hp.out,hd'] at this
  have hst':c.MSt ch w:=by
    have:c.MSt (QJ σ.w.output).ch w:=hst
    rwa [hp.out,hd'] at this
  rw [mtr_of (v':=v') hp.out]
  refine wait_start (v:=σ.w) H hty hn (fun w1 hF=>?_) w ⟨hst',v',hv,hpw'⟩
  obtain ⟨v1,hv1,hp1⟩:=hF.vw
  have e:(ops[i]?).bind (·.dst) = d:=by rw [ho];rfl
  rw [e]
  exact mn_next ((cj_in rfl).1 (K.go ok hd b kk cs hk H')) hv1 hp1 hF.st
theorem xm_go {h:Ch} {kS kv kg kh:Nat} {o:Oper} {f:Deferred} {fn:Fn} {cap:Array Value} (ok:Ok N D a) (ho:ops[i]? = some o) (hg:o.guard = none) (hdd:o.dst = none) (hr:∀ w,(execOp a.eval o).run P w = .ok (.spawn f) w) (hev:∀ w,(execOp a.eval o).events P w #[] = #[]) (hf:f.target = .fn fn cap) (hp:PlM c .ago ch σ)
    (hS:OwnPT c.tS σ kS (Jg h.S 0) [Ty.int ((ch.length:Nat):Int),Ty.int ((c.pl ch.length 0:Nat):Int),Ty.val (chv h.hears),Ty.val (chv h.goes),Ty.val (chv c.heard)]) (hv:OwnP σ kv (Jg h.v 0) [Ty.val (Jg h.S 0)]) (hgo:OwnCh σ kg (chv h.goes) 0) (hhe:OwnCh σ kh (chv h.hears) 1)
    (h9:kS ≠ 999∧kv ≠ 999∧kg ≠ 999∧kh ≠ 999) (hkk:kS ≠ kv∧kS ≠ kg∧kS ≠ kh∧kv ≠ kg∧kv ≠ kh∧kg ≠ kh)
    (hring:∀ w e,c.New ch h w → w.heap[h.v]? = some (.cells #[Jg h.S 0] e (0,0)) → c.MSt ch w → c.RungAt w → RTr P c ch.length h (.rcv 0) (born P f) w)
    (K:∀ τ,StpL [999,kS,kv,kg,kh] σ τ → PlM c (c.nSpawn (ch.length + 1)) (ch ++ [h]) τ → ((¬ c.hidM ch h.S∧¬ c.hidM ch h.v∧¬ c.hidM ch h.goes∧¬ c.hidM ch h.hears)∧h.S ≠ h.goes) → XT (cj P c W Post Z) ops Q (i + 1) a τ.w):XT (cj P c W Post Z) ops Q i a σ.w:=fun b kk cs hk H=>by
  rw [KM (Qx ho)]
  obtain ⟨gS,curS,e1,stS,hbS,hlS,hcS⟩:=hS
  cases e1
  obtain ⟨gv,ev,curv,e2,stv,hbv,hlv,hcv⟩:=hv
  cases e2
  obtain ⟨gg,e3,stg,hbg⟩:=hgo
  cases e3
  obtain ⟨gh,e4,sth,hbh⟩:=hhe
  cases e4
  have nh:∀ b,σ.st b ≠ 999 → ¬ c.hidM ch b:=fun b hb e=>hb (hp.hid b e)
  have hcur:curS = #[i64 ch.length,i64 (c.pl ch.length 0),chv h.hears,chv h.goes,chv c.heard]:=by
    have hl:curS.size = 5:=hlS
    have q:∀ j T,[Ty.int ((ch.length:Nat):Int),Ty.int ((c.pl ch.length 0:Nat):Int),Ty.val (chv h.hears),Ty.val (chv h.goes),Ty.val (chv c.heard)][j]? = some T → ∀ hj:j < curS.size,T.has σ curS[j]:=fun j T hT hj=>hcS j T _ hT (by simp [hj])
    apply Array.ext
    · simpa using hl
    · intro j h1 h2
      have hj:j < 5:=h2
      match j,hj with
      | 0,_=>exact q 0 _ rfl h1
      | 1,_=>exact q 1 _ rfl h1
      | 2,_=>exact q 2 _ rfl h1
      | 3,_=>exact q 3 _ rfl h1
      | 4,_=>exact q 4 _ rfl h1
  have hcurv:curv = #[Jg h.S 0]:=by
    have hl:curv.size = 1:=hlv
    apply Array.ext
    · simpa using hl
    · intro j h1 h2
      have hj:j < 1:=h2
      match j,hj with
      | 0,_=>exact hcv 0 (Ty.val (Jg h.S 0)) _ rfl (by simp [h1])
  have loS:=(Array.getElem?_eq_some_iff.1 hbS).1
  have lov:=(Array.getElem?_eq_some_iff.1 hbv).1
  have log:=(Array.getElem?_eq_some_iff.1 hbg).1
  have loh:=(Array.getElem?_eq_some_iff.1 hbh).1
  classical
  refine (cj_in hp.out).2 (mn_go (hnew:=h) (v:=σ.w) ho (by simp [Region.wanted,hg]) hk.1 hr hev hf hp.out (fun w v1 hv1 hpw hst=>?_) ?_)
  · have see:∀ b,b < σ.w.heap.size → σ.st b ≠ 999 → w.heap[b]? = σ.w.heap[b]?:=fun b hb hn=>(hpw.same b (nh b hn) (fun e=>e)).symm.trans (hv1.blk b hb)
    have hN:c.New ch h w:=by
      refine ⟨?_,?_,⟨0,0,(see _ log (by omega)).trans hbg⟩,⟨0,0,(see _ loh (by omega)).trans hbh⟩,⟨fun e=>?_,fun e=>?_,fun e=>?_,fun e=>?_⟩,⟨nh _ (by omega),nh _ (by omega),nh _ (by omega),nh _ (by omega)⟩⟩
      · exact (see _ loS (by omega)).trans (by rw [hbS,hcur];rfl)
      · have:=see _ lov (by omega)
        rw [hbv] at this
        exact (Array.getElem?_eq_some_iff.1 this).1
      · rw [e] at stS;omega
      · rw [e] at stv;omega
      · rw [e] at stv;omega
      · rw [e] at stg;omega
    refine ⟨hN,fun hr'=>hring w ev hN ?_ hst hr'⟩
    exact (see _ lov (by omega)).trans (by rw [hbv,hcurv])
  · rw [hdd]
    have hsz:(veil (c.hidM (ch ++ [h])) σ.w).heap.size = σ.w.heap.size:=by simp [veil]
    let τ:GW:=⟨{ veil (c.hidM (ch ++ [h])) σ.w with output:=gm (Kw ⟨c.nSpawn (ch.length + 1),ch ++ [h]⟩) },fun x=>if x = h.S ∨ x = h.v ∨ x = h.goes ∨ x = h.hears then 999 else σ.st x,fun x hx=>by
      show x < (veil (c.hidM (ch ++ [h])) σ.w).heap.size
      rw [hsz]
      by_cases e:x = h.S ∨ x = h.v ∨ x = h.goes ∨ x = h.hears
      · rcases e with rfl | rfl | rfl | rfl <;> assumption
      · simp only [e,if_false] at hx;exact σ.lt x hx⟩
    have hτ:∀ x,τ.st x = if x = h.S ∨ x = h.v ∨ x = h.goes ∨ x = h.hears then 999 else σ.st x:=fun _=>rfl
    have cases':∀ x,c.hidM (ch ++ [h]) x → c.hidM ch x ∨ x = h.S ∨ x = h.v ∨ x = h.goes ∨ x = h.hears:=fun x hx=>by
      rcases hx with e | e | e | e | ⟨y,hy,e⟩ | e
      · exact .inl (.inl e)
      · exact .inl (.inr (.inl e))
      · exact .inl (.inr (.inr (.inl e)))
      · exact .inl (.inr (.inr (.inr (.inl e))))
      · rcases List.mem_append.1 hy with hy | hy
        · exact .inl (.inr (.inr (.inr (.inr (.inl ⟨y,hy,e⟩)))))
        · obtain rfl:y = h:=by simpa using hy
          exact .inr e
      · exact .inl (.inr (.inr (.inr (.inr (.inr e)))))
    have four:∀ x,σ.st x ∉ [999,kS,kv,kg,kh] → ¬ (x = h.S ∨ x = h.v ∨ x = h.goes ∨ x = h.hears):=fun x hx e=>by
      rcases e with rfl | rfl | rfl | rfl
      · exact hx (by simp [stS])
      · exact hx (by simp [stv])
      · exact hx (by simp [stg])
      · exact hx (by simp [sth])
    have hst:StpL [999,kS,kv,kg,kh] σ τ:=by
      refine ⟨rfl,rfl,by simp [gho],.inr trivial,Nat.le_of_eq hsz.symm,fun x hx hm=>?_,fun x hx hm=>by rw [hτ,if_neg (four x hm)]⟩
      have hn:¬ c.hidM (ch ++ [h]) x:=fun e=>by
        rcases cases' x e with e | e
        · exact hm (by simp [hp.hid x e])
        · exact four x hm e
      exact (Qc (c.hidM (ch ++ [h])) σ.w x).2 hn
    exact (cj_in rfl).1 (K τ hst ⟨rfl,fun x hx=>by
      rw [hτ]
      split
      · rfl
      · rename_i e
        rcases cases' x hx with e2 | e2
        · exact hp.hid x e2
        · exact absurd e2 e⟩ ⟨⟨nh _ (by omega),nh _ (by omega),nh _ (by omega),nh _ (by omega)⟩,fun e=>by rw [e] at stS;omega⟩ b kk cs hk H)
end
end Go.KL
namespace Go.KL
open Go.Conc
open Go.RowKit
open Go.ConcR (KK WgAt stA smA Payload)
open Go.ConcN (WgLive)
variable {P:Program} {J:JdOf P}
def Ty.slen (n:Nat):Ty:=⟨fun _ v=>∃ a cap,v = .slice a n cap∧n ≤ cap∧cap ≤ 9223372036854775807,fun _ h=>h⟩
theorem slen_of {σ τ:GW} {c n:Nat} {ts:List Ty} {v:Value} (h:(Ty.sl c n ts).has σ v):(Ty.slen n).has τ v:=by
  obtain ⟨a,cap,b,o,e,hn,_⟩:=h
  exact ⟨a,cap,e,hn⟩
def Ty.rol (c:Co) (xs:List Int):Ty:=⟨fun _ v=>∃ a cap,v = .slice a xs.length cap∧(xs.length ≤ cap∧cap ≤ 9223372036854775807)∧∀ i,i < xs.length → ∃ b o cs e fr,a = some ⟨b,o,none⟩∧c.ro b = some (.cells cs e fr)∧cs[o + i]? = some (.int .i64 (xs.getD i 0)),fun _ h=>h⟩
theorem rol_of {c:Co} {σ τ:GW} {xs:List Int} {v:Value} (hro:c.ro = roOf σ) (h:(Ty.lst Ty.int xs).has σ v):(Ty.rol c xs).has τ v:=by
  obtain ⟨a,cap,b,o,e,hn,hl,hs,hc⟩:=h
  refine ⟨a,cap,e,hn,fun i hi=>?_⟩
  have hne:xs.map Ty.int ≠ []:=fun e=>by
    have:=congrArg List.length e;simp at this;simp [this] at hi
  obtain ⟨rfl,hst⟩:=hs.resolve_left hne
  obtain ⟨u,hu,hT⟩:=hc i (Ty.int (xs.getD i 0)) (Ju Ty.int xs 0 i hi)
  have hu':u = .int .i64 (xs.getD i 0):=hT
  subst hu'
  unfold World.cell? at hu
  cases hb:σ.w.heap[b]? with
  | none=>rw [hb] at hu;simp at hu
  | some ob =>
    rw [hb] at hu
    cases ob with
    | cells cs e' fr=>exact ⟨b,o,cs,e',fr,rfl,by rw [hro];exact roOf_of hst hb (fun _ _=>Obj.noConfusion),by simpa using hu⟩
    | _=>simp at hu
def Ty.roc (c:Co) (u:Value):Ty:=⟨fun _ v=>∃ b o cs e fr,v = Jg b o∧c.ro b = some (.cells cs e fr)∧cs[o]? = some u,fun _ h=>h⟩
section
variable {d:Option Tmp} {ty:TypeId} {pos:String} {af:Array Edge} {g:Option (Nat × Bool)} {a:Act} {σ:GW}
theorem y_lenS {x:Operand} {n:Nat} {t e:TypeId} (ht:P.underlying t = some (.slice e)) (hx:At (.slen n) σ a x):Yld J ⟨d,.call ⟨.builtin .len,#[x],#[t]⟩,ty,pos,af,g⟩ a σ (Ty.nat n).pr:=by
  obtain ⟨ad,cap,e1,_⟩:=hx
  exact Yld.of_run (v:=.int .i64 n) (Xj e1 (fun cs=>by simp [builtin,Builtin.len_,run_underlying ht,goInt])) rfl
theorem y_indexO {x y:Operand} {c:Co} {xs:List Int} {t e:TypeId} {z:Value} {b:Nat} {k:IntKind} {i:Nat} (ht:P.underlying t = some (.slice e)) (he:Info P e z 1 b) (hx:At (.rol c xs) σ a x) (hy:a.eval y = .int k ((i:Nat):Int)) (h1:i < xs.length) :
    Yld J ⟨d,.indexAddr t x y,ty,pos,af,g⟩ a σ (Ty.roc c (.int .i64 (xs.getD i 0))).pr:=by
  obtain ⟨ad,cap,e1,_,hc⟩:=hx
  obtain ⟨b',o,cs,e',fr,rfl,hr,hu⟩:=hc i h1
  refine Yld.of_run (v:=Jg b' (o + i)) ?_ ⟨b',o + i,cs,e',fr,rfl,hr,hu⟩
  simp only [execOp,e1,hy]
  simp [Instr.indexAt,asIntOf,run_underlying ht,h1,he.size,Addr.add_lit]
theorem cj_ldR [Payload] {c:Co} {W:World} {Post:Value → World → Prop} {Z:UInt8 → Obj} {ops:Array Oper} {ch:List Ch} {t:TypeId} {x:Operand} {dd:TypeDesc} {u:Value} {p:MT} (ht:P.underlying t = some dd) (hd:dd.isRow = false) (hp:PlM c p ch σ) (hx:At (.roc c u) σ a x) :
    Run (cj P c W Post Z) ops ⟨d,.load t x,ty,pos,af,none⟩ a σ (Ty.val u).pr:=by
  obtain ⟨b,o,cs,e,fr,e1,hr,hu⟩:=hx
  exact cj_ldO ht hd hp e1 hr hu
end
def Ty.Free (T:Ty):Prop:=∀ {σ τ:GW} {v:Value},T.has σ v → T.has τ v
theorem free_val (v:Value):(Ty.val v).Free:=fun h=>h
theorem free_slen (n:Nat):(Ty.slen n).Free:=fun h=>h
theorem OwnP.inn {own:List Nat} {c:Co} {σ τ:GW} {k:Nat} {v:Value} {ts:List Ty} (h:OwnP σ k v ts) (hI:Inn own c σ τ) (hk:k ∈ own) (hf:∀ T ∈ ts,T.Free):OwnP τ k v ts:=by
  obtain ⟨g,e,cur,rfl,h2,h3,h4,h5⟩:=h
  have hlt:=(Array.getElem?_eq_some_iff.1 h3).1
  obtain ⟨e1,e2⟩:=hI.st g hlt (by rw [h2];exact hk)
  exact ⟨g,e,cur,rfl,e1.trans h2,e2.trans h3,h4,fun j T u hj hu=>hf T (List.mem_of_getElem? hj) (h5 j T u hj hu)⟩
structure Soft (σ τ:GW):Prop where
  at_:∀ b o u,σ.st b = 1 → σ.w.cell? ⟨b,o,none⟩ = some u → τ.st b = 1∧τ.w.cell? ⟨b,o,none⟩ = some u
def Ty.Soft (T:Ty):Prop:=∀ {σ τ:GW} {v:Value},Go.KL.Soft σ τ → T.has σ v → T.has τ v
theorem soft_val (v:Value):(Ty.val v).Soft:=fun _ h=>h
theorem soft_sl {c n:Nat} {ts:List Ty} (h:∀ T ∈ ts,T.Soft):(Ty.sl c n ts).Soft:=by
  rintro σ τ v hS ⟨a,cap,b,o,e,hn,hl,hs,hc⟩
  refine ⟨a,cap,b,o,e,hn,hl,?_,fun j T hj=>?_⟩
  · cases ts with
    | nil=>exact .inl rfl
    | cons T ts =>
      obtain ⟨e1,h1⟩:=hs.resolve_left (by simp)
      obtain ⟨u,hu,_⟩:=hc 0 T rfl
      exact .inr ⟨e1,(hS.at_ _ _ _ h1 hu).1⟩
  · have hne:ts ≠ []:=fun e=>by subst e;simp at hj
    obtain ⟨_,h1⟩:=hs.resolve_left hne
    obtain ⟨u,hu,hT⟩:=hc j T hj
    exact ⟨u,(hS.at_ _ _ _ h1 hu).2,h T (List.mem_of_getElem? hj) hS hT⟩
theorem soft_ref {T:Ty} (h:T.Soft):(Ty.ref [T]).Soft:=by
  rintro σ τ v hS ⟨b,o,e,hs,hc⟩
  obtain ⟨u0,hu0,hT0⟩:=hc 0 T rfl
  refine ⟨b,o,e,(hS.at_ _ _ _ hs hu0).1,fun j U hj=>?_⟩
  match j,hj with
  | 0,hj=>cases hj;exact ⟨u0,(hS.at_ _ _ _ hs hu0).2,h hS hT0⟩
theorem soft_lns (lns:List (List (List Int))):(Ty.ref [Ty.lst Ty.rows lns]).Soft :=
  soft_ref (soft_sl fun T hT=>by
    obtain ⟨x,_,rfl⟩:=List.mem_map.1 hT
    exact soft_sl fun T hT=>by
      obtain ⟨y,_,rfl⟩:=List.mem_map.1 hT
      exact soft_sl fun T hT=>by
        obtain ⟨z,_,rfl⟩:=List.mem_map.1 hT
        exact soft_val _)
open Classical in
noncomputable def rgView (c:Co) (h:Ch) (w:World) (gh:Array (Nat × ByteArray)):World:={ w with heap:=w.heap.mapIdx fun i o=>if c.RO h i then ice o else bad o,output:=gh }
theorem rgView_at (c:Co) (h:Ch) (w:World) (gh:Array (Nat × ByteArray)) (b:Nat):(c.RO h b → (rgView c h w gh).heap[b]? = (w.heap[b]?).map ice)∧(¬ c.RO h b → (rgView c h w gh).heap[b]? = (w.heap[b]?).map bad):=by
  refine ⟨fun e=>?_,fun e=>?_⟩ <;> (show (w.heap.mapIdx _)[b]? = _;rw [Array.getElem?_mapIdx];simp [e])
theorem rgView_pois (c:Co) (h:Ch) (w:World) (gh:Array (Nat × ByteArray)):Pois ⟨fun b=>¬ c.RO h b,fun _=>True⟩ w (rgView c h w gh):=by
  refine ⟨rfl,rfl,rfl,by simp [rgView],fun b _ h2=>absurd trivial h2,fun b h1 _=>(rgView_at c h w gh b).1 (Classical.not_not.1 h1),fun b h1=>(rgView_at c h w gh b).2 h1,fun b a u e=>?_⟩
  by_cases hr:c.RO h b
  · rw [(rgView_at c h w gh b).1 hr] at e
    cases ho:w.heap[b]? with
    | none=>rw [ho] at e;cases e
    | some o=>rw [ho] at e;cases o <;> simp [ice] at e
  · rw [(rgView_at c h w gh b).2 hr] at e
    cases ho:w.heap[b]? with
    | none=>rw [ho] at e;cases e
    | some o=>rw [ho] at e;cases o <;> simp [bad] at e
open Classical in
noncomputable def rgGW (c:Co) (h:Ch) (w:World) (gh:Array (Nat × ByteArray)):GW:=⟨rgView c h w gh,fun b=>if c.RO h b∧b < w.heap.size then 1 else 0,fun b hb=>by
  by_cases e:c.RO h b∧b < w.heap.size
  · simpa [rgView] using e.2
  · simp [e] at hb⟩
theorem rgGW_cell {c:Co} {h:Ch} {w:World} {gh:Array (Nat × ByteArray)} {b o:Nat} {cs:Array Value} {e:TypeId} {fr:Nat × Nat} {u:Value} (hr:c.RO h b) (hb:w.heap[b]? = some (.cells cs e fr)) (hu:cs[o]? = some u):(rgGW c h w gh).st b = 1∧(rgGW c h w gh).w.cell? ⟨b,o,none⟩ = some u:=by
  refine ⟨?_,?_⟩
  · exact if_pos ⟨hr,(Array.getElem?_eq_some_iff.1 hb).1⟩
  · show (rgView c h w gh).cell? ⟨b,o,none⟩ = some u
    unfold World.cell?
    rw [(rgView_at c h w gh b).1 hr,hb]
    simp [ice,hu]
theorem rg_sees {c:Co} {h:Ch} {w:World} {gh:Array (Nat × ByteArray)} {σ:GW} (hro:c.ro = roOf σ) (hl:∀ b o,c.ro b = some o → w.heap[b]? = some o):Soft σ (rgGW c h w gh):=by
  refine ⟨fun b o u h1 hu=>?_⟩
  unfold World.cell? at hu
  cases hb:σ.w.heap[b]? with
  | none=>rw [hb] at hu;simp at hu
  | some ob =>
    rw [hb] at hu
    cases ob with
    | cells cs e fr =>
      have hr:c.ro b = some (.cells cs e fr):=by rw [hro];exact roOf_of h1 hb (fun _ _=>Obj.noConfusion)
      exact rgGW_cell (.inl (by simp [Co.inB,hr])) (hl b _ hr) (by simpa using hu)
    | _=>simp at hu
theorem rg_born {c:Co} {h:Ch} {w:World} {e:TypeId} {σ:GW} {lns:List (List (List Int))} {lb:Nat} (hro:c.ro = roOf σ) (hl:∀ b o,c.ro b = some o → w.heap[b]? = some o) (hv:w.heap[h.v]? = some (.cells #[Jg h.S 0] e (0,0))) (hlb:(Ty.ref [Ty.lst Ty.rows lns]).has σ (Jg lb 0)) :
    ∀ w1,c.RR h w w1 → ∃ ρ:GW,PlR (.rcv 0) ρ∧(Ty.ref [Ty.val (Jg h.S 0)]).has ρ (Jg h.v 0)∧(Ty.ref [Ty.lst Ty.rows lns]).has ρ (Jg lb 0)∧Pois ⟨fun b=>¬ c.RO h b,fun _=>True⟩ w1 ρ.w:=fun w1 h1=>by
  have hv1:w1.heap[h.v]? = some (.cells #[Jg h.S 0] e (0,0)):=(h1.blk _ (.inl (.inr rfl))).trans hv
  have hl1:∀ b o,c.ro b = some o → w1.heap[b]? = some o:=fun b o hb=>(h1.blk b (.inl (.inl (by simp [Co.inB,hb])))).trans (hl b o hb)
  obtain ⟨q1,q2⟩:=rgGW_cell (gh:=ge (Qp (.rcv 0))) (o:=0) (u:=Jg h.S 0) (c:=c) (h:=h) (.inr rfl) hv1 (by simp)
  refine ⟨rgGW c h w1 (ge (Qp (.rcv 0))),rfl,⟨h.v,0,rfl,q1,fun j T hj=>?_⟩,soft_lns lns (rg_sees hro hl1) hlb,rgView_pois _ _ _ _⟩
  match j,hj with
  | 0,hj=>cases hj;exact ⟨_,q2,rfl⟩
theorem ok_of {c:Co} {ch:List Ch} {h:Ch} {w:World} (hN:c.New ch h w) (hst:c.MSt ch w) (hw:c.hidM ch c.wg) (hr:c.hidM ch c.rung) (hrb:¬ c.inB c.rung):c.Ok h:=by
  have nS:=hN.new.1
  have nv:=hN.new.2.1
  refine ⟨fun e=>?_,⟨fun e=>?_,fun e=>nS (e ▸ hw)⟩,⟨fun e=>?_,fun e=>nS (e ▸ hr)⟩⟩
  · rcases e with e | e
    · exact nS (.inr (.inr (.inr (.inl e))))
    · exact hN.apart.1 e
  · rcases e with e | e
    · exact hst.nwg e
    · exact nv (e ▸ hw)
  · rcases e with e | e
    · exact hrb e
    · exact nv (e ▸ hr)
end Go.KL
namespace Go.KL
open Go.Conc
open Go.RowKit
open Go.ConcR (KK WgAt stA smA Payload)
variable {P:Program}
theorem alloc_run {d:Option Tmp} {t:TypeId} {ty:TypeId} {pos:String} {af:Array Edge} {g:Option (Nat × Bool)} {ρ:Operand → Value} {z:Value} {c b:Nat} (he:Info P t z c b) (w:World) :
    (execOp ρ ⟨d,.alloc t,ty,pos,af,g⟩).run P w = .ok (.value (.pointer (some ⟨w.heap.size,0,none⟩))) { w with heap:=w.heap.push (.cells z.cells t) }∧(execOp ρ ⟨d,.alloc t,ty,pos,af,g⟩).events P w #[] = #[]:=by
  have hz:∀ es,(zeroValue t).runT P w es = (.ok z w,es):=fun es=>by
    have e2:(zeroValue t).events P w es = es:=by
      unfold Info at he
      cases hi:P.info? t with
      | none=>simp [hi] at he
      | some i=>rw [hi] at he;simp at he;simp [zeroValue,typeInfo,hi,he.1]
    rw [Sem.runT_eq,he.zero w,e2]
  have hT:(execOp ρ ⟨d,.alloc t,ty,pos,af,g⟩).runT P w #[] = (.ok (.value (.pointer (some ⟨w.heap.size,0,none⟩))) { w with heap:=w.heap.push (.cells z.cells t) },#[]):=by
    simp only [execOp,Instr.alloc]
    simp [Sem.runT_bind',hz,newVar,newRow,newObj,Sem.runT,pure,bind,Sem.bind,-Sem.runT_eq,Functor.map]
  exact ⟨Xf hT,by unfold Sem.events;rw [hT]⟩
section
variable {W:World} {Post:Value → World → Prop} {Z:UInt8 → Obj} {ops:Array Oper} {Q:Exit → Act → World → Prop} {i N:Nat} {D:List Deferred} {a:Act} {σ:GW} {gh:Array (Nat × ByteArray)}
theorem xs_alloc {d:Nat} {kd:UInt8} {t:TypeId} {ty:TypeId} {pos:String} {af:Array Edge} {z:Value} {c b_:Nat} (ok:Ok N D a) (ho:ops[i]? = some ⟨some d,.alloc t,ty,pos,af,none⟩) (hN:d < N) (hp:PlS gh σ) (hkd:kd ≠ 0) (he:Info P t z c b_) (hZ:Z kd = .cells z.cells t)
    (K:∀ a' τ b,Stp 999 σ τ → PlS (gh.push (2 * b + 1,kb kd)) τ → σ.w.heap.size ≤ b → Ok N D a' → a'.eval (.tmp d) = Jg b 0 → (∀ t,t ≠ d → a'.eval (.tmp t) = a.eval (.tmp t)) → XT (sf P W Post Z) ops Q (i + 1) a' τ.w):XT (sf P W Post Z) ops Q i a σ.w :=
  xs_new (kd:=kd) ok ho rfl rfl hN hp hkd (fun w=>by rw [hZ];exact (alloc_run he w).1) (fun w=>(alloc_run he w).2) (fun _ _=>by rw [hZ];exact Obj.noConfusion) K
end
noncomputable def coOf (n:Nat) (l:List (List Int)) (cs:List JH) (leads:List Int) (σ:GW) (wg rung heard:Nat) (gh:Array (Nat × ByteArray)):Co where
  tWg:=64
  tS:=71
  tR:=66
  m0:=0
  n:=n
  C:=l.length
  A:=leads.length * l.length
  q i:=leads.getD i 0
  pl:=plE n l cs leads
  ro:=roOf σ
  wg:=wg
  rung:=rung
  heard:=heard
  zi:=.int .i64 0
  zq:=.int .i64 0
  zs:=.agg #[.int .i64 0,.int .i64 0]
  gh0:=gh
structure CoB (c:Co) (n:Nat) (l:List (List Int)) (cs:List JH) (leads:List Int) (σ:GW) (gh:Array (Nat × ByteArray)):Prop where
  pl:∀ k s,c.pl k s = plE n l cs leads k s
  q:∀ i,c.q i = leads.getD i 0
  tWg:c.tWg = 64
  tS:c.tS = 71
  C:c.C = l.length
  A:c.A = leads.length * l.length
  ro:c.ro = roOf σ
  zi:c.zi = .int .i64 0
  zq:c.zq = .int .i64 0
  zs:c.zs = .agg #[.int .i64 0,.int .i64 0]
  gh0:c.gh0 = gh
  n:c.n = n
theorem coB_of (n:Nat) (l:List (List Int)) (cs:List JH) (leads:List Int) (σ:GW) (wg rung heard:Nat) (gh:Array (Nat × ByteArray)) (m:Nat):CoB { coOf n l cs leads σ wg rung heard gh with m0:=m } n l cs leads σ gh :=
  ⟨fun _ _=>rfl,fun _=>rfl,rfl,rfl,rfl,rfl,rfl,rfl,rfl,rfl,rfl,rfl⟩
section
variable {nm:ByteArray} {n:Nat} {l:List (List Int)} {cs:List JH} {leads:List Int} {c:Co} {σ:GW} {gh:Array (Nat × ByteArray)}
theorem CoB.plOk (B:CoB c n l cs leads σ gh) (h:CallsOk nm n l cs) (hi:KU cs leads):PlOk c :=
  ⟨fun k s hk=>by rw [B.n] at hk ⊢;rw [B.pl];exact plE_le h hi hk s,fun k k' s hk hk' e=>by rw [B.n] at hk hk';rw [B.pl,B.pl] at e;exact plE_inj h hi hk hk' s e⟩
theorem CoB.rgN (B:CoB c n l cs leads σ gh) (h:CallsOk nm n l cs) (hi:KU cs leads) (hA:leads.length * l.length ≤ 20000) {k:Nat} (hk:k < n):RgN c k (lnsE n l cs):=by
  have l1:=h.meth.l1
  have l2:=h.meth.l2
  refine ⟨by rw [B.C];omega,by rw [B.C];omega,by rw [B.A];omega,fun i hi'=>?_,fun s h0 hs=>?_⟩
  · rw [B.C,B.A] at hi'
    have hlt:i < leads.length:=Nat.lt_of_mul_lt_mul_right hi'
    have hq:=hi i hlt
    rw [B.q,B.C]
    refine ⟨hq.1,by rw [lns_len];exact hq.2,?_⟩
    rw [lns_at (by omega),List.length_map]
    exact QC h hi hlt
  · rw [B.A] at hs
    rw [B.pl,B.pl,B.C,B.q,plE_step h hi hk h0 hs];rfl
end
def RefH (lns:List (List (List Int))) (lb:Nat) (σ:GW):Prop:=(Ty.ref [Ty.lst Ty.rows lns]).has σ (Jg lb 0)
theorem RefH.keepL {lns:List (List (List Int))} {lb:Nat} {L:List Nat} {σ τ:GW} (h:RefH lns lb σ) (hs:StpL L σ τ) (h1:1 ∉ L) (_:0 ∉ L):RefH lns lb τ:=Ty.up _ (hs.le h1) h
theorem RefH.k0 {lns:List (List (List Int))} {lb:Nat} {σ τ:GW} (h:RefH lns lb σ) (hs:Stp 0 σ τ):RefH lns lb τ:=Ty.up _ hs.le0 h
section
variable {gh:Array (Nat × ByteArray)} {wg rg:Nat}
theorem mem1:(2 * wg + 1,kb 1) ∈ ((gh.push (2 * wg + 1,kb 1)).push (2 * rg + 1,kb 2)).toList:=by simp
theorem mem2:(2 * rg + 1,kb 2) ∈ ((gh.push (2 * wg + 1,kb 1)).push (2 * rg + 1,kb 2)).toList:=by simp
theorem kb_inj {a b:UInt8} (h:kb a = kb b):a = b:=by simpa [kb] using h
theorem uniq1 (hn:¬ hid gh wg) (hne:wg ≠ rg):∀ k,(2 * wg + 1,kb k) ∈ ((gh.push (2 * wg + 1,kb 1)).push (2 * rg + 1,kb 2)).toList → k = 1:=fun k hk=>by
  simp only [Array.toList_push,List.mem_append,List.mem_singleton,Prod.mk.injEq] at hk
  rcases hk with (hk | ⟨_,e⟩) | ⟨e,_⟩
  · exact absurd (.inr (List.mem_map.2 ⟨_,hk,rfl⟩)) hn
  · exact kb_inj e
  · omega
theorem uniq2 (hn:¬ hid (gh.push (2 * wg + 1,kb 1)) rg):∀ k,(2 * rg + 1,kb k) ∈ ((gh.push (2 * wg + 1,kb 1)).push (2 * rg + 1,kb 2)).toList → k = 2:=fun k hk=>by
  rw [Array.toList_push,List.mem_append] at hk
  rcases hk with hk | hk
  · exact absurd (.inr (List.mem_map.2 ⟨_,hk,rfl⟩)) hn
  · simp only [List.mem_singleton,Prod.mk.injEq] at hk
    exact kb_inj hk.2
theorem new_not {σ:GW} (hp:PlS gh σ) (h:σ.w.heap.size ≤ wg):¬ hid gh wg:=fun e=>by
  have h1:=hp.hid wg e
  have h2:=σ.lt wg (by rw [h1];decide)
  omega
theorem old_lt {σ:GW} (hp:PlS gh σ) (h:hid gh wg):wg < σ.w.heap.size:=σ.lt wg (by rw [hp.hid wg h];decide)
end
structure Aps (c:Co) (ch:List Ch):Prop where
  nin:∀ h ∈ ch,¬ c.inB h.S∧¬ c.inB h.v∧¬ c.inB h.goes∧¬ c.inB h.hears
  wg:∀ h ∈ ch,h.goes ≠ c.wg
  nS:∀ x ∈ ch,∀ h ∈ ch,x.S ≠ h.goes
theorem Aps.nil (c:Co):Aps c []:=⟨by simp,by simp,by simp⟩
theorem Aps.snoc {c:Co} {ch:List Ch} {h:Ch} (A:Aps c ch) (hx:(¬ c.hidM ch h.S∧¬ c.hidM ch h.v∧¬ c.hidM ch h.goes∧¬ c.hidM ch h.hears)∧h.S ≠ h.goes):Aps c (ch ++ [h]):=by
  obtain ⟨⟨a,b,d,e⟩,f⟩:=hx
  have nb:∀ x,¬ c.hidM ch x → ¬ c.inB x:=fun x hx hi=>hx (.inr (.inr (.inr (.inl hi))))
  refine ⟨fun x hx=>?_,fun x hx=>?_,fun x hx y hy=>?_⟩
  · rcases List.mem_append.1 hx with hx | hx
    · exact A.nin x hx
    · obtain rfl:x = h:=by simpa using hx
      exact ⟨nb _ a,nb _ b,nb _ d,nb _ e⟩
  · rcases List.mem_append.1 hx with hx | hx
    · exact A.wg x hx
    · obtain rfl:x = h:=by simpa using hx
      exact fun e=>d (.inl e)
  · rcases List.mem_append.1 hx with hx1 | hx1
    · rcases List.mem_append.1 hy with hy1 | hy1
      · exact A.nS x hx1 y hy1
      · rw [show y = h by simpa using hy1]
        exact fun e=>d (.inr (.inr (.inr (.inr (.inl ⟨x,hx1,.inl e.symm⟩)))))
    · rw [show x = h by simpa using hx1]
      rcases List.mem_append.1 hy with hy1 | hy1
      · exact fun e=>a (.inr (.inr (.inr (.inr (.inl ⟨y,hy1,.inr (.inr (.inl e))⟩)))))
      · rw [show y = h by simpa using hy1]
        exact f
theorem Aps.back {c:Co} {ch:List Ch} (A:Aps c ch) (h0:∀ b,c.inB b → ¬ hid c.gh0 b) (hh:¬ c.inB c.heard):∀ b,c.inB b → ¬ hid (ghE c ch) b:=fun b hb e=>by
  rcases (hid_addE _ _ b).1 e with e | e
  · exact h0 b hb e
  · rcases List.mem_cons.1 e with e | e
    · exact hh (e ▸ hb)
    · obtain ⟨x,hx,e⟩:=List.mem_flatMap.1 e
      obtain ⟨q1,q2,q3,q4⟩:=A.nin x hx
      simp only [List.mem_cons,List.not_mem_nil,or_false] at e
      rcases e with e | e | e | e
      · exact q1 (e ▸ hb)
      · exact q2 (e ▸ hb)
      · exact q3 (e ▸ hb)
      · exact q4 (e ▸ hb)
theorem agg5 {σ:GW} {v x0 x1 x2 x3 x4:Value} (h:(Ty.agg [Ty.val x0,Ty.val x1,Ty.val x2,Ty.val x3,Ty.val x4]).has σ v):v = .agg #[x0,x1,x2,x3,x4]:=by
  obtain ⟨cs,rfl,hl,hc⟩:=h
  have hl:cs.size = 5:=hl
  congr 1
  apply Array.ext
  · simpa using hl
  · intro i h2 h3
    have hi:i < 5:=h3
    match i,hi with
    | 0,_=>exact hc 0 (Ty.val x0) _ rfl (by simp [h2])
    | 1,_=>exact hc 1 (Ty.val x1) _ rfl (by simp [h2])
    | 2,_=>exact hc 2 (Ty.val x2) _ rfl (by simp [h2])
    | 3,_=>exact hc 3 (Ty.val x3) _ rfl (by simp [h2])
    | 4,_=>exact hc 4 (Ty.val x4) _ rfl (by simp [h2])
def Pr.rgA (kh kg:Nat) (k x hd:Value):Pr:=⟨fun σ v=>∃ b1 b2,v = .agg #[k,x,chv b1,chv b2,hd]∧OwnCh σ kh (chv b1) 1∧OwnCh σ kg (chv b2) 0,fun hs ⟨b1,b2,e,h1,h2⟩=>⟨b1,b2,e,h1.k0 hs,h2.k0 hs⟩⟩
def Pr.rgS (E:TypeId) (kS kh kg:Nat) (k x hd:Value):Pr:=⟨fun σ v=>∃ S b1 b2,v = Jg S 0∧OwnPT E σ kS v [Ty.val k,Ty.val x,Ty.val (chv b1),Ty.val (chv b2),Ty.val hd]∧OwnCh σ kh (chv b1) 1∧OwnCh σ kg (chv b2) 0,fun hs ⟨S,b1,b2,e,h0,h1,h2⟩=>⟨S,b1,b2,e,h0.k0 hs,h1.k0 hs,h2.k0 hs⟩⟩
section
variable {J:JdOf P} {d:Option Tmp} {ty:TypeId} {pos:String} {af:Array Edge} {g:Option (Nat × Bool)} {a:Act} {σ:GW}
theorem rgA_of {kh kg:Nat} {k x hd u2 u3 v:Value} (h2:OwnCh σ kh u2 1) (h3:OwnCh σ kg u3 0) (h:(Ty.agg [Ty.val k,Ty.val x,Ty.val u2,Ty.val u3,Ty.val hd]).has σ v):(Pr.rgA kh kg k x hd).has σ v:=by
  have e:=agg5 h
  obtain ⟨b1,rfl,q1,q2⟩:=h2
  obtain ⟨b2,rfl,q3,q4⟩:=h3
  exact ⟨b1,b2,e,⟨b1,rfl,q1,q2⟩,⟨b2,rfl,q3,q4⟩⟩
theorem y_rgbox {E:TypeId} {kS kh kg:Nat} {k x hd:Value} {y:Operand} (h:(Pr.rgA kh kg k x hd).has σ (a.eval y)):Yld J ⟨d,.box E y,ty,pos,af,g⟩ a σ (Pr.rgS E kS kh kg k x hd):=by
  intro K Q hk
  obtain ⟨b1,b2,e,h1,h2⟩:=h
  have hr:(execOp a.eval ⟨d,.box E y,ty,pos,af,g⟩).run P σ.w = .ok (.value (Jg σ.w.heap.size 0)) (σ.w.alloc (.cells #[k,x,chv b1,chv b2,hd] E)):=by
    simp only [execOp,e]
    simp [Instr.box,newVar,newRow,newObj,Sem.run,Sem.run_bind,Value.cells]
  refine JW rfl ?_
  rw [hr]
  have hs:=Stp.mk' σ kS (.cells #[k,x,chv b1,chv b2,hd] E)
  refine ⟨by first | rfl | simp [Qo,QO,sly, *],hk _ (σ.mk' kS (.cells #[k,x,chv b1,chv b2,hd] E)) hs ⟨σ.w.heap.size,b1,b2,rfl,⟨σ.w.heap.size,#[k,x,chv b1,chv b2,hd],rfl,by simp [GW.mk'],heap_alloc_new σ.w _,rfl,fun j T u hj hu=>?_⟩,h1.k0 hs,h2.k0 hs⟩⟩
  match j,hj,hu with
  | 0,hj,hu | 1,hj,hu | 2,hj,hu | 3,hj,hu | 4,hj,hu=>cases hj;simp at hu;exact hu.symm
end
section
variable {J:JdOf P} {d:Option Tmp} {ty:TypeId} {pos:String} {af:Array Edge} {g:Option (Nat × Bool)} {a:Act} {σ:GW}
theorem Yld.monoS {o:Oper} {R R':Pr} (h:Yld J o a σ R) (k:∀ τ v,Stp 0 σ τ → R.has τ v → R'.has τ v):Yld J o a σ R':=fun K Q hk=>h K Q fun v τ hs hr=>hk v τ hs (k τ v hs hr)
theorem y_min {x y:Operand} {t:Array TypeId} {m n:Int} (hx:a.eval x = .int .i64 m) (hy:a.eval y = .int .i64 n):Yld J ⟨d,.call ⟨.builtin .min,#[x,y],t⟩,ty,pos,af,g⟩ a σ (Ty.int (min m n)).pr:=by
  refine Yld.of_run (v:=.int .i64 (min m n)) ?_ rfl
  have hx':=hx
  have hy':=hy
  have hb:∀ cs,(builtin .min t ty cs #[.int .i64 m,.int .i64 n]).run P σ.w = .ok (.value (.int .i64 (min m n))) σ.w:=by
    intro cs
    simp only [builtin,Builtin.min_,List.foldlM,Builtin.min2]
    simp [go_sem]
    omega
  simp only [execOp,resolve,Sem.run_bind,Sem.run_pure,Result.andThen_ok,invoke,List.map_toArray,List.map_cons,List.map_nil,hx,hy]
  exact hb _
theorem y_mkfn {f:FuncId} {xs:Array Operand} {vs:Array Value} (h:xs.map a.eval = vs):Yld J ⟨d,.makeFunc (.func f) #[] xs,ty,pos,af,g⟩ a σ (Ty.val (.func (.func f) #[] vs)).pr:=by
  subst h
  exact Yld.of_run (v:=.func (.func f) #[] (xs.map a.eval)) (by simp [execOp,Instr.makeFunc,Sem.run_bind]) rfl
theorem go_run {f:FuncId} {vs:Array Value} {x:Operand} (h:a.eval x = .func (.func f) #[] vs) (w:World) :
    (execOp a.eval ⟨d,.go ⟨.value x,#[],#[]⟩,ty,pos,af,g⟩).run P w = .ok (.spawn { target:=.fn (.func f) vs,args:=#[] }) w∧(execOp a.eval ⟨d,.go ⟨.value x,#[],#[]⟩,ty,pos,af,g⟩).events P w #[] = #[]:=by
  refine ⟨?_,?_⟩ <;> (unfold execOp;simp [resolve,Deferred.ofValue,h])
end
end Go.KL
namespace Go.KL
open Go.RowKit
open Go.Conc (G)
variable {P:Program} {J:JdOf P}
section
variable {b:Frame} {kk:List Item} {cs:List Frame}
theorem half_any3 {m N:Nat} {ops:Array Oper} (hF:Form N ops) (hm:m ≤ ops.size) (hB:QW m ops.toList = true) (M:(Nat → Bool) → Act → GW → Prop)
    (hstep:∀ (i:Nat) o (L:Nat → Bool) a σ (rest:List Nat),ops[i]? = some o → i < m → M L a σ → L i = false → (∀ e ∈ o.after,Region.binds .any e = true → L e.on = true) →
      (∀ (j:Nat) oj,ops[j]? = some oj → L j = true → ∀ e ∈ oj.after,Region.binds .any e = true → L e.on = true) → (∀ a' σ',M (fun j=>L j || j == i) a' σ' → J.J (G (b.at a' (.inRegion ops rest :: kk)) cs) σ'.w) → J.J (G (b.at a (.inRegion ops (i :: rest) :: kk)) cs) σ.w)
    (hQ:∀ a σ,M (fun j=>decide (j < m)) a σ → J.J (G (b.at a (.inRegion ops (List.range' m (ops.size - m)) :: kk)) cs) σ.w):∀ (f t:Nat) (L:Array Bool) (a:Act) (σ:GW),L.size = ops.size → left ops.size L ≤ f → (∀ j,j < ops.size → m ≤ j → L.getD j true = false) →
    (∀ (j:Nat) oj,ops[j]? = some oj → L.getD j true = true → ∀ e ∈ oj.after,Region.binds .any e = true → L.getD e.on true = true) → M (fun j=>decide (j < m) && L.getD j true) a σ → J.J (G (b.at a (.inRegion ops (Region.linearise.go .any ops f t L []) :: kk)) cs) σ.w:=by
  intro f
  induction f with
  | zero =>
    intro t L a σ hs hf hLm hcl' hmid
    have hnone:∀ j,j < ops.size → L.getD j true = true:=fun j hj=>by
      cases h:L.getD j true with
      | true=>rfl
      | false=>have:=left_set hs hj h;omega
    have hmm:m = ops.size:=by
      rcases Nat.lt_or_ge m ops.size with h | h
      · have:=hnone m h;rw [hLm m h (Nat.le_refl _)] at this;cases this
      · omega
    have e:(fun j=>decide (j < m) && L.getD j true) = (fun j=>decide (j < m)):=by
      funext j
      by_cases h:j < m
      · rw [hnone j (by omega)];simp
      · simp [h]
    rw [e] at hmid
    have:=hQ a σ hmid
    simpa [Region.linearise.go,hmm] using this
  | succ f ih =>
    intro t L a σ hs hf hLm hcl' hmid
    by_cases hdone:∀ j,j < m → L.getD j true = true
    · have hL:∀ j,j < ops.size → L.getD j true = decide (j < m):=fun j hj=>by
        by_cases h:j < m
        · rw [hdone j h];simp [h]
        · rw [hLm j hj (by omega)];simp [h]
      rw [tail_lin hF hB (ops.size - m) m (f + 1) t L (by omega) (Nat.le_refl _) hs ?_ hL]
      · have e:(fun j=>decide (j < m) && L.getD j true) = (fun j=>decide (j < m)):=by
          funext j
          by_cases h:j < m
          · rw [hdone j h];simp
          · simp [h]
        rw [e] at hmid
        exact hQ a σ hmid
      · refine Nat.le_trans ?_ hf
        unfold left
        have:(List.range ops.size).countP (fun i=>!L.getD i true) = (List.range ops.size).countP (fun i=>decide (m ≤ i)):=List.countP_congr fun i hi=>by rw [hL i (List.mem_range.1 hi)];simp
        rw [this]
        have hcnt:∀ n,(List.range n).countP (fun i=>decide (m ≤ i)) = n - m:=fun n=>by
          induction n with
          | zero=>simp
          | succ n ihn =>
            rw [List.range_succ,List.countP_append,ihn]
            by_cases h:m ≤ n <;> simp [h] <;> omega
        rw [hcnt]
        exact Nat.le_refl _
    ·
      have hsome:∃ j,j < m∧L.getD j true = false:=by
        refine Classical.byContradiction fun hn=>hdone fun j hj=>?_
        cases h:L.getD j true with
        | true=>rfl
        | false=>exact absurd ⟨j,hj,h⟩ hn
      have up:∀ k,L.getD k false = true → L.getD k true = true:=fun k h=>by
        by_cases hk:k < L.size
        · simp [hk] at h ⊢;exact h
        · simp [hk] at h
      have hlen : 0 < (Region.ready .any ops L).length:=by
        rcases Nat.eq_zero_or_pos (Region.ready .any ops L).length with hr | hr
        · exfalso
          have hr:=List.length_eq_zero_iff.1 hr
          have key:∀ j,j < m → L.getD j true = true:=by
            intro j
            induction j using Nat.strongRecOn with
            | _ j ihj =>
            intro hj
            cases hL:L.getD j true with
            | true=>rfl
            | false =>
              exfalso
              obtain ⟨o,ho⟩:∃ o,ops[j]? = some o:=⟨ops[j]'(by omega),by simp⟩
              have:j ∈ Region.ready .any ops L:=mem_ready.2 ⟨hL,o,ho,fun e he hb=>by
                have hlt:=hF.back j o ho e he hb
                have:=ihj e.on hlt (Nat.lt_trans hlt hj)
                have hsz:e.on < L.size:=by rw [hs];omega
                simp [hsz] at this ⊢;exact this⟩
              rw [hr] at this;cases this
          exact hdone key
        · exact hr
      simp only [Region.linearise.go]
      change J.J (G (b.at a (.inRegion ops (match (Region.ready .any ops L)[t % (Region.ready .any ops L).length]? with
        | some i=>Region.linearise.go .any ops f (t / (Region.ready .any ops L).length) (L.setIfInBounds i true) [i]
        | none=>[].reverse) :: kk)) cs) σ.w
      cases hri:(Region.ready .any ops L)[t % (Region.ready .any ops L).length]? with
      | none =>
        have:=Nat.mod_lt t hlen
        rw [List.getElem?_eq_none_iff] at hri
        omega
      | some i =>
        have hi:=List.mem_of_getElem? hri
        simp only []
        rw [linearise_go_acc,List.reverse_singleton,List.singleton_append]
        obtain ⟨h0,o,ho,hall⟩:=mem_ready.1 hi
        have hi':i < ops.size:=(Array.getElem?_eq_some_iff.1 ho).1
        have him:i < m:=by
          rcases Nat.lt_or_ge i m with h | h
          · exact h
          · exfalso
            obtain ⟨j,hj,hjL⟩:=hsome
            have:=forced_spec (L:=fun j=>decide (j < ops.size) && L.getD j true) hB (fun j oj hj hLj e he hb=>by
              simp only [Bool.and_eq_true,decide_eq_true_eq] at hLj ⊢
              exact ⟨by have:=hF.back j oj hj e he hb;omega,hcl' j oj hj hLj.2 e he hb⟩) ho h (fun e he hb=>by
              simp only [Bool.and_eq_true,decide_eq_true_eq]
              exact ⟨by have:=hF.back i o ho e he hb;omega,up _ (hall e he hb)⟩) j (by omega)
            simp only [Bool.and_eq_true] at this
            rw [hjL] at this;cases this.2
        refine hstep i o _ a σ _ ho him hmid (by simp [h0]) (fun e he hb=>?_) (fun j oj hj hLj e he hb=>?_) fun a' σ' hm'=>ih _ _ a' σ' (by simpa using hs) (by have:=left_set hs hi' h0;omega) (fun j hj hmj=>?_) ?_ ?_
        · have:=hF.back i o ho e he hb
          simp only [up _ (hall e he hb),Bool.and_true,decide_eq_true_eq];omega
        · simp only [Bool.and_eq_true,decide_eq_true_eq] at hLj ⊢
          exact ⟨by have:=hF.back j oj hj e he hb;omega,hcl' j oj hj hLj.2 e he hb⟩
        · rw [getD_set_ne true (by omega)];exact hLm j hj hmj
        · intro j oj hj hLj e he hb
          by_cases hji:j = i
          · subst hji
            rw [ho] at hj;cases hj
            have hne:=hF.back j o ho e he hb
            rw [getD_set_ne true (by omega)]
            exact up _ (hall e he hb)
          · rw [getD_set_ne true (Ne.symm hji)] at hLj
            have:=hcl' j oj hj hLj e he hb
            by_cases hei:e.on = i
            · rw [hei,h0] at this;cases this
            · rw [getD_set_ne true (Ne.symm hei)];exact this
        · have:(fun j=>(decide (j < m) && L.getD j true) || j == i) = (fun j=>decide (j < m) && (L.setIfInBounds i true).getD j true):=by
            funext j
            by_cases hji:j = i
            · subst hji;simp [him,hs,hi']
            · rw [getD_set_ne true (Ne.symm hji)];simp [hji]
          rwa [this] at hm'
theorem half_seq3 {m N:Nat} {ops:Array Oper} (hF:Form N ops) (hm:m ≤ ops.size) (M:(Nat → Bool) → Act → GW → Prop)
    (hstep:∀ (i:Nat) o (L:Nat → Bool) a σ (rest:List Nat),ops[i]? = some o → i < m → M L a σ → L i = false → (∀ e ∈ o.after,Region.binds .any e = true → L e.on = true) →
      (∀ (j:Nat) oj,ops[j]? = some oj → L j = true → ∀ e ∈ oj.after,Region.binds .any e = true → L e.on = true) → (∀ a' σ',M (fun j=>L j || j == i) a' σ' → J.J (G (b.at a' (.inRegion ops rest :: kk)) cs) σ'.w) → J.J (G (b.at a (.inRegion ops (i :: rest) :: kk)) cs) σ.w)
    (hQ:∀ a σ,M (fun j=>decide (j < m)) a σ → J.J (G (b.at a (.inRegion ops (List.range' m (ops.size - m)) :: kk)) cs) σ.w):∀ (n k:Nat) (a:Act) (σ:GW),k + n = m → M (fun j=>decide (j < k)) a σ → J.J (G (b.at a (.inRegion ops (List.range' k (n + (ops.size - m))) :: kk)) cs) σ.w
  | 0,k,a,σ,hk,hmid=>by
    obtain rfl:k = m:=by omega
    rw [Nat.zero_add]
    exact hQ a σ hmid
  | n + 1,k,a,σ,hk,hmid=>by
    rw [show n + 1 + (ops.size - m) = (n + (ops.size - m)) + 1 by omega,List.range'_succ]
    obtain ⟨o,ho⟩:∃ o,ops[k]? = some o:=⟨ops[k]'(by omega),by simp⟩
    refine hstep k o _ a σ _ ho (by omega) hmid (by simp) (fun e he hbi=>by simpa using hF.back k o ho e he hbi)
      (fun j oj hj hlt e he hbi=>by have:=hF.back j oj hj e he hbi;simp at hlt ⊢;omega) fun a' σ' hm'=>half_seq3 hF hm M hstep hQ n (k + 1) a' σ' (by omega) ?_
    have:(fun j=>decide (j < k) || j == k) = (fun j=>decide (j < k + 1)):=by
      funext j;rw [Bool.eq_iff_iff];simp;omega
    rwa [this] at hm'
end
def Ty.any:Ty:=⟨fun _ _=>True,fun _ h=>h⟩
structure Mid3 (p d N:Nat) (D:List Deferred) (W:List Nat) (B:Pr) (ops:Array Oper) (Φ:Nat → Ty) (a0:Act) (σ0:GW) (L:Nat → Bool) (a:Act) (σ:GW):Prop where
  stp:StpL W σ0 σ
  stp0:L p = false → Stp 0 σ0 σ
  ok:Ok N D a
  done:∀ j,L j = true → j ≠ p → rd ops (fun i=>(Φ i).pr) j a σ
  donep:L p = true → B.has σ (a.eval (.tmp d))
  same:∀ t,(∀ j,Kb ops j = some t → L j = false) → a.eval (.tmp t) = a0.eval (.tmp t)
def Obl3 (J:JdOf P) (N:Nat) (D:List Deferred) (W:List Nat) (ops:Array Oper) (Φ:Nat → Ty) (a0:Act) (σ0:GW) (i:Nat) (o:Oper):Prop :=
  ∀ a σ,StpL W σ0 σ → Ok N D a → (∀ t,free ops i t = true → a.eval (.tmp t) = a0.eval (.tmp t)) → Deps ops (fun i=>(Φ i).pr) a σ o.after.toList (Run J ops o a σ (Φ i).pr)
def OblW (J:JdOf P) (N:Nat) (D:List Deferred) (W:List Nat) (B:Pr) (ops:Array Oper) (Φ:Nat → Ty) (a0:Act) (σ0:GW) (i:Nat) (o:Oper):Prop :=
  ∀ a σ,Stp 0 σ0 σ → Ok N D a → (∀ t,free ops i t = true → a.eval (.tmp t) = a0.eval (.tmp t)) → Deps ops (fun i=>(Φ i).pr) a σ o.after.toList (YldL W J o a σ (fun v τ=>B.has τ v))
def Obls3 (J:JdOf P) (p N:Nat) (D:List Deferred) (W:List Nat) (B:Pr) (ops:Array Oper) (Φ:Nat → Ty) (a0:Act) (σ0:GW):Nat → List Oper → Prop
  | _,[]=>True
  | i,o :: l=>(if i = p then OblW J N D W B ops Φ a0 σ0 i o else Obl3 J N D W ops Φ a0 σ0 i o)∧Obls3 J p N D W B ops Φ a0 σ0 (i + 1) l
theorem Obls3.get {p N:Nat} {D:List Deferred} {W:List Nat} {B:Pr} {ops:Array Oper} {Φ:Nat → Ty} {a0:Act} {σ0:GW}:∀ (l:List Oper) (k:Nat),Obls3 J p N D W B ops Φ a0 σ0 k l → ∀ j o,l[j]? = some o → (if k + j = p then OblW J N D W B ops Φ a0 σ0 (k + j) o else Obl3 J N D W ops Φ a0 σ0 (k + j) o)
  | [],_,_,j,o,h=>by simp at h
  | x :: l,k,h,0,o,hj=>by simp at hj;subst hj;exact h.1
  | x :: l,k,h,j + 1,o,hj=>by
    have:=Obls3.get l (k + 1) h.2 j o (by simpa using hj)
    rwa [show k + 1 + j = k + (j + 1) by omega] at this
theorem Mid3.op {p d N:Nat} {D:List Deferred} {W:List Nat} {B:Pr} {ops:Array Oper} {Φ:Nat → Ty} {a0:Act} {σ0:GW} {L:Nat → Bool} {a:Act} {σ:GW} {i:Nat} {o:Oper} {b:Frame} {kk:List Item} {cs:List Frame} {rest:List Nat}
    (hF:Form N ops) (h1:1 ∉ W) (hp:Kb ops p = some d) (hΦ:∀ e v,(Φ p).has e v) (hpg:∀ o,ops[p]? = some o → o.guard = none) (hm:Mid3 p d N D W B ops Φ a0 σ0 L a σ) (ho:ops[i]? = some o) (hL:L i = false)
    (hob:if i = p then OblW J N D W B ops Φ a0 σ0 i o else Obl3 J N D W ops Φ a0 σ0 i o)
    (hcl:clB P J.al o = true) (hk:b.kind ≠ .early) (hall:∀ e ∈ o.after,Region.binds .any e = true → L e.on = true) (hclosed:∀ (j:Nat) oj,ops[j]? = some oj → L j = true → ∀ e ∈ oj.after,Region.binds .any e = true → L e.on = true)
    (hK:∀ a' σ',Mid3 p d N D W B ops Φ a0 σ0 (fun j=>L j || j == i) a' σ' → J.J (G (b.at a' (.inRegion ops rest :: kk)) cs) σ'.w):J.J (G (b.at a (.inRegion ops (i :: rest) :: kk)) cs) σ.w:=by
  have hdi:Kb ops i = o.dst:=by simp [Kb,ho]
  have hsame:∀ t,free ops i t = true → a.eval (.tmp t) = a0.eval (.tmp t):=by
    intro t ht
    refine hm.same t fun j hj=>?_
    cases hLj:L j with
    | false=>rfl
    | true =>
      exfalso
      unfold Kb at hj
      obtain ⟨oj,hoj,hd⟩:=Option.bind_eq_some_iff.1 hj
      unfold free at ht
      have:=(List.all_eq_true.1 ht) oj (List.mem_of_getElem? hoj)
      simp only [hd,bne_self_eq_false,Bool.false_or,List.any_eq_true,Bool.and_eq_true,beq_iff_eq] at this
      obtain ⟨e,he,hb,hon⟩:=this
      have:=hclosed j oj (by simpa using hoj) hLj e (by simpa using he) hb
      rw [hon,hL] at this
      cases this
  have hdeps:∀ τ,Stp 0 σ τ → ∀ e ∈ o.after.toList,Region.binds .any e = true → rd ops (fun i=>(Φ i).pr) e.on a τ:=fun τ hs e he hb=>by
    by_cases hep:e.on = p
    · rw [hep];unfold rd;rw [hp];exact hΦ _ _
    · have h0:=hm.done e.on (hall e (by simpa using he) hb) hep
      unfold rd at h0 ⊢
      split
      · rename_i d hd;rw [hd] at h0;exact (Φ e.on).up hs.le0 h0
      · trivial
  have done':∀ v (τ:GW),σ.Le τ → (i ≠ p → (Φ i).has τ v) → ∀ j,(L j || j == i) = true → j ≠ p → rd ops (fun i=>(Φ i).pr) j (a.put o.dst v) τ:=by
    intro v τ hle hv j hLj hjp
    by_cases hji:j = i
    · subst hji
      unfold rd
      cases hd:Kb ops j with
      | none=>trivial
      | some d =>
        have:o.dst = some d:=by rw [← hdi];exact hd
        simp only [this]
        rw [Kx hm.ok (hF.lt j d hd)]
        exact hv hjp
    · have hLj':L j = true:=by simpa [hji] using hLj
      have h0:=hm.done j hLj' hjp
      unfold rd at h0 ⊢
      cases hd:Kb ops j with
      | none=>trivial
      | some d =>
        rw [hd] at h0
        simp only at h0 ⊢
        rw [Kz (fun he=>hji (hF.uniq j i d hd (by rw [hdi];exact he)))]
        exact (Φ j).up hle h0
  have same':∀ v t,(∀ j,Kb ops j = some t → (L j || j == i) = false) → (a.put o.dst v).eval (.tmp t) = a0.eval (.tmp t):=by
    intro v t ht
    have h1:o.dst ≠ some t:=fun he=>by
      have:=ht i (by rw [hdi];exact he)
      simp at this
    rw [Kz h1]
    exact hm.same t fun j hj=>by
      have:=ht j hj
      simp at this
      exact this.1
  by_cases hip:i = p
  · subst hip
    rw [if_pos rfl] at hob
    have hw:Region.wanted o (yielded ops a.tmps) = true:=by simp [Region.wanted,hpg o ho]
    refine xop (K:=fun a' v'=>∃ σ',σ'.w = v'∧Mid3 i d N D W B ops Φ a0 σ0 (fun j=>L j || j == i) a' σ') ho hw hk hcl (fun v' hv=>?_) (fun a' v' ⟨σ',e,h⟩=>e ▸ hK a' σ' h)
    have hx:=Stp.ext σ hv
    have hy:=Deps.elim o.after.toList (hdeps _ hx) (hob a (σ.ext v' hv) ((hm.stp0 hL).trans hx) hm.ok hsame)
    refine hy _ (fun _ _ _=>True) fun v τ hs hr=>⟨τ,rfl,hm.stp.trans (hx.toL0.trans hs),fun h=>(by simp at h),hm.ok.put _ _,done' v τ (hx.le0.trans (hs.le h1)) (fun h=>absurd rfl h),fun _=>?_,same' v⟩
    have:o.dst = some d:=by rw [← hdi];exact hp
    rw [this,Kx hm.ok (hF.lt i d hp)]
    exact hr
  · rw [if_neg hip] at hob
    have next:∀ v τ,Stp 0 σ τ → (Φ i).has τ v → Mid3 p d N D W B ops Φ a0 σ0 (fun j=>L j || j == i) (a.put o.dst v) τ:=by
      intro v τ hs hv
      refine ⟨hm.stp.trans hs.toL0,fun h=>?_,hm.ok.put _ _,done' v τ hs.le0 (fun _=>hv),fun h=>?_,same' v⟩
      · simp at h;exact (hm.stp0 h.1).trans hs
      · have hLp:L p = true:=by simpa [Ne.symm hip] using h
        rw [Kz (fun he=>hip (hF.uniq i p d (by rw [hdi];exact he) hp))]
        exact B.up hs (hm.donep hLp)
    have hrun:∀ τ,Stp 0 σ τ → Run J ops o a τ (Φ i).pr:=fun τ hs=>Deps.elim o.after.toList (hdeps τ hs) (hob a τ (hm.stp.trans hs.toL0) hm.ok hsame)
    by_cases hw:Region.wanted o (yielded ops a.tmps) = true
    · by_cases hsp:∃ u,J.sp o a σ.w.output u∧∀ τ,(Φ i).has τ u
      · obtain ⟨u,h1,h2⟩:=hsp
        exact J.spl ho hw hk h1 (hK _ σ (next u σ (Stp.refl _ _) (h2 σ)))
      · refine xop (K:=fun a' v'=>∃ σ',σ'.w = v'∧Mid3 p d N D W B ops Φ a0 σ0 (fun j=>L j || j == i) a' σ') ho hw hk hcl (fun v' hv=>?_) (fun a' v' ⟨σ',e,h⟩=>e ▸ hK a' σ' h)
        rcases (hrun _ (Stp.ext σ hv)).1 hw with h | h
        · exact h _ (fun _ _ _=>True) fun u τ hs hu=>⟨τ,rfl,next u τ ((Stp.ext σ hv).trans hs) hu⟩
        · rw [show (σ.ext v' hv).w.output = σ.w.output from hv.output] at h;exact absurd h hsp
    · have hw':Region.wanted o (yielded ops a.tmps) = false:=by simpa using hw
      exact J.ctl (fun w=>Go.Conc.stepG_unwanted ho hw') (hK _ σ (next undef σ (Stp.refl _ _) ((hrun σ (Stp.refl _ _)).2 hw')))
theorem obR3 {i p:Nat} {A B:Prop} (h:i ≠ p) (k:B):if i = p then A else B:=by rw [if_neg h];exact k
theorem obR3w {i p:Nat} {A B:Prop} (h:i = p) (k:A):if i = p then A else B:=by rw [if_pos h];exact k
structure Half3 (m d N:Nat) (D:List Deferred) (W:List Nat) (B:Pr) (ops:Array Oper) (Φ:Nat → Ty) (a0:Act) (σ0:GW) (a:Act) (σ:GW):Prop where
  stp:StpL W σ0 σ
  ok:Ok N D a
  done:∀ j,j < m → rd ops (fun i=>(Φ i).pr) j a σ
  donep:B.has σ (a.eval (.tmp d))
  same:∀ t,((ops.toList.take m).all fun o=>o.dst != some t) = true → a.eval (.tmp t) = a0.eval (.tmp t)
theorem Mid3.half {m p d N:Nat} {D:List Deferred} {W:List Nat} {B:Pr} {ops:Array Oper} {Φ:Nat → Ty} {a0:Act} {σ0:GW} {a:Act} {σ:GW} (h:Mid3 p d N D W B ops Φ a0 σ0 (fun j=>decide (j < m)) a σ) (hpm:p < m) (hp:Kb ops p = some d) (hΦ:∀ e v,(Φ p).has e v):Half3 m d N D W B ops Φ a0 σ0 a σ:=by
  refine ⟨h.stp,h.ok,fun j hj=>?_,h.donep (by simpa using hpm),fun t ht=>h.same t fun j hj=>?_⟩
  · by_cases hjp:j = p
    · rw [hjp];unfold rd;rw [hp];exact hΦ _ _
    · exact h.done j (by simpa using hj) hjp
  · by_cases hjm:j < m
    · obtain ⟨o,ho,hd⟩:=Option.bind_eq_some_iff.1 hj
      have:=(List.all_eq_true.1 ht) o (List.mem_of_getElem? (i:=j) (by rw [List.getElem?_take,if_pos hjm];exact ho))
      simp [hd] at this
    · simpa using hjm
theorem Half3.up {m d N:Nat} {D:List Deferred} {W:List Nat} {B:Pr} {ops:Array Oper} {Φ:Nat → Ty} {a0 a:Act} {σ0 σ τ:GW} (h:Half3 m d N D W B ops Φ a0 σ0 a σ) (hs:Stp 0 σ τ):Half3 m d N D W B ops Φ a0 σ0 a τ :=
  ⟨h.stp.trans hs.toL0,h.ok,fun j hj=>by
    have h0:=h.done j hj
    unfold rd at h0 ⊢
    split
    · rename_i d hd;rw [hd] at h0;exact (Φ j).up hs.le0 h0
    · trivial,B.up hs h.donep,h.same⟩
theorem reg3 [Al J] {N:Nat} {D:List Deferred} {ops:Array Oper} {id:Nat} {draw:Bool} {Q:Exit → Act → World → Prop} {a:Act} {σ:GW} (hP:P.follows .mixedOrders = true) (m p d:Nat) (W:List Nat) (h1:1 ∉ W) (B:Pr) (Φ:Nat → Ty) (ok:Ok N D a) (hF:formB N ops = true) (hm:m ≤ ops.size) (hB:(!draw || QW m ops.toList) = true)
    (hpm:p < m) (hp:Kb ops p = some d) (hΦ:∀ e v,(Φ p).has e v) (hpg:(ops.toList[p]?).all (fun o=>o.guard.isNone) = true) (hob:Obls3 J p N D W B ops Φ a σ 0 (ops.toList.take m))
    (hQ:∀ a' σ',Half3 m d N D W B ops Φ a σ a' σ' → Kq J ops Q (ops.toList.drop m) a' σ'.w) (hcl:ops.toList.all (clB P true) = true:=by rfl):Code.xwp J (Code.region id ops draw) Q a σ.w:=fun b kk cs hk H=>by
  have hF':=Form.of_B hF
  have hcl':ops.toList.all (clB P J.al) = true:=by rw [Al.al];exact hcl
  have hpg':∀ o,ops[p]? = some o → o.guard = none:=fun o ho=>by
    rw [show ops.toList[p]? = some o by simpa using ho] at hpg
    simpa using hpg
  have step:∀ (i:Nat) o (L:Nat → Bool) a' σ' (rest:List Nat),ops[i]? = some o → i < m → Mid3 p d N D W B ops Φ a σ L a' σ' → L i = false → (∀ e ∈ o.after,Region.binds .any e = true → L e.on = true) →
      (∀ (j:Nat) oj,ops[j]? = some oj → L j = true → ∀ e ∈ oj.after,Region.binds .any e = true → L e.on = true) → (∀ a' σ',Mid3 p d N D W B ops Φ a σ (fun j=>L j || j == i) a' σ' → J.J (G (b.at a' (.inRegion ops rest :: kk)) cs) σ'.w) → J.J (G (b.at a' (.inRegion ops (i :: rest) :: kk)) cs) σ'.w :=
    fun i o L a' σ' rest ho him hmid hL hall hclo hK=>Mid3.op hF' h1 hp hΦ hpg' hmid ho hL
      (by simpa using Obls3.get (ops.toList.take m) 0 hob i o (by rw [List.getElem?_take,if_pos him];simpa using ho)) ((List.all_eq_true.1 hcl') o (List.mem_of_getElem? (i:=i) (by simpa using ho))) hk.1 hall hclo hK
  have start:Mid3 p d N D W B ops Φ a σ (fun _=>false) a σ:=⟨StpL.refl _ _,fun _=>Stp.refl _ _,ok,fun _ h=>(by cases h),fun h=>(by cases h),fun _ _=>rfl⟩
  have fin:∀ a' σ',Mid3 p d N D W B ops Φ a σ (fun j=>decide (j < m)) a' σ' → J.J (G (b.at a' (.inRegion ops (List.range' m (ops.size - m)) :: kk)) cs) σ'.w:=fun a' σ' h =>
    QA hk.1 (fun a v hq=>H .normal a v hq) (ops.size - m) m a' σ'.w (by omega) (all_drop hcl' m) fun v' hv=>hQ a' (σ'.ext v' hv) ((h.half hpm hp hΦ).up (Stp.ext σ' hv))
  cases draw with
  | false =>
    refine J.ctl (fun w=>Go.Conc.stepG_region) ?_
    rw [List.range_eq_range']
    have:=half_seq3 (J:=J) (kk:=kk) (cs:=cs) hF' hm (Mid3 p d N D W B ops Φ a σ) step fin m 0 a σ (by simp) (by simpa using start)
    rwa [show m + (ops.size - m) = ops.size by omega] at this
  | true =>
    refine J.ord fun t=>?_
    simp only [Region.schedule,hP,Bool.true_or,if_true]
    refine half_any3 (J:=J) hF' hm (by simpa using hB) (Mid3 p d N D W B ops Φ a σ) step fin ops.size t (Array.replicate ops.size false) a σ (by simp) (Nat.le_trans List.countP_le_length (by simp)) ?_ ?_ ?_
    · intro j hj _;simp [hj]
    · intro j oj hj h
      have:j < ops.size:=(Array.getElem?_eq_some_iff.1 hj).1
      simp [this] at h
    · have e:(fun j=>decide (j < m) && (Array.replicate ops.size false).getD j true) = fun _=>false:=by
        funext j;by_cases hj:j < ops.size
        · simp [hj]
        · simp;omega
      rw [e];exact start
theorem Half3.kt {m d N:Nat} {D:List Deferred} {W:List Nat} {B:Pr} {ops:Array Oper} {Φ:Nat → Ty} {a0 a:Act} {σ0 σ:GW} {T:Ty} {t:Nat} (h:Half3 m d N D W B ops Φ a0 σ0 a σ) (h1:1 ∉ W) (k:T.has σ0 (a0.eval (.tmp t))) (ht:((ops.toList.take m).all fun o=>o.dst != some t) = true):T.has σ (a.eval (.tmp t)):=by
  rw [h.same t ht];exact T.up (h.stp.le h1) k
end Go.KL
namespace Go.KL
open Go.RowKit
open Go.Conc (G)
variable {P:Program} {J:JdOf P}
structure Mid7 (p N:Nat) (D:List Deferred) (W:List Nat) (B:Pr) (ops:Array Oper) (Φ:Nat → Ty) (a0:Act) (σ0:GW) (L:Nat → Bool) (a:Act) (σ:GW):Prop where
  stp:StpL W σ0 σ
  stp0:L p = false → Stp 0 σ0 σ
  ok:Ok N D a
  done:∀ j,L j = true → j ≠ p → rd ops (fun i=>(Φ i).pr) j a σ
  donep:L p = true → B.has σ undef
  same:∀ t,(∀ j,Kb ops j = some t → L j = false) → a.eval (.tmp t) = a0.eval (.tmp t)
def OblW7 (J:JdOf P) (N:Nat) (D:List Deferred) (W:List Nat) (B:Pr) (ops:Array Oper) (Φ:Nat → Ty) (a0:Act) (σ0:GW) (i:Nat) (o:Oper):Prop :=
  ∀ a σ,Stp 0 σ0 σ → Ok N D a → (∀ t,free ops i t = true → a.eval (.tmp t) = a0.eval (.tmp t)) → Deps ops (fun i=>(Φ i).pr) a σ o.after.toList (YldL W J o a σ (fun _ τ=>B.has τ undef))
def earlyB (r:Nat) (ops:Array Oper) (i:Nat):Bool:=((ancs ops.toList []).getD r []).contains i
theorem early_spec {r:Nat} {ops:Array Oper} {i:Nat} {L:Nat → Bool} (h:earlyB r ops i = true) (hr:∃ o,ops[r]? = some o)
    (hcl:∀ (j:Nat) oj,ops[j]? = some oj → L j = true → ∀ e ∈ oj.after,Region.binds .any e = true → L e.on = true) (hL:L r = true):L i = true:=by
  have hcl':∀ (j:Nat) o,ops.toList[j]? = some o → L j = true → ∀ e ∈ edges o,L e = true:=fun j o ho hj e he=>by
    unfold edges at he
    obtain ⟨x,hx,rfl⟩:=List.mem_map.1 he
    obtain ⟨h1,h2⟩:=List.mem_filter.1 hx
    exact hcl j o (by simpa using ho) hj x (by simpa using h1) h2
  obtain ⟨o,ho⟩:=hr
  have ho':ops.toList[r]? = some o:=by simpa using ho
  have:=ancs_spec (all:=ops.toList) hcl' ops.toList [] (fun j=>by simp) (by simp) (fun i o _ hi=>by simp at hi) r o ho' (fun e he=>hcl' r o ho' hL e he)
  unfold earlyB at h
  exact this i (List.contains_iff_mem.1 h)
def OblE (J:JdOf P) (N:Nat) (D:List Deferred) (ops:Array Oper) (Φ:Nat → Ty) (a0:Act) (σ0:GW) (i:Nat) (o:Oper):Prop :=
  ∀ a σ,Stp 0 σ0 σ → Ok N D a → (∀ t,free ops i t = true → a.eval (.tmp t) = a0.eval (.tmp t)) → Deps ops (fun i=>(Φ i).pr) a σ o.after.toList (Run J ops o a σ (Φ i).pr)
def Obls9 (J:JdOf P) (p N:Nat) (D:List Deferred) (W:List Nat) (B:Pr) (ops:Array Oper) (Φ:Nat → Ty) (a0:Act) (σ0:GW):Nat → List Oper → Prop
  | _,[]=>True
  | i,o :: l=>(if i = p then OblW7 J N D W B ops Φ a0 σ0 i o else if earlyB p ops i = true then OblE J N D ops Φ a0 σ0 i o else Obl3 J N D W ops Φ a0 σ0 i o)∧Obls9 J p N D W B ops Φ a0 σ0 (i + 1) l
theorem Obls9.get {p N:Nat} {D:List Deferred} {W:List Nat} {B:Pr} {ops:Array Oper} {Φ:Nat → Ty} {a0:Act} {σ0:GW}:∀ (l:List Oper) (k:Nat),Obls9 J p N D W B ops Φ a0 σ0 k l → ∀ j o,l[j]? = some o → (if k + j = p then OblW7 J N D W B ops Φ a0 σ0 (k + j) o else if earlyB p ops (k + j) = true then OblE J N D ops Φ a0 σ0 (k + j) o else Obl3 J N D W ops Φ a0 σ0 (k + j) o)
  | [],_,_,j,o,h=>by simp at h
  | x :: l,k,h,0,o,hj=>by simp at hj;subst hj;exact h.1
  | x :: l,k,h,j + 1,o,hj=>by
    have:=Obls9.get l (k + 1) h.2 j o (by simpa using hj)
    rwa [show k + 1 + j = k + (j + 1) by omega] at this
theorem Mid7.op9 {p N:Nat} {D:List Deferred} {W:List Nat} {B:Pr} {ops:Array Oper} {Φ:Nat → Ty} {a0:Act} {σ0:GW} {L:Nat → Bool} {a:Act} {σ:GW} {i:Nat} {o:Oper} {b:Frame} {kk:List Item} {cs:List Frame} {rest:List Nat}
    (hF:Form N ops) (h1:1 ∉ W) (hp:Kb ops p = none) (hpg:∀ o,ops[p]? = some o → o.guard = none) (hm:Mid7 p N D W B ops Φ a0 σ0 L a σ) (ho:ops[i]? = some o) (hL:L i = false)
    (hpo:∃ o,ops[p]? = some o) (hob:if i = p then OblW7 J N D W B ops Φ a0 σ0 i o else if earlyB p ops i = true then OblE J N D ops Φ a0 σ0 i o else Obl3 J N D W ops Φ a0 σ0 i o)
    (hcl:clB P J.al o = true) (hk:b.kind ≠ .early) (hall:∀ e ∈ o.after,Region.binds .any e = true → L e.on = true) (hclosed:∀ (j:Nat) oj,ops[j]? = some oj → L j = true → ∀ e ∈ oj.after,Region.binds .any e = true → L e.on = true)
    (hK:∀ a' σ',Mid7 p N D W B ops Φ a0 σ0 (fun j=>L j || j == i) a' σ' → J.J (G (b.at a' (.inRegion ops rest :: kk)) cs) σ'.w):J.J (G (b.at a (.inRegion ops (i :: rest) :: kk)) cs) σ.w:=by
  have hdi:Kb ops i = o.dst:=by simp [Kb,ho]
  have hsame:∀ t,free ops i t = true → a.eval (.tmp t) = a0.eval (.tmp t):=by
    intro t ht
    refine hm.same t fun j hj=>?_
    cases hLj:L j with
    | false=>rfl
    | true =>
      exfalso
      unfold Kb at hj
      obtain ⟨oj,hoj,hd⟩:=Option.bind_eq_some_iff.1 hj
      unfold free at ht
      have:=(List.all_eq_true.1 ht) oj (List.mem_of_getElem? hoj)
      simp only [hd,bne_self_eq_false,Bool.false_or,List.any_eq_true,Bool.and_eq_true,beq_iff_eq] at this
      obtain ⟨e,he,hb,hon⟩:=this
      have:=hclosed j oj (by simpa using hoj) hLj e (by simpa using he) hb
      rw [hon,hL] at this
      cases this
  have hdeps:∀ τ,Stp 0 σ τ → ∀ e ∈ o.after.toList,Region.binds .any e = true → rd ops (fun i=>(Φ i).pr) e.on a τ:=fun τ hs e he hb=>by
    by_cases hep:e.on = p
    · rw [hep];unfold rd;rw [hp];trivial
    · have h0:=hm.done e.on (hall e (by simpa using he) hb) hep
      unfold rd at h0 ⊢
      split
      · rename_i d hd;rw [hd] at h0;exact (Φ e.on).up hs.le0 h0
      · trivial
  have done':∀ v (τ:GW),σ.Le τ → (i ≠ p → (Φ i).has τ v) → ∀ j,(L j || j == i) = true → j ≠ p → rd ops (fun i=>(Φ i).pr) j (a.put o.dst v) τ:=by
    intro v τ hle hv j hLj hjp
    by_cases hji:j = i
    · subst hji
      unfold rd
      cases hd:Kb ops j with
      | none=>trivial
      | some d =>
        have:o.dst = some d:=by rw [← hdi];exact hd
        simp only [this]
        rw [Kx hm.ok (hF.lt j d hd)]
        exact hv hjp
    · have hLj':L j = true:=by simpa [hji] using hLj
      have h0:=hm.done j hLj' hjp
      unfold rd at h0 ⊢
      cases hd:Kb ops j with
      | none=>trivial
      | some d =>
        rw [hd] at h0
        simp only at h0 ⊢
        rw [Kz (fun he=>hji (hF.uniq j i d hd (by rw [hdi];exact he)))]
        exact (Φ j).up hle h0
  have same':∀ v t,(∀ j,Kb ops j = some t → (L j || j == i) = false) → (a.put o.dst v).eval (.tmp t) = a0.eval (.tmp t):=by
    intro v t ht
    have h1:o.dst ≠ some t:=fun he=>by
      have:=ht i (by rw [hdi];exact he)
      simp at this
    rw [Kz h1]
    exact hm.same t fun j hj=>by
      have:=ht j hj
      simp at this
      exact this.1
  by_cases hip:i = p
  · subst hip
    rw [if_pos rfl] at hob
    have hw:Region.wanted o (yielded ops a.tmps) = true:=by simp [Region.wanted,hpg o ho]
    refine xop (K:=fun a' v'=>∃ σ',σ'.w = v'∧Mid7 i N D W B ops Φ a0 σ0 (fun j=>L j || j == i) a' σ') ho hw hk hcl (fun v' hv=>?_) (fun a' v' ⟨σ',e,h⟩=>e ▸ hK a' σ' h)
    have hx:=Stp.ext σ hv
    have hy:=Deps.elim o.after.toList (hdeps _ hx) (hob a (σ.ext v' hv) ((hm.stp0 hL).trans hx) hm.ok hsame)
    exact hy _ (fun _ _ _=>True) fun v τ hs hr=>⟨τ,rfl,hm.stp.trans (hx.toL0.trans hs),fun h=>(by simp at h),hm.ok.put _ _,done' v τ (hx.le0.trans (hs.le h1)) (fun h=>absurd rfl h),fun _=>hr,same' v⟩
  · rw [if_neg hip] at hob
    have next:∀ v τ,Stp 0 σ τ → (Φ i).has τ v → Mid7 p N D W B ops Φ a0 σ0 (fun j=>L j || j == i) (a.put o.dst v) τ:=by
      intro v τ hs hv
      refine ⟨hm.stp.trans hs.toL0,fun h=>?_,hm.ok.put _ _,done' v τ hs.le0 (fun _=>hv),fun h=>?_,same' v⟩
      · simp at h;exact (hm.stp0 h.1).trans hs
      · have hLp:L p = true:=by simpa [Ne.symm hip] using h
        exact B.up hs (hm.donep hLp)
    have hrun:∀ τ,Stp 0 σ τ → Run J ops o a τ (Φ i).pr:=fun τ hs=>by
      by_cases he:earlyB p ops i = true
      · rw [if_pos he] at hob
        have hLp:L p = false:=by
          cases h:L p with
          | false=>rfl
          | true=>have:=early_spec he hpo hclosed h;rw [hL] at this;cases this
        exact Deps.elim o.after.toList (hdeps τ hs) (hob a τ ((hm.stp0 hLp).trans hs) hm.ok hsame)
      · rw [if_neg he] at hob
        exact Deps.elim o.after.toList (hdeps τ hs) (hob a τ (hm.stp.trans hs.toL0) hm.ok hsame)
    by_cases hw:Region.wanted o (yielded ops a.tmps) = true
    · by_cases hsp:∃ u,J.sp o a σ.w.output u∧∀ τ,(Φ i).has τ u
      · obtain ⟨u,h1,h2⟩:=hsp
        exact J.spl ho hw hk h1 (hK _ σ (next u σ (Stp.refl _ _) (h2 σ)))
      · refine xop (K:=fun a' v'=>∃ σ',σ'.w = v'∧Mid7 p N D W B ops Φ a0 σ0 (fun j=>L j || j == i) a' σ') ho hw hk hcl (fun v' hv=>?_) (fun a' v' ⟨σ',e,h⟩=>e ▸ hK a' σ' h)
        rcases (hrun _ (Stp.ext σ hv)).1 hw with h | h
        · exact h _ (fun _ _ _=>True) fun u τ hs hu=>⟨τ,rfl,next u τ ((Stp.ext σ hv).trans hs) hu⟩
        · rw [show (σ.ext v' hv).w.output = σ.w.output from hv.output] at h;exact absurd h hsp
    · have hw':Region.wanted o (yielded ops a.tmps) = false:=by simpa using hw
      exact J.ctl (fun w=>Go.Conc.stepG_unwanted ho hw') (hK _ σ (next undef σ (Stp.refl _ _) ((hrun σ (Stp.refl _ _)).2 hw')))
structure Half7 (m N:Nat) (D:List Deferred) (W:List Nat) (B:Pr) (ops:Array Oper) (Φ:Nat → Ty) (a0:Act) (σ0:GW) (a:Act) (σ:GW):Prop where
  stp:StpL W σ0 σ
  ok:Ok N D a
  done:∀ j,j < m → rd ops (fun i=>(Φ i).pr) j a σ
  donep:B.has σ undef
  same:∀ t,((ops.toList.take m).all fun o=>o.dst != some t) = true → a.eval (.tmp t) = a0.eval (.tmp t)
theorem Mid7.half {m p N:Nat} {D:List Deferred} {W:List Nat} {B:Pr} {ops:Array Oper} {Φ:Nat → Ty} {a0:Act} {σ0:GW} {a:Act} {σ:GW} (h:Mid7 p N D W B ops Φ a0 σ0 (fun j=>decide (j < m)) a σ) (hpm:p < m) (hp:Kb ops p = none):Half7 m N D W B ops Φ a0 σ0 a σ:=by
  refine ⟨h.stp,h.ok,fun j hj=>?_,h.donep (by simpa using hpm),fun t ht=>h.same t fun j hj=>?_⟩
  · by_cases hjp:j = p
    · rw [hjp];unfold rd;rw [hp];trivial
    · exact h.done j (by simpa using hj) hjp
  · by_cases hjm:j < m
    · obtain ⟨o,ho,hd⟩:=Option.bind_eq_some_iff.1 hj
      have:=(List.all_eq_true.1 ht) o (List.mem_of_getElem? (i:=j) (by rw [List.getElem?_take,if_pos hjm];exact ho))
      simp [hd] at this
    · simpa using hjm
theorem Half7.up {m N:Nat} {D:List Deferred} {W:List Nat} {B:Pr} {ops:Array Oper} {Φ:Nat → Ty} {a0 a:Act} {σ0 σ τ:GW} (h:Half7 m N D W B ops Φ a0 σ0 a σ) (hs:Stp 0 σ τ):Half7 m N D W B ops Φ a0 σ0 a τ :=
  ⟨h.stp.trans hs.toL0,h.ok,fun j hj=>by
    have h0:=h.done j hj
    unfold rd at h0 ⊢
    split
    · rename_i d hd;rw [hd] at h0;exact (Φ j).up hs.le0 h0
    · trivial,B.up hs h.donep,h.same⟩
theorem reg9 [Al J] {N:Nat} {D:List Deferred} {ops:Array Oper} {id:Nat} {draw:Bool} {Q:Exit → Act → World → Prop} {a:Act} {σ:GW} (hP:P.follows .mixedOrders = true) (m p:Nat) (W:List Nat) (h1:1 ∉ W) (B:Pr) (Φ:Nat → Ty) (ok:Ok N D a) (hF:formB N ops = true) (hm:m ≤ ops.size) (hB:(!draw || QW m ops.toList) = true)
    (hpm:p < m) (hp:Kb ops p = none) (hpg:(ops.toList[p]?).all (fun o=>o.guard.isNone) = true) (hob:Obls9 J p N D W B ops Φ a σ 0 (ops.toList.take m))
    (hQ:∀ a' σ',Half7 m N D W B ops Φ a σ a' σ' → Kq J ops Q (ops.toList.drop m) a' σ'.w) (hcl:ops.toList.all (clB P true) = true:=by rfl):Code.xwp J (Code.region id ops draw) Q a σ.w:=fun b kk cs hk H=>by
  have hF':=Form.of_B hF
  have hcl':ops.toList.all (clB P J.al) = true:=by rw [Al.al];exact hcl
  have hpg':∀ o,ops[p]? = some o → o.guard = none:=fun o ho=>by
    rw [show ops.toList[p]? = some o by simpa using ho] at hpg
    simpa using hpg
  have hpo:∃ o,ops[p]? = some o:=⟨ops[p]'(by omega),by simp⟩
  have step:∀ (i:Nat) o (L:Nat → Bool) a' σ' (rest:List Nat),ops[i]? = some o → i < m → Mid7 p N D W B ops Φ a σ L a' σ' → L i = false → (∀ e ∈ o.after,Region.binds .any e = true → L e.on = true) →
      (∀ (j:Nat) oj,ops[j]? = some oj → L j = true → ∀ e ∈ oj.after,Region.binds .any e = true → L e.on = true) → (∀ a' σ',Mid7 p N D W B ops Φ a σ (fun j=>L j || j == i) a' σ' → J.J (G (b.at a' (.inRegion ops rest :: kk)) cs) σ'.w) → J.J (G (b.at a' (.inRegion ops (i :: rest) :: kk)) cs) σ'.w :=
    fun i o L a' σ' rest ho him hmid hL hall hclo hK=>Mid7.op9 hF' h1 hp hpg' hmid ho hL hpo
      (by simpa using Obls9.get (ops.toList.take m) 0 hob i o (by rw [List.getElem?_take,if_pos him];simpa using ho)) ((List.all_eq_true.1 hcl') o (List.mem_of_getElem? (i:=i) (by simpa using ho))) hk.1 hall hclo hK
  have start:Mid7 p N D W B ops Φ a σ (fun _=>false) a σ:=⟨StpL.refl _ _,fun _=>Stp.refl _ _,ok,fun _ h=>(by cases h),fun h=>(by cases h),fun _ _=>rfl⟩
  have fin:∀ a' σ',Mid7 p N D W B ops Φ a σ (fun j=>decide (j < m)) a' σ' → J.J (G (b.at a' (.inRegion ops (List.range' m (ops.size - m)) :: kk)) cs) σ'.w:=fun a' σ' h =>
    QA hk.1 (fun a v hq=>H .normal a v hq) (ops.size - m) m a' σ'.w (by omega) (all_drop hcl' m) fun v' hv=>hQ a' (σ'.ext v' hv) ((h.half hpm hp).up (Stp.ext σ' hv))
  cases draw with
  | false =>
    refine J.ctl (fun w=>Go.Conc.stepG_region) ?_
    rw [List.range_eq_range']
    have:=half_seq3 (J:=J) (kk:=kk) (cs:=cs) hF' hm (Mid7 p N D W B ops Φ a σ) step fin m 0 a σ (by simp) (by simpa using start)
    rwa [show m + (ops.size - m) = ops.size by omega] at this
  | true =>
    refine J.ord fun t=>?_
    simp only [Region.schedule,hP,Bool.true_or,if_true]
    refine half_any3 (J:=J) hF' hm (by simpa using hB) (Mid7 p N D W B ops Φ a σ) step fin ops.size t (Array.replicate ops.size false) a σ (by simp) (Nat.le_trans List.countP_le_length (by simp)) ?_ ?_ ?_
    · intro j hj _;simp [hj]
    · intro j oj hj h
      have:j < ops.size:=(Array.getElem?_eq_some_iff.1 hj).1
      simp [this] at h
    · have e:(fun j=>decide (j < m) && (Array.replicate ops.size false).getD j true) = fun _=>false:=by
        funext j;by_cases hj:j < ops.size
        · simp [hj]
        · simp;omega
      rw [e];exact start
theorem Half7.kt {m N:Nat} {D:List Deferred} {W:List Nat} {B:Pr} {ops:Array Oper} {Φ:Nat → Ty} {a0 a:Act} {σ0 σ:GW} {T:Ty} {t:Nat} (h:Half7 m N D W B ops Φ a0 σ0 a σ) (h1:1 ∉ W) (k:T.has σ0 (a0.eval (.tmp t))) (ht:((ops.toList.take m).all fun o=>o.dst != some t) = true):T.has σ (a.eval (.tmp t)):=by
  rw [h.same t ht];exact T.up (h.stp.le h1) k
def At0 (v:Value) (n:Nat):Prop:=0 < n → ∃ g cap,v = .slice (some ⟨g,0,none⟩) n cap
theorem Own.at0 {σ:GW} {k:Nat} {e:TypeId} {c n:Nat} {v:Value} {ts:List Ty} (h:Own σ k e c v n ts):At0 v n:=fun hn=>by
  obtain ⟨g,cap,e,_,_⟩:=h.at hn
  exact ⟨g,cap,e⟩
theorem y_indexF {d:Option Tmp} {ty:TypeId} {pos:String} {af:Array Edge} {g:Option (Nat × Bool)} {a:Act} {σ:GW} {x y:Operand} {n:Nat} {t e:TypeId} {z v:Value} {b:Nat} {ki:IntKind} {i:Int} (ht:P.underlying t = some (.slice e)) (he:Info P e z 1 b)
    (h:At0 v n) (hx:a.eval x = v) (hy:a.eval y = .int ki i) (h0:0 ≤ i) (h1:i < n) :
    Yld J ⟨d,.indexAddr t x y,ty,pos,af,g⟩ a σ (Ty.val (JU v i.toNat)).pr:=by
  obtain ⟨g,cap,rfl⟩:=h (by omega)
  refine Yld.of_run (v:=.pointer (some ⟨g,i.toNat,none⟩)) ?_ rfl
  simp only [execOp,hx,hy]
  simp [Instr.indexAt,asIntOf,run_underlying ht,h0,h1,he.size,Addr.add_lit]
def Pr.st (k:Nat) (e:TypeId) (c:Nat) (v:Value) (n:Nat) (ts:List Ty):Pr:=⟨fun σ _=>Own σ k e c v n ts,fun hs h=>h.keep hs (by decide) (.inl rfl)⟩
theorem ob9 {i p:Nat} {A B C:Prop} {b:Bool} (h:i ≠ p) (h5:b = false) (k:C):if i = p then A else if b = true then B else C:=by rw [if_neg h,if_neg (by rw [h5];decide)];exact k
theorem ob9e {i p:Nat} {A B C:Prop} {b:Bool} (h:i ≠ p) (h5:b = true) (k:B):if i = p then A else if b = true then B else C:=by rw [if_neg h,if_pos h5];exact k
end Go.KL
namespace Go.KL
open Go.RowKit
def RowsI (σ:GW) (k:Nat) (e:TypeId) (us:List Value) (xss:List (List Int)):Prop :=
  us.length = xss.length∧(∀ i,i < us.length → Own σ k e 1 (us.getD i undef) (xss.getD i []).length ((xss.getD i []).map Ty.int)) ∧
    ∀ i j g,i < us.length → j < us.length → (us.getD i undef).ownBlock = some g → (us.getD j undef).ownBlock = some g → i = j
def RestI (σ:GW) (k:Nat) (e:TypeId) (us:List Value) (xss:List (List Int)) (i:Nat):Prop :=
  us.length = xss.length∧i < us.length∧(∀ j,j < us.length → j ≠ i → Own σ k e 1 (us.getD j undef) (xss.getD j []).length ((xss.getD j []).map Ty.int)) ∧
    ∀ a b g,a < us.length → b < us.length → (us.getD a undef).ownBlock = some g → (us.getD b undef).ownBlock = some g → a = b
section
variable {σ τ:GW} {k k3:Nat} {e:TypeId} {us:List Value} {xss:List (List Int)} {i:Nat} {L:List Nat}
theorem RowsI.keepL (h:RowsI σ k e us xss) (hs:StpL L σ τ) (h1:1 ∉ L) (hk:k ∉ L):RowsI τ k e us xss:=⟨h.1,fun i hi=>(h.2.1 i hi).keepL hs h1 hk,h.2.2⟩
theorem RowsI.k0 (h:RowsI σ k e us xss) (hs:Stp 0 σ τ):RowsI τ k e us xss:=h.keepL (L:=[]) hs.toL0 (by simp) (by simp)
theorem RestI.keepL (h:RestI σ k e us xss i) (hs:StpL L σ τ) (h1:1 ∉ L) (hk:k ∉ L):RestI τ k e us xss i:=⟨h.1,h.2.1,fun j hj hn=>(h.2.2.1 j hj hn).keepL hs h1 hk,h.2.2.2⟩
theorem Own.stI {c n:Nat} {v:Value} {ts:List Ty} (h:Own σ k e c v n ts) {g:Nat} (hg:v.ownBlock = some g):σ.st g = k:=h.choose_spec.2.2.2 g hg
theorem RowsI.ren {k':Nat} (h:RowsI σ k e us xss) (r:Ren k k' σ τ):RowsI τ k' e us xss:=⟨h.1,fun i hi=>(h.2.1 i hi).ren r,h.2.2⟩
theorem RowsI.focus (h:RowsI σ k e us xss) (hi:i < us.length) (hk:2 ≤ k) (k3:Nat) (hk3:2 ≤ k3) :
    ∃ τ:GW,τ.w = σ.w∧Stp k σ τ∧Own τ k3 e 1 (us.getD i undef) (xss.getD i []).length ((xss.getD i []).map Ty.int)∧RestI τ k e us xss i:=by
  obtain ⟨h1,h2,h3⟩:=h
  have hst:∀ b,(us.getD i undef).ownBlock = some b → σ.st b = k:=fun b hb=>(h2 i hi).stI hb
  let τ:GW:=⟨σ.w,fun b=>if (us.getD i undef).ownBlock = some b then k3 else σ.st b,fun b hb=>by
    by_cases hx:(us.getD i undef).ownBlock = some b
    · exact σ.lt b (by rw [hst b hx];omega)
    · simp only [hx,if_false] at hb;exact σ.lt b hb⟩
  have hs:Stp k σ τ:=⟨rfl,rfl,rfl,Dr.refl _,Nat.le_refl _,fun _ _ _=>rfl,fun b hb hm=>by
    show (if (us.getD i undef).ownBlock = some b then k3 else σ.st b) = σ.st b
    rw [if_neg]
    intro hx
    have:=hst b hx
    omega⟩
  have hle:σ.Le τ:=hs.le (by omega)
  refine ⟨τ,rfl,hs,?_,h1,hi,fun j hj hn=>?_,h3⟩
  · obtain ⟨vs,r1,r2,r3,r4⟩:=h2 i hi
    refine ⟨vs,r1,r2,fun j T u hj hu=>T.up hle (r3 j T u hj hu),fun g hg=>?_⟩
    show (if (us.getD i undef).ownBlock = some g then k3 else σ.st g) = k3
    rw [if_pos hg]
  · obtain ⟨vs,r1,r2,r3,r4⟩:=h2 j hj
    refine ⟨vs,r1,r2,fun a T u hj hu=>T.up hle (r3 a T u hj hu),fun g hg=>?_⟩
    show (if (us.getD i undef).ownBlock = some g then k3 else σ.st g) = k
    rw [if_neg (fun hx=>hn (h3 j i g hj hi hg hx))]
    exact r4 g hg
theorem gsI_ne {α:Type} (d:α) {l:List α} {i j:Nat} {x:α} (h:i ≠ j):(l.set i x).getD j d = l.getD j d:=by
  rw [List.getD_eq_getElem?_getD,List.getElem?_set_ne h,← List.getD_eq_getElem?_getD]
theorem gsI_eq {α:Type} (d:α) {l:List α} {i:Nat} {x:α} (h:i < l.length):(l.set i x).getD i d = x:=by simp [h]
theorem RestI.unfocus {x:Value} {ys:List Int} {n:Nat} {ts:List Ty} (h:RestI σ k e us xss i) (hx:Own σ k3 e 1 x n ts) (hn:n = ys.length) (hts:ts = ys.map Ty.int) (hk:2 ≤ k) (hk3:2 ≤ k3) (hne:k3 ≠ k) :
    ∃ τ:GW,τ.w = σ.w∧Stp k3 σ τ∧RowsI τ k e (us.set i x) (xss.set i ys):=by
  subst hn;subst hts
  obtain ⟨h1,hi,h2,h3⟩:=h
  have hst:∀ b,x.ownBlock = some b → σ.st b = k3:=fun b hb=>hx.stI hb
  let τ:GW:=⟨σ.w,fun b=>if x.ownBlock = some b then k else σ.st b,fun b hb=>by
    by_cases hy:x.ownBlock = some b
    · exact σ.lt b (by rw [hst b hy];omega)
    · simp only [hy,if_false] at hb;exact σ.lt b hb⟩
  have hs:Stp k3 σ τ:=⟨rfl,rfl,rfl,Dr.refl _,Nat.le_refl _,fun _ _ _=>rfl,fun b hb hm=>by
    show (if x.ownBlock = some b then k else σ.st b) = σ.st b
    rw [if_neg]
    intro hy
    have:=hst b hy
    omega⟩
  have hle:σ.Le τ:=hs.le (by omega)
  refine ⟨τ,rfl,hs,by rw [List.length_set,List.length_set];exact h1,fun j hj=>?_,fun a b g ha hb ga gb=>?_⟩
  · rw [List.length_set] at hj
    by_cases e1:i = j
    · subst e1
      rw [gsI_eq undef hj,gsI_eq [] (by omega)]
      obtain ⟨vs,r1,r2,r3,r4⟩:=hx
      refine ⟨vs,r1,r2,fun j T u hj hu=>T.up hle (r3 j T u hj hu),fun g hg=>?_⟩
      show (if x.ownBlock = some g then k else σ.st g) = k
      rw [if_pos hg]
    · rw [gsI_ne undef e1,gsI_ne [] e1]
      obtain ⟨vs,r1,r2,r3,r4⟩:=h2 j hj (Ne.symm e1)
      refine ⟨vs,r1,r2,fun a T u hj hu=>T.up hle (r3 a T u hj hu),fun g hg=>?_⟩
      show (if x.ownBlock = some g then k else σ.st g) = k
      rw [if_neg (fun hy=>hne (by rw [← hst g hy,r4 g hg]))]
      exact r4 g hg
  · rw [List.length_set] at ha hb
    have tag:∀ j,j < us.length → j ≠ i → ∀ g,(us.getD j undef).ownBlock = some g → σ.st g = k:=fun j hj hn g hg=>(h2 j hj hn).stI hg
    by_cases ea:i = a
    · by_cases eb:i = b
      · omega
      · subst ea
        rw [gsI_eq undef ha] at ga
        rw [gsI_ne undef eb] at gb
        exact absurd ((hst g ga).symm.trans (tag b hb (Ne.symm eb) g gb)) hne
    · by_cases eb:i = b
      · subst eb
        rw [gsI_eq undef hb] at gb
        rw [gsI_ne undef ea] at ga
        exact absurd ((hst g gb).symm.trans (tag a ha (Ne.symm ea) g ga)) hne
      · rw [gsI_ne undef ea] at ga
        rw [gsI_ne undef eb] at gb
        exact h3 a b g ha hb ga gb
theorem own_sl_atI {c n:Nat} {v:Value} {ts:List Ty} (h:Own σ k e c v n ts) (hw:τ.w = σ.w) (hle:σ.Le τ) (hst:∀ g,v.ownBlock = some g → τ.st g = 1):(Ty.sl c n ts).has τ v:=by
  obtain ⟨us,h1,h2,h3,h4⟩:=h
  rcases h1.2 with ⟨rfl,rfl⟩ | ⟨g,cap,cur,rfl,hb,hg,hn,hm,hcs,ht⟩
  · have hus:us = []:=List.eq_nil_of_length_eq_zero (by rw [h1.1];simp)
    have hts:ts = []:=List.eq_nil_of_length_eq_zero (by rw [← h2,hus];rfl)
    subst hts
    exact ⟨none,0,0,0,rfl,⟨Nat.le_refl _,by decide⟩,by simp,.inl rfl,fun j T hj=>by simp at hj⟩
  · refine ⟨some ⟨g,0,none⟩,cap,g,0,rfl,⟨hn,hm⟩,by rw [← h2];exact h1.1,.inr ⟨rfl,hst g rfl⟩,fun j T hj=>?_⟩
    obtain ⟨u,hu⟩:∃ u,us[j]? = some u:=⟨us[j]'(by rw [h2];exact (List.getElem?_eq_some_iff.1 hj).1),by simp⟩
    refine ⟨u,?_,T.up hle (h3 j T u hj hu)⟩
    have:=h1.cells (g:=g) rfl j u hu
    rw [Addr.add_lit] at this
    rw [hw];exact this
theorem RowsI.seal {ko:Nat} {eo:TypeId} {v:Value} {n:Nat} (h:RowsI σ k e us xss) (hk:2 ≤ k) (ho:Own σ ko eo 1 v n (us.map Ty.val)) (hko:ko ≠ k) :
    ∃ τ:GW,τ.w = σ.w∧Stp k σ τ∧Own τ ko eo 1 v n (xss.map Ty.ints):=by
  obtain ⟨h1,h2,h3⟩:=h
  let τ:GW:=⟨σ.w,fun b=>if σ.st b = k then 1 else σ.st b,fun b hb=>by
    by_cases hy:σ.st b = k
    · exact σ.lt b (by omega)
    · simp only [hy,if_false] at hb;exact σ.lt b hb⟩
  have hs:Stp k σ τ:=⟨rfl,rfl,rfl,Dr.refl _,Nat.le_refl _,fun _ _ _=>rfl,fun b hb hm=>by
    show (if σ.st b = k then 1 else σ.st b) = σ.st b
    rw [if_neg (by omega)]⟩
  have hle:σ.Le τ:=hs.le (by omega)
  refine ⟨τ,rfl,hs,?_⟩
  obtain ⟨vs,r1,r2,r3,r4⟩:=ho
  refine ⟨vs,r1,by rw [r2,List.length_map,List.length_map,h1],fun j T u hj hu=>?_,fun g hg=>?_⟩
  · have hjl:j < xss.length:=by
      have:=(List.getElem?_eq_some_iff.1 hj).1
      simpa using this
    have hju:j < us.length:=by omega
    have hu2:u = us.getD j undef:=by
      have:=r3 j (Ty.val (us.getD j undef)) u (by simp [hju]) hu
      exact this
    have hT:T = Ty.ints (xss.getD j []):=by
      rw [List.getElem?_map,List.getElem?_eq_getElem hjl] at hj
      cases hj
      simp [hjl]
    rw [hT,hu2]
    refine own_sl_atI (h2 j hju) rfl hle fun g hg=>?_
    show (if σ.st g = k then 1 else σ.st g) = 1
    rw [if_pos ((h2 j hju).stI hg)]
  · show (if σ.st g = k then 1 else σ.st g) = ko
    rw [if_neg (by rw [r4 g hg];exact hko)]
    exact r4 g hg
theorem grid_0I (σ:GW) (k:Nat) (e:TypeId) (N:Nat):RowsI σ k e (List.replicate N (Value.slice none 0 0)) (List.replicate N []):=by
  have hg:∀ i,i < N → (List.replicate N (Value.slice none 0 0)).getD i undef = .slice none 0 0:=fun i hi=>by simp [hi]
  refine ⟨by simp,fun i hi=>?_,fun i j g hi hj h1 _=>?_⟩
  · have hi:i < N:=by simpa using hi
    have e2:(List.replicate N ([]:List Int)).getD i [] = []:=by simp [hi]
    rw [hg i hi,e2]
    exact Own.nil _ _ _ _
  · have hi:i < N:=by simpa using hi
    rw [hg i hi] at h1
    simp [Value.ownBlock] at h1
end
theorem cvgI {σ:GW} {k:Nat} {e:TypeId} {us us':List Value} {xss xss':List (List Int)} (h1:us = us') (h2:xss = xss') (h:RowsI σ k e us xss):RowsI σ k e us' xss':=h1 ▸ h2 ▸ h
theorem RowsI.snoc {σ:GW} {k:Nat} {e:TypeId} {us:List Value} {xss:List (List Int)} (h:RowsI σ k e us xss):RowsI σ k e (us ++ [.slice none 0 0]) (xss ++ [[]]):=by
  obtain ⟨h1,h2,h3⟩:=h
  have hn:∀ i,i < (us ++ [Value.slice none 0 0]).length → (i < us.length∧(us ++ [Value.slice none 0 0]).getD i undef = us.getD i undef∧(xss ++ [[]]).getD i [] = xss.getD i []) ∨ ((us ++ [Value.slice none 0 0]).getD i undef = .slice none 0 0∧(xss ++ [[]]).getD i [] = []):=fun i hi=>by
    rw [List.length_append,List.length_singleton] at hi
    rcases Nat.lt_or_ge i us.length with h4 | h4
    · exact .inl ⟨h4,by simp [List.getD_eq_getElem?_getD,List.getElem?_append_left h4],by simp [List.getD_eq_getElem?_getD,List.getElem?_append_left (show i < xss.length by omega)]⟩
    · have:i = us.length:=by omega
      subst this
      exact .inr ⟨by simp [List.getD_eq_getElem?_getD],by rw [h1];simp [List.getD_eq_getElem?_getD]⟩
  refine ⟨by simp [h1],fun i hi=>?_,fun i j g hi hj gi gj=>?_⟩
  · rcases hn i hi with ⟨h4,h5,h6⟩ | ⟨h5,h6⟩
    · rw [h5,h6];exact h2 i h4
    · rw [h5,h6];exact Own.nil _ _ _ _
  · rcases hn i hi with ⟨h4,h5,_⟩ | ⟨h5,_⟩
    · rcases hn j hj with ⟨h7,h8,_⟩ | ⟨h8,_⟩
      · rw [h5] at gi;rw [h8] at gj;exact h3 i j g h4 h7 gi gj
      · rw [h8] at gj;simp [Value.ownBlock] at gj
    · rw [h5] at gi;simp [Value.ownBlock] at gi
end Go.KL
namespace Go.KL
open Go.RowKit
def RowsR (σ:GW) (k:Nat) (e:TypeId) (us:List Value) (xss:List (List (List Int))):Prop :=
  us.length = xss.length∧(∀ i,i < us.length → Own σ k e 1 (us.getD i undef) (xss.getD i []).length ((xss.getD i []).map Ty.ints)) ∧
    ∀ i j g,i < us.length → j < us.length → (us.getD i undef).ownBlock = some g → (us.getD j undef).ownBlock = some g → i = j
def RestR (σ:GW) (k:Nat) (e:TypeId) (us:List Value) (xss:List (List (List Int))) (i:Nat):Prop :=
  us.length = xss.length∧i < us.length∧(∀ j,j < us.length → j ≠ i → Own σ k e 1 (us.getD j undef) (xss.getD j []).length ((xss.getD j []).map Ty.ints)) ∧
    ∀ a b g,a < us.length → b < us.length → (us.getD a undef).ownBlock = some g → (us.getD b undef).ownBlock = some g → a = b
section
variable {σ τ:GW} {k k3:Nat} {e:TypeId} {us:List Value} {xss:List (List (List Int))} {i:Nat} {L:List Nat}
theorem RowsR.keepL (h:RowsR σ k e us xss) (hs:StpL L σ τ) (h1:1 ∉ L) (hk:k ∉ L):RowsR τ k e us xss:=⟨h.1,fun i hi=>(h.2.1 i hi).keepL hs h1 hk,h.2.2⟩
theorem RowsR.k0 (h:RowsR σ k e us xss) (hs:Stp 0 σ τ):RowsR τ k e us xss:=h.keepL (L:=[]) hs.toL0 (by simp) (by simp)
theorem RestR.keepL (h:RestR σ k e us xss i) (hs:StpL L σ τ) (h1:1 ∉ L) (hk:k ∉ L):RestR τ k e us xss i:=⟨h.1,h.2.1,fun j hj hn=>(h.2.2.1 j hj hn).keepL hs h1 hk,h.2.2.2⟩
theorem Own.stR {c n:Nat} {v:Value} {ts:List Ty} (h:Own σ k e c v n ts) {g:Nat} (hg:v.ownBlock = some g):σ.st g = k:=h.choose_spec.2.2.2 g hg
theorem RowsR.focus (h:RowsR σ k e us xss) (hi:i < us.length) (hk:2 ≤ k) (k3:Nat) (hk3:2 ≤ k3) :
    ∃ τ:GW,τ.w = σ.w∧Stp k σ τ∧Own τ k3 e 1 (us.getD i undef) (xss.getD i []).length ((xss.getD i []).map Ty.ints)∧RestR τ k e us xss i:=by
  obtain ⟨h1,h2,h3⟩:=h
  have hst:∀ b,(us.getD i undef).ownBlock = some b → σ.st b = k:=fun b hb=>(h2 i hi).stR hb
  let τ:GW:=⟨σ.w,fun b=>if (us.getD i undef).ownBlock = some b then k3 else σ.st b,fun b hb=>by
    by_cases hx:(us.getD i undef).ownBlock = some b
    · exact σ.lt b (by rw [hst b hx];omega)
    · simp only [hx,if_false] at hb;exact σ.lt b hb⟩
  have hs:Stp k σ τ:=⟨rfl,rfl,rfl,Dr.refl _,Nat.le_refl _,fun _ _ _=>rfl,fun b hb hm=>by
    show (if (us.getD i undef).ownBlock = some b then k3 else σ.st b) = σ.st b
    rw [if_neg]
    intro hx
    have:=hst b hx
    omega⟩
  have hle:σ.Le τ:=hs.le (by omega)
  refine ⟨τ,rfl,hs,?_,h1,hi,fun j hj hn=>?_,h3⟩
  · obtain ⟨vs,r1,r2,r3,r4⟩:=h2 i hi
    refine ⟨vs,r1,r2,fun j T u hj hu=>T.up hle (r3 j T u hj hu),fun g hg=>?_⟩
    show (if (us.getD i undef).ownBlock = some g then k3 else σ.st g) = k3
    rw [if_pos hg]
  · obtain ⟨vs,r1,r2,r3,r4⟩:=h2 j hj
    refine ⟨vs,r1,r2,fun a T u hj hu=>T.up hle (r3 a T u hj hu),fun g hg=>?_⟩
    show (if (us.getD i undef).ownBlock = some g then k3 else σ.st g) = k
    rw [if_neg (fun hx=>hn (h3 j i g hj hi hg hx))]
    exact r4 g hg
theorem gsR_ne {α:Type} (d:α) {l:List α} {i j:Nat} {x:α} (h:i ≠ j):(l.set i x).getD j d = l.getD j d:=by
  rw [List.getD_eq_getElem?_getD,List.getElem?_set_ne h,← List.getD_eq_getElem?_getD]
theorem gsR_eq {α:Type} (d:α) {l:List α} {i:Nat} {x:α} (h:i < l.length):(l.set i x).getD i d = x:=by simp [h]
theorem RestR.unfocus {x:Value} {ys:List (List Int)} {n:Nat} {ts:List Ty} (h:RestR σ k e us xss i) (hx:Own σ k3 e 1 x n ts) (hn:n = ys.length) (hts:ts = ys.map Ty.ints) (hk:2 ≤ k) (hk3:2 ≤ k3) (hne:k3 ≠ k) :
    ∃ τ:GW,τ.w = σ.w∧Stp k3 σ τ∧RowsR τ k e (us.set i x) (xss.set i ys):=by
  subst hn;subst hts
  obtain ⟨h1,hi,h2,h3⟩:=h
  have hst:∀ b,x.ownBlock = some b → σ.st b = k3:=fun b hb=>hx.stR hb
  let τ:GW:=⟨σ.w,fun b=>if x.ownBlock = some b then k else σ.st b,fun b hb=>by
    by_cases hy:x.ownBlock = some b
    · exact σ.lt b (by rw [hst b hy];omega)
    · simp only [hy,if_false] at hb;exact σ.lt b hb⟩
  have hs:Stp k3 σ τ:=⟨rfl,rfl,rfl,Dr.refl _,Nat.le_refl _,fun _ _ _=>rfl,fun b hb hm=>by
    show (if x.ownBlock = some b then k else σ.st b) = σ.st b
    rw [if_neg]
    intro hy
    have:=hst b hy
    omega⟩
  have hle:σ.Le τ:=hs.le (by omega)
  refine ⟨τ,rfl,hs,by rw [List.length_set,List.length_set];exact h1,fun j hj=>?_,fun a b g ha hb ga gb=>?_⟩
  · rw [List.length_set] at hj
    by_cases e1:i = j
    · subst e1
      rw [gsR_eq undef hj,gsR_eq [] (by omega)]
      obtain ⟨vs,r1,r2,r3,r4⟩:=hx
      refine ⟨vs,r1,r2,fun j T u hj hu=>T.up hle (r3 j T u hj hu),fun g hg=>?_⟩
      show (if x.ownBlock = some g then k else σ.st g) = k
      rw [if_pos hg]
    · rw [gsR_ne undef e1,gsR_ne [] e1]
      obtain ⟨vs,r1,r2,r3,r4⟩:=h2 j hj (Ne.symm e1)
      refine ⟨vs,r1,r2,fun a T u hj hu=>T.up hle (r3 a T u hj hu),fun g hg=>?_⟩
      show (if x.ownBlock = some g then k else σ.st g) = k
      rw [if_neg (fun hy=>hne (by rw [← hst g hy,r4 g hg]))]
      exact r4 g hg
  · rw [List.length_set] at ha hb
    have tag:∀ j,j < us.length → j ≠ i → ∀ g,(us.getD j undef).ownBlock = some g → σ.st g = k:=fun j hj hn g hg=>(h2 j hj hn).stR hg
    by_cases ea:i = a
    · by_cases eb:i = b
      · omega
      · subst ea
        rw [gsR_eq undef ha] at ga
        rw [gsR_ne undef eb] at gb
        exact absurd ((hst g ga).symm.trans (tag b hb (Ne.symm eb) g gb)) hne
    · by_cases eb:i = b
      · subst eb
        rw [gsR_eq undef hb] at gb
        rw [gsR_ne undef ea] at ga
        exact absurd ((hst g gb).symm.trans (tag a ha (Ne.symm ea) g ga)) hne
      · rw [gsR_ne undef ea] at ga
        rw [gsR_ne undef eb] at gb
        exact h3 a b g ha hb ga gb
theorem own_sl_atR {c n:Nat} {v:Value} {ts:List Ty} (h:Own σ k e c v n ts) (hw:τ.w = σ.w) (hle:σ.Le τ) (hst:∀ g,v.ownBlock = some g → τ.st g = 1):(Ty.sl c n ts).has τ v:=by
  obtain ⟨us,h1,h2,h3,h4⟩:=h
  rcases h1.2 with ⟨rfl,rfl⟩ | ⟨g,cap,cur,rfl,hb,hg,hn,hm,hcs,ht⟩
  · have hus:us = []:=List.eq_nil_of_length_eq_zero (by rw [h1.1];simp)
    have hts:ts = []:=List.eq_nil_of_length_eq_zero (by rw [← h2,hus];rfl)
    subst hts
    exact ⟨none,0,0,0,rfl,⟨Nat.le_refl _,by decide⟩,by simp,.inl rfl,fun j T hj=>by simp at hj⟩
  · refine ⟨some ⟨g,0,none⟩,cap,g,0,rfl,⟨hn,hm⟩,by rw [← h2];exact h1.1,.inr ⟨rfl,hst g rfl⟩,fun j T hj=>?_⟩
    obtain ⟨u,hu⟩:∃ u,us[j]? = some u:=⟨us[j]'(by rw [h2];exact (List.getElem?_eq_some_iff.1 hj).1),by simp⟩
    refine ⟨u,?_,T.up hle (h3 j T u hj hu)⟩
    have:=h1.cells (g:=g) rfl j u hu
    rw [Addr.add_lit] at this
    rw [hw];exact this
theorem RowsR.seal {ko:Nat} {eo:TypeId} {v:Value} {n:Nat} (h:RowsR σ k e us xss) (hk:2 ≤ k) (ho:Own σ ko eo 1 v n (us.map Ty.val)) (hko:ko ≠ k) :
    ∃ τ:GW,τ.w = σ.w∧Stp k σ τ∧Own τ ko eo 1 v n (xss.map Ty.rows):=by
  obtain ⟨h1,h2,h3⟩:=h
  let τ:GW:=⟨σ.w,fun b=>if σ.st b = k then 1 else σ.st b,fun b hb=>by
    by_cases hy:σ.st b = k
    · exact σ.lt b (by omega)
    · simp only [hy,if_false] at hb;exact σ.lt b hb⟩
  have hs:Stp k σ τ:=⟨rfl,rfl,rfl,Dr.refl _,Nat.le_refl _,fun _ _ _=>rfl,fun b hb hm=>by
    show (if σ.st b = k then 1 else σ.st b) = σ.st b
    rw [if_neg (by omega)]⟩
  have hle:σ.Le τ:=hs.le (by omega)
  refine ⟨τ,rfl,hs,?_⟩
  obtain ⟨vs,r1,r2,r3,r4⟩:=ho
  refine ⟨vs,r1,by rw [r2,List.length_map,List.length_map,h1],fun j T u hj hu=>?_,fun g hg=>?_⟩
  · have hjl:j < xss.length:=by
      have:=(List.getElem?_eq_some_iff.1 hj).1
      simpa using this
    have hju:j < us.length:=by omega
    have hu2:u = us.getD j undef:=by
      have:=r3 j (Ty.val (us.getD j undef)) u (by simp [hju]) hu
      exact this
    have hT:T = Ty.rows (xss.getD j []):=by
      rw [List.getElem?_map,List.getElem?_eq_getElem hjl] at hj
      cases hj
      simp [hjl]
    rw [hT,hu2]
    refine own_sl_atR (h2 j hju) rfl hle fun g hg=>?_
    show (if σ.st g = k then 1 else σ.st g) = 1
    rw [if_pos ((h2 j hju).stR hg)]
  · show (if σ.st g = k then 1 else σ.st g) = ko
    rw [if_neg (by rw [r4 g hg];exact hko)]
    exact r4 g hg
theorem grid_0R (σ:GW) (k:Nat) (e:TypeId) (N:Nat):RowsR σ k e (List.replicate N (Value.slice none 0 0)) (List.replicate N []):=by
  have hg:∀ i,i < N → (List.replicate N (Value.slice none 0 0)).getD i undef = .slice none 0 0:=fun i hi=>by simp [hi]
  refine ⟨by simp,fun i hi=>?_,fun i j g hi hj h1 _=>?_⟩
  · have hi:i < N:=by simpa using hi
    have e2:(List.replicate N ([]:List (List Int))).getD i [] = []:=by simp [hi]
    rw [hg i hi,e2]
    exact Own.nil _ _ _ _
  · have hi:i < N:=by simpa using hi
    rw [hg i hi] at h1
    simp [Value.ownBlock] at h1
end
theorem cvgR {σ:GW} {k:Nat} {e:TypeId} {us us':List Value} {xss xss':List (List (List Int))} (h1:us = us') (h2:xss = xss') (h:RowsR σ k e us xss):RowsR σ k e us' xss':=h1 ▸ h2 ▸ h
end Go.KL
namespace Go.KL
open Go.ChangeShapes Go.WideShapes Go.ChangeAt Go.RowKit Go.Deep
variable {P:Program} {J:JdOf P}
def isC:Obj → Bool
  | .cells _ _ _=>true
  | _=>false
def GW.all (W:World):GW:=⟨W,fun b=>if (W.heap[b]?).any isC then 1 else 0,fun b h=>by
  by_cases hb:b < W.heap.size
  · exact hb
  · simp [Array.getElem?_eq_none (Nat.le_of_not_lt hb)] at h⟩
theorem isC_cell {W:World} {b o:Nat} {u:Value} (h:W.cell? ⟨b,o,none⟩ = some u):(W.heap[b]?).any isC = true:=by
  unfold World.cell? at h
  cases hx:W.heap[b]? with
  | none=>simp [hx] at h
  | some x=>cases x <;> simp_all [isC]
structure Bulk {H:Type} (B:DataW H → Nat) (BA:List (DataW H) → Nat):Prop where
  one:∀ d,1 ≤ B d
  str:∀ l,B (.lit (.string l)) = l.length + 1
  slice:∀ es sp,B (.slice es sp) = BA es + BA sp + 1
  agg:∀ ps,B (.agg ps) = BA ps + 1
  nil:BA [] = 0
  cons:∀ d r,BA (d :: r) = B d + BA r
def Rd (P:Program) (t:TypeId) {α:Type} (cells:α → List Ty) (wf:α → Prop) (sz:α → Nat) (rc:α → Prop):Prop :=
  ∀ (H:Type) (enc:TypeId × Value → H) (B:DataW H → Nat) (BA:List (DataW H) → Nat),Bulk B BA → ∀ (W:World) (fuel:Nat) (cs:List Value) (d:DataW H) (ps:List MemPlace),
    DataW.trod enc P W 0 (fun _=>true) true fuel t cs = some (d,ps) → ∃ x:α,wf x∧sz x ≤ B d∧((d.weights P t).all (· ≤ reachBytes) = true → rc x)∧cs.length = (cells x).length ∧
      ∀ (j:Nat) (T:Ty) (u:Value),(cells x)[j]? = some T → cs[j]? = some u → T.has (GW.all W) u
theorem one_cell {T:Ty} {v:Value} {σ:GW} (h:T.has σ v):∀ (j:Nat) (U:Ty) (u:Value),[T][j]? = some U → [v][j]? = some u → U.has σ u:=by
  intro j U u h1 h2
  match j with
  | 0=>simp at h1 h2;subst h1;subst h2;exact h
  | j + 1=>simp at h1
theorem rd_int {t:TypeId} {k:IntKind} (ht:P.underlying t = some (.int k)):Rd P t (fun n:Int=>[Ty.val (.int k n)]) (fun n=>(Lit.int k n).wf = true) (fun _=>1) (fun _=>True):=by
  intro H enc B BA hB W fuel cs d ps h
  obtain ⟨n,rfl,e,hw⟩:=DataW.trod_int ht h
  obtain ⟨rfl,rfl⟩:=Prod.mk.inj e
  exact ⟨n,hw,hB.one _,fun _=>trivial,rfl,one_cell rfl⟩
theorem rd_str {t:TypeId} (ht:P.underlying t = some .string):Rd P t (fun s:ByteArray=>[Ty.val (.string s)]) (fun s=>s.size ≤ maxLen) (fun s=>s.size + 1) (fun s=>s.size ≤ reachBytes):=by
  intro H enc B BA hB W fuel cs d ps h
  obtain ⟨s,rfl,e,hw⟩:=DataW.trod_string ht h
  obtain ⟨rfl,rfl⟩:=Prod.mk.inj e
  refine ⟨s,hw,by rw [hB.str];simp,fun h=>?_,rfl,one_cell rfl⟩
  simpa [DataW.weights] using h
theorem BA_map {H:Type} {B:DataW H → Nat} {BA:List (DataW H) → Nat} (hB:Bulk B BA) {α:Type} (sz:α → Nat):∀ (xs:List α) (D:List (DataW H)),xs.length = D.length → (∀ (i:Nat) x d,xs[i]? = some x → D[i]? = some d → sz x ≤ B d) → (xs.map sz).sum ≤ BA D
  | [],[],_,_=>by simp
  | x :: xs,d :: D,hl,h=>by
    rw [hB.cons,List.map_cons,List.sum_cons]
    have h0:=h 0 x d rfl rfl
    have:=BA_map hB sz xs D (by simpa using hl) (fun i y e hy he=>h (i + 1) y e (by simpa using hy) (by simpa using he))
    omega
theorem weightsAll_mem {H:Type} {e:TypeId}:∀ {D:List (DataW H)} {d:DataW H},d ∈ D → ∀ n,n ∈ d.weights P e → n ∈ DataW.weightsAll P e D
  | x :: D,d,h,n,hn=>by
    simp only [DataW.weightsAll,List.mem_append]
    rcases List.mem_cons.1 h with rfl | h
    · exact .inl hn
    · exact .inr (weightsAll_mem h n hn)
theorem spot_none {w:World} {a:Addr} {v:Value} (h:w.cell? a = some v):a.spot = none:=by
  unfold World.cell? at h
  split at h
  · split at h
    · cases h
    · rename_i hs;simpa using hs
  · cases h
theorem rd_slice {t e c:TypeId} {α:Type} {cells:α → List Ty} {wf:α → Prop} {sz:α → Nat} {rc:α → Prop} (ht:P.underlying t = some (.slice e)) (hc:P.cellsOf e = c) (hc0:0 < c) (he:Rd P e cells wf sz rc) (hcl:∀ x,wf x → (cells x).length = c) :
    Rd P t (fun xs:List α=>[Ty.sl c xs.length (xs.flatMap cells)]) (fun xs=>xs.length ≤ maxLen∧∀ x ∈ xs,wf x) (fun xs=>(xs.map sz).sum + 1) (fun xs=>xs.length * P.bytesOf e ≤ reachBytes∧∀ x ∈ xs,rc x):=by
  intro H enc B BA hB W fuel cs d ps h
  rcases open_slice ht h with ⟨rfl,e1⟩ | ⟨a,len,cap,m,n,D,Pl,rfl,_,hlen,hcap,hm,e1,hel⟩
  · obtain ⟨rfl,rfl⟩:=Prod.mk.inj e1
    exact ⟨[],⟨Nat.zero_le _,fun x h=>by cases h⟩,by simpa using hB.one _,fun _=>⟨by simp,fun x h=>by cases h⟩,rfl,one_cell ⟨none,0,0,0,rfl,⟨Nat.le_refl _,by decide⟩,by simp,.inl rfl,fun j T hj=>by simp at hj⟩⟩
  · obtain ⟨rfl,rfl⟩:=Prod.mk.inj e1
    subst hc
    simp only [if_true] at hm
    subst hm
    have hx:∀ i:Fin len,∃ x:α,∃ cs':List Value,W.cells? 0 (a.add (i * P.cellsOf e)) (P.cellsOf e) = some cs'∧wf x∧sz x ≤ B (D i)∧(((D i).weights P e).all (· ≤ reachBytes) = true → rc x)∧cs'.length = (cells x).length ∧
        ∀ (j:Nat) (T:Ty) (u:Value),(cells x)[j]? = some T → cs'[j]? = some u → T.has (GW.all W) u:=by
      intro i
      obtain ⟨cs',h1,h2⟩:=hel i (by omega)
      obtain ⟨x,hx⟩:=he H enc B BA hB W n cs' _ _ h2
      exact ⟨x,cs',h1,hx⟩
    let f:Fin len → α:=fun i=>Classical.choose (hx i)
    have hf:∀ i:Fin len,∃ cs':List Value,W.cells? 0 (a.add (i * P.cellsOf e)) (P.cellsOf e) = some cs'∧wf (f i)∧sz (f i) ≤ B (D i)∧(((D i).weights P e).all (· ≤ reachBytes) = true → rc (f i))∧cs'.length = (cells (f i)).length ∧
        ∀ (j:Nat) (T:Ty) (u:Value),(cells (f i))[j]? = some T → cs'[j]? = some u → T.has (GW.all W) u:=fun i=>Classical.choose_spec (hx i)
    have hlf:(List.ofFn f).length = len:=by simp
    have hget:∀ (i:Nat) (x:α),(List.ofFn f)[i]? = some x → ∃ hi:i < len,x = f ⟨i,hi⟩:=fun i x h=>by
      have hi:i < len:=by have:=(List.getElem?_eq_some_iff.1 h).1;simpa using this
      refine ⟨hi,?_⟩
      rw [List.getElem?_ofFn] at h
      simp [hi] at h
      exact h.symm
    have hmem:∀ x ∈ List.ofFn f,∃ i:Fin len,x = f i:=fun x h=>by
      obtain ⟨i,hi⟩:=List.mem_iff_getElem?.1 h
      obtain ⟨hi',rfl⟩:=hget i x hi
      exact ⟨⟨i,hi'⟩,rfl⟩
    have hwf:∀ x ∈ List.ofFn f,wf x:=fun x h=>by
      obtain ⟨i,rfl⟩:=hmem x h
      obtain ⟨_,_,h1,_⟩:=hf i
      exact h1
    have hflat:∀ (xs:List α),(∀ x ∈ xs,wf x) → (xs.flatMap cells).length = xs.length * P.cellsOf e:=fun xs h=>by
      induction xs with
      | nil=>simp
      | cons x xs ih =>
        rw [List.flatMap_cons,List.length_append,hcl x (h x (by simp)),ih (fun y hy=>h y (by simp [hy])),List.length_cons,Nat.succ_mul];omega
    refine ⟨List.ofFn f,⟨by rw [hlf];omega,hwf⟩,?_,fun hr=>⟨?_,fun x h=>?_⟩,rfl,one_cell ?_⟩
    · rw [hB.slice]
      have:=BA_map hB sz (List.ofFn f) ((List.range len).map D) (by simp) (fun i x d hx hd=>by
        obtain ⟨hi,rfl⟩:=hget i x hx
        obtain ⟨_,_,_,h2,_⟩:=hf ⟨i,hi⟩
        rw [List.getElem?_map,List.getElem?_range hi] at hd
        simp at hd;subst hd;exact h2)
      show (List.map sz (List.ofFn f)).sum + 1 ≤ _
      omega
    · rw [hlf]
      have:(((List.range len).map D).length + ((List.range (m - len)).map fun j=>D (len + j)).length) * P.bytesOf e ≤ reachBytes:=by
        have:=List.all_eq_true.1 hr _ (by simp only [DataW.weights,ht];exact List.mem_cons_self)
        simpa using this
      refine Nat.le_trans (Nat.mul_le_mul_right _ ?_) this
      simp
    · obtain ⟨i,rfl⟩:=hmem x h
      obtain ⟨_,_,_,_,h3,_⟩:=hf i
      refine h3 (List.all_eq_true.2 fun k hk=>?_)
      refine List.all_eq_true.1 hr k ?_
      simp only [DataW.weights,ht]
      refine List.mem_cons_of_mem _ (List.mem_append.2 (.inl (weightsAll_mem (D:=List.map D (List.range len)) (d:=D i.val) (List.mem_map.2 ⟨i.val,List.mem_range.2 i.2,rfl⟩) k hk)))
    ·
      by_cases h0:len = 0
      · have e0:List.ofFn f = []:=List.eq_nil_of_length_eq_zero (by rw [hlf,h0])
        rw [e0,h0]
        exact ⟨some a,m,0,0,rfl,⟨Nat.zero_le _,hcap⟩,by simp,.inl rfl,fun j T hj=>by simp at hj⟩
      · have hcell:∀ (i:Fin len) (k:Nat) (T:Ty),(cells (f i))[k]? = some T → ∃ u,W.cell? ((a.add (i * P.cellsOf e)).add k) = some u∧T.has (GW.all W) u:=fun i k T hT=>by
          obtain ⟨cs',h1,h2,_,_,h5,h6⟩:=hf i
          have hk:k < cs'.length:=by rw [h5];exact (List.getElem?_eq_some_iff.1 hT).1
          refine ⟨cs'[k],?_,h6 k T _ hT (by simp [hk])⟩
          have hkc:k < P.cellsOf e:=by rw [← hcl _ h2,← h5];exact hk
          unfold World.cells? at h1
          rw [if_pos (Nat.zero_le _)] at h1
          have:=mapM_some_get h1 k k (by rw [List.getElem?_range hkc])
          rw [this];simp [hk]
        have hspot:a.spot = none:=by
          obtain ⟨cs',h1,h2,_,_,h5,h6⟩:=hf ⟨0,by omega⟩
          have h7:0 < (cells (f ⟨0,by omega⟩)).length:=by rw [hcl _ h2];exact hc0
          obtain ⟨u,hu,_⟩:=hcell ⟨0,by omega⟩ 0 _ (List.getElem?_eq_getElem h7)
          simp [Addr.add] at hu
          exact spot_none hu
        obtain ⟨ab,ao,asp⟩:=a
        simp only at hspot
        subst hspot
        have hlt:(W.heap[ab]?).any isC = true:=by
          obtain ⟨cs',h1,h2,_,_,h5,h6⟩:=hf ⟨0,by omega⟩
          have h7:0 < (cells (f ⟨0,by omega⟩)).length:=by rw [hcl _ h2];exact hc0
          obtain ⟨u,hu,_⟩:=hcell ⟨0,by omega⟩ 0 _ (List.getElem?_eq_getElem h7)
          simp [Addr.add] at hu
          exact isC_cell hu
        refine ⟨some ⟨ab,ao,none⟩,m,ab,ao,by rw [hlf],⟨by omega,hcap⟩,hflat _ hwf,.inr ⟨rfl,by simp [GW.all,hlt]⟩,fun j T hj=>?_⟩
        have key:∀ (xs:List α) (o:Nat),(∀ x ∈ xs,wf x) → (∀ (i:Nat) x,xs[i]? = some x → ∀ (k:Nat) (T:Ty),(cells x)[k]? = some T → ∃ u,W.cell? ⟨ab,o + i * P.cellsOf e + k,none⟩ = some u∧T.has (GW.all W) u) →
            ∀ (j:Nat) (T:Ty),(xs.flatMap cells)[j]? = some T → ∃ u,W.cell? ⟨ab,o + j,none⟩ = some u∧T.has (GW.all W) u:=by
          intro xs
          induction xs with
          | nil=>intro o _ _ j T hj;simp at hj
          | cons x xs ih =>
            intro o hw hc j T hj
            rw [List.flatMap_cons] at hj
            have hlx:=hcl x (hw x (by simp))
            by_cases hjl:j < (cells x).length
            · rw [List.getElem?_append_left hjl] at hj
              have:=hc 0 x rfl j T hj
              simpa using this
            · rw [List.getElem?_append_right (by omega)] at hj
              have:=ih (o + P.cellsOf e) (fun y hy=>hw y (by simp [hy])) (fun i y hy k T hT=>by
                have:=hc (i + 1) y (by simpa using hy) k T hT
                rw [Nat.succ_mul] at this
                rw [show o + P.cellsOf e + i * P.cellsOf e + k = o + (i * P.cellsOf e + P.cellsOf e) + k by omega]
                exact this) _ T hj
              rw [hlx] at this hjl
              rwa [show o + P.cellsOf e + (j - P.cellsOf e) = o + j by omega] at this
        refine key (List.ofFn f) ao hwf (fun i x hx k T hT=>?_) j T hj
        obtain ⟨hi,rfl⟩:=hget i x hx
        have:=hcell ⟨i,hi⟩ k T hT
        simp only [Addr.add_lit] at this
        exact this
theorem Rd.conv {t:TypeId} {α β:Type} {cells:α → List Ty} {wf:α → Prop} {sz:α → Nat} {rc:α → Prop} {cells':β → List Ty} {wf':β → Prop} {sz':β → Nat} {rc':β → Prop} (h:Rd P t cells wf sz rc) (g:α → β)
    (hg:∀ x,wf x → wf' (g x)∧sz' (g x) ≤ sz x∧(rc x → rc' (g x))∧cells' (g x) = cells x):Rd P t cells' wf' sz' rc':=by
  intro H enc B BA hB W fuel cs d ps ht
  obtain ⟨x,h1,h2,h3,h4,h5⟩:=h H enc B BA hB W fuel cs d ps ht
  obtain ⟨g1,g2,g3,g4⟩:=hg x h1
  exact ⟨g x,g1,Nat.le_trans g2 h2,fun h=>g3 (h3 h),by rw [g4];exact h4,by rw [g4];exact h5⟩
theorem flatMap_one {α:Type} (f:α → Ty) (xs:List α):xs.flatMap (fun x=>[f x]) = xs.map f:=by
  induction xs with
  | nil=>rfl
  | cons x xs ih=>simp [ih]
theorem rd_lst {t e:TypeId} {α:Type} {f:α → Ty} {wf:α → Prop} {sz:α → Nat} {rc:α → Prop} (ht:P.underlying t = some (.slice e)) (hc:P.cellsOf e = 1) (he:Rd P e (fun x=>[f x]) wf sz rc) :
    Rd P t (fun xs:List α=>[Ty.lst f xs]) (fun xs=>xs.length ≤ maxLen∧∀ x ∈ xs,wf x) (fun xs=>(xs.map sz).sum + 1) (fun xs=>xs.length * P.bytesOf e ≤ reachBytes∧∀ x ∈ xs,rc x) :=
  (rd_slice ht hc (by decide) he (fun _ _=>rfl)).conv id fun x h=>⟨h,Nat.le_refl _,id,by simp [flatMap_one,Ty.lst]⟩
theorem trodAll_stays {H:Type} {enc:TypeId × Value → H} (hl:laidOutB P = true) {W W':World} (hb:Below W.heap.size W W'):∀ {ts:List TypeId} {vs:List Value} {ds:List (DataW H)} {ps:List MemPlace},
    DataW.TrodAll enc P W 0 (fun _=>true) true ts vs ds ps → (ts.all fun t=>P.readableRec t && decide (t < P.types.size)) = true → (∀ x ∈ ps,x.block < W.heap.size) → DataW.TrodAll enc P W' 0 (fun b=>decide (b < W.heap.size)) true ts vs ds ps
  | [],[],[],ps,h,_,_=>h
  | t :: ts,v :: vs,d :: ds,ps,h,ha,hp=>by
    obtain ⟨p,q,h1,h2,rfl⟩:=h
    simp only [List.all_cons,Bool.and_eq_true,decide_eq_true_eq] at ha
    exact ⟨p,q,Below.trod hl ha.1.1 ha.1.2 h1 hb (fun x hx=>hp x (List.mem_append.2 (.inl hx))),trodAll_stays hl hb h2 ha.2 (fun x hx=>hp x (List.mem_append.2 (.inr hx))),rfl⟩
  | [],[],_ :: _,_,h,_,_=>h.elim
  | [],_ :: _,_,_,h,_,_=>h.elim
  | _ :: _,[],_,_,h,_,_=>h.elim
  | _ :: _,_ :: _,[],_,h,_,_=>h.elim
theorem arg_one {H:Type} {enc:TypeId × Value → H} {B:DataW H → Nat} {BA:List (DataW H) → Nat} (hB:Bulk B BA) {W:World} {t:TypeId} {v:Value} {d:DataW H} {ps:List MemPlace} {α:Type} {T:α → Ty} {wf:α → Prop} {sz:α → Nat} {rc:α → Prop}
    (h:Rd P t (fun x=>[T x]) wf sz rc) (hone:v.cells = #[v]) (ht:DataW.Trod enc P W 0 (fun _=>true) true t v d ps):∃ x:α,wf x∧sz x ≤ B d∧((d.weights P t).all (· ≤ reachBytes) = true → rc x)∧(T x).has (GW.all W) v:=by
  obtain ⟨fuel,hf⟩:=ht
  rw [hone] at hf
  obtain ⟨x,h1,h2,h3,_,h5⟩:=h H enc B BA hB W fuel _ d ps hf
  exact ⟨x,h1,h2,h3,h5 0 _ _ rfl rfl⟩
theorem one_slice {e:TypeId} {w:World} {r:Reach} {base:Nat} {t:TypeId} {v:Value} (ht:P.underlying t = some (.slice e)) (h:Value.okWide P w r base t v):v.cells = #[v]:=by
  obtain ⟨a,l,c,rfl⟩:=okWide_slice ht h;rfl
theorem QL {H:Type} {t:TypeId} {ts:List TypeId} {d:DataW H} {ds:List (DataW H)} (h:(DataW.weightsEach P (t :: ts) (d :: ds)).all (· ≤ reachBytes) = true):(d.weights P t).all (· ≤ reachBytes) = true∧(DataW.weightsEach P ts ds).all (· ≤ reachBytes) = true:=by
  simpa [DataW.weightsEach,List.all_append] using h
theorem i64_bd {n:Int} (h:(Lit.int .i64 n).wf = true):-9223372036854775808 ≤ n∧n ≤ 9223372036854775807:=by
  simp [Lit.wf,IntKind.min,IntKind.max,IntKind.signed,IntKind.bits] at h
  omega
end Go.KL
namespace Go.KL
open Go.ConcR (Payload)
open Go.Conc Go.ChangeShapes Go.WideShapes Go.ChangeAt Go.RowKit Go.Deep
variable {P:Program}
def isV:Obj → Bool
  | .view _ _=>true
  | _=>false
def vws (W:World):List Nat:=(List.range W.heap.size).filter fun b=>(W.heap[b]?).any isV
def ghV (W:World):Array (Nat × ByteArray):=ge ((vws W).map (2 * ·))
theorem hid_ghV {W:World} {b:Nat}:hid (ghV W) b ↔ (W.heap[b]?).any isV = true:=by
  unfold hid ghV
  rw [gl_ge]
  constructor
  · rintro (h | h)
    · obtain ⟨x,hx,e⟩:=List.mem_map.1 h
      have:x = b:=by have e':2 * x = 2 * b:=e;omega
      subst this
      exact (List.mem_filter.1 hx).2
    · obtain ⟨x,hx,e⟩:=List.mem_map.1 h
      have e':2 * x = 2 * b + 1:=e;omega
  · intro h
    refine .inl (List.mem_map.2 ⟨b,List.mem_filter.2 ⟨List.mem_range.2 ?_,h⟩,rfl⟩)
    by_cases hb:b < W.heap.size
    · exact hb
    · simp [Array.getElem?_eq_none (Nat.le_of_not_lt hb)] at h
theorem shn_ghV {W:World} {b:Nat}:¬ shn (ghV W) b:=fun h=>by
  unfold shn ghV at h
  rw [gl_ge] at h
  obtain ⟨x,hx,e⟩:=List.mem_map.1 h
  have e':2 * x = 2 * b + 1:=e;omega
theorem nph_ghV {W:World}:¬ ph (ghV W):=fun h=>by
  unfold ph ghV ge at h
  cases hl:vws W with
  | nil=>simp [hl] at h
  | cons x xs =>
    simp [hl,mrk] at h
    exact absurd (congrArg ByteArray.size h) (by decide)
noncomputable def W0 (W:World):World:={ veil (hid (ghV W)) W with output:=ghV W }
open Classical in
noncomputable def GW0 (W:World):GW:=⟨W0 W,fun b=>if hid (ghV W) b then 999 else if (W.heap[b]?).any isC then 1 else 0,fun b h=>by
  by_cases hb:b < W.heap.size
  · show b < (W.heap.mapIdx _).size
    simpa using hb
  · have e:W.heap[b]? = none:=Array.getElem?_eq_none (Nat.le_of_not_lt hb)
    have:¬ hid (ghV W) b:=fun h'=>by rw [hid_ghV,e] at h';simp at h'
    simp [this,e] at h⟩
theorem veil0 {W:World} {b:Nat} (h:¬ hid (ghV W) b):(W0 W).heap[b]? = W.heap[b]?:=(Qc (hid (ghV W)) W b).2 h
theorem isC_V {o:Option Obj} (h:o.any isC = true):¬ o.any isV = true:=by
  cases o with
  | none=>simp at h
  | some x=>cases x <;> simp_all [isC,isV]
open Classical in
theorem le0 (W:World):(GW.all W).Le (GW0 W):=by
  have key:∀ b,(GW.all W).st b = 1 → (W.heap[b]?).any isC = true∧¬ hid (ghV W) b:=fun b h=>by
    have h':(if (W.heap[b]?).any isC then 1 else 0) = 1:=h
    by_cases hc:(W.heap[b]?).any isC = true
    · exact ⟨hc,fun hh=>isC_V hc (hid_ghV.1 hh)⟩
    · rw [if_neg hc] at h';cases h'
  refine ⟨fun b h=>?_,fun b h=>veil0 (key b h).2⟩
  obtain ⟨h1,h2⟩:=key b h
  show (if hid (ghV W) b then 999 else if (W.heap[b]?).any isC then 1 else 0) = 1
  rw [if_neg h2,if_pos h1]
open Classical in
theorem low0 (W:World):Low [999] (GW0 W):=fun b h=>by
  have h':(if hid (ghV W) b then 999 else if (W.heap[b]?).any isC then 1 else 0) ∉ [999]:=h
  show (if hid (ghV W) b then 999 else if (W.heap[b]?).any isC then 1 else 0) ≤ 1
  split at h' <;> simp_all
  split <;> omega
open Classical in
theorem pls0 (W:World):PlS (ghV W) (GW0 W):=⟨rfl,fun b h=>if_pos h,nph_ghV⟩
open Classical in
theorem pois0 (W:World):Pois (SfF (ghV W)) W (W0 W):=by
  refine ⟨rfl,rfl,rfl,by show (W.heap.mapIdx _).size = _;simp,fun b h _=>veil0 h,fun _ _ h=>h.elim,fun b h=>(Qc (hid (ghV W)) W b).1 h,fun b a u e=>?_⟩
  by_cases hb:hid (ghV W) b
  · have e1:=(Qc (hid (ghV W)) W b).1 hb
    have e2:(veil (hid (ghV W)) W).heap[b]? = some (Obj.view a u):=e
    rw [e1] at e2
    cases ho:W.heap[b]? with
    | none=>simp [ho] at e2
    | some o=>rw [ho] at e2;cases o <;> simp [bad] at e2
  · have e2:(W0 W).heap[b]? = some (Obj.view a u):=e
    rw [veil0 hb] at e2
    exact hb (hid_ghV.2 (by rw [e2];rfl))
theorem sf_run0 [Payload] {W:World} {Post:Value → World → Prop} {Z:UInt8 → Obj} {f:FuncId} {args:Array Value} (hi:P.inits.idxOf? f = none)
    (h:XCalls (sf P W Post Z) f args (W0 W) fun e v'=>∃ u,e = .returned u∧∀ v'',Ext v' v'' → ∀ w,Pois (SfF v''.output) w v'' → Outs W w → Post u w) :
    EndsGood P Post (solo (G (Frame.enter P f args .normal) []) W) #[]:=by
  have hJ:=h [] (fun _=>hi) (fun u v' ⟨u',e,hp⟩ v'' hx w hw _ ho=>by cases e;exact hp v'' hx w hw ho)
  have hT:SfT P W Post (ghV W) _ W:=hJ _ (.refl _) W (pois0 W) ⟨fun b hb=>by
    have:=hid_ghV.1 hb
    by_cases h':b < W.heap.size
    · exact h'
    · simp [Array.getElem?_eq_none (Nat.le_of_not_lt h')] at this,fun x y hx=>by
    have hx':(x,_) ∈ (ge ((vws W).map (2 * ·))).toList:=hx
    unfold ge at hx'
    have hx2:∃ a,a ∈ vws W∧2 * a = x∧ByteArray.empty = kb y:=by simpa using hx'
    obtain ⟨_,_,_,e⟩:=hx2
    exact absurd (show (0:Nat) = 1 from congrArg ByteArray.size e) (by decide)⟩
  have hsh:Shl (ghV W) = fun _=>False:=by funext l;simp only [Shl];refine propext ⟨?_,False.elim⟩;rintro ⟨a,_,h⟩;exact shn_ghV h
  refine hT #[G (Frame.enter P f args .normal) []] none #[] (fun _=>0) rfl ⟨leavers_one P _,?_,?_,by simp,by simp,by simp,⟨fun _ _ _ h=>h,rfl,rfl,rfl⟩⟩
  · rw [hsh];exact past_nil.mono (Nat.zero_le _)
  · intro i op x hi';simp at hi'
open Classical in
theorem law_run [Payload] {H:Type} {enc:TypeId × Value → H} {fn:Func} {f:FuncId} {s:ChangeSpec} {W:World} {args:Array Value} {ds gs:List (DataW H)} {before:List MemPlace} {tb:TypeId} {Z:UInt8 → Obj}
    (hi:P.inits.idxOf? f = none) (hres:fn.resultTypes = #[tb]) (hb:P.underlying tb = some .bool) (hl:laidOutB P = true) (hr:(fn.params.toList.all fun t=>P.readableRec t && decide (t < P.types.size)) = true)
    (hW:DataW.Whole enc P fn.params.toList s.vars false W args.toList ds gs before) (hv:s.vars = []) (hs:s.fn H (ds ++ gs) = { results:=[.lit (.bool true)],args:=ds })
    (hc:FnL (sf P W (fun v W'=>s.post enc P fn false true false false W args v W') Z) f args (GW0 W) [999] fun v τ=>∃ gh2,(Ty.bool true).has τ v∧PlS gh2 τ) :
    EndsGood P (fun v W'=>s.post enc P fn false true false false W args v W') (solo (G (Frame.enter P f args .normal) []) W) #[]:=by
  refine sf_run0 (Z:=Z) hi (XCalls.mono hc ?_)
  rintro e W' ⟨v,τ,rfl,hstp,rfl,gh2,hvv,hpl⟩
  refine ⟨v,rfl,fun v'' hx w hw ho=>?_⟩
  have hout:v''.output = gh2:=hx.output.trans hpl.out
  have hsz0:(W0 W).heap.size = W.heap.size:=by show (W.heap.mapIdx _).size = _;simp
  have hsz1:W.heap.size ≤ τ.w.heap.size:=by rw [← hsz0];exact hstp.size
  have hold:∀ k,k < W.heap.size → w.heap[k]? = W.heap[k]?:=fun k hk=>by
    by_cases hh:hid (ghV W) k
    · have hv':=hid_ghV.1 hh
      cases hk':W.heap[k]? with
      | none=>simp [hk'] at hv'
      | some o =>
        cases o <;> simp [hk',isV] at hv'
        exact ho.vis k _ _ hk'
    · have hst:(GW0 W).st k ∉ [999]:=by
        show (if hid (ghV W) k then 999 else if (W.heap[k]?).any isC then 1 else 0) ∉ [999]
        rw [if_neg hh];split <;> decide
      have h1:=hstp.blk k (by show k < (W0 W).heap.size;omega) hst
      have h2:=hstp.st k (by show k < (W0 W).heap.size;omega) hst
      have h3:¬ hid gh2 k:=fun h=>hst (by rw [← h2,hpl.hid k h];exact List.mem_singleton.2 rfl)
      have h4:=hw.same k (by rw [hout];exact h3) (fun h=>h)
      rw [← h4,hx.blk k (by omega),h1]
      exact veil0 hh
  have hbel:Go.RowKit.Below W.heap.size W w:=⟨ho.os,ho.tape,ho.output,by have:=hx.size;have:=hw.size;omega,hold⟩
  have hW':=hW
  obtain ⟨p,q,hA,hV,rfl,_,_⟩:=hW
  have hq:q = []:=by
    rw [hv] at hV
    cases gs with
    | nil=>exact hV
    | cons _ _=>exact hV.elim
  subst hq
  have hgs:gs = []:=by
    rw [hv] at hV
    cases gs with
    | nil=>rfl
    | cons _ _=>exact hV.elim
  subst hgs
  have hvv':v = .bool true:=hvv
  subst hvv'
  refine ⟨ds,[],_,[],p,[],hW',?_,?_,?_,hbel.frame _,fun h=>by cases h⟩
  · rw [hs,hres]
    exact trodAll_mk1 (shut_bool hb true)
  · rw [hs]
    exact trodAll_stays hl hbel hA hr (fun x hx=>hW'.lt x (List.mem_append.2 (.inl hx)))
  · rw [hs,hv];rfl
end Go.KL
namespace Go.KL
open Go.ChangeShapes Go.WideShapes Go.ChangeAt Go.RowKit Go.Deep
variable {P:Program}
theorem take_one {α:Type} {cs:List α} {o:Nat} (h:o < cs.length):(cs.drop o).take 1 = [cs[o]]:=by
  rw [List.drop_eq_getElem_cons h,List.take_succ_cons,List.take_zero]
theorem rd_s2 {t:TypeId} {f0 f1:Field} {α β:Type} {T:α → Ty} {U:β → Ty} {wf0:α → Prop} {wf1:β → Prop} {sz0:α → Nat} {sz1:β → Nat} {rc0:α → Prop} {rc1:β → Prop} (ht:P.underlying t = some (.struct #[f0,f1])) (hc:P.cellsOf t = 2)
    (e0:f0.offset = 0) (e1:f1.offset = 1) (k0:P.cellsOf f0.type = 1) (k1:P.cellsOf f1.type = 1) (h0:Rd P f0.type (fun x=>[T x]) wf0 sz0 rc0) (h1:Rd P f1.type (fun x=>[U x]) wf1 sz1 rc1) :
    Rd P t (fun x:α × β=>[T x.1,U x.2]) (fun x=>wf0 x.1∧wf1 x.2) (fun x=>sz0 x.1 + sz1 x.2 + 1) (fun x=>rc0 x.1∧rc1 x.2):=by
  intro H enc B BA hB W fuel cs d ps h
  obtain ⟨y0,y1,n,e,hl,g0,g1⟩:=trod_struct2 ht h
  obtain ⟨rfl,rfl⟩:=Prod.mk.inj e
  rw [hc] at hl
  rw [e0,k0,take_one (by omega)] at g0
  rw [e1,k1,take_one (by omega)] at g1
  obtain ⟨x,a1,a2,a3,a4,a5⟩:=h0 H enc B BA hB W n _ _ _ g0
  obtain ⟨y,b1,b2,b3,b4,b5⟩:=h1 H enc B BA hB W n _ _ _ g1
  refine ⟨(x,y),⟨a1,b1⟩,?_,fun hw=>?_,by rw [hl];rfl,fun j V u hj hu=>?_⟩
  · rw [hB.agg,hB.cons,hB.cons,hB.nil];show sz0 x + sz1 y + 1 ≤ _;omega
  · simp only [DataW.weights,ht,List.map_cons,List.map_nil,DataW.weightsEach,List.append_nil,List.all_append,Bool.and_eq_true] at hw
    exact ⟨a3 hw.1,b3 hw.2⟩
  · match j with
    | 0=>simp at hj;subst hj;exact a5 0 _ u rfl (by rw [List.getElem?_eq_getElem (by omega)] at hu;exact hu)
    | 1=>simp at hj;subst hj;exact b5 0 _ u rfl (by rw [List.getElem?_eq_getElem (by omega)] at hu;exact hu)
    | j + 2=>simp at hj
theorem rd_s3 {t:TypeId} {f0 f1 f2:Field} {α β γ:Type} {T:α → Ty} {U:β → Ty} {V:γ → Ty} {wf0:α → Prop} {wf1:β → Prop} {wf2:γ → Prop} {sz0:α → Nat} {sz1:β → Nat} {sz2:γ → Nat} {rc0:α → Prop} {rc1:β → Prop} {rc2:γ → Prop}
    (ht:P.underlying t = some (.struct #[f0,f1,f2])) (hc:P.cellsOf t = 3)
    (e0:f0.offset = 0) (e1:f1.offset = 1) (e2:f2.offset = 2) (k0:P.cellsOf f0.type = 1) (k1:P.cellsOf f1.type = 1) (k2:P.cellsOf f2.type = 1) (h0:Rd P f0.type (fun x=>[T x]) wf0 sz0 rc0) (h1:Rd P f1.type (fun x=>[U x]) wf1 sz1 rc1) (h2:Rd P f2.type (fun x=>[V x]) wf2 sz2 rc2) :
    Rd P t (fun x:α × β × γ=>[T x.1,U x.2.1,V x.2.2]) (fun x=>wf0 x.1∧wf1 x.2.1∧wf2 x.2.2) (fun x=>sz0 x.1 + sz1 x.2.1 + sz2 x.2.2 + 1) (fun x=>rc0 x.1∧rc1 x.2.1∧rc2 x.2.2):=by
  intro H enc B BA hB W fuel cs d ps h
  obtain ⟨y0,y1,y2,n,e,hl,g0,g1,g2⟩:=trod_struct3 ht h
  obtain ⟨rfl,rfl⟩:=Prod.mk.inj e
  rw [hc] at hl
  rw [e0,k0,take_one (by omega)] at g0
  rw [e1,k1,take_one (by omega)] at g1
  rw [e2,k2,take_one (by omega)] at g2
  obtain ⟨x,a1,a2,a3,a4,a5⟩:=h0 H enc B BA hB W n _ _ _ g0
  obtain ⟨y,b1,b2,b3,b4,b5⟩:=h1 H enc B BA hB W n _ _ _ g1
  obtain ⟨z,c1,c2,c3,c4,c5⟩:=h2 H enc B BA hB W n _ _ _ g2
  refine ⟨(x,y,z),⟨a1,b1,c1⟩,?_,fun hw=>?_,by rw [hl];rfl,fun j S u hj hu=>?_⟩
  · rw [hB.agg,hB.cons,hB.cons,hB.cons,hB.nil];show sz0 x + sz1 y + sz2 z + 1 ≤ _;omega
  · simp only [DataW.weights,ht,List.map_cons,List.map_nil,DataW.weightsEach,List.append_nil,List.all_append,Bool.and_eq_true] at hw
    exact ⟨a3 hw.1,b3 hw.2.1,c3 hw.2.2⟩
  · match j with
    | 0=>simp at hj;subst hj;exact a5 0 _ u rfl (by rw [List.getElem?_eq_getElem (by omega)] at hu;exact hu)
    | 1=>simp at hj;subst hj;exact b5 0 _ u rfl (by rw [List.getElem?_eq_getElem (by omega)] at hu;exact hu)
    | 2=>simp at hj;subst hj;exact c5 0 _ u rfl (by rw [List.getElem?_eq_getElem (by omega)] at hu;exact hu)
    | j + 3=>simp at hj
theorem arg_agg {H:Type} {enc:TypeId × Value → H} {B:DataW H → Nat} {BA:List (DataW H) → Nat} (hB:Bulk B BA) {W:World} {t:TypeId} {v:Value} {d:DataW H} {ps:List MemPlace} {α:Type} {cells:α → List Ty} {wf:α → Prop} {sz:α → Nat} {rc:α → Prop}
    (h:Rd P t cells wf sz rc) {fs:Array Field} {w:World} {r:Reach} {base:Nat} (hu:P.underlying t = some (.struct fs)) (hok:Value.okWide P w r base t v) (ht:DataW.Trod enc P W 0 (fun _=>true) true t v d ps) :
    ∃ x:α,wf x∧sz x ≤ B d∧((d.weights P t).all (· ≤ reachBytes) = true → rc x)∧(Ty.agg (cells x)).has (GW.all W) v:=by
  unfold Value.okWide at hok
  rw [hu] at hok
  obtain ⟨cs,rfl,_,_⟩:=hok
  obtain ⟨fuel,hf⟩:=ht
  obtain ⟨x,h1,h2,h3,h4,h5⟩:=h H enc B BA hB W fuel _ d ps hf
  refine ⟨x,h1,h2,h3,cs,rfl,by have h6:cs.toList.length = (cells x).length:=h4;simpa using h6,fun j T u hj hu2=>h5 j T u hj (by show cs.toList[j]? = some u;simpa using hu2)⟩
theorem rd_lstc {t e c:TypeId} {α:Type} {cells:α → List Ty} {wf:α → Prop} {sz:α → Nat} {rc:α → Prop} (ht:P.underlying t = some (.slice e)) (hc:P.cellsOf e = c) (hc0:0 < c) (he:Rd P e cells wf sz rc) (hcl:∀ x,(cells x).length = c) :
    Rd P t (fun xs:List α=>[Ty.lstc c cells xs]) (fun xs=>xs.length ≤ maxLen∧∀ x ∈ xs,wf x) (fun xs=>(xs.map sz).sum + 1) (fun xs=>xs.length * P.bytesOf e ≤ reachBytes∧∀ x ∈ xs,rc x) :=
  rd_slice ht hc hc0 he (fun x _=>hcl x)
end Go.KL
namespace Go.KL
section
variable {H:Type} {enc:TypeId × Value → H}
open Go.Conc
theorem leaves_of_cond {a:Assume} {C:Checked} {os:Os} {f:FuncId} {fn:Func} {s:OpenSpec} {k:(H:Type) → List (DataW H) → Bool} (hk:s.cond = some k) {F:Stop.Interp} {conds:List PathCond} {apart fresh handsOn again:Bool}
    (own:ownKnob C.prog.godebug = none) (started:os.Started) (hfn:C.prog.funcs[f]? = some fn)
    (witness:∃ (w:World) (tape:Tape) (i:Input),w.os = os∧(w.forCall tape i).Shaped C.prog∧i.vars = []∧Input.okWide C.prog (w.forCall tape i) .any w.heap.size f i ∧
      s.pre6 enc C.prog fn conds apart (w.forCall tape i).memory i.args∧a.holds C.prog (lone (Frame.enter C.prog f i.args .normal) [] (w.forCall tape i)))
    (runs:∀ (W:World) (base:Nat) (args:Array Value) (ds gs:List (DataW H)) (before:List MemPlace),
      (∀ (j:Nat) t v,fn.params[j]? = some t → args[j]? = some v → Value.okWide C.prog W .any base t v) → DataW.Whole enc C.prog fn.params.toList s.vars apart W args.toList ds gs before → k H (ds ++ gs) = true →
      (DataW.weightsEach C.prog (fn.params.toList ++ s.bare.plain.varTypes C.prog) (ds ++ gs)).all (· ≤ reachBytes) = true →
      ∃ M last o w' t',runNT C.prog (M + 1) (solo (G (Frame.enter C.prog f args .normal) []) W) #[] = (.ended o w',t')∧runN C.prog M (solo (G (Frame.enter C.prog f args .normal) []) W) = .next last ∧
        step C.prog last = .ended o w'∧Go.Conc.Good C.prog (fun v W'=>(s.at F).post enc C.prog fn apart fresh handsOn again W args v W') last o w' t') :
    ReturnsInLeavingWide a C os f .any (s.pre6 enc C.prog fn conds apart) ((s.at F).post enc C.prog fn apart fresh handsOn again):=by
  refine returnsInLeavingWide_of_good own started witness fun w tape i _ _ _ hok hpre _=>?_
  obtain ⟨_,_,_,fn2,hfn2,_,_,_,_,hval⟩:=hok
  obtain rfl:fn2 = fn:=Option.some.inj (hfn2.symm.trans hfn)
  obtain ⟨ds,gs,before,hw,_,hkk⟩:=(OpenSpec.pre_some hk conds apart _ _).1 hpre.1
  obtain ⟨M,last,o,w',t',h1,h2,h3,h4⟩:=runs (w.forCall tape i) w.heap.size i.args ds gs before hval (DataW.Whole.of_heap (w':=w.forCall tape i) (by rfl) hw) hkk (hpre.2.weights hw)
  exact ⟨M,last,o,w',t',h1,h2,h3,h4.mono fun v hp=>ChangeSpec.post_blind hp⟩
end
theorem holds_leaving_of_cond {p:Pinned} {s:OpenSpec} {c:OpenClaim} (f:FuncId) (fn:Func)
    (hn:c.program = p.name) (hs:c.sum = p.sum) (hsp:c.spec = s.name)
    (hstart:c.start = .entering) (hout:c.outside = []) (hin:c.inits = []) (hun:c.under = none) (hi4:c.initsInPlace = []∧c.initsUnfollowed = false∧c.initsRecurse = false∧c.initsNamed = []∧c.initsPassed = []) (hnb:c.noBlocks = false) (hlv:c.leaving = true) (hfo:c.followed = none) (hnar:c.narrowed = s.cond.isSome) (hstill:c.still = false)
    (hfn:p.checked.prog.funcNamed c.func = some f) (hf:p.checked.prog.funcs[f]? = some fn)
    (closed:joinedFacts p.checked.prog f fn s.bare c = true)
    (hinst:fn.isInstance p.checked.prog c.origin c.targs) (hwrap:fn.isWrapper p.checked.prog c.wrapper c.mainSum)
    (h:∀ os:Os,os.Started → ∀ (H:Type) (enc:TypeId × Value → H),(∀ a b,enc a = enc b → a = b) → ∀ F:Stop.Interp,
      ReturnsInLeavingWide c.assume p.checked os f .any (c.pre enc p.checked.prog fn s) ((s.at F).post enc p.checked.prog fn c.apart c.fresh c.handsOn c.again)):c.holds p s:=by
  simp only [joinedFacts,Bool.and_eq_true,beq_iff_eq,Array.all_eq_true_iff_forall_mem,List.all_eq_true,decide_eq_true_eq] at closed
  obtain ⟨⟨⟨⟨⟨⟨⟨⟨⟨⟨⟨⟨⟨⟨⟨⟨⟨⟨⟨⟨⟨⟨⟨⟨⟨⟨⟨⟨⟨⟨⟨a1,a2⟩,a3⟩,a4⟩,a5⟩,a6⟩,a7⟩,a8⟩,a9⟩,b0⟩,b1⟩,b2⟩,b3⟩,b4⟩,b5⟩,b6⟩,b7⟩,x7⟩,b8⟩,b9⟩,c0⟩,c1⟩,c2⟩,c3⟩,x3⟩,c4⟩,y4⟩,z4⟩,c5⟩,c6⟩,c7⟩,c8⟩:=closed
  have quiet:∀ os:Os,Stop.quiet p.checked.prog os:=fun os k hk=>by rw [a9] at hk;cases hk
  refine ⟨a1,hn,hs,hsp,a2,a3,by simp only [OpenClaim.startFits,hstart];exact c4,by simp only [OpenClaim.startTold,hstart];exact ⟨hin,hun,hi4⟩,f,fn,hfn,hf,⟨a4,b9⟩,fun e=>absurd e (by simp [hnb]),by simp only [OpenClaim.namedList,hfo];exact a5,hinst,hwrap,a6.trans a7.symm,
    ⟨a8.trans a9.symm,by simp only [Program.envWorded,a9];rfl,x3⟩,b0,b1,b2,b3,b4,⟨b5,c7,c8⟩,⟨b6,c0⟩,⟨b7,c1,c5,c6⟩,⟨c2,y4,z4,x7⟩,?_,fun n m=>varReadable_some (b8 n m),⟨_,by simp only [OpenClaim.world,hout,hstart];exact WideRow.started_initial,quiet _⟩,[],by simp only [OpenClaim.lists,hfo],fun os st _ H enc inj=>?_⟩
  · rw [hout,hnar]
    cases e:c.shortTexts with
    | none=>simp
    | some _=>rw [e] at c3;cases c3
  · have st:os.Started:=by simpa only [OpenClaim.world,hout,hstart] using st
    rw [OpenClaim.post_not_still hstill]
    simp only [OpenClaim.form,hstart,a6]
    intro F
    have hr:c.atReturn p.checked.prog = leavingAtReturn p.checked.prog:=by simp only [OpenClaim.atReturn,hlv]
    have ha:c.always p.checked.prog [] = nothingAlways:=by simp only [OpenClaim.always,hfo]
    have hi:c.okInput = Input.okWide:=by simp only [OpenClaim.okInput,hnb]
    have hp:s.post enc p.checked.prog fn F c.outside c.apart c.fresh c.handsOn c.again = (s.at F).post enc p.checked.prog fn c.apart c.fresh c.handsOn c.again:=by rw [hout];rfl
    rw [hi,hr,ha]
    show ReturnsInOpen _ _ _ _ _ _ _ _ (s.post enc p.checked.prog fn F c.outside c.apart c.fresh c.handsOn c.again) _ _
    rw [hp]
    exact h os st H enc inj F c4
end Go.KL
