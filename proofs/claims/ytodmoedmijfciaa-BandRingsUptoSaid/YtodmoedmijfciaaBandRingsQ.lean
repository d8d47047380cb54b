/- The goroutine that band.Ring starts: its whole script. -/
import Derived.Test.YtodmoedmijfciaaBandRingsA5
import Derived.Test.YtodmoedmijfciaaBandRingsK3
namespace Go.Proofs
abbrev Try.link:Go.Conc.Lib.WgLink:={ add:=25,done:=27,wait:=31,relMerge:=47,disable:=48,enable:=49,inBubble:=50,associate:=51,fatal:=52,uOr:=53,uAdd:=54,raceRead:=55,uLoad:=56,uStore:=57,disassociate:=58,semrelease:=59,acquire:=62,isAssociated:=63,uCas:=64,raceWrite:=65,semacquire:=66,orU64:=80,addU64:=81,loadU64:=82,storeU64:=83,casU64:=84,tWgP:=88,tUP:=90,tAssoc:=92,tWg:=64,tAU:=61,tU64:=59,tUint:=96,tU32:=62,tPU32:=97,tPAU:=116,tPU64:=118,tNoCopy:=56,tANoCopy:=57,tAlign64:=58 }
theorem Try.wgLib:Go.Conc.Lib.WgLib Try.prog Try.link :=
  ⟨Try.func25,Try.func27,Try.func31,Try.func47,Try.func48,Try.func49,Try.func50,Try.func51,Try.func52,Try.func53,Try.func54,Try.func55,Try.func56,Try.func57,Try.func58,Try.func59,Try.func62,Try.func63,Try.func64,Try.func65,Try.func66,Try.func80,Try.func81,Try.func82,Try.func83,Try.func84,Try.underlying88,Try.runUnderlying88,Try.sizeOf88,Try.isAgg88,Try.zeroValue88,Try.underlying90,Try.runUnderlying90,Try.sizeOf90,Try.isAgg90,Try.zeroValue90,Try.underlying92,Try.runUnderlying92,Try.sizeOf92,Try.isAgg92,Try.zeroValue92,Try.underlying64,Try.runUnderlying64,Try.sizeOf64,Try.isAgg64,Try.zeroValue64,Try.underlying61,Try.runUnderlying61,Try.sizeOf61,Try.isAgg61,Try.zeroValue61,Try.underlying59,Try.runUnderlying59,Try.sizeOf59,Try.isAgg59,Try.zeroValue59,Try.underlying96,Try.runUnderlying96,Try.sizeOf96,Try.isAgg96,Try.zeroValue96,Try.underlying62,Try.runUnderlying62,Try.sizeOf62,Try.isAgg62,Try.zeroValue62,Try.underlying97,Try.runUnderlying97,Try.sizeOf97,Try.isAgg97,Try.zeroValue97,Try.underlying116,Try.runUnderlying116,Try.sizeOf116,Try.isAgg116,Try.zeroValue116,Try.underlying118,Try.runUnderlying118,Try.sizeOf118,Try.isAgg118,Try.zeroValue118,Try.underlying0,Try.runUnderlying0,Try.sizeOf0,Try.isAgg0,Try.zeroValue0,Try.underlying3,Try.runUnderlying3,Try.sizeOf3,Try.isAgg3,Try.zeroValue3,Try.underlying4,Try.runUnderlying4,Try.sizeOf4,Try.isAgg4,Try.zeroValue4,Try.underlying9,Try.runUnderlying9,Try.sizeOf9,Try.isAgg9,Try.zeroValue9,Try.underlying20,Try.runUnderlying20,Try.sizeOf20,Try.isAgg20,Try.zeroValue20,Try.underlying21,Try.runUnderlying21,Try.sizeOf21,Try.isAgg21,Try.zeroValue21,(by kernel_rfl),(by kernel_rfl)⟩
end Go.Proofs
namespace Go.Proofs.Ytodmoedmijfciaa
open Go.KL Go.Conc Go.RowKit
open Go.ConcR (Payload)
open Go.ConcN (WgLive)
set_option maxRecDepth 100000
noncomputable abbrev body26:Code:=Try.f26.body.getD .skip
noncomputable abbrev body28:Code:=Try.f28.body.getD .skip
section
variable [Payload] {c:Co} {k:Nat} {h:Ch} {okc:c.Ok h}
set_option maxHeartbeats 4000000 in
theorem add28 (x:Int) {fr:Frame} {cs:List Frame} {σ:GW} (hp:PlR .fin σ) (K:∀ (z:Value) (τ:GW),Stp 999 σ τ → PlR .fin τ → (rg Try.prog c k h okc).J (G (fr.finish z) cs) τ.w) :
    (rg Try.prog c k h okc).J (G (Frame.enter Try.prog 28 #[Jg c.rung 0,.int .i64 x] .normal) (fr :: cs)) σ.w:=by
  rw [Go.Conc.enter_at (fn:=Try.f28) (c:=body28) _ Try.func28 rfl]
  obtain ⟨a0,ha⟩:∃ a:Act,a = { tmps:=#[Jg c.rung 0,.int .i64 x] ++ Array.replicate (Try.f28.ntmps - (#[Jg c.rung 0,.int .i64 x]:Array Value).size) undef,defers:=[] }:=⟨_,rfl⟩
  rw [← ha]
  have ok0:Ok 10 [] a0:=by rw [ha];exact ⟨by simp [Try.ntmps28],rfl⟩
  have q0:a0.eval (.tmp 0) = Jg c.rung 0:=by rw [ha];rfl
  have q1:a0.eval (.tmp 1) = .int .i64 x:=by rw [ha];rfl
  clear ha
  have hk:(base 28).kind ≠ .early:=by decide
  refine (rg Try.prog c k h okc).ctl (fun w=>stepG_seq) ?_
  refine regJ (J:=rg Try.prog c k h okc) (σ:=σ) rfl 1 (fun _=>Pr.any) ok0 rfl (by decide) rfl hk (by rfl) ⟨?_,trivial⟩ (fun a1 s1 D1=>?_)
  · intro ax tx hs okx sm
    exact QN rfl (Qk (R:=Pr.any) trivial)
  have p1:=hp.k0 D1.stp
  have ok1:=D1.ok
  have q0:a1.eval (.tmp 0) = Jg c.rung 0:=(D1.same 0 rfl).trans q0
  have q1:a1.eval (.tmp 1) = .int .i64 x:=(D1.same 1 rfl).trans q1
  have st1:=D1.stp
  clear D1
  refine (rg Try.prog c k h okc).ctl (fun w=>stepG_region_end) ?_
  refine (rg Try.prog c k h okc).ctl (fun w=>stepG_seq) ?_
  refine regJ (J:=rg Try.prog c k h okc) (σ:=s1) rfl 4 (fun i_=>List.getD [(Ty.pr (Ty.val (Jg c.rung 0))),(Ty.pr (Ty.val (Jg c.rung 0))),(Ty.pr (Ty.val (Jg c.rung 0))),(Ty.pr (Ty.int x))] i_ Pr.any) ok1 rfl (by decide) rfl hk (by rfl) ⟨?_,?_,?_,?_,trivial⟩ (fun a2 s2 D2=>?_)
  · intro ax tx hs okx sm
    exact QN rfl (Jc (R:=Ty.pr (Ty.val _)) ((sm 0 rfl).trans q0))
  · intro ax tx hs okx sm d0
    exact QN rfl (KS (d0 rfl))
  · intro ax tx hs okx sm d0
    exact QN rfl (JY (c:=1) (by_:=8) (z:=.int .i64 0) (ft:=2) (off:=0) (by kernel_rfl) (by unfold Info;kernel_rfl) (by decide) (d0 rfl) rfl)
  · intro ax tx hs okx sm
    exact QN rfl (Jc (R:=Ty.pr (Ty.val _)) ((sm 1 rfl).trans q1))
  have p2:=p1.k0 D2.stp
  have ok2:=D2.ok
  have q7:a2.eval (.tmp 7) = Jg c.rung 0:=D2.done 2 (by decide)
  have q8:a2.eval (.tmp 8) = .int .i64 x:=D2.done 3 (by decide)
  have st2:=D2.stp
  clear D2
  refine rg_add (rest:=[5]) rfl rfl hk Try.func60 (by kernel_rfl) (by kernel_rfl) (by kernel_rfl) (by kernel_rfl) p2 q7 q8 (fun z=>?_)
  have ok3:Ok 10 [] (a2.put (some 9) (.int .i64 z)):=ok2.put _ _
  have q9:(a2.put (some 9) (.int .i64 z)).eval (.tmp 9) = .int .i64 z:=Kx ok2 (by decide) _
  generalize a2.put (some 9) (.int .i64 z) = a3 at ok3 q9
  refine xop (J:=rg Try.prog c k h okc) (K:=fun a' v'=>∃ τ:GW,τ.w = v'∧Stp 0 (s2.pl (ge (Qp .fin))) τ∧a'.defers = []) rfl rfl hk rfl (fun v' hv=>?_) (fun a' v' ⟨τ,e,h1,h2⟩=>?_)
  · have hx:=Stp.ext (s2.pl (ge (Qp .fin))) (v:=v') hv
    refine Qk (J:=rg Try.prog c k h okc) (R:=Ty.pr (Ty.val (.int .i64 z))) (σ:=(s2.pl (ge (Qp .fin))).ext v' hv) q9 _ (fun _ _ _=>True) fun v τ hs hr=>⟨τ,rfl,hx.trans hs,(ok3.put _ _).defers⟩
  subst e
  refine (rg Try.prog c k h okc).ctl (fun w=>stepG_region_end) ?_
  refine (rg Try.prog c k h okc).ctl (fun w=>stepG_ret') ?_
  refine (rg Try.prog c k h okc).ctl (fun w=>stepG_leave (v:=a'.tmps.getD 4 undef) rfl h2 Try.func28 (xres1 rfl _ w #[]).1 (xres1 rfl _ w #[]).2) ?_
  exact K _ τ ((st1.trans st2).of0.trans ((s2.stp_pl _).trans h1.of0)) (PlR.k0 (σ:=s2.pl (ge (Qp .fin))) rfl h1)
noncomputable def bot26:Frame:={ (default:Frame) with fn:=Try.prog.funcs.size,defers:=[],mode:=.panicking [goexitEntry] }
def goOf (wg rung v lb:Nat):Deferred:={ target:=.fn (.func 26) #[Jg wg 0,Jg rung 0,Jg v 0,Jg lb 0],args:=#[] }
omit [Payload] in
theorem quits26 (T:Array Value):QuitsD Try.prog 2 0 (G { (baseD 26).at ⟨T,[]⟩ [] with mode:=.returning } [bot26]):=by
  refine QuitsD.ctl (g':=G bot26 []) rfl (fun w=>?_) ?_
  · simp [G,stepG,unwind,doReturn,results,Frame.at,baseD,bot26,Try.func26,Try.f26,seen,GStep.after,goexitEntry]
  refine QuitsD.ctl (g':={ G bot26 [] with status:=.finished }) rfl (fun w=>?_) ⟨rfl,rfl⟩
  simp [G,stepG,unwind,bot26,goexitEntry,Frame.catches]
  rfl
omit [Payload] in
theorem born26 (wg rung v lb:Nat) (w:World):stepG Try.prog false (born Try.prog (goOf wg rung v lb)) w =
    .go (G ((baseD 26).at ⟨#[Jg wg 0,Jg rung 0,Jg v 0,Jg lb 0,undef,undef,undef,undef],[]⟩ [.code body26]) [bot26]) w #[]:=by
  simp [born,goOf,stepG,unwind,callDeferred,invoke,callFunc,Try.func26,Try.f26,seen,GStep.after,G,Frame.enter,Frame.at,baseD,bot26,body26]
set_option maxHeartbeats 4000000 in
theorem ring1_J (lns:List (List (List Int))) (hty:c.tWg = 64) (hN:RgN c k lns) (hkk:k < 4611686018427387904) (hzi:c.zi = .int .i64 0) (hzq:c.zq = .int .i64 0) {lb:Nat} {σ:GW} (hp:PlR (.rcv 0) σ) (hv:(Ty.ref [Ty.val (Jg h.S 0)]).has σ (Jg h.v 0)) (hl:(Ty.ref [Ty.lst Ty.rows lns]).has σ (Jg lb 0)) :
    (rg Try.prog c k h okc).J (G ((baseD 26).at ⟨#[Jg c.wg 0,Jg c.rung 0,Jg h.v 0,Jg lb 0,undef,undef,undef,undef],[]⟩ [.code body26]) [bot26]) σ.w:=by
  obtain ⟨a0,ha⟩:∃ a:Act,a = { tmps:=#[Jg c.wg 0,Jg c.rung 0,Jg h.v 0,Jg lb 0,undef,undef,undef,undef],defers:=[] }:=⟨_,rfl⟩
  rw [← ha]
  have ok0:Ok 8 [] a0:=by rw [ha];exact ⟨rfl,rfl⟩
  have q0:a0.eval (.tmp 0) = Jg c.wg 0:=by rw [ha];rfl
  have q1:a0.eval (.tmp 1) = Jg c.rung 0:=by rw [ha];rfl
  have q2:At (Ty.ref [Ty.val (Jg h.S 0)]) σ a0 (.tmp 2):=by rw [ha];exact hv
  have q3:At (Ty.ref [Ty.lst Ty.rows lns]) σ a0 (.tmp 3):=by rw [ha];exact hl
  clear ha hv hl
  have hk:(baseD 26).kind ≠ .early:=by decide
  refine (rg Try.prog c k h okc).ctl (fun w=>stepG_seq) ?_
  refine (rg Try.prog c k h okc).ctl (fun w=>stepG_region) ?_
  refine (rg Try.prog c k h okc).ctl (fun w=>stepG_defer (rest:=[]) rfl rfl hk rfl) ?_
  have ok1:Ok 8 [dcall 27 #[Jg c.wg 0]] ⟨a0.tmps,dcall 27 (#[.tmp 0].map a0.eval) :: a0.defers⟩:=⟨ok0.size,by rw [ok0.defers];simp [q0]⟩
  have same1:∀ t,(⟨a0.tmps,dcall 27 (#[.tmp 0].map a0.eval) :: a0.defers⟩:Act).eval (.tmp t) = a0.eval (.tmp t):=fun t=>rfl
  show (rg Try.prog c k h okc).J (G ((baseD 26).at ⟨a0.tmps,dcall 27 (#[.tmp 0].map a0.eval) :: a0.defers⟩ _) _) _
  generalize (⟨a0.tmps,dcall 27 (#[.tmp 0].map a0.eval) :: a0.defers⟩:Act) = a1 at ok1 same1
  have q1:a1.eval (.tmp 1) = Jg c.rung 0:=(same1 1).trans q1
  have q2:At (Ty.ref [Ty.val (Jg h.S 0)]) σ a1 (.tmp 2):=kp (same1 2) (Stp.refl _ _) q2
  have q3:At (Ty.ref [Ty.lst Ty.rows lns]) σ a1 (.tmp 3):=kp (same1 3) (Stp.refl _ _) q3
  clear q0 same1 ok0
  refine (rg Try.prog c k h okc).ctl (fun w=>stepG_region_end) ?_
  refine regJ (J:=rg Try.prog c k h okc) (σ:=σ) rfl 2 (fun i_=>List.getD [(Ty.pr (Ty.val (Jg h.S 0))),(Ty.pr (Ty.lst Ty.rows lns))] i_ Pr.any) ok1 rfl (by decide) rfl hk (by rfl) ⟨?_,?_,trivial⟩ (fun a2 s2 D2=>?_)
  · intro ax tx hs okx sm
    exact QN rfl (Jm Try.underlying68 rfl (kp (sm 2 rfl) hs q2) rfl)
  · intro ax tx hs okx sm
    exact QN rfl (Jm Try.underlying49 rfl (kp (sm 3 rfl) hs q3) rfl)
  have p2:=hp.k0 D2.stp
  have ok2:=D2.ok
  have q1:a2.eval (.tmp 1) = Jg c.rung 0:=(D2.same 1 rfl).trans q1
  have q4:At (Ty.val (Jg h.S 0)) s2 a2 (.tmp 4):=D2.done 0 (by decide)
  have q5:At (Ty.lst Ty.rows lns) s2 a2 (.tmp 5):=D2.done 1 (by decide)
  clear D2 q2 q3 hp
  refine JdOf.call (rest:=[3]) (args:=#[a2.eval (.tmp 4),a2.eval (.tmp 5)]) rfl rfl hk ⟨_,_,_,#[],#[],Try.f29,rfl,rfl,by simp,Try.func29,by kernel_rfl,by kernel_rfl⟩ ?_
  refine ring_fn (okc:=okc) lns (s2.lend [(999,999)]) (GW.low_lend _ (by simp)) (a2.eval (.tmp 4)) (a2.eval (.tmp 5)) (Ty.up _ (GW.le_lend _ _) q4) (Ty.up _ (GW.le_lend _ _) q5) (p2.ren (GW.ren_lend _ _ (by decide) rfl)) hN hkk hzi hzq _ (by simp) fun u v' hu=>?_
  obtain ⟨u',τ,rfl,hs,e,hr⟩:=hu
  cases e
  show (rg Try.prog c k h okc).J (G (Frame.finish _ u) _) _
  rw [Frame.finish_at]
  have hu:u = .int .i64 ((c.A + 1:Nat):Int):=hr.1
  have p3:PlR .fin τ:=hr.2
  have ok3:Ok 8 [dcall 27 #[Jg c.wg 0]] (a2.put (some 6) u):=ok2.put _ _
  have q6:(a2.put (some 6) u).eval (.tmp 6) = .int .i64 ((c.A + 1:Nat):Int):=(Kx ok2 (by decide) _).trans hu
  have q1:(a2.put (some 6) u).eval (.tmp 1) = Jg c.rung 0:=(Kz (by simp) u).trans q1
  show (rg Try.prog c k h okc).J (G ((baseD 26).at (a2.put (some 6) u) _) _) _
  generalize a2.put (some 6) u = a3 at ok3 q6 q1
  refine JdOf.call (rest:=[]) rfl rfl hk ⟨_,_,_,#[],#[],Try.f28,rfl,rfl,rfl,Try.func28,by kernel_rfl,by kernel_rfl⟩ ?_
  have e3:(#[]:Array Value) ++ (#[.tmp 1,.tmp 6]:Array Operand).map a3.eval ++ #[] = #[Jg c.rung 0,.int .i64 ((c.A + 1:Nat):Int)]:=by simp [q1,q6]
  rw [e3]
  refine add28 _ p3 fun z ρ hs2 p4=>?_
  rw [Frame.finish_at]
  show (rg Try.prog c k h okc).J (G ((baseD 26).at (a3.put (some 7) z) _) _) _
  have ok4:Ok 8 [dcall 27 #[Jg c.wg 0]] (a3.put (some 7) z):=ok3.put _ _
  generalize a3.put (some 7) z = a4 at ok4
  refine (rg Try.prog c k h okc).ctl (fun w=>stepG_region_end) ?_
  refine (rg Try.prog c k h okc).ctl (fun w=>stepG_end) ?_
  refine (rg Try.prog c k h okc).ctl (fun w=>stepG_unwind_enter ok4.defers Try.func27 (by kernel_rfl) rfl) ?_
  intro v' hv w hpw hst
  have hd:(rgB Try.prog c k h okc).T ρ.w.output = (rgB Try.prog c k h okc).T (ge (Qp .fin)):=by rw [show ρ.w.output = _ from p4]
  have hs':(rgB Try.prog c k h okc).St (ge (Qp .fin)) w:=by rw [← show ρ.w.output = _ from p4];exact hst
  obtain ⟨h1,h2,_⟩:=hs'
  rw [hd]
  show RTr Try.prog c k h (decR (ge (Qp .fin))) _ w
  rw [decR_enc] at h1 ⊢
  exact done_fin Try.wgLib hty rfl (quits26 _) w h2 h1
theorem ring1 (okc:c.Ok h) (lns:List (List (List Int))) (hty:c.tWg = 64) (hN:RgN c k lns) (hkk:k < 4611686018427387904) (hzi:c.zi = .int .i64 0) (hzq:c.zq = .int .i64 0) {lb:Nat} {w:World}
    (σ:∀ w1,c.RR h w w1 → ∃ σ:GW,PlR (.rcv 0) σ∧(Ty.ref [Ty.val (Jg h.S 0)]).has σ (Jg h.v 0)∧(Ty.ref [Ty.lst Ty.rows lns]).has σ (Jg lb 0)∧Pois ⟨fun b=>¬ c.RO h b,fun _=>True⟩ w1 σ.w)
    (hs:c.SAt k h (i64 (c.pl k 0)) w) (hl:WgLive c.tWg c.wg w) (hr:c.RungAt w):RTr Try.prog c k h (.rcv 0) (born Try.prog (goOf c.wg c.rung h.v lb)) w:=by
  refine Tr.intro (RAsk.mono Try.prog c k h) fun w1 h1=>.inl ⟨rfl,.rcv 0,_,w1,#[],born26 _ _ _ _ w1,.still rfl rfl rfl rfl (by simp),?_⟩
  obtain ⟨ρ,p,hv,hlb,hP⟩:=σ w1 h1
  have:=ring1_J (okc:=okc) lns hty hN hkk hzi hzq p hv hlb ρ.w (.refl _) w1 hP (by
    rw [show ρ.w.output = _ from p]
    show c.SAp k h (decR _) w1∧_
    rw [decR_enc]
    exact ⟨Co.SAt.of (c:=c) hs (h1.blk _ (.inr rfl)),h1.live hl,h1.rng hr⟩)
  have e:(rgB Try.prog c k h okc).T (ge (Qp (.rcv 0))) = RTr Try.prog c k h (decR (ge (Qp (.rcv 0)))):=rfl
  rw [decR_enc] at e
  rw [show ρ.w.output = _ from p,e] at this
  exact this
end
end Go.Proofs.Ytodmoedmijfciaa
