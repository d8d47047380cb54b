import Derived.Test.YtkjifbgofckfeaaColourSaysSortLG
import Derived.Test.YtkjifbgofckfeaaColourSaysK3
import Derived.LoopTactic
import Derived.Lib.Walk
import Derived.Lib.Hide
namespace Go.Proofs.Ytkjifbgofckfeaa
open Go.KL Go.RowKit Go.Sort Go.Shelf
set_option maxRecDepth 100000
theorem nan111 (x:Int) (w:World):Calls Try.prog 111 #[.int .i64 x] w fun e w'=>e = .returned (.bool false)∧w' = w:=by
  go_enter Try.func111,Try.ntmps111
  go_wp2
  go_ret
  exact ⟨by simp,rfl⟩
theorem cmp103 (x y:Int) (w:World):Calls Try.prog 103 #[.int .i64 x,.int .i64 y] w fun e w'=>e = .returned (.int .i64 (cmpI x y))∧w' = w:=by
  have h1:=nan111 x w
  have h2:=nan111 y w
  by_cases c1:x < y
  · have hc:cmpI x y = -1:=by simp [cmpI,c1]
    rw [hc];clear hc
    go_enter Try.func103,Try.ntmps103
    go_wp2_with (go_at_call 111;first | (refine h1.mono ?_;rintro e w' ⟨rfl,rfl⟩) | (refine h2.mono ?_;rintro e w' ⟨rfl,rfl⟩))
    go_ret
    exact ⟨rfl,rfl⟩
  · by_cases c2:y < x
    · have hc:cmpI x y = 1:=by simp [cmpI,c1,c2]
      rw [hc];clear hc
      go_enter Try.func103,Try.ntmps103
      go_wp2_with (go_at_call 111;first | (refine h1.mono ?_;rintro e w' ⟨rfl,rfl⟩) | (refine h2.mono ?_;rintro e w' ⟨rfl,rfl⟩))
      go_ret
      exact ⟨rfl,rfl⟩
    · have hc:cmpI x y = 0:=by simp [cmpI,c1,c2]
      rw [hc];clear hc
      go_enter Try.func103,Try.ntmps103
      go_wp2_with (go_at_call 111;first | (refine h1.mono ?_;rintro e w' ⟨rfl,rfl⟩) | (refine h2.mono ?_;rintro e w' ⟨rfl,rfl⟩))
      go_ret
      exact ⟨rfl,rfl⟩
/-- A row of numbers lies there. -/
def RowAt (w:World) (v:Value) (xs:List Int):Prop:=∃ p cap,v = .slice p xs.length cap∧∀ i,i < xs.length → ∃ b off,p = some ⟨b,off,none⟩∧w.cell? ⟨b,off + i,none⟩ = some (.int .i64 (xs.getD i 0))
set_option maxHeartbeats 1000000 in
theorem cmp82 (u v:Value) (xs ys:List Int) (w:World) (hx:RowAt w u xs) (hy:RowAt w v ys) (hxl:xs.length ≤ 9223372036854775807) (hyl:ys.length ≤ 9223372036854775807):Calls Try.prog 82 #[u,v] w fun e w'=>e = .returned (.int .i64 (cmpL xs ys))∧w' = w:=by
  obtain ⟨p,cp,rfl,hx⟩:=hx
  obtain ⟨q,cq,rfl,hy⟩:=hy
  have HX:=Lib.hid hx
  have HY:=Lib.hid hy
  clear hx hy
  obtain ⟨z,hz⟩:∃ z,z = cmpL xs ys:=⟨_,rfl⟩
  rw [← hz]
  have HZ:=Lib.hid hz
  clear hz
  go_enter Try.func82,Try.ntmps82
  go_wp2
  go_loop [11] (fun i=>∃ k:Nat,k ≤ xs.length∧i = .int .i64 k∧cmpL (xs.drop k) (ys.drop k) = z) (fun i=>xs.length - (intOf i).toNat)
  case atStart=>exact ⟨0,by omega,rfl,HZ.out.symm⟩
  case round =>
    obtain ⟨k,hk,rfl,hc⟩:=hrel
    have HC:=Lib.hid hc
    clear hc
    by_cases c1:k < xs.length
    · obtain ⟨b,off,rfl,g1⟩:=HX.out k c1
      by_cases c2:k < ys.length
      · obtain ⟨b2,off2,rfl,g2⟩:=HY.out k c2
        have e1:=cmp_step HC.out c1 c2
        have e2:=cmp_ne HC.out c1 c2
        generalize xs.getD k 0 = x at g1 e1 e2
        generalize ys.getD k 0 = y at g2 e1 e2
        have h1:=cmp103 x y w
        generalize cmpI x y = r at h1 e1 e2
        by_cases c3:r = 0
        · have HS:=Lib.hid (e1 (by rw [Classical.not_not];exact c3))
          subst c3
          clear e1 e2
          go_wp2_with (go_at_call 103;refine h1.mono ?_;rintro e w' ⟨rfl,rfl⟩)
          go_round
          case rel=>exact ⟨k + 1,by omega,by go_num,HS.out⟩
          case measure=>simp [intOf];omega
        · have HN:=Lib.hid (e2 c3)
          clear e1 e2
          go_wp2_with (go_at_call 103;refine h1.mono ?_;rintro e w' ⟨rfl,rfl⟩)
          go_ret
          rw [HN.out]
          exact ⟨rfl,rfl⟩
      · have HN:=Lib.hid (cmp_long HC.out c1 (by omega))
        go_wp2
        go_ret
        rw [HN.out]
        exact ⟨rfl,rfl⟩
    · by_cases c2:k < ys.length
      · have HN:=Lib.hid (cmp_short HC.out (by omega) c2)
        have c4:xs.length < ys.length:=by omega
        go_wp2
        go_ret
        rw [HN.out]
        exact ⟨rfl,rfl⟩
      · have HN:=Lib.hid (cmp_same HC.out (by omega) (by omega))
        have c4:¬ xs.length < ys.length:=by omega
        go_wp2
        go_ret
        rw [HN.out]
        exact ⟨rfl,rfl⟩
theorem row_at {σ:GW} {xs:List Int} {v:Value} (h:(Ty.ints xs).has σ v):RowAt σ.w v xs∧xs.length ≤ 9223372036854775807:=by
  obtain ⟨a,cap,b,o,rfl,⟨hn,hl⟩,_,hs,hc⟩:=h
  refine ⟨⟨a,cap,rfl,fun i hi=>?_⟩,by omega⟩
  have hne:xs.map Ty.int ≠ []:=by intro e;rw [List.map_eq_nil_iff] at e;subst e;simp at hi
  obtain ⟨rfl,_⟩:=hs.resolve_left hne
  refine ⟨b,o,rfl,?_⟩
  obtain ⟨u,hu,hT⟩:=hc i (Ty.int (xs.getD i 0)) (by simp [hi])
  rw [hu,show u = .int .i64 (xs.getD i 0) from hT]
theorem cmpG (σ:GW) (u w:Value) (xs ys:List Int) (h1:(Ty.ints xs).has σ u) (h2:(Ty.ints ys).has σ w):Calls Try.prog 82 #[u,w] σ.w fun e w'=>e = .returned (.int .i64 (cmpL xs ys))∧w' = σ.w :=
  cmp82 u w xs ys σ.w (row_at h1).1 (row_at h2).1 (row_at h1).2 (row_at h2).2
end Go.Proofs.Ytkjifbgofckfeaa
