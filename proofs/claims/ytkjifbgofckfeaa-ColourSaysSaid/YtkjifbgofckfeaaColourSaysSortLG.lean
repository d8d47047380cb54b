/- slices.SortFunc at rows of lists: the numbers of the library's functions here. -/
import Derived.Shelf.SlSortCmp.NoneTotal
import Derived.Ground.SlsfProg
import Derived.Test.YtkjifbgofckfeaaProg
namespace Go.Proofs.Ytkjifbgofckfeaa
open Go.Shelf Go.RowKit Go.Sort Go.Lib
def sortL_ren:Go.Shelf.Ren:=⟨fun | 6=>98 | 15=>108 | 14=>110 | 28=>125 | 29=>126 | 20=>127 | 21=>128 | 22=>129 | 23=>130 | 24=>131 | 25=>132 | 26=>133 | 27=>134 | 46=>143 | 47=>139 | 48=>140 | 49=>144 | 50=>145 | 57=>148 | n=>n,fun | 22=>24 | 24=>22 | 25=>119 | 3=>3 | 39=>137 | 0=>0 | 53=>155 | 55=>157 | 4=>4 | 46=>149 | 45=>148 | 50=>104 | 5=>5 | 9=>9 | 66=>164 | 70=>168 | 76=>173 | 77=>174 | n=>n,fun | n=>n⟩
theorem sortL:Go.Proofs.SlLaysF.n6 Try.prog sortL_ren:={
  mixed:=by kernel_rfl
  f6:=⟨Try.f98.name,by decide,Try.func98.trans (congrArg some (by kernel_rfl))⟩
  f14:=⟨Try.f110.name,by decide,Try.func110.trans (congrArg some (by kernel_rfl))⟩
  f15:=Try.func108.trans (congrArg some (by kernel_rfl))
  f20:=⟨Try.f127.name,by decide,Try.func127.trans (congrArg some (by kernel_rfl))⟩
  f21:=⟨Try.f128.name,by decide,Try.func128.trans (congrArg some (by kernel_rfl))⟩
  f22:=⟨Try.f129.name,by decide,Try.func129.trans (congrArg some (by kernel_rfl))⟩
  f23:=⟨Try.f130.name,by decide,Try.func130.trans (congrArg some (by kernel_rfl))⟩
  f24:=⟨Try.f131.name,by decide,Try.func131.trans (congrArg some (by kernel_rfl))⟩
  f25:=⟨Try.f132.name,by decide,Try.func132.trans (congrArg some (by kernel_rfl))⟩
  f26:=⟨Try.f133.name,by decide,Try.func133.trans (congrArg some (by kernel_rfl))⟩
  f27:=⟨Try.f134.name,by decide,Try.func134.trans (congrArg some (by kernel_rfl))⟩
  f28:=Try.func125.trans (congrArg some (by kernel_rfl))
  f29:=Try.func126.trans (congrArg some (by kernel_rfl))
  f46:=⟨Try.f143.name,by decide,Try.func143.trans (congrArg some (by kernel_rfl))⟩
  f47:=Try.func139.trans (congrArg some (by kernel_rfl))
  f48:=Try.func140.trans (congrArg some (by kernel_rfl))
  f49:=⟨Try.f144.name,by decide,Try.func144.trans (congrArg some (by kernel_rfl))⟩
  f50:=⟨Try.f145.name,by decide,Try.func145.trans (congrArg some (by kernel_rfl))⟩
  f57:=⟨Try.f148.name,by decide,Try.func148.trans (congrArg some (by kernel_rfl))⟩
  t0:=Try.underlying0
  a0:=Try.isAgg0
  z0:=Try.sizeOf0
  v0:=Try.zeroValue0
  t3:=Try.underlying3
  a3:=Try.isAgg3
  z3:=Try.sizeOf3
  v3:=Try.zeroValue3
  t4:=Try.underlying4
  a4:=Try.isAgg4
  z4:=Try.sizeOf4
  v4:=Try.zeroValue4
  t5:=Try.underlying5
  a5:=Try.isAgg5
  z5:=Try.sizeOf5
  v5:=Try.zeroValue5
  t9:=Try.underlying9
  a9:=Try.isAgg9
  z9:=Try.sizeOf9
  v9:=Try.zeroValue9
  t22:=Try.underlying24
  a22:=Try.isAgg24
  z22:=Try.sizeOf24
  v22:=Try.zeroValue24
  a24:=Try.isAgg22
  z24:=Try.sizeOf22
  t25:=Try.underlying119
  a25:=Try.isAgg119
  z25:=Try.sizeOf119
  v25:=Try.zeroValue119
  t39:=Try.underlying137
  a39:=Try.isAgg137
  z39:=Try.sizeOf137
  v39:=Try.zeroValue137
  t45:=Try.underlying148
  a45:=Try.isAgg148
  z45:=Try.sizeOf148
  v45:=Try.zeroValue148
  t46:=Try.underlying149
  a46:=Try.isAgg149
  z46:=Try.sizeOf149
  v46:=Try.zeroValue149
  t50:=Try.underlying104
  a50:=Try.isAgg104
  z50:=Try.sizeOf104
  v50:=Try.zeroValue104
  t53:=Try.underlying155
  a53:=Try.isAgg155
  z53:=Try.sizeOf155
  v53:=Try.zeroValue155
  t55:=Try.underlying157
  a55:=Try.isAgg157
  z55:=Try.sizeOf157
  v55:=Try.zeroValue157
  t66:=Try.underlying164
  a66:=Try.isAgg164
  z66:=Try.sizeOf164
  v66:=Try.zeroValue164
  t70:=Try.underlying168
  a70:=Try.isAgg168
  z70:=Try.sizeOf168
  v70:=Try.zeroValue168
  t76:=Try.underlying173
  a76:=Try.isAgg173
  z76:=Try.sizeOf173
  v76:=Try.zeroValue173
  t77:=Try.underlying174
  a77:=Try.isAgg174
  z77:=Try.sizeOf174
  v77:=Try.zeroValue174 }
theorem sort_all (α:Type) [Inhabited α] (enc:α → Value) (h1:OneCell enc) (cf:α → α → Int) (hO:SWO (ltOf cf)) (blk off cap:Nat) (d:Array α) (w:World) (hc:CmpLays1 Try.prog 82 #[] enc cf blk off d.size w) (hH:Holds enc w blk off d) (hb:blk < w.heap.size) (hs:d.size < 4611686018427387904) :
    Calls Try.prog 98 #[.slice (some ⟨blk,off,none⟩) d.size cap,.func (.func 82) #[] #[]] w fun e w'=>e = .returned (.tuple #[])∧∃ d' n os,PermIn 0 d.size d d'∧SortedIn (ltOf cf) 0 d.size d'∧w' = sortWorld enc w blk off n d' os :=
  Any.slices_SortFunc sortL enc h1 cf hO 82 #[] blk off cap d w (enters_of Try.func82 (by kernel_rfl) rfl) hc hH hb hs
theorem sort_nil (p:Option Addr) (cap:Nat) (fv:Value) (w:World):Calls Try.prog 98 #[.slice p 0 cap,fv] w fun e w'=>e = .returned (.tuple #[])∧w' = w :=
  AnyF.slices_SortFunc_none (P:=Try.prog) (ρ:=sortL_ren) { sortL with } p cap fv w
end Go.Proofs.Ytkjifbgofckfeaa
