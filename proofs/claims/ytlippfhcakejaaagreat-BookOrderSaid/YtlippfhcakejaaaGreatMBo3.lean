/- Side texts. -/
import Derived.Test.YtlippfhcakejaaaGreatProg
import Derived.Shelf.SlGeneric
import Derived.Shelf.SlLaysF0
import Derived.Ground.SlsfProg
import Derived.Shelf.SlSortCmp.WholeK
import Derived.Shelf.SlSortCmp.NoneTotal
import Derived.StillTactics
import Derived.RegionTactic
import Derived.Test.YtlippfhcakejaaaGreatMBo2
set_option linter.unusedVariables false
set_option linter.unusedSimpArgs false
namespace Go.Proofs
open Go.Shelf
def Tryz.pdq84_ren : Go.Shelf.Ren:=⟨fun | 14=>84 | 20=>97 | 21=>98 | 22=>99 | 23=>100 | 24=>101 | 25=>102 | 26=>103 | 27=>104 | 46=>125 | 47=>126 | 48=>127 | 49=>128 | 50=>129 | 15=>85 | 57=>145 | 28=>105 | 29=>106 | n=>n,fun | 24=>34 | 22=>22 | 3=>3 | 25=>91 | 4=>4 | 0=>0 | 46=>125 | 45=>124 | 50=>101 | 66=>146 | 39=>112 | 55=>29 | 70=>150 | 76=>162 | 77=>163 | 53=>131 | 5=>5 | 9=>9 | n=>n,fun | n=>n⟩
theorem Tryz.pdq84 : Go.Proofs.SlLaysF0.n14 Tryz.prog Tryz.pdq84_ren:={
 mixed:=by kernel_rfl
 f14:=⟨Tryz.f84.name,by decide,Tryz.func84.trans (congrArg some (by kernel_rfl))⟩
 f15:=Tryz.func85.trans (congrArg some (by kernel_rfl))
 f20:=⟨Tryz.f97.name,by decide,Tryz.func97.trans (congrArg some (by kernel_rfl))⟩
 f21:=⟨Tryz.f98.name,by decide,Tryz.func98.trans (congrArg some (by kernel_rfl))⟩
 f22:=⟨Tryz.f99.name,by decide,Tryz.func99.trans (congrArg some (by kernel_rfl))⟩
 f23:=⟨Tryz.f100.name,by decide,Tryz.func100.trans (congrArg some (by kernel_rfl))⟩
 f24:=⟨Tryz.f101.name,by decide,Tryz.func101.trans (congrArg some (by kernel_rfl))⟩
 f25:=⟨Tryz.f102.name,by decide,Tryz.func102.trans (congrArg some (by kernel_rfl))⟩
 f26:=⟨Tryz.f103.name,by decide,Tryz.func103.trans (congrArg some (by kernel_rfl))⟩
 f27:=⟨Tryz.f104.name,by decide,Tryz.func104.trans (congrArg some (by kernel_rfl))⟩
 f28:=Tryz.func105.trans (congrArg some (by kernel_rfl))
 f29:=Tryz.func106.trans (congrArg some (by kernel_rfl))
 f46:=⟨Tryz.f125.name,by decide,Tryz.func125.trans (congrArg some (by kernel_rfl))⟩
 f47:=Tryz.func126.trans (congrArg some (by kernel_rfl))
 f48:=Tryz.func127.trans (congrArg some (by kernel_rfl))
 f49:=⟨Tryz.f128.name,by decide,Tryz.func128.trans (congrArg some (by kernel_rfl))⟩
 f50:=⟨Tryz.f129.name,by decide,Tryz.func129.trans (congrArg some (by kernel_rfl))⟩
 f57:=⟨Tryz.f145.name,by decide,Tryz.func145.trans (congrArg some (by kernel_rfl))⟩
 t0:=Tryz.underlying0
 a0:=Tryz.isAgg0
 z0:=Tryz.sizeOf0
 v0:=Tryz.zeroValue0
 t3:=Tryz.underlying3
 a3:=Tryz.isAgg3
 z3:=Tryz.sizeOf3
 v3:=Tryz.zeroValue3
 t4:=Tryz.underlying4
 a4:=Tryz.isAgg4
 z4:=Tryz.sizeOf4
 v4:=Tryz.zeroValue4
 t5:=Tryz.underlying5
 a5:=Tryz.isAgg5
 z5:=Tryz.sizeOf5
 v5:=Tryz.zeroValue5
 t9:=Tryz.underlying9
 a9:=Tryz.isAgg9
 z9:=Tryz.sizeOf9
 v9:=Tryz.zeroValue9
 t22:=Tryz.underlying22
 a22:=Tryz.isAgg22
 z22:=Tryz.sizeOf22
 v22:=Tryz.zeroValue22
 t25:=Tryz.underlying91
 a25:=Tryz.isAgg91
 z25:=Tryz.sizeOf91
 v25:=Tryz.zeroValue91
 t39:=Tryz.underlying112
 a39:=Tryz.isAgg112
 z39:=Tryz.sizeOf112
 v39:=Tryz.zeroValue112
 t45:=Tryz.underlying124
 a45:=Tryz.isAgg124
 z45:=Tryz.sizeOf124
 v45:=Tryz.zeroValue124
 t46:=Tryz.underlying125
 a46:=Tryz.isAgg125
 z46:=Tryz.sizeOf125
 v46:=Tryz.zeroValue125
 t50:=Tryz.underlying101
 a50:=Tryz.isAgg101
 z50:=Tryz.sizeOf101
 v50:=Tryz.zeroValue101
 t53:=Tryz.underlying131
 a53:=Tryz.isAgg131
 z53:=Tryz.sizeOf131
 v53:=Tryz.zeroValue131
 t55:=Tryz.underlying29
 a55:=Tryz.isAgg29
 z55:=Tryz.sizeOf29
 v55:=Tryz.zeroValue29
 t66:=Tryz.underlying146
 a66:=Tryz.isAgg146
 z66:=Tryz.sizeOf146
 v66:=Tryz.zeroValue146
 t70:=Tryz.underlying150
 a70:=Tryz.isAgg150
 z70:=Tryz.sizeOf150
 v70:=Tryz.zeroValue150
 t76:=Tryz.underlying162
 a76:=Tryz.isAgg162
 z76:=Tryz.sizeOf162
 v76:=Tryz.zeroValue162
 t77:=Tryz.underlying163
 a77:=Tryz.isAgg163
 z77:=Tryz.sizeOf163
 v77:=Tryz.zeroValue163 }
def Tryz.pdq94_ren : Go.Shelf.Ren:=⟨fun | 14=>94 | 20=>109 | 21=>110 | 22=>111 | 23=>112 | 24=>113 | 25=>114 | 26=>115 | 27=>116 | 46=>139 | 47=>126 | 48=>127 | 49=>140 | 50=>141 | 15=>85 | 57=>149 | 28=>105 | 29=>106 | n=>n,fun | 24=>31 | 22=>32 | 3=>3 | 25=>82 | 4=>4 | 0=>0 | 46=>125 | 45=>124 | 50=>101 | 66=>146 | 39=>112 | 55=>29 | 70=>150 | 76=>162 | 77=>163 | 53=>131 | 5=>5 | 9=>9 | n=>n,fun | n=>n⟩
theorem Tryz.pdq94 : Go.Proofs.SlLaysF0.n14 Tryz.prog Tryz.pdq94_ren:={
 mixed:=by kernel_rfl
 f14:=⟨Tryz.f94.name,by decide,Tryz.func94.trans (congrArg some (by kernel_rfl))⟩
 f15:=Tryz.func85.trans (congrArg some (by kernel_rfl))
 f20:=⟨Tryz.f109.name,by decide,Tryz.func109.trans (congrArg some (by kernel_rfl))⟩
 f21:=⟨Tryz.f110.name,by decide,Tryz.func110.trans (congrArg some (by kernel_rfl))⟩
 f22:=⟨Tryz.f111.name,by decide,Tryz.func111.trans (congrArg some (by kernel_rfl))⟩
 f23:=⟨Tryz.f112.name,by decide,Tryz.func112.trans (congrArg some (by kernel_rfl))⟩
 f24:=⟨Tryz.f113.name,by decide,Tryz.func113.trans (congrArg some (by kernel_rfl))⟩
 f25:=⟨Tryz.f114.name,by decide,Tryz.func114.trans (congrArg some (by kernel_rfl))⟩
 f26:=⟨Tryz.f115.name,by decide,Tryz.func115.trans (congrArg some (by kernel_rfl))⟩
 f27:=⟨Tryz.f116.name,by decide,Tryz.func116.trans (congrArg some (by kernel_rfl))⟩
 f28:=Tryz.func105.trans (congrArg some (by kernel_rfl))
 f29:=Tryz.func106.trans (congrArg some (by kernel_rfl))
 f46:=⟨Tryz.f139.name,by decide,Tryz.func139.trans (congrArg some (by kernel_rfl))⟩
 f47:=Tryz.func126.trans (congrArg some (by kernel_rfl))
 f48:=Tryz.func127.trans (congrArg some (by kernel_rfl))
 f49:=⟨Tryz.f140.name,by decide,Tryz.func140.trans (congrArg some (by kernel_rfl))⟩
 f50:=⟨Tryz.f141.name,by decide,Tryz.func141.trans (congrArg some (by kernel_rfl))⟩
 f57:=⟨Tryz.f149.name,by decide,Tryz.func149.trans (congrArg some (by kernel_rfl))⟩
 t0:=Tryz.underlying0
 a0:=Tryz.isAgg0
 z0:=Tryz.sizeOf0
 v0:=Tryz.zeroValue0
 t3:=Tryz.underlying3
 a3:=Tryz.isAgg3
 z3:=Tryz.sizeOf3
 v3:=Tryz.zeroValue3
 t4:=Tryz.underlying4
 a4:=Tryz.isAgg4
 z4:=Tryz.sizeOf4
 v4:=Tryz.zeroValue4
 t5:=Tryz.underlying5
 a5:=Tryz.isAgg5
 z5:=Tryz.sizeOf5
 v5:=Tryz.zeroValue5
 t9:=Tryz.underlying9
 a9:=Tryz.isAgg9
 z9:=Tryz.sizeOf9
 v9:=Tryz.zeroValue9
 t22:=Tryz.underlying32
 a22:=Tryz.isAgg32
 z22:=Tryz.sizeOf32
 v22:=Tryz.zeroValue32
 t25:=Tryz.underlying82
 a25:=Tryz.isAgg82
 z25:=Tryz.sizeOf82
 v25:=Tryz.zeroValue82
 t39:=Tryz.underlying112
 a39:=Tryz.isAgg112
 z39:=Tryz.sizeOf112
 v39:=Tryz.zeroValue112
 t45:=Tryz.underlying124
 a45:=Tryz.isAgg124
 z45:=Tryz.sizeOf124
 v45:=Tryz.zeroValue124
 t46:=Tryz.underlying125
 a46:=Tryz.isAgg125
 z46:=Tryz.sizeOf125
 v46:=Tryz.zeroValue125
 t50:=Tryz.underlying101
 a50:=Tryz.isAgg101
 z50:=Tryz.sizeOf101
 v50:=Tryz.zeroValue101
 t53:=Tryz.underlying131
 a53:=Tryz.isAgg131
 z53:=Tryz.sizeOf131
 v53:=Tryz.zeroValue131
 t55:=Tryz.underlying29
 a55:=Tryz.isAgg29
 z55:=Tryz.sizeOf29
 v55:=Tryz.zeroValue29
 t66:=Tryz.underlying146
 a66:=Tryz.isAgg146
 z66:=Tryz.sizeOf146
 v66:=Tryz.zeroValue146
 t70:=Tryz.underlying150
 a70:=Tryz.isAgg150
 z70:=Tryz.sizeOf150
 v70:=Tryz.zeroValue150
 t76:=Tryz.underlying162
 a76:=Tryz.isAgg162
 z76:=Tryz.sizeOf162
 v76:=Tryz.zeroValue162
 t77:=Tryz.underlying163
 a77:=Tryz.isAgg163
 z77:=Tryz.sizeOf163
 v77:=Tryz.zeroValue163 }
def Tryz.pdq95_ren : Go.Shelf.Ren:=⟨fun | 14=>95 | 20=>117 | 21=>118 | 22=>119 | 23=>120 | 24=>121 | 25=>122 | 26=>123 | 27=>124 | 46=>142 | 47=>126 | 48=>127 | 49=>143 | 50=>144 | 15=>85 | 57=>150 | 28=>105 | 29=>106 | n=>n,fun | 24=>63 | 22=>41 | 3=>3 | 25=>109 | 4=>4 | 0=>0 | 46=>125 | 45=>124 | 50=>101 | 66=>146 | 39=>112 | 55=>29 | 70=>150 | 76=>162 | 77=>163 | 53=>131 | 5=>5 | 9=>9 | n=>n,fun | n=>n⟩
theorem Tryz.pdq95 : Go.Proofs.SlLaysF0.n14 Tryz.prog Tryz.pdq95_ren:={
 mixed:=by kernel_rfl
 f14:=⟨Tryz.f95.name,by decide,Tryz.func95.trans (congrArg some (by kernel_rfl))⟩
 f15:=Tryz.func85.trans (congrArg some (by kernel_rfl))
 f20:=⟨Tryz.f117.name,by decide,Tryz.func117.trans (congrArg some (by kernel_rfl))⟩
 f21:=⟨Tryz.f118.name,by decide,Tryz.func118.trans (congrArg some (by kernel_rfl))⟩
 f22:=⟨Tryz.f119.name,by decide,Tryz.func119.trans (congrArg some (by kernel_rfl))⟩
 f23:=⟨Tryz.f120.name,by decide,Tryz.func120.trans (congrArg some (by kernel_rfl))⟩
 f24:=⟨Tryz.f121.name,by decide,Tryz.func121.trans (congrArg some (by kernel_rfl))⟩
 f25:=⟨Tryz.f122.name,by decide,Tryz.func122.trans (congrArg some (by kernel_rfl))⟩
 f26:=⟨Tryz.f123.name,by decide,Tryz.func123.trans (congrArg some (by kernel_rfl))⟩
 f27:=⟨Tryz.f124.name,by decide,Tryz.func124.trans (congrArg some (by kernel_rfl))⟩
 f28:=Tryz.func105.trans (congrArg some (by kernel_rfl))
 f29:=Tryz.func106.trans (congrArg some (by kernel_rfl))
 f46:=⟨Tryz.f142.name,by decide,Tryz.func142.trans (congrArg some (by kernel_rfl))⟩
 f47:=Tryz.func126.trans (congrArg some (by kernel_rfl))
 f48:=Tryz.func127.trans (congrArg some (by kernel_rfl))
 f49:=⟨Tryz.f143.name,by decide,Tryz.func143.trans (congrArg some (by kernel_rfl))⟩
 f50:=⟨Tryz.f144.name,by decide,Tryz.func144.trans (congrArg some (by kernel_rfl))⟩
 f57:=⟨Tryz.f150.name,by decide,Tryz.func150.trans (congrArg some (by kernel_rfl))⟩
 t0:=Tryz.underlying0
 a0:=Tryz.isAgg0
 z0:=Tryz.sizeOf0
 v0:=Tryz.zeroValue0
 t3:=Tryz.underlying3
 a3:=Tryz.isAgg3
 z3:=Tryz.sizeOf3
 v3:=Tryz.zeroValue3
 t4:=Tryz.underlying4
 a4:=Tryz.isAgg4
 z4:=Tryz.sizeOf4
 v4:=Tryz.zeroValue4
 t5:=Tryz.underlying5
 a5:=Tryz.isAgg5
 z5:=Tryz.sizeOf5
 v5:=Tryz.zeroValue5
 t9:=Tryz.underlying9
 a9:=Tryz.isAgg9
 z9:=Tryz.sizeOf9
 v9:=Tryz.zeroValue9
 t22:=Tryz.underlying41
 a22:=Tryz.isAgg41
 z22:=Tryz.sizeOf41
 v22:=Tryz.zeroValue41
 t25:=Tryz.underlying109
 a25:=Tryz.isAgg109
 z25:=Tryz.sizeOf109
 v25:=Tryz.zeroValue109
 t39:=Tryz.underlying112
 a39:=Tryz.isAgg112
 z39:=Tryz.sizeOf112
 v39:=Tryz.zeroValue112
 t45:=Tryz.underlying124
 a45:=Tryz.isAgg124
 z45:=Tryz.sizeOf124
 v45:=Tryz.zeroValue124
 t46:=Tryz.underlying125
 a46:=Tryz.isAgg125
 z46:=Tryz.sizeOf125
 v46:=Tryz.zeroValue125
 t50:=Tryz.underlying101
 a50:=Tryz.isAgg101
 z50:=Tryz.sizeOf101
 v50:=Tryz.zeroValue101
 t53:=Tryz.underlying131
 a53:=Tryz.isAgg131
 z53:=Tryz.sizeOf131
 v53:=Tryz.zeroValue131
 t55:=Tryz.underlying29
 a55:=Tryz.isAgg29
 z55:=Tryz.sizeOf29
 v55:=Tryz.zeroValue29
 t66:=Tryz.underlying146
 a66:=Tryz.isAgg146
 z66:=Tryz.sizeOf146
 v66:=Tryz.zeroValue146
 t70:=Tryz.underlying150
 a70:=Tryz.isAgg150
 z70:=Tryz.sizeOf150
 v70:=Tryz.zeroValue150
 t76:=Tryz.underlying162
 a76:=Tryz.isAgg162
 z76:=Tryz.sizeOf162
 v76:=Tryz.zeroValue162
 t77:=Tryz.underlying163
 a77:=Tryz.isAgg163
 z77:=Tryz.sizeOf163
 v77:=Tryz.zeroValue163 }
def Tryz.pdq108_ren : Go.Shelf.Ren:=⟨fun | 14=>108 | 20=>131 | 21=>132 | 22=>133 | 23=>134 | 24=>135 | 25=>136 | 26=>137 | 27=>138 | 46=>146 | 47=>126 | 48=>127 | 49=>147 | 50=>148 | 15=>85 | 57=>151 | 28=>105 | 29=>106 | n=>n,fun | 24=>79 | 22=>61 | 3=>3 | 25=>116 | 4=>4 | 0=>0 | 46=>125 | 45=>124 | 50=>101 | 66=>146 | 39=>112 | 55=>29 | 70=>150 | 76=>162 | 77=>163 | 53=>131 | 5=>5 | 9=>9 | n=>n,fun | n=>n⟩
theorem Tryz.pdq108 : Go.Proofs.SlLaysF0.n14 Tryz.prog Tryz.pdq108_ren:={
 mixed:=by kernel_rfl
 f14:=⟨Tryz.f108.name,by decide,Tryz.func108.trans (congrArg some (by kernel_rfl))⟩
 f15:=Tryz.func85.trans (congrArg some (by kernel_rfl))
 f20:=⟨Tryz.f131.name,by decide,Tryz.func131.trans (congrArg some (by kernel_rfl))⟩
 f21:=⟨Tryz.f132.name,by decide,Tryz.func132.trans (congrArg some (by kernel_rfl))⟩
 f22:=⟨Tryz.f133.name,by decide,Tryz.func133.trans (congrArg some (by kernel_rfl))⟩
 f23:=⟨Tryz.f134.name,by decide,Tryz.func134.trans (congrArg some (by kernel_rfl))⟩
 f24:=⟨Tryz.f135.name,by decide,Tryz.func135.trans (congrArg some (by kernel_rfl))⟩
 f25:=⟨Tryz.f136.name,by decide,Tryz.func136.trans (congrArg some (by kernel_rfl))⟩
 f26:=⟨Tryz.f137.name,by decide,Tryz.func137.trans (congrArg some (by kernel_rfl))⟩
 f27:=⟨Tryz.f138.name,by decide,Tryz.func138.trans (congrArg some (by kernel_rfl))⟩
 f28:=Tryz.func105.trans (congrArg some (by kernel_rfl))
 f29:=Tryz.func106.trans (congrArg some (by kernel_rfl))
 f46:=⟨Tryz.f146.name,by decide,Tryz.func146.trans (congrArg some (by kernel_rfl))⟩
 f47:=Tryz.func126.trans (congrArg some (by kernel_rfl))
 f48:=Tryz.func127.trans (congrArg some (by kernel_rfl))
 f49:=⟨Tryz.f147.name,by decide,Tryz.func147.trans (congrArg some (by kernel_rfl))⟩
 f50:=⟨Tryz.f148.name,by decide,Tryz.func148.trans (congrArg some (by kernel_rfl))⟩
 f57:=⟨Tryz.f151.name,by decide,Tryz.func151.trans (congrArg some (by kernel_rfl))⟩
 t0:=Tryz.underlying0
 a0:=Tryz.isAgg0
 z0:=Tryz.sizeOf0
 v0:=Tryz.zeroValue0
 t3:=Tryz.underlying3
 a3:=Tryz.isAgg3
 z3:=Tryz.sizeOf3
 v3:=Tryz.zeroValue3
 t4:=Tryz.underlying4
 a4:=Tryz.isAgg4
 z4:=Tryz.sizeOf4
 v4:=Tryz.zeroValue4
 t5:=Tryz.underlying5
 a5:=Tryz.isAgg5
 z5:=Tryz.sizeOf5
 v5:=Tryz.zeroValue5
 t9:=Tryz.underlying9
 a9:=Tryz.isAgg9
 z9:=Tryz.sizeOf9
 v9:=Tryz.zeroValue9
 t22:=Tryz.underlying61
 a22:=Tryz.isAgg61
 z22:=Tryz.sizeOf61
 v22:=Tryz.zeroValue61
 t25:=Tryz.underlying116
 a25:=Tryz.isAgg116
 z25:=Tryz.sizeOf116
 v25:=Tryz.zeroValue116
 t39:=Tryz.underlying112
 a39:=Tryz.isAgg112
 z39:=Tryz.sizeOf112
 v39:=Tryz.zeroValue112
 t45:=Tryz.underlying124
 a45:=Tryz.isAgg124
 z45:=Tryz.sizeOf124
 v45:=Tryz.zeroValue124
 t46:=Tryz.underlying125
 a46:=Tryz.isAgg125
 z46:=Tryz.sizeOf125
 v46:=Tryz.zeroValue125
 t50:=Tryz.underlying101
 a50:=Tryz.isAgg101
 z50:=Tryz.sizeOf101
 v50:=Tryz.zeroValue101
 t53:=Tryz.underlying131
 a53:=Tryz.isAgg131
 z53:=Tryz.sizeOf131
 v53:=Tryz.zeroValue131
 t55:=Tryz.underlying29
 a55:=Tryz.isAgg29
 z55:=Tryz.sizeOf29
 v55:=Tryz.zeroValue29
 t66:=Tryz.underlying146
 a66:=Tryz.isAgg146
 z66:=Tryz.sizeOf146
 v66:=Tryz.zeroValue146
 t70:=Tryz.underlying150
 a70:=Tryz.isAgg150
 z70:=Tryz.sizeOf150
 v70:=Tryz.zeroValue150
 t76:=Tryz.underlying162
 a76:=Tryz.isAgg162
 z76:=Tryz.sizeOf162
 v76:=Tryz.zeroValue162
 t77:=Tryz.underlying163
 a77:=Tryz.isAgg163
 z77:=Tryz.sizeOf163
 v77:=Tryz.zeroValue163 }
def Tryz.bits85_ren : Go.Shelf.Ren:=⟨fun | 15=>85 | 28=>105 | 29=>106 | n=>n,fun | 39=>112 | 3=>3 | 53=>131 | 55=>29 | 4=>4 | 5=>5 | 9=>9 | n=>n,fun | n=>n⟩
theorem Tryz.bits85 : Go.Proofs.SlLaysF0.n15 Tryz.prog Tryz.bits85_ren:={
 mixed:=by kernel_rfl
 f15:=Tryz.func85.trans (congrArg some (by kernel_rfl))
 f28:=Tryz.func105.trans (congrArg some (by kernel_rfl))
 f29:=Tryz.func106.trans (congrArg some (by kernel_rfl))
 t3:=Tryz.underlying3
 a3:=Tryz.isAgg3
 z3:=Tryz.sizeOf3
 v3:=Tryz.zeroValue3
 t4:=Tryz.underlying4
 a4:=Tryz.isAgg4
 z4:=Tryz.sizeOf4
 v4:=Tryz.zeroValue4
 t5:=Tryz.underlying5
 a5:=Tryz.isAgg5
 z5:=Tryz.sizeOf5
 v5:=Tryz.zeroValue5
 t9:=Tryz.underlying9
 a9:=Tryz.isAgg9
 z9:=Tryz.sizeOf9
 v9:=Tryz.zeroValue9
 t39:=Tryz.underlying112
 a39:=Tryz.isAgg112
 z39:=Tryz.sizeOf112
 v39:=Tryz.zeroValue112
 t53:=Tryz.underlying131
 a53:=Tryz.isAgg131
 z53:=Tryz.sizeOf131
 v53:=Tryz.zeroValue131
 t55:=Tryz.underlying29
 a55:=Tryz.isAgg29
 z55:=Tryz.sizeOf29
 v55:=Tryz.zeroValue29 }
end Go.Proofs

namespace Go.Ep
open Go.Shelf Go.RowKit Go.Lib Go.Sort Go.Proofs

theorem SortLaw.of {α:Type} [Inhabited α] {P:Program} {f g:FuncId} {k:Nat} {enc:α -> List Value} {lt:α -> α -> Bool} {cf:α -> α -> Int} (hO:SWO (ltOf cf)) (hlt:∀ x y,ltOf cf x y = lt x y) (hk:∀ x,(enc x).length = k)
  (hnil:∀ w:World,Calls P f #[.slice none 0 0,.func (.func g) #[] #[]] w fun e w'=>e = .returned (.tuple #[]) /\ Go.RowKit.Below w.heap.size w w')
  (hrow:∀ (blk off cap:Nat) (d:Array α) (w:World),HoldsK enc k w blk off d -> blk < w.heap.size -> d.size < 4611686018427387904 ->
   Calls P f #[.slice (some ⟨blk,off,none⟩) d.size cap,.func (.func g) #[] #[]] w fun e w'=>e = .returned (.tuple #[]) /\ ∃ n os,w' = sortWorldK enc k w blk off n (pdq (ltOf cf) d 0 d.size (Lib.bitLen d.size) true true) os):SortLaw P f g k enc lt:=by
 refine ⟨hnil,fun w blk cap l T cur hh hlc hcs hlen hcells=>?_⟩;have hblk:blk < w.heap.size:=(Array.getElem?_eq_some_iff.1 hh).1;have hH:HoldsK enc k w blk 0 l.toArray:=by
  intro j hj;rw [size_flatK] at hj;have hj':j < l.length * k:=by simpa using hj
  obtain ⟨hk0,h1,h2,h3⟩:=YL hj'
  constructor
  ·rw [Nat.zero_add,zT hh];show _ = some ((flatK enc k l.toArray)[j]!);rw [get_flatK _ _ _ _ hj];have hx:l[j / k]? = some l[j / k]:=List.getElem?_eq_getElem h1;have hlk:(enc l[j / k]).length = k:=hk _;have hu:(enc l[j / k])[j % k]? = some ((enc l[j / k])[j % k]'(by omega)):=List.getElem?_eq_getElem (by omega);have:=hcells (j / k) _ (j % k) _ hx hu;rw [h3] at this;rw [this];have e1:(l.toArray)[j / k]! = l[j / k]:=by simp [h1]
   rw [e1];simp [hu]
  ·simp [World.frozen?,hh]
 have hd:l.toArray.size = l.length:=by simp
 have hcall:=hrow blk 0 cap l.toArray w hH hblk (by simpa using hlen);rw [hd] at hcall;refine hcall.mono fun e w' ⟨he,n,os,hw⟩=>⟨he,?_⟩
 have hp:=pdq_sorts (ltOf cf) hO l.toArray 0 l.toArray.size (Lib.bitLen l.toArray.size) true true (Nat.zero_le _) (Nat.le_refl _) (Or.inl rfl);rw [hd] at hp
 generalize pdq (ltOf cf) l.toArray 0 l.length (Lib.bitLen l.length) true true = d' at hp hw
 obtain ⟨⟨hsz,_,hperm⟩,hsort⟩:=hp;have hsz':d'.size = l.length:=by simpa using hsz
 have hp':d'.toList.Perm l:=by
  have e1:(d'.extract 0 l.length).toList = d'.toList:=by rw [<- hsz'];simp
  have e2:(l.toArray.extract 0 l.length).toList = l:=by simp
  rw [e1,e2] at hperm;exact hperm
 have hmod:∀ b,b < w.heap.size -> (sortWorldK enc k w blk 0 n d' os).heap[b]? = if blk = b then (w.heap[b]?).map (onCells (putCells id 0 (flatK enc k d'))) else w.heap[b]?:=by
  intro b hb;have hb2:b < (putRowK enc k (Sort.ahead w n) blk 0 d').heap.size:=by simpa [putRowK,Sort.ahead] using hb
  show (grow (putRowK enc k (Sort.ahead w n) blk 0 d') os).heap[b]? = _;rw [Sort.heap_grow_old _ _ hb2];show ((w.heap.modify blk (onCells (putCells id 0 (flatK enc k d')))))[b]? = _;rw [Array.getElem?_modify]
 subst hw;refine ⟨d'.toList,(putCells id 0 (flatK enc k d') cur.toArray).toList,hp',?_,?_,?_,?_,rfl,rfl,rfl,?_,?_⟩
 ·rw [List.pairwise_iff_getElem];intro i j hi hj hij;have:=hsort i j (Nat.zero_le _) hij (by simpa [hsz'] using hj);rw [hlt] at this;have hi':i < d'.size:=by simpa using hi
  have hj':j < d'.size:=by simpa using hj
  simpa [hi',hj'] using this
 ·rw [hmod blk hblk,if_pos rfl,hh];simp [onCells]
 ·simp [putCells]
 ·intro i x j u hi hu;have hi':i < l.length:=by rw [<- hsz'];have:=(List.getElem?_eq_some_iff.1 hi).1;simpa using this
  have hj:j < k:=by rw [<- hk x];exact (List.getElem?_eq_some_iff.1 hu).1
  have hlt2:i * k + j < l.length * k:=vr hi' hj;have hcl:l.length * k <= cur.length:=by rw [hcs];exact Nat.mul_le_mul_right k hlc
  have hin:i * k + j < d'.size * k:=by rw [hsz'];exact hlt2
  have hget:(flatK enc k d')[i * k + j]! = u:=by
   rw [get_flatK _ _ _ _ hin];have hk0:0 < k:=by omega
   have e1:(i * k + j) / k = i:=by rw [Nat.mul_comm,Nat.mul_add_div hk0,Nat.div_eq_of_lt hj];omega
   have e2:(i * k + j) % k = j:=by rw [Nat.mul_comm,Nat.mul_add_mod,Nat.mod_eq_of_lt hj]
   rw [e1,e2];have e3:d'[i]! = x:=by
    obtain ⟨h1,h2⟩:=List.getElem?_eq_some_iff.1 hi;have h1':i < d'.size:=by simpa using h1
    rw [getElem!_pos d' i h1'];simpa using h2
   rw [e3];simp [hu]
  have hc2:i * k + j < cur.length:=by omega
  simp only [putCells,Array.toList_mapIdx,List.getElem?_mapIdx];rw [List.getElem?_eq_getElem hc2];simp only [Option.map_some,id];rw [if_pos ⟨Nat.zero_le _,by rw [size_flatK];omega⟩,Nat.sub_zero,hget]
 ·show w.heap.size <= (grow (putRowK enc k (Sort.ahead w n) blk 0 d') os).heap.size;simp [grow,putRowK,Sort.ahead]
 ·intro b hb hne;rw [hmod b hb,if_neg (Ne.symm hne)]
end Go.Ep

namespace Go.Proofs
set_option linter.unusedSimpArgs false
set_option linter.unusedVariables false
open Go.Shelf Go.RowKit Go.Lib Go.Sort Go.Ep
theorem zCa (a:Int) (W:World):Calls Tryz.prog 96 #[.int .u16 a] W fun e w'=>e = .returned (.bool false) /\ w' = W:=by
 go_enter Tryz.func96,Tryz.ntmps96
 go_wp2
 go_ret
 exact ⟨by simp,rfl⟩
theorem zDa (a b:Int) (W:World):Calls Tryz.prog 83 #[.int .u16 a,.int .u16 b] W fun e w'=>e = .returned (.int .i64 (Lib.compareInt a b)) /\ w' = W:=by
 unfold Lib.compareInt
 by_cases h1:a < b
 ·go_enter Tryz.func83,Tryz.ntmps83
  go_wp2_with (go_at_call 96;refine (zCa _ _).mono ?_;rintro e w' ⟨rfl,rfl⟩)
  go_ret
  exact ⟨by simp [h1],rfl⟩
 ·by_cases h2:b < a
  ·go_enter Tryz.func83,Tryz.ntmps83
   go_wp2_with (go_at_call 96;refine (zCa _ _).mono ?_;rintro e w' ⟨rfl,rfl⟩)
   go_ret
   exact ⟨by simp [h1,h2],rfl⟩
  ·go_enter Tryz.func83,Tryz.ntmps83
   go_wp2_with (go_at_call 96;refine (zCa _ _).mono ?_;rintro e w' ⟨rfl,rfl⟩)
   go_ret
   exact ⟨by simp [h1,h2],rfl⟩
theorem zEa (a:Int) (W:World):Calls Tryz.prog 92 #[.int .u64 a] W fun e w'=>e = .returned (.bool false) /\ w' = W:=by
 go_enter Tryz.func92,Tryz.ntmps92
 go_wp2
 go_ret
 exact ⟨by simp,rfl⟩
theorem zFa (a b:Int) (W:World):Calls Tryz.prog 76 #[.int .u64 a,.int .u64 b] W fun e w'=>e = .returned (.int .i64 (Lib.compareInt a b)) /\ w' = W:=by
 unfold Lib.compareInt
 by_cases h1:a < b
 ·go_enter Tryz.func76,Tryz.ntmps76
  go_wp2_with (go_at_call 92;refine (zEa _ _).mono ?_;rintro e w' ⟨rfl,rfl⟩)
  go_ret
  exact ⟨by simp [h1],rfl⟩
 ·by_cases h2:b < a
  ·go_enter Tryz.func76,Tryz.ntmps76
   go_wp2_with (go_at_call 92;refine (zEa _ _).mono ?_;rintro e w' ⟨rfl,rfl⟩)
   go_ret
   exact ⟨by simp [h1,h2],rfl⟩
  ·go_enter Tryz.func76,Tryz.ntmps76
   go_wp2_with (go_at_call 92;refine (zEa _ _).mono ?_;rintro e w' ⟨rfl,rfl⟩)
   go_ret
   exact ⟨by simp [h1,h2],rfl⟩
theorem zGa (W:World) (a b:Array Obj) (q:Nat):grow ((grow W a).drewN q) b = grow (W.drewN q) (a ++ b):=by
 show grow (grow (W.drewN q) a) b = _;rw [grow_grow]
def We (a b c d:Int):Int:=if Lib.compareInt a c ≠ 0 then Lib.compareInt a c else Lib.compareInt b d
theorem QE (a b c d:Int) (W:World):Calls Tryz.prog 63 #[.agg #[.int .u16 a,.int .u64 b],.agg #[.int .u16 c,.int .u64 d]] W fun e w'=>e = .returned (.int .i64 (We a b c d)) /\ ∃ q os',w' = grow (W.drewN q) os':=by
 have c1:=fun W'=>zDa a c W'
 have c2:=fun W'=>zFa b d W'
 unfold We
 generalize Lib.compareInt a c = r1 at c1 ⊢
 generalize Lib.compareInt b d = r2 at c2 ⊢
 by_cases h:r1 = 0
 ·subst h
  go_enter Tryz.func63,Tryz.ntmps63
  go_wp2_with (first | (go_at_call 83;refine (c1 _).mono ?_;rintro e w' ⟨rfl,rfl⟩) | (go_at_call 76;refine (c2 _).mono ?_;rintro e w' ⟨rfl,rfl⟩))
  go_ret
  exact ⟨by simp,0,_,by rw [alloc_eq_grow,alloc_eq_grow,grow_grow];rfl⟩
 ·go_enter Tryz.func63,Tryz.ntmps63
  go_wp2_with (first | (go_at_call 83;refine (c1 _).mono ?_;rintro e w' ⟨rfl,rfl⟩) | (go_at_call 76;refine (c2 _).mono ?_;rintro e w' ⟨rfl,rfl⟩))
  go_ret
  exact ⟨by simp [h],0,_,by rw [alloc_eq_grow,alloc_eq_grow,grow_grow];rfl⟩
structure RawTEvent where
 dot_dev_:Int
 dot_n_:Int
 c2:Value
 h2:c2.oneCell' = true
 c3:Value
 h3:c3.oneCell' = true
 c4:Value
 h4:c4.oneCell' = true
 c5:Value
 h5:c5.oneCell' = true
 c6:Value
 h6:c6.oneCell' = true
def RawTEvent.v (r:RawTEvent):List Value:=[.int .u16 r.dot_dev_,.int .u64 r.dot_n_,r.c2,r.c3,r.c4,r.c5,r.c6]
theorem RawTEvent.v1 (r:RawTEvent):∀ u ∈ r.v,u.oneCell' = true:=by
 intro u hu;simp only [RawTEvent.v,List.mem_cons,List.not_mem_nil,or_false] at hu;rcases hu with rfl | rfl | rfl | rfl | rfl | rfl | rfl
 ·rfl
 ·rfl
 ·exact r.h2
 ·exact r.h3
 ·exact r.h4
 ·exact r.h5
 ·exact r.h6
def RawTEvent.R (x:EV) (r:RawTEvent):Prop:=r.dot_dev_ = x.dot.dev /\ r.dot_n_ = x.dot.n
theorem RawTEvent.raw (w:World) (S:Nat -> Prop) (x:EV) (us:List Value) (hl:us.length = 7) (h:∀ (j:Nat) (d:DV) (u:Value),(EV.e x)[j]? = some d -> us[j]? = some u -> DRd w S d u):∃ r:RawTEvent,r.v = us /\ RawTEvent.R x r:=by
 match us,hl with
 | [u0,u1,u2,u3,u4,u5,u6],_=>
  refine ⟨⟨x.dot.dev,x.dot.n,u2,(h 2 _ u2 rfl rfl).one,u3,(h 3 _ u3 rfl rfl).one,u4,(h 4 _ u4 rfl rfl).one,u5,(h 5 _ u5 rfl rfl).one,u6,(h 6 _ u6 rfl rfl).one⟩,?_,⟨rfl,rfl⟩⟩;have e0:=h 0 _ u0 rfl rfl
  cases e0
  have e1:=h 1 _ u1 rfl rfl
  cases e1
  rfl
def cf61 (x y:RawTEvent):Int:=We x.dot_dev_ x.dot_n_ y.dot_dev_ y.dot_n_
theorem callcf61 (x y:RawTEvent) (W:World):Calls Tryz.prog 62 #[.agg #[.int .u16 x.dot_dev_,.int .u64 x.dot_n_,x.c2,x.c3,x.c4,x.c5,x.c6],.agg #[.int .u16 y.dot_dev_,.int .u64 y.dot_n_,y.c2,y.c3,y.c4,y.c5,y.c6]] W fun e w'=>e = .returned (.int .i64 (cf61 x y)) /\ ∃ q os',w' = grow (W.drewN q) os':=by
 have c1:=fun W'=>QE x.dot_dev_ x.dot_n_ y.dot_dev_ y.dot_n_ W'
 unfold cf61
 generalize We x.dot_dev_ x.dot_n_ y.dot_dev_ y.dot_n_ = r1 at c1 ⊢
 go_enter Tryz.func62,Tryz.ntmps62
 go_wp2_with (go_at_call 63;refine (c1 _).mono ?_;rintro e w' ⟨rfl,q,os',rfl⟩)
 go_ret
 exact ⟨rfl,q,_,by rw [alloc_eq_grow,alloc_eq_grow,grow_grow,zGa]⟩
theorem qA (x y:RawTEvent):ltOf cf61 x y = (fun x y:RawTEvent=>decide (x.dot_dev_ < y.dot_dev_) || (decide (x.dot_dev_ = y.dot_dev_) && decide (x.dot_n_ < y.dot_n_))) x y:=by
 unfold ltOf cf61 We Lib.compareInt ;rw [Bool.eq_iff_iff];simp only [decide_eq_true_eq,Bool.or_eq_true,Bool.and_eq_true]
 split <;> (repeat' split) <;> omega
theorem zHa : SWO (ltOf cf61) where
 irrefl x:=by rw [qA];simp []
 trans x y z h1 h2:=by rw [qA] at *;simp [] at *;omega
 ntrans x y z h1 h2:=by rw [qA] at *;simp [] at *;omega
instance inhcf61 : Inhabited RawTEvent:=⟨⟨0,0,.int .u64 0,rfl,.int .u64 0,rfl,.int .u64 0,rfl,.int .u64 0,rfl,.int .u64 0,rfl⟩⟩
theorem layscf61 (blk off size:Nat) (w:World):CmpLays Tryz.prog 62 #[] RawTEvent.v 7 cf61 blk off size w:=fun _ _ _ _ x y=>callcf61 x y _
set_option maxHeartbeats 2000000 in
set_option maxRecDepth 100000 in
theorem zIa (blk off cap:Nat) (d:Array RawTEvent) (w:World) (hH:HoldsK RawTEvent.v 7 w blk off d) (hblk:blk < w.heap.size) (hsz:d.size < 4611686018427387904) :
  Calls Tryz.prog 61 #[.slice (some ⟨blk,off,none⟩) d.size cap,.func (.func 62) #[] #[]] w fun e w'=>e = .returned (.tuple #[]) /\ ∃ n os,w' = sortWorldK RawTEvent.v 7 w blk off n (pdq (ltOf cf61) d 0 d.size (Lib.bitLen d.size) true true) os:=by
 have eg:∀ args w,(callFunc 62 args).run Tryz.prog w = .ok (.enter 62 args) w:=Tryz.call62;have e14:=Tryz.call84;have e15:=Tryz.call85;have hlim:Lib.bitLen d.size < 4611686018427387904:=Nat.lt_of_le_of_lt (Lib.bitLen_le d.size 62 (by omega) (by omega)) (by omega);have hp:=AnyQ.pdqsortCmpFunc_all Tryz.pdq84 7 Tryz.isAgg34 Tryz.sizeOf34 RawTEvent.v cf61 62 #[] zHa blk off cap d w eg (layscf61 blk off d.size w) ⟨fun _=>rfl,RawTEvent.v1,hH,hblk⟩ (d.size + 1) 0 d.size (Lib.bitLen d.size) d w (by omega) rfl (SWK.start hH) (Nat.zero_le _) (Nat.le_refl _) hsz hlim (Or.inl rfl)
 change Calls Tryz.prog 84 _ _ _ at hp
 have hl:Calls Tryz.prog 85 #[.int .u64 (d.size:Int)] w fun e w'=>e = .returned (.int .i64 (Lib.bitLen d.size:Nat)) /\ w' = w:=by
  have h:=Any.bits_Len (SlLaysF0.n15.bits Tryz.bits85) (d.size:Int) w (by omega) (by omega)
  rwa [Int.toNat_natCast] at h
 have wr:IntKind.u64.wrap (d.size:Int) = d.size:=by simp [IntKind.wrap,IntKind.bits,IntKind.signed];omega
 clear hH
 go_enter Tryz.func61,Tryz.ntmps61
 go_wp2_with (first | (go_at_call 85;refine hl.mono ?_;rintro e w' ⟨rfl,rfl⟩) | (go_at_call 84;refine hp.mono ?_;rintro e w' ⟨rfl,n,os,rfl⟩))
 go_end0
 exact ⟨rfl,n,os,rfl⟩
theorem QF (w:World):Calls Tryz.prog 61 #[.slice none 0 0,.func (.func 62) #[] #[]] w fun e w'=>e = .returned (.tuple #[]) /\ Go.RowKit.Below w.heap.size w w':=by
 have e14:=Tryz.call84;have e15:=Tryz.call85;have hp:=fun lim W=>AnyF.pdqsortCmpFunc_none Tryz.pdq84 none 0 lim (.func (.func 62) #[] #[]) W
 have hl:∀ W,Calls Tryz.prog 85 #[.int .u64 0] W fun e w'=>e = .returned (.int .i64 (Lib.bitLen 0:Nat)) /\ w' = W:=fun W=>by
  have h:=Any.bits_Len (SlLaysF0.n15.bits Tryz.bits85) 0 W (by omega) (by omega);exact h
 go_enter Tryz.func61,Tryz.ntmps61
 go_wp2_with (first | (go_at_call 85;refine (hl _).mono ?_;rintro e w' ⟨rfl,rfl⟩) | (go_at_call 84;refine (hp _ _).mono ?_;rintro e w' ⟨rfl,rfl⟩))
 go_end0
 exact ⟨rfl,Go.RowKit.Below.refl _ _⟩
theorem qB : SortLaw Tryz.prog 61 62 7 RawTEvent.v (fun x y:RawTEvent=>decide (x.dot_dev_ < y.dot_dev_) || (decide (x.dot_dev_ = y.dot_dev_) && decide (x.dot_n_ < y.dot_n_))):=SortLaw.of zHa qA (fun _=>rfl) QF (fun blk off cap d w hH hblk hsz=>zIa blk off cap d w hH hblk hsz)
theorem rlt61 (x y:EV) (r r':RawTEvent) (h1:RawTEvent.R x r) (h2:RawTEvent.R y r'):((fun x y:RawTEvent=>decide (x.dot_dev_ < y.dot_dev_) || (decide (x.dot_dev_ = y.dot_dev_) && decide (x.dot_n_ < y.dot_n_)))) r r' = uM x y:=by simp only [RawTEvent.R] at h1 h2;simp [h1,h2,uM]
def cf79 (x y:DT):Int:=if Lib.compareInt x.dev y.dev ≠ 0 then Lib.compareInt x.dev y.dev else Lib.compareInt x.n y.n
theorem callcf79 (x y:DT) (W:World):Calls Tryz.prog 63 #[.agg #[.int .u16 x.dev,.int .u64 x.n],.agg #[.int .u16 y.dev,.int .u64 y.n]] W fun e w'=>e = .returned (.int .i64 (cf79 x y)) /\ ∃ q os',w' = grow (W.drewN q) os':=by
 have c1:=fun W'=>zDa x.dev y.dev W'
 have c2:=fun W'=>zFa x.n y.n W'
 unfold cf79
 generalize Lib.compareInt x.dev y.dev = r1 at c1 ⊢
 generalize Lib.compareInt x.n y.n = r2 at c2 ⊢
 by_cases h:r1 = 0
 ·subst h
  go_enter Tryz.func63,Tryz.ntmps63
  go_wp2_with (first | (go_at_call 83;refine (c1 _).mono ?_;rintro e w' ⟨rfl,rfl⟩) | (go_at_call 76;refine (c2 _).mono ?_;rintro e w' ⟨rfl,rfl⟩))
  go_ret
  exact ⟨by simp,0,_,by rw [alloc_eq_grow,alloc_eq_grow,grow_grow];rfl⟩
 ·go_enter Tryz.func63,Tryz.ntmps63
  go_wp2_with (first | (go_at_call 83;refine (c1 _).mono ?_;rintro e w' ⟨rfl,rfl⟩) | (go_at_call 76;refine (c2 _).mono ?_;rintro e w' ⟨rfl,rfl⟩))
  go_ret
  exact ⟨by simp [h],0,_,by rw [alloc_eq_grow,alloc_eq_grow,grow_grow];rfl⟩
theorem qC (x y:DT):ltOf cf79 x y = zJ x y:=by
 unfold ltOf cf79 Lib.compareInt zJ;rw [Bool.eq_iff_iff];simp only [decide_eq_true_eq,Bool.or_eq_true,Bool.and_eq_true]
 split <;> (repeat' split) <;> omega
theorem zJa : SWO (ltOf cf79) where
 irrefl x:=by rw [qC];simp [zJ]
 trans x y z h1 h2:=by rw [qC] at *;simp [zJ] at *;omega
 ntrans x y z h1 h2:=by rw [qC] at *;simp [zJ] at *;omega
instance inhcf79 : Inhabited DT:=⟨⟨0,0⟩⟩
theorem layscf79 (blk off size:Nat) (w:World):CmpLays Tryz.prog 63 #[] DT.v 2 cf79 blk off size w:=fun _ _ _ _ x y=>callcf79 x y _
set_option maxHeartbeats 2000000 in
set_option maxRecDepth 100000 in
theorem zKa (blk off cap:Nat) (d:Array DT) (w:World) (hH:HoldsK DT.v 2 w blk off d) (hblk:blk < w.heap.size) (hsz:d.size < 4611686018427387904) :
  Calls Tryz.prog 79 #[.slice (some ⟨blk,off,none⟩) d.size cap,.func (.func 63) #[] #[]] w fun e w'=>e = .returned (.tuple #[]) /\ ∃ n os,w' = sortWorldK DT.v 2 w blk off n (pdq (ltOf cf79) d 0 d.size (Lib.bitLen d.size) true true) os:=by
 have eg:∀ args w,(callFunc 63 args).run Tryz.prog w = .ok (.enter 63 args) w:=Tryz.call63;have e14:=Tryz.call94;have e15:=Tryz.call85;have hlim:Lib.bitLen d.size < 4611686018427387904:=Nat.lt_of_le_of_lt (Lib.bitLen_le d.size 62 (by omega) (by omega)) (by omega);have hp:=AnyQ.pdqsortCmpFunc_all Tryz.pdq94 2 Tryz.isAgg31 Tryz.sizeOf31 DT.v cf79 63 #[] zJa blk off cap d w eg (layscf79 blk off d.size w) ⟨fun _=>rfl,DT.v1,hH,hblk⟩ (d.size + 1) 0 d.size (Lib.bitLen d.size) d w (by omega) rfl (SWK.start hH) (Nat.zero_le _) (Nat.le_refl _) hsz hlim (Or.inl rfl)
 change Calls Tryz.prog 94 _ _ _ at hp
 have hl:Calls Tryz.prog 85 #[.int .u64 (d.size:Int)] w fun e w'=>e = .returned (.int .i64 (Lib.bitLen d.size:Nat)) /\ w' = w:=by
  have h:=Any.bits_Len (SlLaysF0.n15.bits Tryz.bits85) (d.size:Int) w (by omega) (by omega)
  rwa [Int.toNat_natCast] at h
 have wr:IntKind.u64.wrap (d.size:Int) = d.size:=by simp [IntKind.wrap,IntKind.bits,IntKind.signed];omega
 clear hH
 go_enter Tryz.func79,Tryz.ntmps79
 go_wp2_with (first | (go_at_call 85;refine hl.mono ?_;rintro e w' ⟨rfl,rfl⟩) | (go_at_call 94;refine hp.mono ?_;rintro e w' ⟨rfl,n,os,rfl⟩))
 go_end0
 exact ⟨rfl,n,os,rfl⟩
theorem QG (w:World):Calls Tryz.prog 79 #[.slice none 0 0,.func (.func 63) #[] #[]] w fun e w'=>e = .returned (.tuple #[]) /\ Go.RowKit.Below w.heap.size w w':=by
 have e14:=Tryz.call94;have e15:=Tryz.call85;have hp:=fun lim W=>AnyF.pdqsortCmpFunc_none Tryz.pdq94 none 0 lim (.func (.func 63) #[] #[]) W
 have hl:∀ W,Calls Tryz.prog 85 #[.int .u64 0] W fun e w'=>e = .returned (.int .i64 (Lib.bitLen 0:Nat)) /\ w' = W:=fun W=>by
  have h:=Any.bits_Len (SlLaysF0.n15.bits Tryz.bits85) 0 W (by omega) (by omega);exact h
 go_enter Tryz.func79,Tryz.ntmps79
 go_wp2_with (first | (go_at_call 85;refine (hl _).mono ?_;rintro e w' ⟨rfl,rfl⟩) | (go_at_call 94;refine (hp _ _).mono ?_;rintro e w' ⟨rfl,rfl⟩))
 go_end0
 exact ⟨rfl,Go.RowKit.Below.refl _ _⟩
theorem srt79_63 : SortLaw Tryz.prog 79 63 2 DT.v zJ:=SortLaw.of zJa qC (fun _=>rfl) QG (fun blk off cap d w hH hblk hsz=>zKa blk off cap d w hH hblk hsz)
structure RawTPart where
 dev_:Int
 c1:Value
 h1:c1.oneCell' = true
def RawTPart.v (r:RawTPart):List Value:=[.int .u16 r.dev_,r.c1]
theorem RawTPart.v1 (r:RawTPart):∀ u ∈ r.v,u.oneCell' = true:=by
 intro u hu;simp only [RawTPart.v,List.mem_cons,List.not_mem_nil,or_false] at hu;rcases hu with rfl | rfl
 ·rfl
 ·exact r.h1
def RawTPart.R (x:PT) (r:RawTPart):Prop:=r.dev_ = x.dev
theorem RawTPart.raw (w:World) (S:Nat -> Prop) (x:PT) (us:List Value) (hl:us.length = 2) (h:∀ (j:Nat) (d:DV) (u:Value),(PT.e x)[j]? = some d -> us[j]? = some u -> DRd w S d u):∃ r:RawTPart,r.v = us /\ RawTPart.R x r:=by
 match us,hl with
 | [u0,u1],_=>
  refine ⟨⟨x.dev,u1,(h 1 _ u1 rfl rfl).one⟩,?_,rfl⟩;have e0:=h 0 _ u0 rfl rfl
  cases e0
  rfl
def cf81 (x y:RawTPart):Int:=Lib.compareInt x.dev_ y.dev_
theorem callcf81 (x y:RawTPart) (W:World):Calls Tryz.prog 82 #[.agg #[.int .u16 x.dev_,x.c1],.agg #[.int .u16 y.dev_,y.c1]] W fun e w'=>e = .returned (.int .i64 (cf81 x y)) /\ ∃ q os',w' = grow (W.drewN q) os':=by
 have c1:=fun W'=>zDa x.dev_ y.dev_ W'
 unfold cf81
 generalize Lib.compareInt x.dev_ y.dev_ = r1 at c1 ⊢
 go_enter Tryz.func82,Tryz.ntmps82
 go_wp2_with (go_at_call 83;refine (c1 _).mono ?_;rintro e w' ⟨rfl,rfl⟩)
 go_ret
 exact ⟨rfl,0,_,by rw [alloc_eq_grow,alloc_eq_grow,grow_grow];rfl⟩
theorem qD (x y:RawTPart):ltOf cf81 x y = (fun x y:RawTPart=>decide (x.dev_ < y.dev_)) x y:=by
 unfold ltOf cf81 Lib.compareInt ;rw [Bool.eq_iff_iff];simp only [decide_eq_true_eq,Bool.or_eq_true,Bool.and_eq_true]
 split <;> (repeat' split) <;> omega
theorem zLa : SWO (ltOf cf81) where
 irrefl x:=by rw [qD];simp []
 trans x y z h1 h2:=by rw [qD] at *;simp [] at *;omega
 ntrans x y z h1 h2:=by rw [qD] at *;simp [] at *;omega
instance inhcf81 : Inhabited RawTPart:=⟨⟨0,.int .u64 0,rfl⟩⟩
theorem layscf81 (blk off size:Nat) (w:World):CmpLays Tryz.prog 82 #[] RawTPart.v 2 cf81 blk off size w:=fun _ _ _ _ x y=>callcf81 x y _
set_option maxHeartbeats 2000000 in
set_option maxRecDepth 100000 in
theorem zMa (blk off cap:Nat) (d:Array RawTPart) (w:World) (hH:HoldsK RawTPart.v 2 w blk off d) (hblk:blk < w.heap.size) (hsz:d.size < 4611686018427387904) :
  Calls Tryz.prog 81 #[.slice (some ⟨blk,off,none⟩) d.size cap,.func (.func 82) #[] #[]] w fun e w'=>e = .returned (.tuple #[]) /\ ∃ n os,w' = sortWorldK RawTPart.v 2 w blk off n (pdq (ltOf cf81) d 0 d.size (Lib.bitLen d.size) true true) os:=by
 have eg:∀ args w,(callFunc 82 args).run Tryz.prog w = .ok (.enter 82 args) w:=Tryz.call82;have e14:=Tryz.call95;have e15:=Tryz.call85;have hlim:Lib.bitLen d.size < 4611686018427387904:=Nat.lt_of_le_of_lt (Lib.bitLen_le d.size 62 (by omega) (by omega)) (by omega);have hp:=AnyQ.pdqsortCmpFunc_all Tryz.pdq95 2 Tryz.isAgg63 Tryz.sizeOf63 RawTPart.v cf81 82 #[] zLa blk off cap d w eg (layscf81 blk off d.size w) ⟨fun _=>rfl,RawTPart.v1,hH,hblk⟩ (d.size + 1) 0 d.size (Lib.bitLen d.size) d w (by omega) rfl (SWK.start hH) (Nat.zero_le _) (Nat.le_refl _) hsz hlim (Or.inl rfl)
 change Calls Tryz.prog 95 _ _ _ at hp
 have hl:Calls Tryz.prog 85 #[.int .u64 (d.size:Int)] w fun e w'=>e = .returned (.int .i64 (Lib.bitLen d.size:Nat)) /\ w' = w:=by
  have h:=Any.bits_Len (SlLaysF0.n15.bits Tryz.bits85) (d.size:Int) w (by omega) (by omega)
  rwa [Int.toNat_natCast] at h
 have wr:IntKind.u64.wrap (d.size:Int) = d.size:=by simp [IntKind.wrap,IntKind.bits,IntKind.signed];omega
 clear hH
 go_enter Tryz.func81,Tryz.ntmps81
 go_wp2_with (first | (go_at_call 85;refine hl.mono ?_;rintro e w' ⟨rfl,rfl⟩) | (go_at_call 95;refine hp.mono ?_;rintro e w' ⟨rfl,n,os,rfl⟩))
 go_end0
 exact ⟨rfl,n,os,rfl⟩
theorem QH (w:World):Calls Tryz.prog 81 #[.slice none 0 0,.func (.func 82) #[] #[]] w fun e w'=>e = .returned (.tuple #[]) /\ Go.RowKit.Below w.heap.size w w':=by
 have e14:=Tryz.call95;have e15:=Tryz.call85;have hp:=fun lim W=>AnyF.pdqsortCmpFunc_none Tryz.pdq95 none 0 lim (.func (.func 82) #[] #[]) W
 have hl:∀ W,Calls Tryz.prog 85 #[.int .u64 0] W fun e w'=>e = .returned (.int .i64 (Lib.bitLen 0:Nat)) /\ w' = W:=fun W=>by
  have h:=Any.bits_Len (SlLaysF0.n15.bits Tryz.bits85) 0 W (by omega) (by omega);exact h
 go_enter Tryz.func81,Tryz.ntmps81
 go_wp2_with (first | (go_at_call 85;refine (hl _).mono ?_;rintro e w' ⟨rfl,rfl⟩) | (go_at_call 95;refine (hp _ _).mono ?_;rintro e w' ⟨rfl,rfl⟩))
 go_end0
 exact ⟨rfl,Go.RowKit.Below.refl _ _⟩
theorem srt81_82 : SortLaw Tryz.prog 81 82 2 RawTPart.v (fun x y:RawTPart=>decide (x.dev_ < y.dev_)):=SortLaw.of zLa qD (fun _=>rfl) QH (fun blk off cap d w hH hblk hsz=>zMa blk off cap d w hH hblk hsz)
theorem rlt81 (x y:PT) (r r':RawTPart) (h1:RawTPart.R x r) (h2:RawTPart.R y r'):((fun x y:RawTPart=>decide (x.dev_ < y.dev_))) r r' = Va x y:=by simp only [RawTPart.R] at h1 h2;simp [h1,h2,Va]
def cf90 (x y:RN):Int:=Lib.compareInt x.lo y.lo
theorem callcf90 (x y:RN) (W:World):Calls Tryz.prog 91 #[.agg #[.int .u64 x.lo,.int .u64 x.hi],.agg #[.int .u64 y.lo,.int .u64 y.hi]] W fun e w'=>e = .returned (.int .i64 (cf90 x y)) /\ ∃ q os',w' = grow (W.drewN q) os':=by
 have c1:=fun W'=>zFa x.lo y.lo W'
 unfold cf90
 generalize Lib.compareInt x.lo y.lo = r1 at c1 ⊢
 go_enter Tryz.func91,Tryz.ntmps91
 go_wp2_with (go_at_call 76;refine (c1 _).mono ?_;rintro e w' ⟨rfl,rfl⟩)
 go_ret
 exact ⟨rfl,0,_,by rw [alloc_eq_grow,alloc_eq_grow,grow_grow];rfl⟩
theorem qE (x y:RN):ltOf cf90 x y = VN x y:=by
 unfold ltOf cf90 Lib.compareInt VN;rw [Bool.eq_iff_iff];simp only [decide_eq_true_eq,Bool.or_eq_true,Bool.and_eq_true]
 split <;> (repeat' split) <;> omega
theorem zNa : SWO (ltOf cf90) where
 irrefl x:=by rw [qE];simp [VN]
 trans x y z h1 h2:=by rw [qE] at *;simp [VN] at *;omega
 ntrans x y z h1 h2:=by rw [qE] at *;simp [VN] at *;omega
instance inhcf90 : Inhabited RN:=⟨⟨0,0⟩⟩
theorem layscf90 (blk off size:Nat) (w:World):CmpLays Tryz.prog 91 #[] RN.v 2 cf90 blk off size w:=fun _ _ _ _ x y=>callcf90 x y _
set_option maxHeartbeats 2000000 in
set_option maxRecDepth 100000 in
theorem zOa (blk off cap:Nat) (d:Array RN) (w:World) (hH:HoldsK RN.v 2 w blk off d) (hblk:blk < w.heap.size) (hsz:d.size < 4611686018427387904) :
  Calls Tryz.prog 90 #[.slice (some ⟨blk,off,none⟩) d.size cap,.func (.func 91) #[] #[]] w fun e w'=>e = .returned (.tuple #[]) /\ ∃ n os,w' = sortWorldK RN.v 2 w blk off n (pdq (ltOf cf90) d 0 d.size (Lib.bitLen d.size) true true) os:=by
 have eg:∀ args w,(callFunc 91 args).run Tryz.prog w = .ok (.enter 91 args) w:=Tryz.call91;have e14:=Tryz.call108;have e15:=Tryz.call85;have hlim:Lib.bitLen d.size < 4611686018427387904:=Nat.lt_of_le_of_lt (Lib.bitLen_le d.size 62 (by omega) (by omega)) (by omega);have hp:=AnyQ.pdqsortCmpFunc_all Tryz.pdq108 2 Tryz.isAgg79 Tryz.sizeOf79 RN.v cf90 91 #[] zNa blk off cap d w eg (layscf90 blk off d.size w) ⟨fun _=>rfl,RN.v1,hH,hblk⟩ (d.size + 1) 0 d.size (Lib.bitLen d.size) d w (by omega) rfl (SWK.start hH) (Nat.zero_le _) (Nat.le_refl _) hsz hlim (Or.inl rfl)
 change Calls Tryz.prog 108 _ _ _ at hp
 have hl:Calls Tryz.prog 85 #[.int .u64 (d.size:Int)] w fun e w'=>e = .returned (.int .i64 (Lib.bitLen d.size:Nat)) /\ w' = w:=by
  have h:=Any.bits_Len (SlLaysF0.n15.bits Tryz.bits85) (d.size:Int) w (by omega) (by omega)
  rwa [Int.toNat_natCast] at h
 have wr:IntKind.u64.wrap (d.size:Int) = d.size:=by simp [IntKind.wrap,IntKind.bits,IntKind.signed];omega
 clear hH
 go_enter Tryz.func90,Tryz.ntmps90
 go_wp2_with (first | (go_at_call 85;refine hl.mono ?_;rintro e w' ⟨rfl,rfl⟩) | (go_at_call 108;refine hp.mono ?_;rintro e w' ⟨rfl,n,os,rfl⟩))
 go_end0
 exact ⟨rfl,n,os,rfl⟩
theorem QI (w:World):Calls Tryz.prog 90 #[.slice none 0 0,.func (.func 91) #[] #[]] w fun e w'=>e = .returned (.tuple #[]) /\ Go.RowKit.Below w.heap.size w w':=by
 have e14:=Tryz.call108;have e15:=Tryz.call85;have hp:=fun lim W=>AnyF.pdqsortCmpFunc_none Tryz.pdq108 none 0 lim (.func (.func 91) #[] #[]) W
 have hl:∀ W,Calls Tryz.prog 85 #[.int .u64 0] W fun e w'=>e = .returned (.int .i64 (Lib.bitLen 0:Nat)) /\ w' = W:=fun W=>by
  have h:=Any.bits_Len (SlLaysF0.n15.bits Tryz.bits85) 0 W (by omega) (by omega);exact h
 go_enter Tryz.func90,Tryz.ntmps90
 go_wp2_with (first | (go_at_call 85;refine (hl _).mono ?_;rintro e w' ⟨rfl,rfl⟩) | (go_at_call 108;refine (hp _ _).mono ?_;rintro e w' ⟨rfl,rfl⟩))
 go_end0
 exact ⟨rfl,Go.RowKit.Below.refl _ _⟩
theorem srt90_91 : SortLaw Tryz.prog 90 91 2 RN.v VN:=SortLaw.of zNa qE (fun _=>rfl) QI (fun blk off cap d w hH hblk hsz=>zOa blk off cap d w hH hblk hsz)
end Go.Proofs

namespace Go.Ep
open Go.RowKit

structure Ef where
 U:List (Nat × PV)
 V:List (Nat × Ob)
def PState.app (s:PState) (e:Ef):PState:={ n:=s.n,sl:=e.U ++ s.sl,objs:=e.V.foldr (fun x l=>zd x.1 x.2 l) s.objs }
structure Ft where
 ws:List Nat
 wo:List Nat:=[]
 ro:List Nat:=[]
 fr:List Nat:=[]
 al:List (Nat × List Nat):=[]
 nm:List Nat:=[]
 no:List Nat:=[]
 ao:List Nat:=[]

def inL (l:List Nat) (i:Nat):Bool:=l.any (Nat.beq i)
theorem zM {l:List Nat} {i:Nat}:inL l i = true ↔ i ∈ l:=by
 unfold inL;rw [List.any_eq_true];exact ⟨fun ⟨x,h1,h2⟩=>(Nat.eq_of_beq_eq_true h2) ▸ h1,fun h=>⟨i,h,Nat.beq_refl i⟩⟩

def PV.named (nm:List Nat):PV -> Bool
 | .ref i _ | .row i _ | .rp i _ _ _ | .pc i _ _ _ | .mp i | .pa i _ _=>inL nm i
 | .agg cs=>namedL nm cs
 | .tup cs=>namedL nm cs
 | _=>true
where namedL (nm:List Nat):List PV -> Bool
 | []=>true
 | c :: r=>c.named nm && namedL nm r
def Ob.named (nm:List Nat):Ob -> Bool
 | .cells _ cs=>PV.named.namedL nm cs
 | .iterO mid _ _ _=>inL nm mid
 | .pin tgt _=>inL nm tgt
 | .mapP _ _ ov _ _=>match ov with | some (_,p)=>p.named nm | none=>true
 | _=>true
mutual
theorem PV.named_has {nm:List Nat} {id:Nat}:∀ {p:PV},p.named nm = true -> p.has id = true -> id ∈ nm
 | .ref i _,h,h2=>by simp only [PV.named,zM,PV.has,beq_iff_eq] at h h2;exact h2 ▸ h
 | .row i _,h,h2=>by simp only [PV.named,zM,PV.has,beq_iff_eq] at h h2;exact h2 ▸ h
 | .rp i _ _ _,h,h2=>by simp only [PV.named,zM,PV.has,beq_iff_eq] at h h2;exact h2 ▸ h
 | .pc i _ _ _,h,h2=>by simp only [PV.named,zM,PV.has,beq_iff_eq] at h h2;exact h2 ▸ h
 | .mp i,h,h2=>by simp only [PV.named,zM,PV.has,beq_iff_eq] at h h2;exact h2 ▸ h
 | .pa i _ _,h,h2=>by simp only [PV.named,zM,PV.has,beq_iff_eq] at h h2;exact h2 ▸ h
 | .agg cs,h,h2=>PV.namedL_has (cs:=cs) h h2
 | .tup cs,h,h2=>PV.namedL_has (cs:=cs) h h2
 | .junk,_,h2=>by simp [PV.has] at h2
 | .und,_,h2=>by simp [PV.has] at h2
 | .d _,_,h2=>by simp [PV.has] at h2
 | .ep _ _,_,h2=>by simp [PV.has] at h2
 | .md _ _ _,_,h2=>by simp [PV.has] at h2
 | .clo _ _,_,h2=>by simp [PV.has] at h2
theorem PV.namedL_has {nm:List Nat} {id:Nat}:∀ {cs:List PV},PV.named.namedL nm cs = true -> PV.has.hasL id cs = true -> id ∈ nm
 | [],_,h2=>by simp [PV.has.hasL] at h2
 | c :: r,h,h2=>by
  simp only [PV.named.namedL,Bool.and_eq_true] at h;simp only [PV.has.hasL,Bool.or_eq_true] at h2;rcases h2 with h2 | h2
  ·exact PV.named_has h.1 h2
  ·exact PV.namedL_has h.2 h2
end
theorem Ob.named_has {nm:List Nat} {id:Nat} {o:Ob} (h:o.named nm = true) (h2:o.has id = true):id ∈ nm:=by
 cases o with
 | cells T cs=>exact PV.namedL_has h h2
 | iterO mid bs ck L=>simp only [Ob.named,zM,Ob.has,beq_iff_eq] at h h2;exact h2 ▸ h
 | pin tgt x=>simp only [Ob.named,zM,Ob.has,beq_iff_eq] at h h2;exact h2 ▸ h
 | mapP ks m ov bs ck=>
  cases ov with
  | none=>cases h2
  | some x=>exact PV.named_has h h2
 | _=>simp [Ob.has] at h2

section
variable {β:Type}
def jO : List (Option β) -> (Nat -> Bool) -> Nat -> Option β -> Option β
 | [],_,_,c=>c
 | x :: r,E,b,c=>jO r E (b + 1) (bif E b then x.or c else c)
theorem uE : ∀ {l:List (Option β)} {E E':Nat -> Bool} {b:Nat} {c:Option β},(∀ j x,l[j]? = some (some x) -> E (b + j) = E' (b + j)) -> jO l E b c = jO l E' b c
 | [],_,_,_,_,_=>rfl
 | x :: r,E,E',b,c,h=>by
  unfold jO;have h1:(bif E b then x.or c else c) = (bif E' b then x.or c else c):=by
   cases x with
   | none=>cases E b <;> cases E' b <;> rfl
   | some x=>rw [show E b = E' b from h 0 x rfl]
  rw [h1];exact uE fun j y hj=>by have:=h (j + 1) y (by simpa using hj);rwa [show b + (j + 1) = b + 1 + j by omega] at this
theorem Ye : ∀ {l:List (Option β)} {E:Nat -> Bool} {b:Nat} {c:Option β},(∀ j x,l[j]? = some (some x) -> E (b + j) = false) -> jO l E b c = c
 | [],_,_,_,_=>rfl
 | x :: r,E,b,c,h=>by
  unfold jO;have h1:(bif E b then x.or c else c) = c:=by
   cases x with
   | none=>cases E b <;> rfl
   | some x=>rw [show E b = false from h 0 x rfl];rfl
  rw [h1];exact Ye fun j y hj=>by have:=h (j + 1) y (by simpa using hj);rwa [show b + (j + 1) = b + 1 + j by omega] at this
theorem UH : ∀ {l:List (Option β)} {E E':Nat -> Bool} {b:Nat} {c:Option β} {i:Nat} {x:Option β},l[i]? = some x -> E' (b + i) = true -> (∀ j,j ≠ b + i -> E' j = E j) -> (x.isSome = true -> ∀ j y,i < j -> l[j]? = some (some y) -> E (b + j) = false) -> E (b + i) = false -> jO l E' b c = x.or (jO l E b c)
 | [],_,_,_,_,_,_,h,_,_,_,_=>by simp at h
 | z :: r,E,E',b,c,0,x,h,h1,h2,h3,h4=>by
  simp at h;subst h;unfold jO;simp only [Nat.add_zero] at h1 h4;rw [h1,h4,cond_true,cond_false];have e:jO r E' (b + 1) (z.or c) = jO r E (b + 1) (z.or c):=uE fun j y _=>h2 _ (by omega)
  rw [e]
  cases z with
  | none=>rfl
  | some z=>
   have h5:=h3 rfl;have h6:∀ c,jO r E (b + 1) c = c:=fun c=>Ye fun j y hj=>by
    have:=h5 (j + 1) y (by omega) (by simpa using hj)
    rwa [show b + (j + 1) = b + 1 + j by omega] at this
   rw [h6,h6]
 | z :: r,E,E',b,c,i + 1,x,h,h1,h2,h3,h4=>by
  simp at h;unfold jO;rw [h2 b (by omega)];refine UH h (by rw [<- h1];congr 1;omega) (fun j hj=>h2 j (by omega)) (fun hx j y hij hj=>?_) (by rw [<- h4];congr 1;omega);have:=h3 hx (j + 1) y (by omega) (by simpa using hj)
  rwa [show b + (j + 1) = b + 1 + j by omega] at this
end

theorem Yf : ∀ (U l:List (Nat × PV)) (t:Nat),xY (U ++ l) t = (xY U t).or (xY l t)
 | [],l,t=>by simp [xY]
 | (k,p) :: r,l,t=>by
  rw [List.cons_append,zi,zi]
  split
  ·rfl
  ·exact Yf r l t
theorem look_app (V l:List (Nat × Ob)) (id:Nat):look (V.foldr (fun x l=>zd x.1 x.2 l) l) id = (look V id).or (look l id):=by
 induction V with
 | nil=>simp [look]
 | cons x r ih=>
  obtain ⟨k,o⟩:=x;rw [List.foldr_cons,zC];simp only [look]
  by_cases h:id = k
  ·simp [h]
  ·simp only [h,if_false];exact ih
theorem Yg {U:List (Nat × PV)} {t:Nat}:(xY U t).isSome = true ↔ t ∈ U.map (·.1):=by
 induction U with
 | nil=>simp [xY]
 | cons x r ih=>
  obtain ⟨k,p⟩:=x;rw [zi]
  by_cases h:k = t
  ·simp [h]
  ·simp [h,ih,Ne.symm h]
theorem Yh {V:List (Nat × Ob)} {t:Nat}:(look V t).isSome = true ↔ t ∈ V.map (·.1):=by
 induction V with
 | nil=>simp [look]
 | cons x r ih=>
  obtain ⟨k,p⟩:=x;simp only [look]
  by_cases h:t = k
  ·simp [h]
  ·simp [h,ih]
theorem WA {id k:Nat} {o ob:Ob}:∀ {l:List (Nat × Ob)},(k,o) ∈ zd id ob l -> (k,o) = (id,ob) \/ (k,o) ∈ l
 | [],h=>by simp [zd] at h;exact .inl (by simp [h])
 | (j,p) :: r,h=>by
  unfold zd at h
  split at h
  ·rename_i e
   subst e;rcases List.mem_cons.1 h with e2 | h2
   ·exact .inl e2
   ·exact .inr (List.mem_cons_of_mem _ h2)
  ·split at h
   ·rcases List.mem_cons.1 h with e2 | h2
    ·exact .inl e2
    ·exact .inr h2
   ·rcases List.mem_cons.1 h with e2 | h2
    ·exact .inr (by rw [e2];simp)
    ·rcases WA h2 with h3 | h3
     ·exact .inl h3
     ·exact .inr (List.mem_cons_of_mem _ h3)
theorem app_mem {V l:List (Nat × Ob)} {k:Nat} {o:Ob} (h:(k,o) ∈ V.foldr (fun x l=>zd x.1 x.2 l) l):(k,o) ∈ V \/ (k,o) ∈ l:=by
 induction V with
 | nil=>exact .inr h
 | cons x r ih=>
  rw [List.foldr_cons] at h;rcases WA h with h1 | h1
  ·exact .inl (by rw [h1];simp)
  ·rcases ih h1 with h2 | h2
   ·exact .inl (List.mem_cons_of_mem _ h2)
   ·exact .inr h2

def PState.aloneX (s:PState) (id:Nat) (ao:List Nat):Bool:=Ql id s.sl s.sl && s.objs.all (fun x=>inL ao x.1 || !x.2.has id)
theorem QJ {s:PState} {id:Nat} (h:s.aloneX id [] = true):s.alone id = true:=by
 unfold PState.aloneX at h;unfold PState.alone;simpa [inL] using h
section
variable (P:Program) (ctx:Ctx)
def FLocal (o:Oper) (s:PState) (f:Ft) (e:Ef):Prop:=
 ∀ s':PState,s'.n = s.n -> (∀ {x q},yy o x = true -> s.ev x = some q -> s'.ev x = some q) -> (∀ {id ob},id ∈ f.ro -> look s.objs id = some ob -> look s'.objs id = some ob) -> (∀ id ∈ f.fr,s'.fresh id = true) -> (∀ a ∈ f.al,(s'.junks a.2).aloneX a.1 f.ao = true) -> Local P ctx o s' (s'.app e)
def Wd (ops:Array Oper) (o:Oper) (s:PState):Prop:=o.guard = none \/ ∃ j b d,o.guard = some (j,b) /\ (ops[j]?).bind (·.dst) = some d /\ s.at d = some (.d (.v (.bool b)))
def Sk (ops:Array Oper) (o:Oper) (s:PState):Prop:=(∃ j b c d,o.guard = some (j,b) /\ (ops[j]?).bind (·.dst) = some d /\ s.at d = some (.d (.v (.bool c))) /\ c ≠ b) \/ ∃ j b d,o.guard = some (j,b) /\ (ops[j]?).bind (·.dst) = some d /\ s.at d = some .und
def okE (f:Ft) (e:Ef):Bool:=(e.U.map (·.1)).all (inL f.ws) && (e.V.map (·.1)).all (inL f.wo) && e.U.all (fun x=>x.2.named f.nm) && e.V.all (fun x=>x.2.named f.no)
def undE (o:Oper):Ef:=⟨match o.dst with | some d=>[(d,.und)] | none=>[],[]⟩

inductive PQe (ops:Array Oper) (Q:PState -> Prop):List Oper -> List Ft -> PState -> Prop
 | fin {s t:PState} (h:Q t) (hs:Sub ctx s t):PQe ops Q [] [] s
 | step {s:PState} {o:Oper} {rest:List Oper} {f:Ft} {fs:List Ft} {e:Ef} (hl:FLocal P ctx o s f e) (hg:Wd ops o s) (hk:okE f e = true) (h:PQe ops Q rest fs (s.app e)):PQe ops Q (o :: rest) (f :: fs) s
 | skip {s:PState} {o:Oper} {rest:List Oper} {f:Ft} {fs:List Ft} (hg:Sk ops o s) (hk:okE f (undE o) = true) (h:PQe ops Q rest fs (s.app (undE o))):PQe ops Q (o :: rest) (f :: fs) s

def Does (ops:Array Oper) (o:Oper) (s:PState) (f:Ft) (e:Ef):Prop:=okE f e = true /\ ((FLocal P ctx o s f e /\ Wd ops o s) \/ (Sk ops o s /\ e = undE o))
inductive Run (ops:Array Oper):List Oper -> List Ft -> PState -> List Ef -> PState -> Prop
 | nil {s:PState}:Run ops [] [] s [] s
 | cons {o:Oper} {rest:List Oper} {f:Ft} {fs:List Ft} {s t:PState} {e:Ef} {es:List Ef} (y:Does P ctx ops o s f e) (h:Run ops rest fs (s.app e) es t):Run ops (o :: rest) (f :: fs) s (e :: es) t
end
section
variable {P:Program} {ctx:Ctx} {ops:Array Oper}
theorem PQe.run {Q:PState -> Prop} {l:List Oper} {fs:List Ft} {s:PState} (h:PQe P ctx ops Q l fs s):∃ es t,Run P ctx ops l fs s es t /\ ∃ u,Q u /\ Sub ctx t u:=by
 induction h with
 | fin h hs=>exact ⟨[],_,.nil,_,h,hs⟩
 | step hl hg hk _ ih=>obtain ⟨es,t,h1,h2⟩:=ih;exact ⟨_,t,.cons ⟨hk,.inl ⟨hl,hg⟩⟩ h1,h2⟩
 | skip hg hk _ ih=>obtain ⟨es,t,h1,h2⟩:=ih;exact ⟨_,t,.cons ⟨hk,.inr ⟨hg,rfl⟩⟩ h1,h2⟩

def Wf (ops:List Oper):List (List Nat):=ops.foldl (fun acc o=>acc ++ [o.after.toList.foldl (fun l e=>bif Region.binds .any e then e.on :: ((acc[e.on]?).getD [] ++ l) else l) []]) []
def YC (a b:List Nat):Bool:=a.any (inL b)
def ug (f g:Ft) (rf rg:List Nat):Bool:=
 YC f.ws g.ws || YC f.ws rg || YC rf g.ws || YC f.wo g.wo || YC f.wo g.ro || YC f.ro g.wo ||
 YC f.fr g.nm || YC f.fr g.no || YC f.fr g.wo || YC f.fr g.fr || (f.al.any fun a=>inL g.nm a.1) || (g.al.any fun a=>inL f.nm a.1) || (f.al.any fun a=>inL g.no a.1)
def JD (f g:Ft):Bool:=YC g.fr f.nm || YC g.fr f.no || YC g.fr f.wo || (g.al.any fun a=>inL f.no a.1 || (inL f.nm a.1 && !f.ws.all (inL a.2)))
def yv (ops:Array Oper) (i:Nat):List Nat:=match ops[i]? with | some o=>o.looksAt ops | none=>[]
def drawE (ops:Array Oper) (fs:List Ft):Bool:=
 let pr:=Wf ops.toList
 Nat.beq fs.length ops.size &&
 ((List.range ops.size).all fun j=>match ops[j]?,fs[j]? with
  | some o,some g=>o.after.toList.all (fun e=>Nat.blt e.on j || !Region.binds .any e) && g.fr.all (fun id=>!inL g.ro id) && (List.range j).all fun i=>match fs[i]? with
    | some f=>!JD f g && (!ug f g (yv ops i) (yv ops j) || inL ((pr[j]?).getD []) i)
    | none=>false
  | _,_=>false)
def zPa (s:PState) (fs:List Ft):Bool:=fs.all fun f=>f.fr.all (fun id=>s.sl.all (fun x=>!x.2.has id) && s.objs.all (fun x=>x.1 != id && !x.2.has id)) &&
 f.al.all fun a=>s.sl.all (fun x=>!x.2.has a.1 || inL a.2 x.1) && s.objs.all (fun x=>inL f.ao x.1 || !x.2.has a.1)
end
end Go.Ep
namespace Go.Ep
open Go.RowKit
section
variable {P:Program} {ctx:Ctx} {ops:Array Oper}
theorem yZ {a b:List Nat}:YC a b = true ↔ ∃ x,x ∈ a /\ x ∈ b:=by
 unfold YC;rw [List.any_eq_true];simp only [zM]

structure DrawFacts (ops:Array Oper) (fs:List Ft):Prop where
 len:fs.length = ops.size
 edge:∀ {i:Nat} {o:Oper},ops[i]? = some o -> ∀ e:Edge,e ∈ o.after -> Region.binds .any e = true -> e.on < i
 fro:∀ {j:Nat} {g:Ft},fs[j]? = some g -> ∀ id ∈ g.fr,id ∉ g.ro
 pair:∀ {i j:Nat} {f g:Ft},i < j -> fs[i]? = some f -> fs[j]? = some g -> JD f g = false /\ (ug f g (yv ops i) (yv ops j) = true -> i ∈ ((Wf ops.toList)[j]?).getD [])
theorem JE {fs:List Ft} (h:drawE ops fs = true):DrawFacts ops fs:=by
 unfold drawE at h;simp only [Bool.and_eq_true,List.all_eq_true,List.mem_range] at h;obtain ⟨h0,h1⟩:=h;have hlen:=Nat.eq_of_beq_eq_true h0;refine ⟨hlen,fun {i o} hi e he hbe=>?_,fun {j g} hj id hid=>?_,fun {i j f g} hij hi hj=>?_⟩
 ·have hlt:=(Array.getElem?_eq_some_iff.1 hi).1;have:=h1 i hlt;rw [hi,List.getElem?_eq_getElem (by omega:i < fs.length)] at this;simp only [Bool.and_eq_true,List.all_eq_true] at this;simpa [Nat.blt_eq,hbe] using this.1.1 e (by simpa using he)
 ·have hlt:j < ops.size:=by have:=(List.getElem?_eq_some_iff.1 hj).1;omega
  have:=h1 j hlt;rw [hj,Array.getElem?_eq_getElem hlt] at this;simp only [Bool.and_eq_true,List.all_eq_true] at this;have:=this.1.2 id hid;simp only [Bool.not_eq_true',<- Bool.not_eq_true,zM] at this;exact this
 ·have hlt:j < ops.size:=by have:=(List.getElem?_eq_some_iff.1 hj).1;omega
  have:=h1 j hlt;rw [hj,Array.getElem?_eq_getElem hlt] at this;simp only [Bool.and_eq_true,List.all_eq_true,List.mem_range] at this;have:=this.2 i hij;rw [hi] at this;simp only [Bool.and_eq_true,Bool.or_eq_true,Bool.not_eq_true',zM] at this;refine ⟨this.1,fun hc=>?_⟩;rcases this.2 with h2 | h2
  ·rw [hc] at h2;cases h2
  ·exact h2

def DownC (ops:Array Oper) (E:Nat -> Bool):Prop:=∀ j,E j = true -> ∀ k ∈ ((Wf ops.toList)[j]?).getD [],E k = true
def qG (acc:List (List Nat)) (o:Oper):List (List Nat):=acc ++ [o.after.toList.foldl (fun l e=>bif Region.binds .any e then e.on :: ((acc[e.on]?).getD [] ++ l) else l) []]
theorem zQa (l:List Oper):∀ (acc:List (List Nat)) (j:Nat),j < acc.length -> (l.foldl qG acc)[j]? = acc[j]?:=by
 induction l with
 | nil=>intro acc j _;rfl
 | cons o r ih=>
  intro acc j hj;rw [List.foldl_cons,ih _ _ (by simp [qG];omega)];unfold qG;rw [List.getElem?_append_left hj]
theorem zRa {acc:List (List Nat)} (es:List Edge):∀ (l:List Nat) (k:Nat),k ∈ es.foldl (fun l e=>bif Region.binds .any e then e.on :: ((acc[e.on]?).getD [] ++ l) else l) l -> k ∈ l \/ ∃ e ∈ es,Region.binds .any e = true /\ (k = e.on \/ k ∈ (acc[e.on]?).getD []):=by
 induction es with
 | nil=>intro l k h;exact .inl h
 | cons e r ih=>
  intro l k h;rw [List.foldl_cons] at h;rcases ih _ k h with h1 | ⟨e',he',h1⟩
  ·cases hb:Region.binds .any e with
   | false=>rw [hb] at h1;exact .inl h1
   | true=>
    rw [hb] at h1;simp only [cond_true,List.mem_cons,List.mem_append] at h1;rcases h1 with h1 | h1 | h1
    ·exact .inr ⟨e,by simp,hb,.inl h1⟩
    ·exact .inr ⟨e,by simp,hb,.inr h1⟩
    ·exact .inl h1
  ·exact .inr ⟨e',List.mem_cons_of_mem _ he',h1⟩
theorem Vb : ∀ (l:List Oper) (acc:List (List Nat)),(∀ i o,l[i]? = some o -> ∀ e ∈ o.after,Region.binds .any e = true -> e.on < acc.length + i) -> ∀ i o,l[i]? = some o -> ∀ k ∈ ((l.foldl qG acc)[acc.length + i]?).getD [],∃ e ∈ o.after,Region.binds .any e = true /\ (k = e.on \/ k ∈ ((l.foldl qG acc)[e.on]?).getD [])
 | [],_,_,i,o,h,_,_=>by simp at h
 | o0 :: r,acc,hed,0,o,h,k,hk=>by
  simp at h;subst h;rw [Nat.add_zero,List.foldl_cons,zQa _ _ _ (by simp [qG])] at hk;have e1:(qG acc o0)[acc.length]? = some (o0.after.toList.foldl (fun l e=>bif Region.binds .any e then e.on :: ((acc[e.on]?).getD [] ++ l) else l) []):=by simp [qG]
  rw [e1] at hk;rcases zRa _ _ k hk with h1 | ⟨e,he,hb,h1⟩
  ·cases h1
  ·refine ⟨e,by simpa using he,hb,?_⟩;rcases h1 with h1 | h1
   ·exact .inl h1
   ·right
    have hlt:e.on < acc.length:=by have:=hed 0 o0 rfl e (by simpa using he) hb;simpa using this
    rw [List.foldl_cons,zQa _ _ _ (by simp [qG];omega)];unfold qG;rw [List.getElem?_append_left hlt];exact h1
 | o0 :: r,acc,hed,i + 1,o,h,k,hk=>by
  have hl:(qG acc o0).length = acc.length + 1:=by simp [qG]
  have:=Vb r (qG acc o0) (fun j o' hj e he hbe=>by have:=hed (j + 1) o' (by simpa using hj) e he hbe;rw [hl];omega) i o (by simpa using h) k (by
   rw [hl,show acc.length + 1 + i = acc.length + (i + 1) by omega];exact hk)
  exact this
theorem preds_ok {fs:List Ft} (F:DrawFacts ops fs) {E:Nat -> Bool} (h:DownC ops E) {i:Nat} {o:Oper} (ho:ops[i]? = some o) (hr:∀ e ∈ o.after,Region.binds .any e = true -> E e.on = true):∀ k ∈ ((Wf ops.toList)[i]?).getD [],E k = true:=by
 intro k hk;have hf:Wf ops.toList = ops.toList.foldl qG []:=rfl;rw [hf] at hk;obtain ⟨e,he,hb,h1⟩:=Vb ops.toList [] (fun i o hi e he hbe=>by have:=F.edge (i:=i) (o:=o) (by simpa using hi) e he hbe;simpa using this) i o (by simpa using ho) k (by rw [List.length_nil,Nat.zero_add];exact hk);rcases h1 with rfl | h1
 ·exact hr e he hb
 ·exact h e.on (hr e he hb) k h1

theorem Yi {l:List Nat} {i:Nat}:inL l i = false ↔ i ∉ l:=by rw [<- Bool.not_eq_true,zM]
theorem Wg {id:Nat} {full:List (Nat × PV)}:∀ {l:List (Nat × PV)},(∀ x ∈ l,x.2.has id = true -> ∀ q,xY full x.1 = some q -> q.has id = false) -> Ql id full l = true
 | [],_=>rfl
 | (k,p) :: r,h=>by
  unfold Ql;have ih:=Wg (l:=r) (full:=full) (id:=id) fun x hx=>h x (List.mem_cons_of_mem _ hx)
  cases hb:p.has id with
  | false=>exact ih
  | true=>
   rw [cond_true,ih,Bool.and_true]
   cases hg:xY full k with
   | none=>rfl
   | some q=>simp [h (k,p) (by simp) hb q hg]
theorem jP (js:List Nat):∀ (s:PState) (x:Nat × PV),x ∈ (s.junks js).sl -> x.2 = .junk \/ x ∈ s.sl:=by
 induction js with
 | nil=>intro s x h;exact .inr h
 | cons d r ih=>
  intro s x h;rcases ih _ x h with h1 | h1
  ·exact .inl h1
  ·rcases List.mem_cons.1 h1 with h2 | h2
   ·exact .inl (by rw [h2])
   ·exact .inr h2
theorem zSa (js:List Nat):∀ (s:PState) (t:Nat),(t ∈ js -> xY (s.junks js).sl t = some PV.junk) /\ (xY s.sl t = some PV.junk -> xY (s.junks js).sl t = some PV.junk):=by
 induction js with
 | nil=>intro s t;exact ⟨fun h=>absurd h List.not_mem_nil,fun h=>h⟩
 | cons d r ih=>
  intro s t;have h2:xY s.sl t = some .junk -> xY (s.put d .junk).sl t = some .junk:=fun h=>by
   rw [PState.put,zi];split
   ·rfl
   ·exact h
  refine ⟨fun h=>?_,fun h=>(ih _ t).2 (h2 h)⟩;rcases List.mem_cons.1 h with rfl | h
  ·exact (ih _ t).2 (by rw [PState.put,zi,if_pos rfl])
  ·exact (ih _ t).1 h
theorem alone_of {s:PState} {id:Nat} {js ao:List Nat} (h1:∀ x ∈ s.sl,x.2.has id = true -> x.1 ∈ js) (h2:∀ x ∈ s.objs,inL ao x.1 = true \/ x.2.has id = false):(s.junks js).aloneX id ao = true:=by
 unfold PState.aloneX;rw [Bool.and_eq_true];refine ⟨Wg fun x hx hh q hq=>?_,List.all_eq_true.2 fun x hx=>?_⟩
 ·rcases jP js s x hx with h | h
  ·rw [h] at hh;simp [PV.has] at hh
  ·rw [(zSa js s x.1).1 (h1 x h hh)] at hq
   cases hq
   rfl
 ·rw [zp] at hx;rcases h2 x hx with h | h <;> simp [h]
theorem fresh_of {s:PState} {id:Nat} (h1:∀ x ∈ s.sl,x.2.has id = false) (h2:∀ x ∈ s.objs,x.1 ≠ id /\ x.2.has id = false):s.fresh id = true:=by
 unfold PState.fresh;rw [Bool.and_eq_true];refine ⟨Wg fun x hx hh=>?_,List.all_eq_true.2 fun x hx=>?_⟩
 ·rw [h1 x hx] at hh;cases hh
 ·simp [h2 x hx]

structure InvE (s0:PState) (es:List Ef) (E:Nat -> Bool) (s:PState):Prop where
 n:s.n = s0.n
 sl:∀ t,xY s.sl t = jO (es.map fun e=>xY e.U t) E 0 (xY s0.sl t)
 ob:∀ id,look s.objs id = jO (es.map fun e=>look e.V id) E 0 (look s0.objs id)
 ms:∀ x ∈ s.sl,x ∈ s0.sl \/ ∃ j e,E j = true /\ es[j]? = some e /\ x ∈ e.U
 mo:∀ x ∈ s.objs,x ∈ s0.objs \/ ∃ j e,E j = true /\ es[j]? = some e /\ x ∈ e.V
theorem InvE.zero {s0:PState} {es:List Ef} {E:Nat -> Bool} (h:∀ j,E j = false):InvE s0 es E s0:=
 ⟨rfl,fun _=>(Ye fun _ _ _=>h _).symm,fun _=>(Ye fun _ _ _=>h _).symm,fun _ h=>.inl h,fun _ h=>.inl h⟩
theorem InvE.step {s0 s:PState} {es:List Ef} {E E':Nat -> Bool} (h:InvE s0 es E s) {i:Nat} {e:Ef} (hi:es[i]? = some e) (h0:E i = false) (h1:E' i = true) (hE:∀ j,j ≠ i -> E' j = E j)
  (hU:∀ j e',i < j -> es[j]? = some e' -> E j = true -> ∀ t,t ∈ e.U.map (·.1) -> t ∉ e'.U.map (·.1)) (hV:∀ j e',i < j -> es[j]? = some e' -> E j = true -> ∀ t,t ∈ e.V.map (·.1) -> t ∉ e'.V.map (·.1)):InvE s0 es E' (s.app e):=by
 have hlt:∀ j,E j = true -> j ≠ i:=fun j hj e=>by rw [e,h0] at hj;cases hj
 refine ⟨h.n,fun t=>?_,fun id=>?_,fun x hx=>?_,fun x hx=>?_⟩
 ·show xY (e.U ++ s.sl) t = _;rw [Yf,h.sl];refine (UH (i:=i) (by simp [hi]) (by simpa using h1) (fun j hj=>hE j (by simpa using hj)) (fun hx j y hij hj=>?_) (by simpa using h0)).symm;rw [Nat.zero_add]
  cases hb:E j with
  | false=>rfl
  | true=>
   rw [List.getElem?_map] at hj
   cases he:es[j]? with
   | none=>rw [he] at hj;cases hj
   | some e'=>
    rw [he] at hj;simp only [Option.map_some,Option.some.injEq] at hj;exact absurd (Yg.1 (by rw [hj];rfl)) (hU j e' hij he hb t (Yg.1 hx))
 ·show look (e.V.foldr _ s.objs) id = _;rw [look_app,h.ob];refine (UH (i:=i) (by simp [hi]) (by simpa using h1) (fun j hj=>hE j (by simpa using hj)) (fun hx j y hij hj=>?_) (by simpa using h0)).symm;rw [Nat.zero_add]
  cases hb:E j with
  | false=>rfl
  | true=>
   rw [List.getElem?_map] at hj
   cases he:es[j]? with
   | none=>rw [he] at hj;cases hj
   | some e'=>
    rw [he] at hj;simp only [Option.map_some,Option.some.injEq] at hj;exact absurd (Yh.1 (by rw [hj];rfl)) (hV j e' hij he hb id (Yh.1 hx))
 ·rcases List.mem_append.1 hx with hx | hx
  ·exact .inr ⟨i,e,h1,hi,hx⟩
  ·rcases h.ms x hx with h2 | ⟨j,e',a,b,c⟩
   ·exact .inl h2
   ·exact .inr ⟨j,e',by rw [hE j (hlt j a)];exact a,b,c⟩
 ·rcases app_mem (k:=x.1) (o:=x.2) hx with hx | hx
  ·exact .inr ⟨i,e,h1,hi,hx⟩
  ·rcases h.mo x hx with h2 | ⟨j,e',a,b,c⟩
   ·exact .inl h2
   ·exact .inr ⟨j,e',by rw [hE j (hlt j a)];exact a,b,c⟩

theorem Does.run {o:Oper} {s s':PState} {f:Ft} {e:Ef} (y:Does P ctx ops o s f e) (hn:s'.n = s.n) (hl:∀ t,t ∈ o.looksAt ops -> xY s'.sl t = xY s.sl t) (ho:∀ id ∈ f.ro,look s'.objs id = look s.objs id)
  (hf:∀ id ∈ f.fr,s'.fresh id = true) (ha:∀ a ∈ f.al,(s'.junks a.2).aloneX a.1 f.ao = true) {i:Nat} (hi:ops[i]? = some o) {a:Act} {w:World} (hr:Rel ctx s' a w) {K:Act -> World -> Prop} {Qx:Exit -> Act -> World -> Prop}
  (hK:∀ a' w',Rel ctx (s'.app e) a' w' -> K a' w'):wpOp P ops Qx i K a w:=by
 have hat:∀ t,t ∈ o.looksAt ops -> s'.at t = s.at t:=fun t ht=>by rw [uj,uj,hn,hl t ht]
 have hund:s'.app (undE o) = s'.putD o.dst .und:=by unfold undE;cases o.dst <;> rfl
 unfold wpOp;simp only [hi];rcases y.2 with ⟨hd,hg⟩ | ⟨hg,rfl⟩
 ·have hloc:Local P ctx o s' (s'.app e):=by
   refine hd s' hn (fun {x q} hx hq=>?_) (fun {id ob} hid h=>by rw [ho id hid];exact h) hf ha
   cases x with
   | tmp t=>
    show s'.at t = some q;rw [hat t ?_]
    ·exact hq
    ·simp only [yy,List.any_eq_true] at hx;obtain ⟨x,hx1,hx2⟩:=hx;unfold Oper.looksAt;refine List.mem_append_left _ (List.mem_filterMap.2 ⟨x,hx1,?_⟩)
     cases x with
     | tmp u=>simp only at hx2;rw [Nat.eq_of_beq_eq_true hx2]
     | _=>simp at hx2
   | const v=>cases v <;> exact hq
   | func f=>exact hq
   | global g=>exact hq
  have hw:Region.wanted o (yielded ops a.tmps) = true:=by
   rcases hg with hg | ⟨j,b,d,hg,hd2,hs⟩
   ·simp [Region.wanted,hg]
   ·obtain ⟨g,hrg⟩:=hr;have hs':s'.at d = some (.d (.v (.bool b))):=by
     rw [hat d (by unfold Oper.looksAt;rw [hg];refine List.mem_append_right _ ?_;simp [hd2])];exact hs
    simp [Region.wanted,hg,vE hrg hd2 hs']
  rw [if_pos hw];exact .inl (hloc a w hr K Qx hK)
 ·rw [hund] at hK;obtain ⟨g,hrg⟩:=hr;rcases hg with ⟨j,b,c,d,hg,hd,hs,hbc⟩ | ⟨j,b,d,hg,hd,hs⟩
  ·have hs':s'.at d = some (.d (.v (.bool c))):=by
    rw [hat d (by unfold Oper.looksAt;rw [hg];refine List.mem_append_right _ ?_;simp [hd])];exact hs
   have hw:Region.wanted o (yielded ops a.tmps) = false:=by simp [Region.wanted,hg,vE hrg hd hs',hbc]
   rw [hw];exact hK _ _ ⟨g,hrg.put o.dst Rd.und⟩
  ·have hs':s'.at d = some .und:=by
    rw [hat d (by unfold Oper.looksAt;rw [hg];refine List.mem_append_right _ ?_;simp [hd])];exact hs
   have hw:Region.wanted o (yielded ops a.tmps) = false:=by simp [Region.wanted,hg,Zy hrg hd hs']
   rw [hw];exact hK _ _ ⟨g,hrg.put o.dst Rd.und⟩

theorem Run.lens {l:List Oper} {fs:List Ft} {s t:PState} {es:List Ef} (h:Run P ctx ops l fs s es t):es.length = l.length /\ fs.length = l.length:=by
 induction h with
 | nil=>exact ⟨rfl,rfl⟩
 | cons _ _ ih=>exact ⟨by simp [ih.1],by simp [ih.2]⟩
theorem Run.at_ : ∀ {rest:List Oper} {fs:List Ft} {s t s0:PState} {es pre all:List Ef} {b:Nat},Run P ctx ops rest fs s es t -> all = pre ++ es -> pre.length = b -> InvE s0 all (fun j=>decide (j < b)) s ->
  (∀ (i:Nat) (o:Oper) (f:Ft),rest[i]? = some o -> fs[i]? = some f -> ∃ S e,all[b + i]? = some e /\ InvE s0 all (fun j=>decide (j < b + i)) S /\ Does P ctx ops o S f e) /\ InvE s0 all (fun j=>decide (j < b + rest.length)) t:=by
 intro rest
 induction rest with
 | nil=>
  intro fs s t s0 es pre all b h _ _ hh
  cases h
  exact ⟨by simp,by simpa using hh⟩
 | cons o rest ih=>
  intro fs s t s0 es pre all b h hall hb hh
  cases h with
  | @cons _ _ f fs _ _ e es y h=>
   have he:all[b]? = some e:=by subst hall;subst hb;simp
   have hst:InvE s0 all (fun j=>decide (j < b + 1)) (s.app e):=hh.step he (by simp) (by simp) (fun j hj=>by
    have:(j < b + 1) = (j < b):=by apply propext;omega
    simp only [this]) (fun j _ hj _ hE=>by simp at hE;omega) (fun j _ hj _ hE=>by simp at hE;omega)
   obtain ⟨h1,h2⟩:=ih (b:=b + 1) (pre:=pre ++ [e]) h (by simp [hall]) (by simp [hb]) hst;refine ⟨fun i o' f' ho hf=>?_,by rw [List.length_cons,show b + (rest.length + 1) = b + 1 + rest.length by omega];exact h2⟩
   cases i with
   | zero=>simp at ho hf;subst ho;subst hf;exact ⟨s,e,he,hh,y⟩
   | succ i=>
    simp at ho hf;obtain ⟨S,q,e1,e2,e3⟩:=h1 i o' f' ho hf;exact ⟨S,q,by rw [<- e1];congr 1;omega,by rw [show b + (i + 1) = b + 1 + i by omega];exact e2,e3⟩

theorem DrawFacts.ahead {fs:List Ft} (F:DrawFacts ops fs) {E:Nat -> Bool} (h:DownC ops E) {i j:Nat} {f g:Ft} (hij:i < j) (hi:fs[i]? = some f) (hj:fs[j]? = some g) (hc:ug f g (yv ops i) (yv ops j) = true) (hE:E j = true):E i = true:=
 h j hE i ((F.pair hij hi hj).2 hc)

theorem QK {s0 S:PState} {fs:List Ft} {es:List Ef} {Qx:Exit -> Act -> World -> Prop} (F:DrawFacts ops fs) (hS0:zPa s0 fs = true) (hlen:es.length = ops.size)
  (hY:∀ (i:Nat) (o:Oper) (f:Ft),ops[i]? = some o -> fs[i]? = some f -> ∃ T e,es[i]? = some e /\ InvE s0 es (fun j=>decide (j < i)) T /\ Does P ctx ops o T f e) (hS:InvE s0 es (fun j=>decide (j < ops.size)) S)
  (hQ:∀ a w,Rel ctx S a w -> Qx .normal a w):∀ (fuel:Nat) (listed:Array Bool) (s:PState) (a:Act) (w:World),listed.size = ops.size -> listed.toList.count false <= fuel -> InvE s0 es (fun j=>listed.getD j false) s -> DownC ops (fun j=>listed.getD j false) -> Rel ctx s a w ->
   wpAny P .any ops Qx fuel listed a w:=by
 have hfs:∀ i,i < ops.size -> ∃ f,fs[i]? = some f:=fun i hi=>⟨fs[i]'(by rw [F.len];exact hi),List.getElem?_eq_getElem _⟩
 have hok:∀ {i:Nat} {e:Ef},es[i]? = some e -> ∃ f,fs[i]? = some f /\ okE f e = true:=fun {i e} he=>by
  have hi:i < ops.size:=by rw [<- hlen];exact (List.getElem?_eq_some_iff.1 he).1
  obtain ⟨f,hf⟩:=hfs i hi;obtain ⟨T,e',h1,_,h2⟩:=hY i ops[i] f (Array.getElem?_eq_getElem hi) hf;rw [he] at h1
  cases h1
  exact ⟨f,hf,h2.1⟩
 have okU:∀ {f:Ft} {e:Ef},okE f e = true -> (∀ t,t ∈ e.U.map (·.1) -> t ∈ f.ws) /\ (∀ t,t ∈ e.V.map (·.1) -> t ∈ f.wo) /\ (∀ x ∈ e.U,x.2.named f.nm = true) /\ (∀ x ∈ e.V,x.2.named f.no = true):=fun {f e} h=>by
  simp only [okE,Bool.and_eq_true,List.all_eq_true] at h;exact ⟨fun t ht=>zM.1 (h.1.1.1 t ht),fun t ht=>zM.1 (h.1.1.2 t ht),h.1.2,h.2⟩
 have hall:∀ listed:Array Bool,listed.size = ops.size -> Region.ready .any ops listed = [] -> ∀ i,i < ops.size -> listed.getD i false = true:=by
  intro listed hsz hr i
  induction i using Nat.strongRecOn with
  | _ i ih=>
   intro hi
   cases hb:listed.getD i false with
   | true=>rfl
   | false=>
    have hlt:i < listed.size:=by omega
    have hmem:i ∈ Region.ready .any ops listed:=by
     refine vu.2 ⟨hi,?_,ops[i],Array.getElem?_eq_getElem hi,fun e he hbe=>?_⟩
     ·simp [Array.getD,hlt] at hb ⊢;exact hb
     ·have:=F.edge (Array.getElem?_eq_getElem hi) e he hbe;exact ih e.on this (by omega)
    rw [hr] at hmem
    cases hmem
 have hfin:∀ (listed:Array Bool) (s:PState) (a:Act) (w:World),listed.size = ops.size -> InvE s0 es (fun j=>listed.getD j false) s -> Rel ctx s a w -> Region.ready .any ops listed = [] -> Qx .normal a w:=by
  intro listed s a w hsz hh hr hrdy;have ha:=hall listed hsz hrdy;have hlt:∀ {β:Type} {g:Ef -> Option β} {k:Nat} {x:β},(es.map g)[k]? = some (some x) -> k < ops.size:=fun {β g k x} hk=>by
   have:=(List.getElem?_eq_some_iff.1 hk).1;rw [List.length_map] at this;omega
  refine hQ a w (Sub.drop (s:=s) (t:=S) (by rw [hh.n,hS.n]) (fun i p hp=>?_) (fun id o ho=>?_) a w hr)
  ·rw [uj] at hp ⊢;rw [hh.n,<- hS.n,hh.sl];rw [hS.sl] at hp;rw [<- hp]
   split
   ·exact uE fun j x hj=>by have:=hlt hj;simp only [Nat.zero_add,ha j this,this,decide_true]
   ·rfl
  ·rw [hh.ob];rw [hS.ob] at ho;rw [<- ho];exact uE fun j x hj=>by have:=hlt hj;simp only [Nat.zero_add,ha j this,this,decide_true]
 intro fuel
 induction fuel with
 | zero=>
  intro listed s a w hsz hc hh _ hr;have hrdy:Region.ready .any ops listed = []:=by
   apply List.eq_nil_iff_forall_not_mem.2;intro i hi;obtain ⟨h1,h2,_⟩:=vu.1 hi;have hlt:i < listed.size:=by omega
   have hm:false ∈ listed.toList:=by
    simp [Array.getD,hlt] at h2;rw [<- h2];simp
   have:=List.count_pos_iff.2 hm;omega
  exact ⟨hrdy,hfin listed s a w hsz hh hr hrdy⟩
 | succ fuel ih=>
  intro listed s a w hsz hc hh hdn hr;refine ⟨hfin listed s a w hsz hh hr,fun i hi=>?_⟩;obtain ⟨h1,h2,o,ho,he⟩:=vu.1 hi;have hlt:i < listed.size:=by omega
  have hli:listed[i] = false:=by simpa [Array.getD,hlt] using h2
  have hi0:listed.getD i false = false:=by simp [Array.getD,hlt,hli]
  have hpr:=preds_ok F hdn ho he;obtain ⟨f,hf⟩:=hfs i h1;obtain ⟨T,e,hee,hT,y⟩:=hY i o f ho hf;have hre:yv ops i = o.looksAt ops:=by simp [yv,ho]
  -- how another operation stands to this one
  have hbef:∀ {j:Nat} {g:Ft},j < i -> fs[j]? = some g -> ug g f (yv ops j) (yv ops i) = true -> listed.getD j false = true:=fun {j g} hji hg hcl=>hpr j ((F.pair hji hg hf).2 hcl)
  have haft:∀ {j:Nat} {g:Ft},i < j -> fs[j]? = some g -> ug f g (yv ops i) (yv ops j) = true -> listed.getD j false = false:=fun {j g} hij hg hcl=>by
   cases hb:listed.getD j false with
   | false=>rfl
   | true=>have:=F.ahead hdn hij hf hg hcl hb;rw [hi0] at this;cases this
  have same:∀ {β:Type} (wr:Ef -> Option β) (c:Option β),(∀ j e' g,j < i -> es[j]? = some e' -> (wr e').isSome = true -> fs[j]? = some g -> okE g e' = true -> ug g f (yv ops j) (yv ops i) = true) ->
    (∀ j e' g,i < j -> es[j]? = some e' -> (wr e').isSome = true -> fs[j]? = some g -> okE g e' = true -> ug f g (yv ops i) (yv ops j) = true) ->
    jO (es.map wr) (fun j=>listed.getD j false) 0 c = jO (es.map wr) (fun j=>decide (j < i)) 0 c:=fun {β} wr c hb ha=>by
   refine uE fun j x hj=>?_
   rw [List.getElem?_map] at hj
   cases hej:es[j]? with
   | none=>rw [hej] at hj;cases hj
   | some e'=>
    rw [hej] at hj;simp only [Option.map_some,Option.some.injEq] at hj;obtain ⟨g,hg,hk⟩:=hok hej;simp only [Nat.zero_add];rcases Nat.lt_trichotomy j i with hji | hji | hji
    ·rw [hbef hji hg (hb j e' g hji hej (by rw [hj];rfl) hg hk)];simp [hji]
    ·subst hji;rw [hi0];simp
    ·rw [haft hji hg (ha j e' g hji hej (by rw [hj];rfl) hg hk)];simp;omega
  have nm1:∀ {id j:Nat} {e':Ef} {g:Ft} {x:Nat × PV},fs[j]? = some g -> okE g e' = true -> x ∈ e'.U -> x.2.has id = true -> id ∈ g.nm:=fun {id j e' g x} _ hk hx hh=>PV.named_has ((okU hk).2.2.1 x hx) hh
  have nm2:∀ {id j:Nat} {e':Ef} {g:Ft} {x:Nat × Ob},fs[j]? = some g -> okE g e' = true -> x ∈ e'.V -> x.2.has id = true -> id ∈ g.no:=fun {id j e' g x} _ hk hx hh=>Ob.named_has ((okU hk).2.2.2 x hx) hh
  simp only [zPa,List.all_eq_true,Bool.and_eq_true,Bool.or_eq_true,Bool.not_eq_true',bne_iff_ne,ne_eq,zM] at hS0;have hSf:=hS0 f (List.mem_of_getElem? hf);refine y.run (hh.n.trans hT.n.symm) (fun t ht=>?_) (fun id hid=>?_) (fun id hid=>?_) (fun al hal=>?_) ho hr fun a' w' hr'=>?_
  ·rw [hh.sl,hT.sl];rw [<- hre] at ht;exact same (fun e=>xY e.U t) _ (fun j e' g _ _ hw _ hk=>by
    have:=yZ.2 ⟨t,(okU hk).1 t (Yg.1 hw),ht⟩;simp [ug,this]) (fun j e' g _ _ hw _ hk=>by
    have:=yZ.2 ⟨t,ht,(okU hk).1 t (Yg.1 hw)⟩;simp [ug,this])
  ·rw [hh.ob,hT.ob];exact same (fun e=>look e.V id) _ (fun j e' g _ _ hw _ hk=>by
    have:=yZ.2 ⟨id,(okU hk).2.1 id (Yh.1 hw),hid⟩;simp [ug,this]) (fun j e' g _ _ hw _ hk=>by
    have:=yZ.2 ⟨id,hid,(okU hk).2.1 id (Yh.1 hw)⟩;simp [ug,this])
  ·refine fresh_of (fun x hx=>?_) (fun x hx=>?_)
   ·rcases hh.ms x hx with h3 | ⟨j,e',hEj,hej,hxe⟩
    ·exact (hSf.1 id hid).1 x h3
    ·cases hb:x.2.has id with
     | false=>rfl
     | true=>
      exfalso;obtain ⟨g,hg,hk⟩:=hok hej;have hn:=nm1 hg hk hxe hb;rcases Nat.lt_trichotomy j i with hji | hji | hji
      ·have:=(F.pair hji hg hf).1;simp [JD,yZ.2 ⟨id,hid,hn⟩] at this
      ·subst hji;rw [hi0] at hEj;cases hEj
      ·rw [haft hji hg (by simp [ug,yZ.2 ⟨id,hid,hn⟩])] at hEj;cases hEj
   ·rcases hh.mo x hx with h3 | ⟨j,e',hEj,hej,hxe⟩
    ·exact (hSf.1 id hid).2 x h3
    ·obtain ⟨g,hg,hk⟩:=hok hej
     constructor
     ·intro hid2;have hn:id ∈ g.wo:=(okU hk).2.1 id (List.mem_map.2 ⟨x,hxe,hid2⟩);rcases Nat.lt_trichotomy j i with hji | hji | hji
      ·have:=(F.pair hji hg hf).1;simp [JD,yZ.2 ⟨id,hid,hn⟩] at this
      ·subst hji;rw [hi0] at hEj;cases hEj
      ·rw [haft hji hg (by simp [ug,yZ.2 ⟨id,hid,hn⟩])] at hEj;cases hEj
     ·cases hb:x.2.has id with
      | false=>rfl
      | true=>
       exfalso;have hn:=nm2 hg hk hxe hb;rcases Nat.lt_trichotomy j i with hji | hji | hji
       ·have:=(F.pair hji hg hf).1;simp [JD,yZ.2 ⟨id,hid,hn⟩] at this
       ·subst hji;rw [hi0] at hEj;cases hEj
       ·rw [haft hji hg (by simp [ug,yZ.2 ⟨id,hid,hn⟩])] at hEj;cases hEj
  ·refine alone_of (fun x hx hb=>?_) (fun x hx=>?_)
   ·rcases hh.ms x hx with h3 | ⟨j,e',hEj,hej,hxe⟩
    ·rcases (hSf.2 al hal).1 x h3 with h4 | h4
     ·rw [hb] at h4;cases h4
     ·exact h4
    ·obtain ⟨g,hg,hk⟩:=hok hej;have hn:=nm1 hg hk hxe hb;rcases Nat.lt_trichotomy j i with hji | hji | hji
     ·have:=(F.pair hji hg hf).1;simp only [JD,Bool.or_eq_false_iff,List.any_eq_false] at this;have h5:=this.2 al hal;simp only [Bool.or_eq_true,Bool.and_eq_true,zM,Bool.not_eq_true',not_or,not_and,Bool.not_eq_false,List.all_eq_true] at h5;exact h5.2 hn _ ((okU hk).1 _ (List.mem_map.2 ⟨x,hxe,rfl⟩))
     ·subst hji;rw [hi0] at hEj;cases hEj
     ·have h6:(f.al.any fun a=>inL g.nm a.1) = true:=List.any_eq_true.2 ⟨al,hal,zM.2 hn⟩;rw [haft hji hg (by simp only [ug,h6,Bool.or_true,Bool.true_or])] at hEj;cases hEj
   ·rcases hh.mo x hx with h3 | ⟨j,e',hEj,hej,hxe⟩
    ·rcases (hSf.2 al hal).2 x h3 with h4 | h4
     ·exact .inl (zM.2 h4)
     ·exact .inr h4
    ·right
     cases hb:x.2.has al.1 with
     | false=>rfl
     | true=>
      exfalso;obtain ⟨g,hg,hk⟩:=hok hej;have hn:=nm2 hg hk hxe hb;rcases Nat.lt_trichotomy j i with hji | hji | hji
      ·have:=(F.pair hji hg hf).1;simp only [JD,Bool.or_eq_false_iff,List.any_eq_false] at this;have h5:=this.2 al hal;simp only [Bool.or_eq_true,zM,not_or] at h5;exact h5.1 hn
      ·subst hji;rw [hi0] at hEj;cases hEj
      ·have h6:(f.al.any fun a=>inL g.no a.1) = true:=List.any_eq_true.2 ⟨al,hal,zM.2 hn⟩;rw [haft hji hg (by simp only [ug,h6,Bool.or_true])] at hEj;cases hEj
  ·have hgt:∀ j,j ≠ i -> (listed.setIfInBounds i true).getD j false = listed.getD j false:=fun j hj=>by
    simp [Array.getD_eq_getD_getElem?,Ne.symm hj]
   have hgi:(listed.setIfInBounds i true).getD i false = true:=by simp [Array.getD,hlt]
   refine ih _ _ a' w' (by simpa using hsz) ?_ (hh.step hee hi0 hgi hgt (fun j e' hij hej hEj t ht ht2=>?_) (fun j e' hij hej hEj t ht ht2=>?_)) (fun j hj k hk=>?_) hr'
   ·have:=jF (l:=listed.toList) (i:=i) (by simp [hlt,hli]);simp only [Array.toList_setIfInBounds];omega
   ·obtain ⟨g,hg,hk⟩:=hok hej;rw [haft hij hg (by simp [ug,yZ.2 ⟨t,(okU y.1).1 t ht,(okU hk).1 t ht2⟩])] at hEj;cases hEj
   ·obtain ⟨g,hg,hk⟩:=hok hej;rw [haft hij hg (by simp [ug,yZ.2 ⟨t,(okU y.1).2.1 t ht,(okU hk).2.1 t ht2⟩])] at hEj;cases hEj
   ·by_cases hki:k = i
    ·subst hki;exact hgi
    ·show (listed.setIfInBounds i true).getD k false = true;rw [hgt k hki]
     by_cases hji:j = i
     ·subst hji;exact hpr k hk
     ·exact hdn j (show listed.getD j false = true by rw [<- hgt j hji];exact hj) k hk

theorem PWc.regionE {Q:PQ} {s:PState} {id:Nat} {l:List Oper} (fs:List Ft) (hm:P.follows .mixedOrders = true) (hB:drawE l.toArray fs = true) (hS:zPa s fs = true) (h:PQe P ctx l.toArray (Q .normal) l fs s):PWc P ctx (.region id l.toArray true) Q s:=by
 intro a w ⟨g,hr⟩;obtain ⟨es,t,hrun,u,hu,hsub⟩:=h.run;have F:=JE hB;have h0:InvE s es (fun j=>decide (j < 0)) s:=InvE.zero fun j=>by simp
 obtain ⟨h1,h2⟩:=hrun.at_ (all:=es) (pre:=[]) (b:=0) (s0:=s) rfl rfl h0;refine wp_region_any hm ?_;refine QK (es:=es) (s0:=s) (S:=t) F hS (by simpa using hrun.lens.1) (fun i o f ho hf=>?_) (by simpa using h2) (fun a w hr=>⟨u,hu,hsub a w hr⟩) _ _ s a _ (by simp) ?_ ?_ ?_ ⟨g,hr.below (Below.refl _ w).drew⟩
 ·obtain ⟨S,e,e1,e2,e3⟩:=h1 i o f (by simpa using ho) hf;exact ⟨S,e,by simpa using e1,by simpa using e2,e3⟩
 ·simp
 ·exact InvE.zero fun j=>by simp [Array.getD]
 ·intro j hj;simp [Array.getD] at hj
end
end Go.Ep

namespace Go.Ep
open Go.RowKit
section
variable {P:Program} {ctx:Ctx} {ops:Array Oper} {Q:PState -> Prop}
def XJ (d:Option Nat) (p:PV):List (Nat × PV):=match d with | some d=>[(d,p)] | none=>[]
theorem app_P (s:PState) (d:Option Nat) (p:PV):s.app ⟨XJ d p,[]⟩ = s.putD d p:=by cases d <;> rfl
theorem app_SD (s:PState) (d:Option Nat) (p:PV) (id:Nat) (ob:Ob):s.app ⟨XJ d p,[(id,ob)]⟩ = (s.setO id ob).putD d p:=by cases d <;> rfl
theorem xC (js:List Nat):∀ s:PState,(s.junks js).sl = (js.map fun t=>(t,PV.junk)).reverse ++ s.sl:=by
 induction js with
 | nil=>intro s;rfl
 | cons d r ih=>intro s;rw [PState.junks,ih];simp [PState.put]
theorem yi (js:List Nat):∀ s:PState,(s.junks js).n = s.n:=by
 induction js with
 | nil=>intro s;rfl
 | cons d r ih=>intro s;rw [PState.junks,ih];rfl
theorem app_A (s:PState) (d:Option Nat) (p:PV) (js:List Nat) (id:Nat) (ob:Ob):s.app ⟨XJ d p ++ (js.map fun t=>(t,PV.junk)).reverse,[(id,ob)]⟩ = ((s.junks js).setO id ob).putD d p:=by
 cases d with
 | none=>simp only [PState.app,XJ,PState.putD,PState.setO,xC,yi,zp,List.nil_append,List.foldr_cons,List.foldr_nil]
 | some d=>simp only [PState.app,XJ,PState.putD,PState.setO,PState.put,xC,yi,zp,List.cons_append,List.nil_append,List.foldr_cons,List.foldr_nil]

variable {s:PState} {o:Oper} {rest:List Oper} {f:Ft} {fs:List Ft}
theorem PQe.nil (h:Q s):PQe P ctx ops Q [] [] s:=.fin h (Sub.refl _)
theorem PQe.stepP {p:PV} (hl:∀ s':PState,(∀ {x q},yy o x = true -> s.ev x = some q -> s'.ev x = some q) -> (∀ {id ob},inL f.ro id = true -> look s.objs id = some ob -> look s'.objs id = some ob) -> Local P ctx o s' (s'.putD o.dst p))
  (hg:Wd ops o s) (hk:okE f ⟨XJ o.dst p,[]⟩ = true) (h:PQe P ctx ops Q rest fs (s.putD o.dst p)):PQe P ctx ops Q (o :: rest) (f :: fs) s:=
 .step (e:=⟨XJ o.dst p,[]⟩) (fun s' _ he ho _ _=>by rw [app_P];exact hl s' he fun hi=>ho (zM.1 hi)) hg hk (by rw [app_P];exact h)
theorem PQe.stepN {p:PV} {id:Nat} {ob:Ob} (hl:∀ s':PState,(∀ {x q},yy o x = true -> s.ev x = some q -> s'.ev x = some q) -> (∀ {id ob},inL f.ro id = true -> look s.objs id = some ob -> look s'.objs id = some ob) -> s'.fresh id = true -> Local P ctx o s' (s'.newO id ob p))
  (hfr:inL f.fr id = true) (hg:Wd ops o s) (hk:okE f ⟨[(id,p)],[(id,ob)]⟩ = true) (h:PQe P ctx ops Q rest fs (s.newO id ob p)):PQe P ctx ops Q (o :: rest) (f :: fs) s:=
 .step (e:=⟨[(id,p)],[(id,ob)]⟩) (fun s' _ he ho hf _=>hl s' he (fun hi=>ho (zM.1 hi)) (hf id (zM.1 hfr))) hg hk h
theorem PQe.stepS {id:Nat} {ob:Ob} (hl:∀ s':PState,(∀ {x q},yy o x = true -> s.ev x = some q -> s'.ev x = some q) -> (∀ {id ob},inL f.ro id = true -> look s.objs id = some ob -> look s'.objs id = some ob) -> Local P ctx o s' (s'.setO id ob))
  (hg:Wd ops o s) (hk:okE f ⟨[],[(id,ob)]⟩ = true) (h:PQe P ctx ops Q rest fs (s.setO id ob)):PQe P ctx ops Q (o :: rest) (f :: fs) s:=
 .step (e:=⟨[],[(id,ob)]⟩) (fun s' _ he ho _ _=>hl s' he fun hi=>ho (zM.1 hi)) hg hk h
theorem PQe.stepSD {p:PV} {id:Nat} {ob:Ob} (hl:∀ s':PState,(∀ {x q},yy o x = true -> s.ev x = some q -> s'.ev x = some q) -> (∀ {id ob},inL f.ro id = true -> look s.objs id = some ob -> look s'.objs id = some ob) -> Local P ctx o s' ((s'.setO id ob).putD o.dst p))
  (hg:Wd ops o s) (hk:okE f ⟨XJ o.dst p,[(id,ob)]⟩ = true) (h:PQe P ctx ops Q rest fs ((s.setO id ob).putD o.dst p)):PQe P ctx ops Q (o :: rest) (f :: fs) s:=
 .step (e:=⟨XJ o.dst p,[(id,ob)]⟩) (fun s' _ he ho _ _=>by rw [app_SD];exact hl s' he fun hi=>ho (zM.1 hi)) hg hk (by rw [app_SD];exact h)
def inAl (l:List (Nat × List Nat)) (id:Nat) (js:List Nat):Bool:=l.any fun a=>Nat.beq a.1 id && a.2 == js
def inAo (f:Ft) (id:Nat) (js:List Nat):Bool:=f.ao.isEmpty && inAl f.al id js
theorem PQe.stepA {p:PV} {id:Nat} {ob:Ob} (js:List Nat) (hl:∀ s':PState,(∀ {x q},yy o x = true -> s.ev x = some q -> s'.ev x = some q) -> (∀ {id ob},inL f.ro id = true -> look s.objs id = some ob -> look s'.objs id = some ob) -> (s'.junks js).alone id = true -> Local P ctx o s' (((s'.junks js).setO id ob).putD o.dst p))
  (ha:inAo f id js = true) (hg:Wd ops o s) (hk:okE f ⟨XJ o.dst p ++ (js.map fun t=>(t,PV.junk)).reverse,[(id,ob)]⟩ = true) (h:PQe P ctx ops Q rest fs (((s.junks js).setO id ob).putD o.dst p)):PQe P ctx ops Q (o :: rest) (f :: fs) s:=
 .step (e:=⟨XJ o.dst p ++ (js.map fun t=>(t,PV.junk)).reverse,[(id,ob)]⟩) (fun s' _ he ho _ hal=>by
  rw [app_A];refine hl s' he (fun hi=>ho (zM.1 hi)) ?_;unfold inAo at ha;rw [Bool.and_eq_true] at ha;obtain ⟨h0,ha⟩:=ha;unfold inAl at ha;obtain ⟨a,h1,h2⟩:=List.any_eq_true.1 ha;simp only [Bool.and_eq_true,beq_iff_eq] at h2;have:=hal a h1;rw [Nat.eq_of_beq_eq_true h2.1,h2.2,List.isEmpty_iff.1 h0] at this;exact QJ this) hg hk (by rw [app_A];exact h)
theorem PQe.skipP (hg:Sk ops o s) (hk:okE f (undE o) = true) (h:PQe P ctx ops Q rest fs (s.putD o.dst .und)):PQe P ctx ops Q (o :: rest) (f :: fs) s:=
 .skip hg hk (by have:s.app (undE o) = s.putD o.dst .und:=app_P s o.dst .und;rw [this];exact h)

theorem Same.app {s t:PState} (h:Same s t) (e:Ef):Same (s.app e) (t.app e):=by
 refine ⟨h.1,fun i=>?_,?_⟩
 ·have h2:=h.2.1 i;rw [uj,uj] at h2 ⊢;show (if i < s.n then xY (e.U ++ s.sl) i else none) = if i < t.n then xY (e.U ++ t.sl) i else none
  rw [Yf,Yf];rw [h.1] at h2 ⊢
  by_cases hi:i < t.n
  ·simp only [hi,if_true] at h2 ⊢;rw [h2]
  ·simp only [hi,if_false]
 ·show e.V.foldr _ s.objs = e.V.foldr _ t.objs;rw [h.2.2]
theorem PQe.same {l:List Oper} {fs:List Ft} {t:PState} (h:PQe P ctx ops Q l fs t):∀ {s:PState},Same s t -> PQe P ctx ops Q l fs s:=by
 induction h with
 | fin h hs=>intro s he;exact .fin h (Sub.trans he.sub hs)
 | step hl hg hk _ ih=>
  intro s he;refine .step (fun s' hn h1 h2 h3 h4=>hl s' (hn.trans he.1) (fun hx hq=>h1 hx (by rw [he.ev];exact hq)) (fun hi ho=>h2 hi (by rw [he.2.2];exact ho)) h3 h4) ?_ hk (ih (he.app _));rcases hg with hg | ⟨j,b,d,h5,h6,h7⟩
  ·exact .inl hg
  ·exact .inr ⟨j,b,d,h5,h6,by rw [he.2.1];exact h7⟩
 | skip hg hk _ ih=>
  intro s he;refine .skip ?_ hk (ih (he.app _));rcases hg with ⟨j,b,c,d,h5,h6,h7,h8⟩ | ⟨j,b,d,h5,h6,h7⟩
  ·exact .inl ⟨j,b,c,d,h5,h6,by rw [he.2.1];exact h7,h8⟩
  ·exact .inr ⟨j,b,d,h5,h6,by rw [he.2.1];exact h7⟩
theorem PQe.split {d:Nat} {b:Bool} (hs:s.at d = some (.d (.v (.bool b)))) (ht:b = true -> PQe P ctx ops Q rest fs (s.put d (.d (.v (.bool true))))) (hf:b = false -> PQe P ctx ops Q rest fs (s.put d (.d (.v (.bool false))))):PQe P ctx ops Q rest fs s:=by
 have e:Same s (s.put d (.d (.v (.bool b)))):=by
  refine ⟨rfl,fun i=>?_,rfl⟩;rw [YN]
  by_cases hi:i < s.n
  ·rw [if_pos hi]
   by_cases hd:d = i
   ·subst hd;rw [if_pos rfl];exact hs
   ·rw [if_neg hd]
  ·rw [if_neg hi,uj,if_neg hi]
 cases b with
 | true=>exact (ht rfl).same e
 | false=>exact (hf rfl).same e
end
end Go.Ep
namespace Go.Ep
section
variable {P:Program} {ctx:Ctx} {ops:Array Oper} {Q:PState -> Prop} {s:PState} {o:Oper} {rest:List Oper} {f:Ft} {fs:List Ft}
theorem kp {p:PV} (hl:∀ s':PState,(∀ {x:Operand} {q:PV} (_:yy o x = true:=by exact rfl) (_:s.ev x = some q:=by exact rfl),s'.ev x = some q) -> (∀ {id ob},inL f.ro id = true -> look s.objs id = some ob -> look s'.objs id = some ob) -> Local P ctx o s' (s'.putD o.dst p)) (h:PQe P ctx ops Q rest fs (s.putD o.dst p)) (hg:Wd ops o s:=by exact .inl rfl) (hk:okE f ⟨XJ o.dst p,[]⟩ = true:=by exact rfl):PQe P ctx ops Q (o :: rest) (f :: fs) s:=PQe.stepP hl hg hk h
theorem km {dst:Option Tmp} {ty:TypeId} {pos:String} {after:Array Edge} {gd:Option (Nat × Bool)} {x:Operand} {p:PV} (h:PQe P ctx ops Q rest fs (s.putD dst p)) (hx:s.ev x = some p:=by exact rfl) (hg:Wd ops ⟨dst,.move x,ty,pos,after,gd⟩ s:=by exact .inl rfl) (hk:okE f ⟨XJ dst p,[]⟩ = true:=by exact rfl):PQe P ctx ops Q (⟨dst,.move x,ty,pos,after,gd⟩ :: rest) (f :: fs) s:=PQe.stepP (fun _ he _=>LR.move (he rdM hx)) hg hk h
theorem ks {id:Nat} {ob:Ob} (hl:∀ s':PState,(∀ {x:Operand} {q:PV} (_:yy o x = true:=by exact rfl) (_:s.ev x = some q:=by exact rfl),s'.ev x = some q) -> (∀ {id ob},inL f.ro id = true -> look s.objs id = some ob -> look s'.objs id = some ob) -> Local P ctx o s' (s'.setO id ob)) (h:PQe P ctx ops Q rest fs (s.setO id ob)) (hg:Wd ops o s:=by exact .inl rfl) (hk:okE f ⟨[],[(id,ob)]⟩ = true:=by exact rfl):PQe P ctx ops Q (o :: rest) (f :: fs) s:=PQe.stepS hl hg hk h
theorem kx (h:PQe P ctx ops Q rest fs (s.putD o.dst .und)) (hg:Sk ops o s:=by exact .inl ⟨_,_,_,_,rfl,rfl,rfl,by decide⟩) (hk:okE f (undE o) = true:=by exact rfl):PQe P ctx ops Q (o :: rest) (f :: fs) s:=PQe.skipP hg hk h
end
end Go.Ep
namespace Go.Ep
open Go.RowKit
def vO (m:List (List Int × Value)):Mp:=m.map fun x=>(x.1,[])
theorem jQ {m:List (List Int × Value)} {i:Nat} {ns:List Int} {c:List DV} (h:(vO m)[i]? = some (ns,c)):∃ p,m[i]? = some (ns,p):=by
 unfold vO at h;rw [List.getElem?_map] at h
 cases hm:m[i]? with
 | none=>rw [hm] at h;cases h
 | some x=>rw [hm] at h;simp only [Option.map_some,Option.some.injEq,Prod.mk.injEq] at h;exact ⟨x.2,by rw [<- h.1]⟩

section
variable {P:Program} {ctx:Ctx} {Q:PQ} {s:PState}
variable {dst:Option Tmp} {ty:TypeId} {pos:String} {after:Array Edge} {gd:Option (Nat × Bool)}

theorem RelG.reread {g:zQ} {a:Act} {w:World} (h1:RelG ctx g s a w) {id:Nat} {o0 ob:Ob} (hl:look s.objs id = some o0) {objs':List (Nat × Ob)} (ho':∀ i,look objs' i = if i = id then some ob else look s.objs i)
  (hr:∀ S,ObRd w g S id o0 -> ObRd w g S id ob):RelG ctx g { s with objs:=objs' } a w:=by
 have hF:∀ b,zZ ctx g s.objs b -> zZ ctx g objs' b:=fun b hb=>⟨hb.1,fun i o n ho hgi=>by
  rw [ho'] at ho
  by_cases ei:i = id
  ·subst ei;exact hb.2 i _ n hl hgi
  ·rw [if_neg ei] at ho;exact hb.2 i o n ho hgi⟩
 have hst:yH w w (zZ ctx g s.objs):=⟨Nat.le_refl _,fun _ _ _=>rfl⟩
 refine ⟨h1.defers,h1.size,fun i p hp=>(h1.slots i p hp).keep hst (fun b hb _=>hF b hb) (fun _ _=>rfl),fun i o ho=>?_,fun i i2 o o2 b n m ho ho2 hgi hgi2=>?_,fun i o b n ho hgi=>?_,h1.os,h1.tape,h1.output,h1.grows,h1.keep⟩
 ·simp only [ho'] at ho
  by_cases ei:i = id
  ·subst ei;rw [if_pos rfl] at ho
   cases ho
   exact hr _ ((h1.objs i _ hl).keep hst (fun b hb _=>hF b hb) (fun _ _ _=>rfl) rfl (fun _ _=>rfl))
  ·rw [if_neg ei] at ho;exact (h1.objs i o ho).keep hst (fun b hb _=>hF b hb) (fun _ _ _=>rfl) rfl (fun _ _=>rfl)
 ·simp only [ho'] at ho ho2;have key:∀ q o,(if q = id then some ob else look s.objs q) = some o -> ∃ o',look s.objs q = some o':=fun q o hq=>by
   by_cases eq:q = id
   ·subst eq;exact ⟨_,hl⟩
   ·rw [if_neg eq] at hq;exact ⟨o,hq⟩
  obtain ⟨p1,q1⟩:=key i o ho;obtain ⟨p2,q2⟩:=key i2 o2 ho2;exact h1.inj i i2 p1 p2 b n m q1 q2 hgi hgi2
 ·simp only [ho'] at ho
  by_cases ei:i = id
  ·subst ei;exact h1.own i _ b n hl hgi
  ·rw [if_neg ei] at ho;exact h1.own i o b n ho hgi
theorem YD (id:Nat) (ob:Ob) (l:List (Nat × Ob)) (i:Nat):look (zd id ob (wg id l)) i = if i = id then some ob else look l i:=by
 rw [zC,zg]
 by_cases h:i = id <;> simp [h]
theorem WB {id:Nat}:∀ {l:List (Nat × Ob)} {x:Nat × Ob},x ∈ wg id l -> x.1 ≠ id /\ x ∈ l
 | [],x,h=>by simp [wg] at h
 | (k,p) :: r,x,h=>by
  unfold wg at h
  by_cases e:id = k
  ·rw [if_pos e] at h;have:=WB h;exact ⟨this.1,List.mem_cons_of_mem _ this.2⟩
  ·rw [if_neg e] at h;rcases List.mem_cons.1 h with h | h
   ·subst h;exact ⟨Ne.symm e,List.mem_cons_self⟩
   ·have:=WB h;exact ⟨this.1,List.mem_cons_of_mem _ this.2⟩
theorem ObRd.junkP {w:World} {g:zQ} {S:Nat -> Prop} {id:Nat} {ks:List IntKind} {m:List (List Int × Value)} {j:Nat} {p:PV} {bs:List Nat} {ck:Nat} (h:ObRd w g S id (.mapP ks m (some (j,p)) bs ck)):ObRd w g S id (.mapP ks m (some (j,.junk)) bs ck):=by
 cases h with
 | mapP _ _ _ _ _ blk n es h hh hsz hst hbl hnd hent hov=>
  refine .mapP ks m _ bs ck blk n es h hh hsz hst hbl hnd (fun i ns u hi=>?_) fun j' p' hj=>?_
  ·obtain ⟨e,h1,h2,h3,h4,h5⟩:=hent i ns u hi;refine ⟨e,h1,h2,h3,h4,fun hne=>h5 fun q hq=>?_⟩
   cases hq
   exact hne .junk rfl
  ·cases hj
   obtain ⟨e,h1,h2⟩:=hov j p rfl;exact ⟨e,h1,.junk _⟩
section
variable {x kx:Operand} {t kt et:TypeId} {ks:List IntKind} {m:List (List Int × Value)} {ns:List Int} {bs:List Nat} {ck id:Nat} {ov:Option (Nat × PV)}
theorem Yj {es:Array MapEntry}
  (hent:∀ (i:Nat) (ns:List Int) (u:Value),m[i]? = some (ns,u) -> ∃ e,es[i]? = some e /\ e.key = vD ks ns /\ ns.length = ks.length /\ e.val.oneCell' = true /\ ((∀ p,ov ≠ some (i,p)) -> e.val = u)) :
  ∀ (i:Nat) (e:MapEntry) (nn:List Int) (c:List DV),es.toList[i]? = some e -> (vO m)[i]? = some (nn,c) -> e.key = vD ks nn /\ nn.length = ks.length:=fun i e nn c h1 h2=>by
 obtain ⟨q,hq⟩:=jQ h2;obtain ⟨e',g1,g2,g3,_⟩:=hent i nn q hq;have:e' = e:=by simp at h1;rw [g1] at h1;cases h1;rfl
 subst this;exact ⟨g2,g3⟩
variable (hu:P.underlying t = some (.map kt et)) (K:KeyOK P kt ks) (hx:s.ev x = some (.mp id)) (hl:look s.objs id = some (.mapP ks m ov bs ck)) (hk:s.ev kx = some (jq ks ns)) (hn:ns.length = ks.length)
include hu K hx hl hk hn
theorem LR.lookupP {j:Nat} {p:PV} (hj:yO ns (vO m) 0 = some j) (hp:ov = some (j,p)):Local P ctx ⟨dst,.lookup t x kx false,ty,pos,after,gd⟩ s (s.putD dst p):=
 zD (o:=⟨dst,.lookup t x kx false,ty,pos,after,gd⟩) fun a w g hg=>by
  have h:=hg.ev hx
  generalize hv:a.eval x = v at h
  cases h with
  | mpNil _ hgn=>
   cases hg.objs id _ hl with
   | mapP _ _ _ _ _ blk' n' es h' hh hsz hst hbl hnd hent hov=>rw [hgn] at h';cases h'
  | mp _ blk n hgi=>
   cases hg.objs id _ hl with
   | mapP _ _ _ _ _ blk' n' es h' hh hsz hst hbl hnd hent hov=>
    rw [hgi] at h';cases h';have hf:=K.find w ns (vO m) es.toList hn (by simpa [vO] using hsz) (Yj hent);obtain ⟨e,g1,g5⟩:=hov j p hp;have he:es.toList[j]? = some e:=by simpa using g1
    rw [hj] at hf;simp only [Option.bind_some,he,Option.map_some] at hf;refine ⟨e.val,?_,g5⟩;simp only [execOp,hv,vk (hg.ev hk),Instr.lookup,Sem.run_bind,run_underlying hu,Result.andThen_ok,MapKept.run_getObj_map hh,Sem.run_pure,K.check w _ ns hn,hf]
    rfl
theorem LR.lookupPN {z:Value} (hz:∀ w,(zeroValue et).run P w = .ok z w) (h1:z.oneCell' = true) (hj:yO ns (vO m) 0 = none):Local P ctx ⟨dst,.lookup t x kx false,ty,pos,after,gd⟩ s (s.putD dst (.d (.v z))):=
 zD (o:=⟨dst,.lookup t x kx false,ty,pos,after,gd⟩) fun a w g hg=>by
  have h:=hg.ev hx
  generalize hv:a.eval x = v at h
  cases h with
  | mpNil _ hgn=>
   cases hg.objs id _ hl with
   | mapP _ _ _ _ _ blk' n' es h' hh hsz hst hbl hnd hent hov=>rw [hgn] at h';cases h'
  | mp _ blk n hgi=>
   cases hg.objs id _ hl with
   | mapP _ _ _ _ _ blk' n' es h' hh hsz hst hbl hnd hent hov=>
    rw [hgi] at h';cases h';have hf:=K.find w ns (vO m) es.toList hn (by simpa [vO] using hsz) (Yj hent);rw [hj] at hf;simp only [Option.bind_none] at hf;refine ⟨z,?_,.d (.v z h1)⟩;simp only [execOp,hv,vk (hg.ev hk),Instr.lookup,Sem.run_bind,run_underlying hu,Result.andThen_ok,MapKept.run_getObj_map hh,Sem.run_pure,K.check w _ ns hn,hf,hz]
    rfl
omit hu K hx hl hk hn in
theorem zTa {w:World} {g:zQ} {S:Nat -> Prop} {q n:Nat} {u:Value} (h:Rd w g S (.row q n) u):u.oneCell' = true:=by cases h <;> rfl
theorem LR.mapUpdateP {vx:Operand} {j q nn:Nat} {p:PV} (hov:ov = some (j,p)) (hv:s.ev vx = some (.row q nn)) (hj:yO ns (vO m) 0 = some j):Local P ctx ⟨none,.mapUpdate t x kx vx,ty,pos,after,gd⟩ s (s.setO id (.mapP ks m (some (j,.row q nn)) bs ck)):=by
 subst hov;refine ZI (o:=⟨none,.mapUpdate t x kx vx,ty,pos,after,gd⟩) fun a w g hg=>?_
 have h:=hg.ev hx
 generalize hxv:a.eval x = v at h
 cases h with
 | mpNil _ hgn=>
  cases hg.objs id _ hl with
  | mapP _ _ _ _ _ blk' n' es h' hh hsz hst hbl hnd hent hov=>rw [hgn] at h';cases h'
 | mp _ blk n hgi=>
  cases hg.objs id _ hl with
  | mapP _ _ _ _ _ blk' n' es h' hh hsz hst hbl hnd hent hov=>
   rw [hgi] at h';cases h';have hf:=K.find w ns (vO m) es.toList hn (by simpa [vO] using hsz) (Yj hent);obtain ⟨k,hjk,cs0,h2,h3⟩:=uk ns (vO m) 0 j hj;have:j = k:=by omega
   subst this;obtain ⟨p0,hp0⟩:=jQ h2;obtain ⟨e0,g1,g2,g3,g4,g5⟩:=hent j ns p0 hp0;have he:es.toList[j]? = some e0:=by simpa using g1
   rw [hj] at hf;simp only [Option.bind_some,he,Option.map_some] at hf;have hvr:=hg.ev hv
   generalize hu':a.eval vx = u at hvr
   have hsame:(Instr.keyThatStays (((es[j]?).map (·.key)).getD (vD ks ns)) (vD ks ns)).run P w = .ok (vD ks ns) w:=by
    simp only [g1,Option.map_some,Option.getD_some,g2,Instr.keyThatStays,Xc,if_true,Sem.run_pure]
   have hrun:(Instr.mapUpdate t (.map (some blk)) (vD ks ns) u).run P w = .ok () { w with heap:=w.heap.setIfInBounds blk (.map (es.modify j fun e=>{ e with key:=vD ks ns,val:=u }) ck) }:=by
    simp only [Instr.mapUpdate,Sem.run_bind,run_underlying hu,Result.andThen_ok,MapKept.run_getObj_map hh,K.check w _ ns hn,hf,hsame];exact MapKept.run_setObj_map _ hh
   refine ⟨_,by simp only [execOp,hxv,vk (hg.ev hk),hu',Sem.run_bind,hrun,Result.andThen_ok,Sem.run_pure];rfl,g,?_⟩;have hown:=hg.own id _ blk n hl hgi;have hother:∀ k,k < w.heap.size -> k ≠ blk -> ({ w with heap:=w.heap.setIfInBounds blk (.map (es.modify j fun e=>{ e with key:=vD ks ns,val:=u }) ck) }:World).heap[k]? = w.heap[k]?:=fun k _ hne=>vv w blk k _ hne
   have hst':yH w { w with heap:=w.heap.setIfInBounds blk (.map (es.modify j fun e=>{ e with key:=vD ks ns,val:=u }) ck) } (zZ ctx g s.objs):=⟨by simp,fun b ⟨_,h2⟩ hlt=>hother b hlt fun e=>by subst e;exact h2 id _ n hl hgi⟩
   refine hg.wrote hl hgi rfl rfl rfl (by simp) hother hown.2 (.mapP ks _ _ bs ck blk n (es.modify j fun e=>{ e with key:=vD ks ns,val:=u }) hgi (ZL w blk _ hown.1) (by simp [hsz]) ?_ hbl hnd (fun i nn' u' hi=>?_) fun j' p' hj'=>?_)
   ·rw [hst];apply List.ext_getElem?;intro i;simp only [List.getElem?_map,Array.getElem?_toList,Array.getElem?_modify]
    by_cases hij:j = i
    ·subst hij;simp [g1]
    ·simp [hij]
   ·by_cases hij:i = j
    ·subst hij;rw [hp0] at hi
     cases hi
     exact ⟨_,by rw [Array.getElem?_modify,if_pos rfl,g1];rfl,rfl,hn,zTa hvr,fun hne=>(hne _ rfl).elim⟩
    ·obtain ⟨e,q1,q2,q3,q4,q5⟩:=hent i nn' u' hi;exact ⟨e,by rw [Array.getElem?_modify,if_neg (Ne.symm hij)];exact q1,q2,q3,q4,fun _=>q5 fun p hp=>by cases hp;exact hij rfl⟩
   ·cases hj'
    exact ⟨_,by rw [Array.getElem?_modify,if_pos rfl,g1];rfl,hvr.keep hst' (fun b hb _=>yo hl b hb) (fun _ _=>rfl)⟩
theorem LR.mapUpdatePN {vx:Operand} {q nn:Nat} (hov:ov = none) (hv:s.ev vx = some (.row q nn)) (hj:yO ns (vO m) 0 = none):Local P ctx ⟨none,.mapUpdate t x kx vx,ty,pos,after,gd⟩ s (s.setO id (.mapP ks (m ++ [(ns,undef)]) (some (m.length,.row q nn)) (bs ++ [ck]) (ck + 1))):=by
 subst hov;refine ZI (o:=⟨none,.mapUpdate t x kx vx,ty,pos,after,gd⟩) fun a w g hg=>?_
 have h:=hg.ev hx
 generalize hxv:a.eval x = v at h
 cases h with
 | mpNil _ hgn=>
  cases hg.objs id _ hl with
  | mapP _ _ _ _ _ blk' n' es h' hh hsz hst hbl hnd hent hov=>rw [hgn] at h';cases h'
 | mp _ blk n hgi=>
  cases hg.objs id _ hl with
  | mapP _ _ _ _ _ blk' n' es h' hh hsz hst hbl hnd hent hov=>
   rw [hgi] at h';cases h';have hf:=K.find w ns (vO m) es.toList hn (by simpa [vO] using hsz) (Yj hent);rw [hj] at hf;simp only [Option.bind_none] at hf;have hvr:=hg.ev hv
   generalize hu':a.eval vx = u at hvr
   have hrun:(Instr.mapUpdate t (.map (some blk)) (vD ks ns) u).run P w = .ok () { w with heap:=w.heap.setIfInBounds blk (.map (es.push { key:=vD ks ns,val:=u,born:=ck }) (ck + 1)) }:=by
    simp only [Instr.mapUpdate,Sem.run_bind,run_underlying hu,Result.andThen_ok,MapKept.run_getObj_map hh,K.check w _ ns hn,hf];exact MapKept.run_setObj_map _ hh
   refine ⟨_,by simp only [execOp,hxv,vk (hg.ev hk),hu',Sem.run_bind,hrun,Result.andThen_ok,Sem.run_pure];rfl,g,?_⟩;have hown:=hg.own id _ blk n hl hgi;have hother:∀ k,k < w.heap.size -> k ≠ blk -> ({ w with heap:=w.heap.setIfInBounds blk (.map (es.push { key:=vD ks ns,val:=u,born:=ck }) (ck + 1)) }:World).heap[k]? = w.heap[k]?:=fun k _ hne=>vv w blk k _ hne
   have hst':yH w { w with heap:=w.heap.setIfInBounds blk (.map (es.push { key:=vD ks ns,val:=u,born:=ck }) (ck + 1)) } (zZ ctx g s.objs):=⟨by simp,fun b ⟨_,h2⟩ hlt=>hother b hlt fun e=>by subst e;exact h2 id _ n hl hgi⟩
   refine hg.wrote hl hgi rfl rfl rfl (by simp) hother hown.2 (.mapP ks _ _ (bs ++ [ck]) (ck + 1) blk n (es.push { key:=vD ks ns,val:=u,born:=ck }) hgi (ZL w blk _ hown.1) (by simp [hsz]) (by simp [hst]) ?_ ?_ (fun i nn' u' hi=>?_) fun j' p' hj'=>?_)
   ·intro b hb;rcases List.mem_append.1 hb with h | h
    ·have:=hbl b h;omega
    ·simp at h;omega
   ·rw [List.nodup_append];refine ⟨hnd,by simp,fun b hb c hc=>?_⟩;simp at hc;have:=hbl b hb;omega
   ·rw [List.getElem?_append] at hi
    split at hi
    ·rename_i hlt
     obtain ⟨e,q1,q2,q3,q4,q5⟩:=hent i nn' u' hi;exact ⟨e,by rw [Array.getElem?_push,if_neg (by rw [hsz];omega)];exact q1,q2,q3,q4,fun _=>q5 fun p hp=>by cases hp⟩
    ·rename_i hge
     have hi0:i = m.length:=by
      have:i - m.length < 1:=by simpa using (List.getElem?_eq_some_iff.1 hi).1
      omega
     subst hi0;simp at hi;obtain ⟨rfl,rfl⟩:=hi;exact ⟨_,by rw [Array.getElem?_push,if_pos hsz.symm],rfl,hn,zTa hvr,fun hne=>(hne _ rfl).elim⟩
   ·cases hj'
    exact ⟨_,by rw [Array.getElem?_push,if_pos hsz.symm],hvr.keep hst' (fun b hb _=>yo hl b hb) (fun _ _=>rfl)⟩
end
end

section
variable {P:Program} {ctx:Ctx} {ops:Array Oper} {Q:PState -> Prop} {s:PState}
variable {dst:Option Tmp} {ty:TypeId} {pos:String} {after:Array Edge} {gd:Option (Nat × Bool)}
theorem Local.post {o:Oper} {t u:PState} (h:Local P ctx o s t) (hs:Sub ctx t u):Local P ctx o s u:=fun a w hr K Qx hK=>h a w hr K Qx fun a' w' h'=>hK a' w' (hs a' w' h')
theorem Local.pre {o:Oper} {t u:PState} (hs:Sub ctx s t) (h:Local P ctx o t u):Local P ctx o s u:=fun a w hr K Qx hK=>h a w (hs a w hr) K Qx hK
section
variable {α:Type} {enc:α -> List DV} {L R:List α} {x y:Operand} {id mid m k bs':Nat} {t t' e e':TypeId} {ks:List IntKind} {mm:List (List Int × Value)} {j:Nat} {p:PV} {bs:List Nat} {ck:Nat}
theorem LR.appP (js:List Nat) (hE:ElemOK P t e k bs') (hu':P.underlying t' = some (.slice e')) (hx:s.ev x = some (.row id m)) (hm:m = L.length) (hl:look s.objs id = some (.row e k (L.map enc)))
  (hlm:look s.objs mid = some (.mapP ks mm (some (j,p)) bs ck)) (hne:Nat.beq id mid = false)
  (hy:∀ s':PState,s'.n = s.n -> s'.sl = s.sl -> Src ctx s' y (R.map enc) k) (hk:∀ x,(enc x).length = k) (hb:(L.length + R.length) * bs' <= 140737488355328) (h1:Nat.ble 1 bs' = true) (ha:(s.junks js).aloneX id [mid] = true) :
  Local P ctx ⟨dst,.call ⟨.builtin .append,#[x,y],#[t,t']⟩,ty,pos,after,gd⟩ s ((((s.junks js).setO mid (.mapP ks mm (some (j,.junk)) bs ck)).setO id (.row e k ((L ++ R).map enc))).putD dst (.row id (L ++ R).length)):=by
 have hne':id ≠ mid:=fun e=>by rw [e] at hne;simp at hne
 let s2:PState:={ s with objs:=zd mid (.mapP ks mm (some (j,.junk)) bs ck) (wg mid s.objs) }
 have hsub:Sub ctx s s2:=fun a w ⟨g,hg⟩=>⟨g,hg.reread hlm (YD _ _ _) fun S h=>h.junkP⟩
 have hj2:∀ js,(s2.junks js).sl = (s.junks js).sl:=fun js=>by rw [xC,xC]
 have ha2:(s2.junks js).alone id = true:=by
  unfold PState.aloneX at ha;unfold PState.alone;rw [hj2 js];rw [Bool.and_eq_true] at ha ⊢;refine ⟨ha.1,List.all_eq_true.2 fun q hq=>?_⟩;rw [zp] at hq;have h2:=List.all_eq_true.1 ha.2;obtain ⟨qk,qo⟩:=q;rcases WA hq with h3 | h3
  ·cases h3;rfl
  ·have h4:=WB h3;have h5:=h2 (qk,qo) (by rw [zp];exact h4.2);have h6:inL [mid] qk = false:=by
    rw [Yi];simpa using h4.1
   simpa [h6] using h5
 have hl2:look s2.objs id = some (.row e k (L.map enc)):=by
  show look (zd _ _ _) _ = _;rw [YD,if_neg hne'];exact hl
 refine Local.pre hsub ((LR.appT (enc:=enc) (L:=L) (R:=R) (s:=s2) js hE hu' (by cases x <;> exact hx) hm hl2 (hy s2 rfl rfl) hk hb h1 ha2).post ?_);refine Sub.drop ?_ (fun i q hq=>?_) (fun i o ho=>?_)
 ·simp only [vd];show (s2.junks js).n = (s.junks js).n;rw [yi,yi]
 ·have hsl:(((s2.junks js).setO id (.row e k ((L ++ R).map enc))).putD dst (.row id (L ++ R).length)).sl = ((((s.junks js).setO mid (.mapP ks mm (some (j,.junk)) bs ck)).setO id (.row e k ((L ++ R).map enc))).putD dst (.row id (L ++ R).length)).sl:=by
   cases dst <;> simp [PState.putD,PState.put,PState.setO,hj2]
  have hn:(((s2.junks js).setO id (.row e k ((L ++ R).map enc))).putD dst (.row id (L ++ R).length)).n = ((((s.junks js).setO mid (.mapP ks mm (some (j,.junk)) bs ck)).setO id (.row e k ((L ++ R).map enc))).putD dst (.row id (L ++ R).length)).n:=by
   simp only [vd];show (s2.junks js).n = (s.junks js).n;rw [yi,yi]
  rw [uj] at hq ⊢;rw [hsl,hn];exact hq
 ·rw [yD] at ho ⊢;simp only [PState.setO,zp] at ho ⊢;rw [zC] at ho ⊢
  by_cases hi:i = id
  ·rw [if_pos hi] at ho ⊢;exact ho
  ·rw [if_neg hi] at ho ⊢;rw [zC] at ho;show look (zd _ _ (wg _ _)) _ = _;rw [YD];exact ho
theorem PQe.stepX {o:Oper} {rest:List Oper} {f:Ft} {fs:List Ft} {p:PV} {id mid:Nat} {ob obm:Ob} (js:List Nat) (hl:∀ s':PState,(∀ {x q},yy o x = true -> s.ev x = some q -> s'.ev x = some q) -> (∀ {id ob},inL f.ro id = true -> look s.objs id = some ob -> look s'.objs id = some ob) -> (s'.junks js).aloneX id [mid] = true -> Local P ctx o s' ((((s'.junks js).setO mid obm).setO id ob).putD o.dst p))
  (ha:inAl f.al id js = true) (hao:f.ao = [mid]) (hg:Wd ops o s) (hk:okE f ⟨XJ o.dst p ++ (js.map fun t=>(t,PV.junk)).reverse,[(id,ob),(mid,obm)]⟩ = true) (h:PQe P ctx ops Q rest fs ((((s.junks js).setO mid obm).setO id ob).putD o.dst p)):PQe P ctx ops Q (o :: rest) (f :: fs) s:=by
 have happ:∀ s:PState,s.app ⟨XJ o.dst p ++ (js.map fun t=>(t,PV.junk)).reverse,[(id,ob),(mid,obm)]⟩ = (((s.junks js).setO mid obm).setO id ob).putD o.dst p:=fun s=>by
  have h1:=xC js s;have h2:=yi js s;have h3:=zp js s
  cases o.dst <;> simp [PState.app,XJ,PState.putD,PState.put,PState.setO,h1,h2,h3]
 refine .step (e:=⟨XJ o.dst p ++ (js.map fun t=>(t,PV.junk)).reverse,[(id,ob),(mid,obm)]⟩) (fun s' _ he ho _ hal=>?_) hg hk (by rw [happ];exact h);rw [happ];refine hl s' he (fun hi=>ho (zM.1 hi)) ?_;unfold inAl at ha;obtain ⟨a,h1,h2⟩:=List.any_eq_true.1 ha;simp only [Bool.and_eq_true,beq_iff_eq] at h2;have:=hal a h1
 rwa [Nat.eq_of_beq_eq_true h2.1,h2.2,hao] at this
theorem LR.appNilX (hE:ElemOK P t e k bs') (hu':P.underlying t' = some (.slice e')) (hx:s.ev x = some (.d (.v (.slice none 0 0)))) (hf:s.fresh id = true)
  (hy:Src ctx { s with objs:=zd id (.row e k []) s.objs } y (R.map enc) k) (hk:∀ x,(enc x).length = k) (hb:R.length * bs' <= 140737488355328) (h1:Nat.ble 1 bs' = true) (ha:({ s with objs:=zd id (.row e k []) s.objs }:PState).alone id = true) :
  Local P ctx ⟨some id,.call ⟨.builtin .append,#[x,y],#[t,t']⟩,ty,pos,after,gd⟩ s (s.newO id (.row e k (R.map enc)) (.row id R.length)):=by
 rintro a w ⟨g,hg⟩ K Qx hK;have hn:=hg.new (Go.RowKit.Below.refl _ w) hf none (fun b n e=>by cases e) (.row e k []) (.rowNil e k (zG _ _ _));have h2:=Nat.le_of_ble_eq_true h1;have h3:R.length * 1 <= R.length * bs':=Nat.mul_le_mul_left _ h2;have hlk:look (zd id (Ob.row e k []) s.objs) id = some (.row e k []):=by rw [zC,if_pos rfl]
 have hxv:=hg.ev hx;have hxe:a.eval x = .slice none 0 0:=hxv.of_v;obtain ⟨v,w',hrun,hr⟩:=WN (dst:=some id) (ty:=ty) (pos:=pos) (after:=after) (gd:=gd) (l:=[]) (n:=0) (x:=x) [] hE hu' hlk rfl hy (jy hk R) (by simpa using hb) (by simp;omega) ha hn (by rw [hxe];exact .rowNil id (zG _ _ _));unfold Oper.wp;rw [hrun];refine hK _ _ ?_;refine Sub.drop ?_ (fun i q hq=>?_) (fun i o ho=>?_) _ _ hr
 ·rfl
 ·rw [Nat.zero_add,List.length_map];exact hq
 ·simp only [PState.newO,zC] at ho;simp only [PState.putD,PState.put,PState.setO,PState.junks,zC,List.nil_append]
  by_cases hi:i = id
  ·rw [if_pos hi] at ho ⊢;exact ho
  ·rw [if_neg hi] at ho;rw [if_neg hi,if_neg hi];exact ho
end
end
end Go.Ep

