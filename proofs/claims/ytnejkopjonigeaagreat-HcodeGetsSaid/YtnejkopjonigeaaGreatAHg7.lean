/- Side texts. -/
import Derived.Test.YtnejkopjonigeaaGreatProg
import Derived.Shelf.SlGeneric
import Derived.Shelf.SlLaysF0
import Derived.Ground.SlsfProg
import Derived.Shelf.SlSortCmp.WholeK
import Derived.Shelf.SlSortCmp.NoneTotal
import Derived.StillTactics
import Derived.RegionTactic
import Derived.Laws.BytesString
import Derived.Laws.IdiomStrings
import Derived.Test.YtnejkopjonigeaaGreatAHg2
import Derived.Test.YtnejkopjonigeaaGreatAHg3
import Derived.Test.YtnejkopjonigeaaGreatAHg4
import Derived.Test.YtnejkopjonigeaaGreatAHg5
set_option linter.unusedVariables false
set_option linter.unusedSimpArgs false
namespace Go.Proofs
open Go.Shelf
def Tryz.pdq120_ren : Go.Shelf.Ren:=⟨fun | 14=>120 | 20=>160 | 21=>161 | 22=>162 | 23=>163 | 24=>164 | 25=>165 | 26=>166 | 27=>167 | 46=>184 | 47=>185 | 48=>186 | 49=>187 | 50=>188 | 15=>121 | 57=>212 | 28=>168 | 29=>169 | n=>n,fun | 24=>59 | 22=>24 | 3=>3 | 25=>159 | 4=>4 | 0=>0 | 46=>225 | 45=>224 | 50=>229 | 66=>246 | 39=>183 | 55=>22 | 70=>249 | 76=>267 | 77=>268 | 53=>232 | 5=>5 | 9=>9 | n=>n,fun | n=>n⟩
theorem Tryz.pdq120 : Go.Proofs.SlLaysF0.n14 Tryz.prog Tryz.pdq120_ren:={
 mixed:=by kernel_rfl
 f14:=⟨Tryz.f120.name,by decide,Tryz.func120.trans (congrArg some (by kernel_rfl))⟩
 f15:=Tryz.func121.trans (congrArg some (by kernel_rfl))
 f20:=⟨Tryz.f160.name,by decide,Tryz.func160.trans (congrArg some (by kernel_rfl))⟩
 f21:=⟨Tryz.f161.name,by decide,Tryz.func161.trans (congrArg some (by kernel_rfl))⟩
 f22:=⟨Tryz.f162.name,by decide,Tryz.func162.trans (congrArg some (by kernel_rfl))⟩
 f23:=⟨Tryz.f163.name,by decide,Tryz.func163.trans (congrArg some (by kernel_rfl))⟩
 f24:=⟨Tryz.f164.name,by decide,Tryz.func164.trans (congrArg some (by kernel_rfl))⟩
 f25:=⟨Tryz.f165.name,by decide,Tryz.func165.trans (congrArg some (by kernel_rfl))⟩
 f26:=⟨Tryz.f166.name,by decide,Tryz.func166.trans (congrArg some (by kernel_rfl))⟩
 f27:=⟨Tryz.f167.name,by decide,Tryz.func167.trans (congrArg some (by kernel_rfl))⟩
 f28:=Tryz.func168.trans (congrArg some (by kernel_rfl))
 f29:=Tryz.func169.trans (congrArg some (by kernel_rfl))
 f46:=⟨Tryz.f184.name,by decide,Tryz.func184.trans (congrArg some (by kernel_rfl))⟩
 f47:=Tryz.func185.trans (congrArg some (by kernel_rfl))
 f48:=Tryz.func186.trans (congrArg some (by kernel_rfl))
 f49:=⟨Tryz.f187.name,by decide,Tryz.func187.trans (congrArg some (by kernel_rfl))⟩
 f50:=⟨Tryz.f188.name,by decide,Tryz.func188.trans (congrArg some (by kernel_rfl))⟩
 f57:=⟨Tryz.f212.name,by decide,Tryz.func212.trans (congrArg some (by kernel_rfl))⟩
 t0:=Tryz.underlying0
 a0:=Tryz.isAgg0
 z0:=Tryz.sizeOf0
 v0:=Tryz.zeroValue0
 t3:=Tryz.underlying3
 a3:=Tryz.isAgg3
 z3:=Tryz.sizeOf3
 v3:=Tryz.zeroValue3
 t4:=Tryz.underlying4
 a4:=Tryz.isAgg4
 z4:=Tryz.sizeOf4
 v4:=Tryz.zeroValue4
 t5:=Tryz.underlying5
 a5:=Tryz.isAgg5
 z5:=Tryz.sizeOf5
 v5:=Tryz.zeroValue5
 t9:=Tryz.underlying9
 a9:=Tryz.isAgg9
 z9:=Tryz.sizeOf9
 v9:=Tryz.zeroValue9
 t22:=Tryz.underlying24
 a22:=Tryz.isAgg24
 z22:=Tryz.sizeOf24
 v22:=Tryz.zeroValue24
 t25:=Tryz.underlying159
 a25:=Tryz.isAgg159
 z25:=Tryz.sizeOf159
 v25:=Tryz.zeroValue159
 t39:=Tryz.underlying183
 a39:=Tryz.isAgg183
 z39:=Tryz.sizeOf183
 v39:=Tryz.zeroValue183
 t45:=Tryz.underlying224
 a45:=Tryz.isAgg224
 z45:=Tryz.sizeOf224
 v45:=Tryz.zeroValue224
 t46:=Tryz.underlying225
 a46:=Tryz.isAgg225
 z46:=Tryz.sizeOf225
 v46:=Tryz.zeroValue225
 t50:=Tryz.underlying229
 a50:=Tryz.isAgg229
 z50:=Tryz.sizeOf229
 v50:=Tryz.zeroValue229
 t53:=Tryz.underlying232
 a53:=Tryz.isAgg232
 z53:=Tryz.sizeOf232
 v53:=Tryz.zeroValue232
 t55:=Tryz.underlying22
 a55:=Tryz.isAgg22
 z55:=Tryz.sizeOf22
 v55:=Tryz.zeroValue22
 t66:=Tryz.underlying246
 a66:=Tryz.isAgg246
 z66:=Tryz.sizeOf246
 v66:=Tryz.zeroValue246
 t70:=Tryz.underlying249
 a70:=Tryz.isAgg249
 z70:=Tryz.sizeOf249
 v70:=Tryz.zeroValue249
 t76:=Tryz.underlying267
 a76:=Tryz.isAgg267
 z76:=Tryz.sizeOf267
 v76:=Tryz.zeroValue267
 t77:=Tryz.underlying268
 a77:=Tryz.isAgg268
 z77:=Tryz.sizeOf268
 v77:=Tryz.zeroValue268 }
def Tryz.pdq171_ren : Go.Shelf.Ren:=⟨fun | 14=>171 | 20=>189 | 21=>190 | 22=>191 | 23=>192 | 24=>193 | 25=>194 | 26=>195 | 27=>196 | 46=>213 | 47=>185 | 48=>186 | 49=>214 | 50=>215 | 15=>121 | 57=>239 | 28=>168 | 29=>169 | n=>n,fun | 24=>104 | 22=>29 | 3=>3 | 25=>197 | 4=>4 | 0=>0 | 46=>225 | 45=>224 | 50=>229 | 66=>246 | 39=>183 | 55=>22 | 70=>249 | 76=>267 | 77=>268 | 53=>232 | 5=>5 | 9=>9 | n=>n,fun | n=>n⟩
theorem Tryz.pdq171 : Go.Proofs.SlLaysF0.n14 Tryz.prog Tryz.pdq171_ren:={
 mixed:=by kernel_rfl
 f14:=⟨Tryz.f171.name,by decide,Tryz.func171.trans (congrArg some (by kernel_rfl))⟩
 f15:=Tryz.func121.trans (congrArg some (by kernel_rfl))
 f20:=⟨Tryz.f189.name,by decide,Tryz.func189.trans (congrArg some (by kernel_rfl))⟩
 f21:=⟨Tryz.f190.name,by decide,Tryz.func190.trans (congrArg some (by kernel_rfl))⟩
 f22:=⟨Tryz.f191.name,by decide,Tryz.func191.trans (congrArg some (by kernel_rfl))⟩
 f23:=⟨Tryz.f192.name,by decide,Tryz.func192.trans (congrArg some (by kernel_rfl))⟩
 f24:=⟨Tryz.f193.name,by decide,Tryz.func193.trans (congrArg some (by kernel_rfl))⟩
 f25:=⟨Tryz.f194.name,by decide,Tryz.func194.trans (congrArg some (by kernel_rfl))⟩
 f26:=⟨Tryz.f195.name,by decide,Tryz.func195.trans (congrArg some (by kernel_rfl))⟩
 f27:=⟨Tryz.f196.name,by decide,Tryz.func196.trans (congrArg some (by kernel_rfl))⟩
 f28:=Tryz.func168.trans (congrArg some (by kernel_rfl))
 f29:=Tryz.func169.trans (congrArg some (by kernel_rfl))
 f46:=⟨Tryz.f213.name,by decide,Tryz.func213.trans (congrArg some (by kernel_rfl))⟩
 f47:=Tryz.func185.trans (congrArg some (by kernel_rfl))
 f48:=Tryz.func186.trans (congrArg some (by kernel_rfl))
 f49:=⟨Tryz.f214.name,by decide,Tryz.func214.trans (congrArg some (by kernel_rfl))⟩
 f50:=⟨Tryz.f215.name,by decide,Tryz.func215.trans (congrArg some (by kernel_rfl))⟩
 f57:=⟨Tryz.f239.name,by decide,Tryz.func239.trans (congrArg some (by kernel_rfl))⟩
 t0:=Tryz.underlying0
 a0:=Tryz.isAgg0
 z0:=Tryz.sizeOf0
 v0:=Tryz.zeroValue0
 t3:=Tryz.underlying3
 a3:=Tryz.isAgg3
 z3:=Tryz.sizeOf3
 v3:=Tryz.zeroValue3
 t4:=Tryz.underlying4
 a4:=Tryz.isAgg4
 z4:=Tryz.sizeOf4
 v4:=Tryz.zeroValue4
 t5:=Tryz.underlying5
 a5:=Tryz.isAgg5
 z5:=Tryz.sizeOf5
 v5:=Tryz.zeroValue5
 t9:=Tryz.underlying9
 a9:=Tryz.isAgg9
 z9:=Tryz.sizeOf9
 v9:=Tryz.zeroValue9
 t22:=Tryz.underlying29
 a22:=Tryz.isAgg29
 z22:=Tryz.sizeOf29
 v22:=Tryz.zeroValue29
 t25:=Tryz.underlying197
 a25:=Tryz.isAgg197
 z25:=Tryz.sizeOf197
 v25:=Tryz.zeroValue197
 t39:=Tryz.underlying183
 a39:=Tryz.isAgg183
 z39:=Tryz.sizeOf183
 v39:=Tryz.zeroValue183
 t45:=Tryz.underlying224
 a45:=Tryz.isAgg224
 z45:=Tryz.sizeOf224
 v45:=Tryz.zeroValue224
 t46:=Tryz.underlying225
 a46:=Tryz.isAgg225
 z46:=Tryz.sizeOf225
 v46:=Tryz.zeroValue225
 t50:=Tryz.underlying229
 a50:=Tryz.isAgg229
 z50:=Tryz.sizeOf229
 v50:=Tryz.zeroValue229
 t53:=Tryz.underlying232
 a53:=Tryz.isAgg232
 z53:=Tryz.sizeOf232
 v53:=Tryz.zeroValue232
 t55:=Tryz.underlying22
 a55:=Tryz.isAgg22
 z55:=Tryz.sizeOf22
 v55:=Tryz.zeroValue22
 t66:=Tryz.underlying246
 a66:=Tryz.isAgg246
 z66:=Tryz.sizeOf246
 v66:=Tryz.zeroValue246
 t70:=Tryz.underlying249
 a70:=Tryz.isAgg249
 z70:=Tryz.sizeOf249
 v70:=Tryz.zeroValue249
 t76:=Tryz.underlying267
 a76:=Tryz.isAgg267
 z76:=Tryz.sizeOf267
 v76:=Tryz.zeroValue267
 t77:=Tryz.underlying268
 a77:=Tryz.isAgg268
 z77:=Tryz.sizeOf268
 v77:=Tryz.zeroValue268 }
def Tryz.pdq177_ren : Go.Shelf.Ren:=⟨fun | 14=>177 | 20=>201 | 21=>202 | 22=>203 | 23=>204 | 24=>205 | 25=>206 | 26=>207 | 27=>208 | 46=>227 | 47=>185 | 48=>186 | 49=>228 | 50=>229 | 15=>121 | 57=>246 | 28=>168 | 29=>169 | n=>n,fun | 24=>99 | 22=>27 | 3=>3 | 25=>206 | 4=>4 | 0=>0 | 46=>225 | 45=>224 | 50=>229 | 66=>246 | 39=>183 | 55=>22 | 70=>249 | 76=>267 | 77=>268 | 53=>232 | 5=>5 | 9=>9 | n=>n,fun | n=>n⟩
theorem Tryz.pdq177 : Go.Proofs.SlLaysF0.n14 Tryz.prog Tryz.pdq177_ren:={
 mixed:=by kernel_rfl
 f14:=⟨Tryz.f177.name,by decide,Tryz.func177.trans (congrArg some (by kernel_rfl))⟩
 f15:=Tryz.func121.trans (congrArg some (by kernel_rfl))
 f20:=⟨Tryz.f201.name,by decide,Tryz.func201.trans (congrArg some (by kernel_rfl))⟩
 f21:=⟨Tryz.f202.name,by decide,Tryz.func202.trans (congrArg some (by kernel_rfl))⟩
 f22:=⟨Tryz.f203.name,by decide,Tryz.func203.trans (congrArg some (by kernel_rfl))⟩
 f23:=⟨Tryz.f204.name,by decide,Tryz.func204.trans (congrArg some (by kernel_rfl))⟩
 f24:=⟨Tryz.f205.name,by decide,Tryz.func205.trans (congrArg some (by kernel_rfl))⟩
 f25:=⟨Tryz.f206.name,by decide,Tryz.func206.trans (congrArg some (by kernel_rfl))⟩
 f26:=⟨Tryz.f207.name,by decide,Tryz.func207.trans (congrArg some (by kernel_rfl))⟩
 f27:=⟨Tryz.f208.name,by decide,Tryz.func208.trans (congrArg some (by kernel_rfl))⟩
 f28:=Tryz.func168.trans (congrArg some (by kernel_rfl))
 f29:=Tryz.func169.trans (congrArg some (by kernel_rfl))
 f46:=⟨Tryz.f227.name,by decide,Tryz.func227.trans (congrArg some (by kernel_rfl))⟩
 f47:=Tryz.func185.trans (congrArg some (by kernel_rfl))
 f48:=Tryz.func186.trans (congrArg some (by kernel_rfl))
 f49:=⟨Tryz.f228.name,by decide,Tryz.func228.trans (congrArg some (by kernel_rfl))⟩
 f50:=⟨Tryz.f229.name,by decide,Tryz.func229.trans (congrArg some (by kernel_rfl))⟩
 f57:=⟨Tryz.f246.name,by decide,Tryz.func246.trans (congrArg some (by kernel_rfl))⟩
 t0:=Tryz.underlying0
 a0:=Tryz.isAgg0
 z0:=Tryz.sizeOf0
 v0:=Tryz.zeroValue0
 t3:=Tryz.underlying3
 a3:=Tryz.isAgg3
 z3:=Tryz.sizeOf3
 v3:=Tryz.zeroValue3
 t4:=Tryz.underlying4
 a4:=Tryz.isAgg4
 z4:=Tryz.sizeOf4
 v4:=Tryz.zeroValue4
 t5:=Tryz.underlying5
 a5:=Tryz.isAgg5
 z5:=Tryz.sizeOf5
 v5:=Tryz.zeroValue5
 t9:=Tryz.underlying9
 a9:=Tryz.isAgg9
 z9:=Tryz.sizeOf9
 v9:=Tryz.zeroValue9
 t22:=Tryz.underlying27
 a22:=Tryz.isAgg27
 z22:=Tryz.sizeOf27
 v22:=Tryz.zeroValue27
 t25:=Tryz.underlying206
 a25:=Tryz.isAgg206
 z25:=Tryz.sizeOf206
 v25:=Tryz.zeroValue206
 t39:=Tryz.underlying183
 a39:=Tryz.isAgg183
 z39:=Tryz.sizeOf183
 v39:=Tryz.zeroValue183
 t45:=Tryz.underlying224
 a45:=Tryz.isAgg224
 z45:=Tryz.sizeOf224
 v45:=Tryz.zeroValue224
 t46:=Tryz.underlying225
 a46:=Tryz.isAgg225
 z46:=Tryz.sizeOf225
 v46:=Tryz.zeroValue225
 t50:=Tryz.underlying229
 a50:=Tryz.isAgg229
 z50:=Tryz.sizeOf229
 v50:=Tryz.zeroValue229
 t53:=Tryz.underlying232
 a53:=Tryz.isAgg232
 z53:=Tryz.sizeOf232
 v53:=Tryz.zeroValue232
 t55:=Tryz.underlying22
 a55:=Tryz.isAgg22
 z55:=Tryz.sizeOf22
 v55:=Tryz.zeroValue22
 t66:=Tryz.underlying246
 a66:=Tryz.isAgg246
 z66:=Tryz.sizeOf246
 v66:=Tryz.zeroValue246
 t70:=Tryz.underlying249
 a70:=Tryz.isAgg249
 z70:=Tryz.sizeOf249
 v70:=Tryz.zeroValue249
 t76:=Tryz.underlying267
 a76:=Tryz.isAgg267
 z76:=Tryz.sizeOf267
 v76:=Tryz.zeroValue267
 t77:=Tryz.underlying268
 a77:=Tryz.isAgg268
 z77:=Tryz.sizeOf268
 v77:=Tryz.zeroValue268 }
def Tryz.pdq200_ren : Go.Shelf.Ren:=⟨fun | 14=>200 | 20=>219 | 21=>220 | 22=>221 | 23=>222 | 24=>223 | 25=>224 | 26=>225 | 27=>226 | 46=>243 | 47=>185 | 48=>186 | 49=>244 | 50=>245 | 15=>121 | 57=>250 | 28=>168 | 29=>169 | n=>n,fun | 24=>124 | 22=>97 | 3=>3 | 25=>239 | 4=>4 | 0=>0 | 46=>225 | 45=>224 | 50=>229 | 66=>246 | 39=>183 | 55=>22 | 70=>249 | 76=>267 | 77=>268 | 53=>232 | 5=>5 | 9=>9 | n=>n,fun | n=>n⟩
theorem Tryz.pdq200 : Go.Proofs.SlLaysF0.n14 Tryz.prog Tryz.pdq200_ren:={
 mixed:=by kernel_rfl
 f14:=⟨Tryz.f200.name,by decide,Tryz.func200.trans (congrArg some (by kernel_rfl))⟩
 f15:=Tryz.func121.trans (congrArg some (by kernel_rfl))
 f20:=⟨Tryz.f219.name,by decide,Tryz.func219.trans (congrArg some (by kernel_rfl))⟩
 f21:=⟨Tryz.f220.name,by decide,Tryz.func220.trans (congrArg some (by kernel_rfl))⟩
 f22:=⟨Tryz.f221.name,by decide,Tryz.func221.trans (congrArg some (by kernel_rfl))⟩
 f23:=⟨Tryz.f222.name,by decide,Tryz.func222.trans (congrArg some (by kernel_rfl))⟩
 f24:=⟨Tryz.f223.name,by decide,Tryz.func223.trans (congrArg some (by kernel_rfl))⟩
 f25:=⟨Tryz.f224.name,by decide,Tryz.func224.trans (congrArg some (by kernel_rfl))⟩
 f26:=⟨Tryz.f225.name,by decide,Tryz.func225.trans (congrArg some (by kernel_rfl))⟩
 f27:=⟨Tryz.f226.name,by decide,Tryz.func226.trans (congrArg some (by kernel_rfl))⟩
 f28:=Tryz.func168.trans (congrArg some (by kernel_rfl))
 f29:=Tryz.func169.trans (congrArg some (by kernel_rfl))
 f46:=⟨Tryz.f243.name,by decide,Tryz.func243.trans (congrArg some (by kernel_rfl))⟩
 f47:=Tryz.func185.trans (congrArg some (by kernel_rfl))
 f48:=Tryz.func186.trans (congrArg some (by kernel_rfl))
 f49:=⟨Tryz.f244.name,by decide,Tryz.func244.trans (congrArg some (by kernel_rfl))⟩
 f50:=⟨Tryz.f245.name,by decide,Tryz.func245.trans (congrArg some (by kernel_rfl))⟩
 f57:=⟨Tryz.f250.name,by decide,Tryz.func250.trans (congrArg some (by kernel_rfl))⟩
 t0:=Tryz.underlying0
 a0:=Tryz.isAgg0
 z0:=Tryz.sizeOf0
 v0:=Tryz.zeroValue0
 t3:=Tryz.underlying3
 a3:=Tryz.isAgg3
 z3:=Tryz.sizeOf3
 v3:=Tryz.zeroValue3
 t4:=Tryz.underlying4
 a4:=Tryz.isAgg4
 z4:=Tryz.sizeOf4
 v4:=Tryz.zeroValue4
 t5:=Tryz.underlying5
 a5:=Tryz.isAgg5
 z5:=Tryz.sizeOf5
 v5:=Tryz.zeroValue5
 t9:=Tryz.underlying9
 a9:=Tryz.isAgg9
 z9:=Tryz.sizeOf9
 v9:=Tryz.zeroValue9
 t22:=Tryz.underlying97
 a22:=Tryz.isAgg97
 z22:=Tryz.sizeOf97
 v22:=Tryz.zeroValue97
 t25:=Tryz.underlying239
 a25:=Tryz.isAgg239
 z25:=Tryz.sizeOf239
 v25:=Tryz.zeroValue239
 t39:=Tryz.underlying183
 a39:=Tryz.isAgg183
 z39:=Tryz.sizeOf183
 v39:=Tryz.zeroValue183
 t45:=Tryz.underlying224
 a45:=Tryz.isAgg224
 z45:=Tryz.sizeOf224
 v45:=Tryz.zeroValue224
 t46:=Tryz.underlying225
 a46:=Tryz.isAgg225
 z46:=Tryz.sizeOf225
 v46:=Tryz.zeroValue225
 t50:=Tryz.underlying229
 a50:=Tryz.isAgg229
 z50:=Tryz.sizeOf229
 v50:=Tryz.zeroValue229
 t53:=Tryz.underlying232
 a53:=Tryz.isAgg232
 z53:=Tryz.sizeOf232
 v53:=Tryz.zeroValue232
 t55:=Tryz.underlying22
 a55:=Tryz.isAgg22
 z55:=Tryz.sizeOf22
 v55:=Tryz.zeroValue22
 t66:=Tryz.underlying246
 a66:=Tryz.isAgg246
 z66:=Tryz.sizeOf246
 v66:=Tryz.zeroValue246
 t70:=Tryz.underlying249
 a70:=Tryz.isAgg249
 z70:=Tryz.sizeOf249
 v70:=Tryz.zeroValue249
 t76:=Tryz.underlying267
 a76:=Tryz.isAgg267
 z76:=Tryz.sizeOf267
 v76:=Tryz.zeroValue267
 t77:=Tryz.underlying268
 a77:=Tryz.isAgg268
 z77:=Tryz.sizeOf268
 v77:=Tryz.zeroValue268 }
def Tryz.pdq209_ren : Go.Shelf.Ren:=⟨fun | 14=>209 | 20=>230 | 21=>231 | 22=>232 | 23=>233 | 24=>234 | 25=>235 | 26=>236 | 27=>237 | 46=>247 | 47=>185 | 48=>186 | 49=>248 | 50=>249 | 15=>121 | 57=>251 | 28=>168 | 29=>169 | n=>n,fun | 24=>101 | 22=>102 | 3=>3 | 25=>142 | 4=>4 | 0=>0 | 46=>225 | 45=>224 | 50=>229 | 66=>246 | 39=>183 | 55=>22 | 70=>249 | 76=>267 | 77=>268 | 53=>232 | 5=>5 | 9=>9 | n=>n,fun | n=>n⟩
theorem Tryz.pdq209 : Go.Proofs.SlLaysF0.n14 Tryz.prog Tryz.pdq209_ren:={
 mixed:=by kernel_rfl
 f14:=⟨Tryz.f209.name,by decide,Tryz.func209.trans (congrArg some (by kernel_rfl))⟩
 f15:=Tryz.func121.trans (congrArg some (by kernel_rfl))
 f20:=⟨Tryz.f230.name,by decide,Tryz.func230.trans (congrArg some (by kernel_rfl))⟩
 f21:=⟨Tryz.f231.name,by decide,Tryz.func231.trans (congrArg some (by kernel_rfl))⟩
 f22:=⟨Tryz.f232.name,by decide,Tryz.func232.trans (congrArg some (by kernel_rfl))⟩
 f23:=⟨Tryz.f233.name,by decide,Tryz.func233.trans (congrArg some (by kernel_rfl))⟩
 f24:=⟨Tryz.f234.name,by decide,Tryz.func234.trans (congrArg some (by kernel_rfl))⟩
 f25:=⟨Tryz.f235.name,by decide,Tryz.func235.trans (congrArg some (by kernel_rfl))⟩
 f26:=⟨Tryz.f236.name,by decide,Tryz.func236.trans (congrArg some (by kernel_rfl))⟩
 f27:=⟨Tryz.f237.name,by decide,Tryz.func237.trans (congrArg some (by kernel_rfl))⟩
 f28:=Tryz.func168.trans (congrArg some (by kernel_rfl))
 f29:=Tryz.func169.trans (congrArg some (by kernel_rfl))
 f46:=⟨Tryz.f247.name,by decide,Tryz.func247.trans (congrArg some (by kernel_rfl))⟩
 f47:=Tryz.func185.trans (congrArg some (by kernel_rfl))
 f48:=Tryz.func186.trans (congrArg some (by kernel_rfl))
 f49:=⟨Tryz.f248.name,by decide,Tryz.func248.trans (congrArg some (by kernel_rfl))⟩
 f50:=⟨Tryz.f249.name,by decide,Tryz.func249.trans (congrArg some (by kernel_rfl))⟩
 f57:=⟨Tryz.f251.name,by decide,Tryz.func251.trans (congrArg some (by kernel_rfl))⟩
 t0:=Tryz.underlying0
 a0:=Tryz.isAgg0
 z0:=Tryz.sizeOf0
 v0:=Tryz.zeroValue0
 t3:=Tryz.underlying3
 a3:=Tryz.isAgg3
 z3:=Tryz.sizeOf3
 v3:=Tryz.zeroValue3
 t4:=Tryz.underlying4
 a4:=Tryz.isAgg4
 z4:=Tryz.sizeOf4
 v4:=Tryz.zeroValue4
 t5:=Tryz.underlying5
 a5:=Tryz.isAgg5
 z5:=Tryz.sizeOf5
 v5:=Tryz.zeroValue5
 t9:=Tryz.underlying9
 a9:=Tryz.isAgg9
 z9:=Tryz.sizeOf9
 v9:=Tryz.zeroValue9
 t22:=Tryz.underlying102
 a22:=Tryz.isAgg102
 z22:=Tryz.sizeOf102
 v22:=Tryz.zeroValue102
 t25:=Tryz.underlying142
 a25:=Tryz.isAgg142
 z25:=Tryz.sizeOf142
 v25:=Tryz.zeroValue142
 t39:=Tryz.underlying183
 a39:=Tryz.isAgg183
 z39:=Tryz.sizeOf183
 v39:=Tryz.zeroValue183
 t45:=Tryz.underlying224
 a45:=Tryz.isAgg224
 z45:=Tryz.sizeOf224
 v45:=Tryz.zeroValue224
 t46:=Tryz.underlying225
 a46:=Tryz.isAgg225
 z46:=Tryz.sizeOf225
 v46:=Tryz.zeroValue225
 t50:=Tryz.underlying229
 a50:=Tryz.isAgg229
 z50:=Tryz.sizeOf229
 v50:=Tryz.zeroValue229
 t53:=Tryz.underlying232
 a53:=Tryz.isAgg232
 z53:=Tryz.sizeOf232
 v53:=Tryz.zeroValue232
 t55:=Tryz.underlying22
 a55:=Tryz.isAgg22
 z55:=Tryz.sizeOf22
 v55:=Tryz.zeroValue22
 t66:=Tryz.underlying246
 a66:=Tryz.isAgg246
 z66:=Tryz.sizeOf246
 v66:=Tryz.zeroValue246
 t70:=Tryz.underlying249
 a70:=Tryz.isAgg249
 z70:=Tryz.sizeOf249
 v70:=Tryz.zeroValue249
 t76:=Tryz.underlying267
 a76:=Tryz.isAgg267
 z76:=Tryz.sizeOf267
 v76:=Tryz.zeroValue267
 t77:=Tryz.underlying268
 a77:=Tryz.isAgg268
 z77:=Tryz.sizeOf268
 v77:=Tryz.zeroValue268 }
def Tryz.bits121_ren : Go.Shelf.Ren:=⟨fun | 15=>121 | 28=>168 | 29=>169 | n=>n,fun | 39=>183 | 3=>3 | 53=>232 | 55=>22 | 4=>4 | 5=>5 | 9=>9 | n=>n,fun | n=>n⟩
theorem Tryz.bits121 : Go.Proofs.SlLaysF0.n15 Tryz.prog Tryz.bits121_ren:={
 mixed:=by kernel_rfl
 f15:=Tryz.func121.trans (congrArg some (by kernel_rfl))
 f28:=Tryz.func168.trans (congrArg some (by kernel_rfl))
 f29:=Tryz.func169.trans (congrArg some (by kernel_rfl))
 t3:=Tryz.underlying3
 a3:=Tryz.isAgg3
 z3:=Tryz.sizeOf3
 v3:=Tryz.zeroValue3
 t4:=Tryz.underlying4
 a4:=Tryz.isAgg4
 z4:=Tryz.sizeOf4
 v4:=Tryz.zeroValue4
 t5:=Tryz.underlying5
 a5:=Tryz.isAgg5
 z5:=Tryz.sizeOf5
 v5:=Tryz.zeroValue5
 t9:=Tryz.underlying9
 a9:=Tryz.isAgg9
 z9:=Tryz.sizeOf9
 v9:=Tryz.zeroValue9
 t39:=Tryz.underlying183
 a39:=Tryz.isAgg183
 z39:=Tryz.sizeOf183
 v39:=Tryz.zeroValue183
 t53:=Tryz.underlying232
 a53:=Tryz.isAgg232
 z53:=Tryz.sizeOf232
 v53:=Tryz.zeroValue232
 t55:=Tryz.underlying22
 a55:=Tryz.isAgg22
 z55:=Tryz.sizeOf22
 v55:=Tryz.zeroValue22 }
end Go.Proofs
namespace Go.Ep
open Go.Shelf Go.RowKit Go.Lib Go.Sort Go.Proofs
theorem SortLaw.of{α:Type}[Inhabited α]{P:Program}{f g:FuncId}{k:Nat}{enc:α->List Value}{lt:α->α->Bool}{cf:α->α->Int}(hO:SWO (ltOf cf))(hlt:∀ x y,ltOf cf x y=lt x y)(hk:∀ x,(enc x).length=k)
  (hnil:∀ w:World,Calls P f #[.slice none 0 0,.func (.func g) #[] #[]] w fun e w'=>e=.returned (.tuple #[])/\Go.RowKit.Below w.heap.size w w')
  (hrow:∀ (blk off cap:Nat) (d:Array α) (w:World),HoldsK enc k w blk off d->blk < w.heap.size->d.size < 4611686018427387904 ->
   Calls P f #[.slice (some ⟨blk,off,none⟩) d.size cap,.func (.func g) #[] #[]] w fun e w'=>e=.returned (.tuple #[])/\∃ n os,w'=sortWorldK enc k w blk off n (pdq (ltOf cf) d 0 d.size (Lib.bitLen d.size) true true) os):SortLaw P f g k enc lt:=by
 refine⟨hnil,fun w blk cap l T cur hh hlc hcs hlen hcells=>?_⟩;have hblk:blk < w.heap.size:=(Array.getElem?_eq_some_iff.1 hh).1;have hH:HoldsK enc k w blk 0 l.toArray:=by
  intro j hj;rw[size_flatK] at hj;have hj':j < l.length*k:=by simpa using hj
  obtain⟨hk0,h1,h2,h3⟩:=UX hj'
  constructor
  ·rw[Nat.zero_add,yD hh];show _=some ((flatK enc k l.toArray)[j]!);rw[get_flatK _ _ _ _ hj];have hx:l[j / k]?=some l[j / k]:=List.getElem?_eq_getElem h1;have hlk:(enc l[j / k]).length=k:=hk _;have hu:(enc l[j / k])[j % k]?=some ((enc l[j / k])[j % k]'(by omega)):=List.getElem?_eq_getElem (by omega);have:=hcells (j / k) _ (j % k) _ hx hu;rw[h3] at this;rw[this];have e1:(l.toArray)[j / k]! = l[j / k]:=by simp[h1]
   rw[e1];simp[hu]
  ·simp[World.frozen?,hh]
 have hd:l.toArray.size=l.length:=by simp
 have hcall:=hrow blk 0 cap l.toArray w hH hblk (by simpa using hlen);rw[hd] at hcall;refine hcall.mono fun e w' ⟨he,n,os,hw⟩=>⟨he,?_⟩
 have hp:=pdq_sorts (ltOf cf) hO l.toArray 0 l.toArray.size (Lib.bitLen l.toArray.size) true true (Nat.zero_le _) (Nat.le_refl _) (Or.inl rfl);rw[hd] at hp
 generalize pdq (ltOf cf) l.toArray 0 l.length (Lib.bitLen l.length) true true=d' at hp hw
 obtain⟨⟨hsz,_,hperm⟩,hsort⟩:=hp;have hsz':d'.size=l.length:=by simpa using hsz
 have hp':d'.toList.Perm l:=by
  have e1:(d'.extract 0 l.length).toList=d'.toList:=by rw[<- hsz'];simp
  have e2:(l.toArray.extract 0 l.length).toList=l:=by simp
  rw[e1,e2] at hperm;exact hperm
 have hmod:∀ b,b < w.heap.size->(sortWorldK enc k w blk 0 n d' os).heap[b]?=if blk=b then (w.heap[b]?).map (onCells (putCells id 0 (flatK enc k d'))) else w.heap[b]?:=by
  intro b hb;have hb2:b < (putRowK enc k (Sort.ahead w n) blk 0 d').heap.size:=by simpa[putRowK,Sort.ahead] using hb
  show(grow (putRowK enc k (Sort.ahead w n) blk 0 d') os).heap[b]?=_;rw[Sort.heap_grow_old _ _ hb2];show((w.heap.modify blk (onCells (putCells id 0 (flatK enc k d')))))[b]?=_;rw[Array.getElem?_modify]
 subst hw;refine⟨d'.toList,(putCells id 0 (flatK enc k d') cur.toArray).toList,hp',?_,?_,?_,?_,rfl,rfl,rfl,?_,?_⟩
 ·rw[List.pairwise_iff_getElem];intro i j hi hj hij;have:=hsort i j (Nat.zero_le _) hij (by simpa[hsz'] using hj);rw[hlt] at this;have hi':i < d'.size:=by simpa using hi
  have hj':j < d'.size:=by simpa using hj
  simpa[hi',hj'] using this
 ·rw[hmod blk hblk,if_pos rfl,hh];simp[onCells]
 ·simp[putCells]
 ·intro i x j u hi hu;have hi':i < l.length:=by rw[<- hsz'];have:=(List.getElem?_eq_some_iff.1 hi).1;simpa using this
  have hj:j < k:=by rw[<- hk x];exact(List.getElem?_eq_some_iff.1 hu).1
  have hlt2:i*k+j < l.length*k:=Zv hi' hj;have hcl:l.length*k<=cur.length:=by rw[hcs];exact Nat.mul_le_mul_right k hlc
  have hin:i*k+j < d'.size*k:=by rw[hsz'];exact hlt2
  have hget:(flatK enc k d')[i*k+j]! = u:=by
   rw[get_flatK _ _ _ _ hin];have hk0:0 < k:=by omega
   have e1:(i*k+j) / k=i:=by rw[Nat.mul_comm,Nat.mul_add_div hk0,Nat.div_eq_of_lt hj];omega
   have e2:(i*k+j) % k=j:=by rw[Nat.mul_comm,Nat.mul_add_mod,Nat.mod_eq_of_lt hj]
   rw[e1,e2];have e3:d'[i]! = x:=by
    obtain⟨h1,h2⟩:=List.getElem?_eq_some_iff.1 hi;have h1':i < d'.size:=by simpa using h1
    rw[getElem!_pos d' i h1'];simpa using h2
   rw[e3];simp[hu]
  have hc2:i*k+j < cur.length:=by omega
  simp only[putCells,Array.toList_mapIdx,List.getElem?_mapIdx];rw[List.getElem?_eq_getElem hc2];simp only[Option.map_some,id];rw[if_pos ⟨Nat.zero_le _,by rw[size_flatK];omega⟩,Nat.sub_zero,hget]
 ·show w.heap.size<=(grow (putRowK enc k (Sort.ahead w n) blk 0 d') os).heap.size;simp[grow,putRowK,Sort.ahead]
 ·intro b hb hne;rw[hmod b hb,if_neg (Ne.symm hne)]
end Go.Ep
namespace Go.Proofs
set_option linter.unusedSimpArgs false
set_option linter.unusedVariables false
open Go.Shelf Go.RowKit Go.Lib Go.Sort Go.Ep
theorem YUa(a:Int)(W:World):Calls Tryz.prog 122 #[.int .u16 a] W fun e w'=>e=.returned (.bool false)/\w'=W:=by
 go_enter Tryz.func122,Tryz.ntmps122
 go_wp2
 go_ret
 exact⟨by simp,rfl⟩
theorem uAa(a b:Int)(W:World):Calls Tryz.prog 87 #[.int .u16 a,.int .u16 b] W fun e w'=>e=.returned (.int .i64 (Lib.compareInt a b))/\w'=W:=by
 unfold Lib.compareInt
 by_cases h1:a < b
 ·go_enter Tryz.func87,Tryz.ntmps87
  go_wp2_with (go_at_call 122;refine(YUa _ _).mono ?_;rintro e w' ⟨rfl,rfl⟩)
  go_ret
  exact⟨by simp[h1],rfl⟩
 ·by_cases h2:b < a
  ·go_enter Tryz.func87,Tryz.ntmps87
   go_wp2_with (go_at_call 122;refine(YUa _ _).mono ?_;rintro e w' ⟨rfl,rfl⟩)
   go_ret
   exact⟨by simp[h1,h2],rfl⟩
  ·go_enter Tryz.func87,Tryz.ntmps87
   go_wp2_with (go_at_call 122;refine(YUa _ _).mono ?_;rintro e w' ⟨rfl,rfl⟩)
   go_ret
   exact⟨by simp[h1,h2],rfl⟩
theorem YVa(a:Int)(W:World):Calls Tryz.prog 159 #[.int .u64 a] W fun e w'=>e=.returned (.bool false)/\w'=W:=by
 go_enter Tryz.func159,Tryz.ntmps159
 go_wp2
 go_ret
 exact⟨by simp,rfl⟩
theorem YWa(a b:Int)(W:World):Calls Tryz.prog 114 #[.int .u64 a,.int .u64 b] W fun e w'=>e=.returned (.int .i64 (Lib.compareInt a b))/\w'=W:=by
 unfold Lib.compareInt
 by_cases h1:a < b
 ·go_enter Tryz.func114,Tryz.ntmps114
  go_wp2_with (go_at_call 159;refine(YVa _ _).mono ?_;rintro e w' ⟨rfl,rfl⟩)
  go_ret
  exact⟨by simp[h1],rfl⟩
 ·by_cases h2:b < a
  ·go_enter Tryz.func114,Tryz.ntmps114
   go_wp2_with (go_at_call 159;refine(YVa _ _).mono ?_;rintro e w' ⟨rfl,rfl⟩)
   go_ret
   exact⟨by simp[h1,h2],rfl⟩
  ·go_enter Tryz.func114,Tryz.ntmps114
   go_wp2_with (go_at_call 159;refine(YVa _ _).mono ?_;rintro e w' ⟨rfl,rfl⟩)
   go_ret
   exact⟨by simp[h1,h2],rfl⟩
theorem YXa(W:World)(a b:Array Obj)(q:Nat):grow ((grow W a).drewN q) b=grow (W.drewN q) (a++b):=by
 show grow (grow (W.drewN q) a) b=_;rw[grow_grow]
def QF(a b c d:Int):Int:=if Lib.compareInt a c≠0 then Lib.compareInt a c else Lib.compareInt b d
theorem ZEa(a b c d:Int)(W:World):Calls Tryz.prog 76 #[.agg #[.int .u16 a,.int .u64 b],.agg #[.int .u16 c,.int .u64 d]] W fun e w'=>e=.returned (.int .i64 (QF a b c d))/\∃ q os',w'=grow (W.drewN q) os':=by
 have c1:=fun W'=>uAa a c W'
 have c2:=fun W'=>YWa b d W'
 unfold QF
 generalize Lib.compareInt a c=r1 at c1 ⊢
 generalize Lib.compareInt b d=r2 at c2 ⊢
 by_cases h:r1=0
 ·subst h
  go_enter Tryz.func76,Tryz.ntmps76
  go_wp2_with (first | (go_at_call 87;refine(c1 _).mono ?_;rintro e w' ⟨rfl,rfl⟩) | (go_at_call 114;refine(c2 _).mono ?_;rintro e w' ⟨rfl,rfl⟩))
  go_ret
  exact⟨by simp,0,_,by rw[alloc_eq_grow,alloc_eq_grow,grow_grow];rfl⟩
 ·go_enter Tryz.func76,Tryz.ntmps76
  go_wp2_with (first | (go_at_call 87;refine(c1 _).mono ?_;rintro e w' ⟨rfl,rfl⟩) | (go_at_call 114;refine(c2 _).mono ?_;rintro e w' ⟨rfl,rfl⟩))
  go_ret
  exact⟨by simp[h],0,_,by rw[alloc_eq_grow,alloc_eq_grow,grow_grow];rfl⟩
def cf85(x y:TMember):Int:=Lib.compareInt x.dev y.dev
theorem callcf85(x y:TMember)(W:World):Calls Tryz.prog 86 #[.agg #[.int .u16 x.dev,.int .u8 x.slot,.int .u64 x.try_],.agg #[.int .u16 y.dev,.int .u8 y.slot,.int .u64 y.try_]] W fun e w'=>e=.returned (.int .i64 (cf85 x y))/\∃ q os',w'=grow (W.drewN q) os':=by
 have c1:=fun W'=>uAa x.dev y.dev W'
 unfold cf85
 generalize Lib.compareInt x.dev y.dev=r1 at c1 ⊢
 go_enter Tryz.func86,Tryz.ntmps86
 go_wp2_with (go_at_call 87;refine(c1 _).mono ?_;rintro e w' ⟨rfl,rfl⟩)
 go_ret
 exact⟨rfl,0,_,by rw[alloc_eq_grow,alloc_eq_grow,grow_grow];rfl⟩
theorem uBa(x y:TMember):ltOf cf85 x y=vL x y:=by
 unfold ltOf cf85 Lib.compareInt vL;rw[Bool.eq_iff_iff];simp only[decide_eq_true_eq,Bool.or_eq_true,Bool.and_eq_true]
 split <;> (repeat' split) <;> omega
theorem YYa : SWO (ltOf cf85) where
 irrefl x:=by rw[uBa];simp[vL]
 trans x y z h1 h2:=by rw[uBa] at *;simp[vL] at *;omega
 ntrans x y z h1 h2:=by rw[uBa] at *;simp[vL] at *;omega
instance inhcf85 : Inhabited TMember:=⟨⟨0,0,0⟩⟩
theorem layscf85(blk off size:Nat)(w:World):CmpLays Tryz.prog 86 #[] TMember.v 3 cf85 blk off size w:=fun _ _ _ _ x y=>callcf85 x y _
set_option maxHeartbeats 2000000 in
set_option maxRecDepth 100000 in
theorem YZa(blk off cap:Nat)(d:Array TMember)(w:World)(hH:HoldsK TMember.v 3 w blk off d)(hblk:blk < w.heap.size)(hsz:d.size < 4611686018427387904) :
  Calls Tryz.prog 85 #[.slice (some ⟨blk,off,none⟩) d.size cap,.func (.func 86) #[] #[]] w fun e w'=>e=.returned (.tuple #[])/\∃ n os,w'=sortWorldK TMember.v 3 w blk off n (pdq (ltOf cf85) d 0 d.size (Lib.bitLen d.size) true true) os:=by
 have eg:∀ args w,(callFunc 86 args).run Tryz.prog w=.ok (.enter 86 args) w:=Tryz.call86;have e14:=Tryz.call120;have e15:=Tryz.call121;have hlim:Lib.bitLen d.size < 4611686018427387904:=Nat.lt_of_le_of_lt (Lib.bitLen_le d.size 62 (by omega) (by omega)) (by omega);have hp:=AnyQ.pdqsortCmpFunc_all Tryz.pdq120 3 Tryz.isAgg59 Tryz.sizeOf59 TMember.v cf85 86 #[] YYa blk off cap d w eg (layscf85 blk off d.size w) ⟨fun _=>rfl,TMember.v1,hH,hblk⟩ (d.size+1) 0 d.size (Lib.bitLen d.size) d w (by omega) rfl (SWK.start hH) (Nat.zero_le _) (Nat.le_refl _) hsz hlim (Or.inl rfl)
 change Calls Tryz.prog 120 _ _ _ at hp
 have hl:Calls Tryz.prog 121 #[.int .u64 (d.size:Int)] w fun e w'=>e=.returned (.int .i64 (Lib.bitLen d.size:Nat))/\w'=w:=by
  have h:=Any.bits_Len (SlLaysF0.n15.bits Tryz.bits121) (d.size:Int) w (by omega) (by omega)
  rwa [Int.toNat_natCast] at h
 have wr:IntKind.u64.wrap (d.size:Int)=d.size:=by simp[IntKind.wrap,IntKind.bits,IntKind.signed];omega
 clear hH
 go_enter Tryz.func85,Tryz.ntmps85
 go_wp2_with (first | (go_at_call 121;refine hl.mono ?_;rintro e w' ⟨rfl,rfl⟩) | (go_at_call 120;refine hp.mono ?_;rintro e w' ⟨rfl,n,os,rfl⟩))
 go_end0
 exact⟨rfl,n,os,rfl⟩
theorem ZFa(w:World):Calls Tryz.prog 85 #[.slice none 0 0,.func (.func 86) #[] #[]] w fun e w'=>e=.returned (.tuple #[])/\Go.RowKit.Below w.heap.size w w':=by
 have e14:=Tryz.call120;have e15:=Tryz.call121;have hp:=fun lim W=>AnyF.pdqsortCmpFunc_none Tryz.pdq120 none 0 lim (.func (.func 86) #[] #[]) W
 have hl:∀ W,Calls Tryz.prog 121 #[.int .u64 0] W fun e w'=>e=.returned (.int .i64 (Lib.bitLen 0:Nat))/\w'=W:=fun W=>by
  have h:=Any.bits_Len (SlLaysF0.n15.bits Tryz.bits121) 0 W (by omega) (by omega);exact h
 go_enter Tryz.func85,Tryz.ntmps85
 go_wp2_with (first | (go_at_call 121;refine(hl _).mono ?_;rintro e w' ⟨rfl,rfl⟩) | (go_at_call 120;refine(hp _ _).mono ?_;rintro e w' ⟨rfl,rfl⟩))
 go_end0
 exact⟨rfl,Go.RowKit.Below.refl _ _⟩
theorem srt85_86 : SortLaw Tryz.prog 85 86 3 TMember.v vL:=SortLaw.of YYa uBa (fun _=>rfl) ZFa (fun blk off cap d w hH hblk hsz=>YZa blk off cap d w hH hblk hsz)
structure RawTEvent where
 dot_dev_:Int
 dot_n_:Int
 c2:Value
 h2:c2.oneCell'=true
 c3:Value
 h3:c3.oneCell'=true
 c4:Value
 h4:c4.oneCell'=true
 c5:Value
 h5:c5.oneCell'=true
 c6:Value
 h6:c6.oneCell'=true
def RawTEvent.v(r:RawTEvent):List Value:=[.int .u16 r.dot_dev_,.int .u64 r.dot_n_,r.c2,r.c3,r.c4,r.c5,r.c6]
theorem RawTEvent.v1(r:RawTEvent):∀ u∈r.v,u.oneCell'=true:=by
 intro u hu;simp only[RawTEvent.v,List.mem_cons,List.not_mem_nil,or_false] at hu;rcases hu with rfl | rfl | rfl | rfl | rfl | rfl | rfl
 ·rfl
 ·rfl
 ·exact r.h2
 ·exact r.h3
 ·exact r.h4
 ·exact r.h5
 ·exact r.h6
def RawTEvent.R(x:EV)(r:RawTEvent):Prop:=r.dot_dev_=x.dot.dev/\r.dot_n_=x.dot.n
theorem RawTEvent.raw(w:World)(S:Nat->Prop)(x:EV)(us:List Value)(hl:us.length=7)(h:∀ (j:Nat) (d:DV) (u:Value),(EV.e x)[j]?=some d->us[j]?=some u->DRd w S d u):∃ r:RawTEvent,r.v=us/\RawTEvent.R x r:=by
 match us,hl with
 | [u0,u1,u2,u3,u4,u5,u6],_=>
  refine⟨⟨x.dot.dev,x.dot.n,u2,(h 2 _ u2 rfl rfl).one,u3,(h 3 _ u3 rfl rfl).one,u4,(h 4 _ u4 rfl rfl).one,u5,(h 5 _ u5 rfl rfl).one,u6,(h 6 _ u6 rfl rfl).one⟩,?_,⟨rfl,rfl⟩⟩;have e0:=h 0 _ u0 rfl rfl
  cases e0
  have e1:=h 1 _ u1 rfl rfl
  cases e1
  rfl
def xQa(x y:RawTEvent):Int:=QF x.dot_dev_ x.dot_n_ y.dot_dev_ y.dot_n_
theorem Yaa(x y:RawTEvent)(W:World):Calls Tryz.prog 125 #[.agg #[.int .u16 x.dot_dev_,.int .u64 x.dot_n_,x.c2,x.c3,x.c4,x.c5,x.c6],.agg #[.int .u16 y.dot_dev_,.int .u64 y.dot_n_,y.c2,y.c3,y.c4,y.c5,y.c6]] W fun e w'=>e=.returned (.int .i64 (xQa x y))/\∃ q os',w'=grow (W.drewN q) os':=by
 have c1:=fun W'=>ZEa x.dot_dev_ x.dot_n_ y.dot_dev_ y.dot_n_ W'
 unfold xQa
 generalize QF x.dot_dev_ x.dot_n_ y.dot_dev_ y.dot_n_=r1 at c1 ⊢
 go_enter Tryz.func125,Tryz.ntmps125
 go_wp2_with (go_at_call 76;refine(c1 _).mono ?_;rintro e w' ⟨rfl,q,os',rfl⟩)
 go_ret
 exact⟨rfl,q,_,by rw[alloc_eq_grow,alloc_eq_grow,grow_grow,YXa]⟩
theorem yJa(x y:RawTEvent):ltOf xQa x y=(fun x y:RawTEvent=>decide (x.dot_dev_ < y.dot_dev_)||(decide (x.dot_dev_=y.dot_dev_)&&decide (x.dot_n_ < y.dot_n_))) x y:=by
 unfold ltOf xQa QF Lib.compareInt ;rw[Bool.eq_iff_iff];simp only[decide_eq_true_eq,Bool.or_eq_true,Bool.and_eq_true]
 split <;> (repeat' split) <;> omega
theorem uCa : SWO (ltOf xQa) where
 irrefl x:=by rw[yJa];simp[]
 trans x y z h1 h2:=by rw[yJa] at *;simp[] at *;omega
 ntrans x y z h1 h2:=by rw[yJa] at *;simp[] at *;omega
instance inhcf124 : Inhabited RawTEvent:=⟨⟨0,0,.int .u64 0,rfl,.int .u64 0,rfl,.int .u64 0,rfl,.int .u64 0,rfl,.int .u64 0,rfl⟩⟩
theorem Yba(blk off size:Nat)(w:World):CmpLays Tryz.prog 125 #[] RawTEvent.v 7 xQa blk off size w:=fun _ _ _ _ x y=>Yaa x y _
set_option maxHeartbeats 2000000 in
set_option maxRecDepth 100000 in
theorem ZGa(blk off cap:Nat)(d:Array RawTEvent)(w:World)(hH:HoldsK RawTEvent.v 7 w blk off d)(hblk:blk < w.heap.size)(hsz:d.size < 4611686018427387904) :
  Calls Tryz.prog 124 #[.slice (some ⟨blk,off,none⟩) d.size cap,.func (.func 125) #[] #[]] w fun e w'=>e=.returned (.tuple #[])/\∃ n os,w'=sortWorldK RawTEvent.v 7 w blk off n (pdq (ltOf xQa) d 0 d.size (Lib.bitLen d.size) true true) os:=by
 have eg:∀ args w,(callFunc 125 args).run Tryz.prog w=.ok (.enter 125 args) w:=Tryz.call125;have e14:=Tryz.call171;have e15:=Tryz.call121;have hlim:Lib.bitLen d.size < 4611686018427387904:=Nat.lt_of_le_of_lt (Lib.bitLen_le d.size 62 (by omega) (by omega)) (by omega);have hp:=AnyQ.pdqsortCmpFunc_all Tryz.pdq171 7 Tryz.isAgg104 Tryz.sizeOf104 RawTEvent.v xQa 125 #[] uCa blk off cap d w eg (Yba blk off d.size w) ⟨fun _=>rfl,RawTEvent.v1,hH,hblk⟩ (d.size+1) 0 d.size (Lib.bitLen d.size) d w (by omega) rfl (SWK.start hH) (Nat.zero_le _) (Nat.le_refl _) hsz hlim (Or.inl rfl)
 change Calls Tryz.prog 171 _ _ _ at hp
 have hl:Calls Tryz.prog 121 #[.int .u64 (d.size:Int)] w fun e w'=>e=.returned (.int .i64 (Lib.bitLen d.size:Nat))/\w'=w:=by
  have h:=Any.bits_Len (SlLaysF0.n15.bits Tryz.bits121) (d.size:Int) w (by omega) (by omega)
  rwa [Int.toNat_natCast] at h
 have wr:IntKind.u64.wrap (d.size:Int)=d.size:=by simp[IntKind.wrap,IntKind.bits,IntKind.signed];omega
 clear hH
 go_enter Tryz.func124,Tryz.ntmps124
 go_wp2_with (first | (go_at_call 121;refine hl.mono ?_;rintro e w' ⟨rfl,rfl⟩) | (go_at_call 171;refine hp.mono ?_;rintro e w' ⟨rfl,n,os,rfl⟩))
 go_end0
 exact⟨rfl,n,os,rfl⟩
theorem wra(w:World):Calls Tryz.prog 124 #[.slice none 0 0,.func (.func 125) #[] #[]] w fun e w'=>e=.returned (.tuple #[])/\Go.RowKit.Below w.heap.size w w':=by
 have e14:=Tryz.call171;have e15:=Tryz.call121;have hp:=fun lim W=>AnyF.pdqsortCmpFunc_none Tryz.pdq171 none 0 lim (.func (.func 125) #[] #[]) W
 have hl:∀ W,Calls Tryz.prog 121 #[.int .u64 0] W fun e w'=>e=.returned (.int .i64 (Lib.bitLen 0:Nat))/\w'=W:=fun W=>by
  have h:=Any.bits_Len (SlLaysF0.n15.bits Tryz.bits121) 0 W (by omega) (by omega);exact h
 go_enter Tryz.func124,Tryz.ntmps124
 go_wp2_with (first | (go_at_call 121;refine(hl _).mono ?_;rintro e w' ⟨rfl,rfl⟩) | (go_at_call 171;refine(hp _ _).mono ?_;rintro e w' ⟨rfl,rfl⟩))
 go_end0
 exact⟨rfl,Go.RowKit.Below.refl _ _⟩
theorem ZHa : SortLaw Tryz.prog 124 125 7 RawTEvent.v (fun x y:RawTEvent=>decide (x.dot_dev_ < y.dot_dev_)||(decide (x.dot_dev_=y.dot_dev_)&&decide (x.dot_n_ < y.dot_n_))):=SortLaw.of uCa yJa (fun _=>rfl) wra (fun blk off cap d w hH hblk hsz=>ZGa blk off cap d w hH hblk hsz)
theorem rlt124(x y:EV)(r r':RawTEvent)(h1:RawTEvent.R x r)(h2:RawTEvent.R y r'):((fun x y:RawTEvent=>decide (x.dot_dev_ < y.dot_dev_)||(decide (x.dot_dev_=y.dot_dev_)&&decide (x.dot_n_ < y.dot_n_)))) r r'=UI x y:=by simp only[RawTEvent.R] at h1 h2;simp[h1,h2,UI]
structure RawTPart where
 dev_:Int
 c1:Value
 h1:c1.oneCell'=true
def RawTPart.v(r:RawTPart):List Value:=[.int .u16 r.dev_,r.c1]
theorem RawTPart.v1(r:RawTPart):∀ u∈r.v,u.oneCell'=true:=by
 intro u hu;simp only[RawTPart.v,List.mem_cons,List.not_mem_nil,or_false] at hu;rcases hu with rfl | rfl
 ·rfl
 ·exact r.h1
def RawTPart.R(x:PT)(r:RawTPart):Prop:=r.dev_=x.dev
theorem RawTPart.raw(w:World)(S:Nat->Prop)(x:PT)(us:List Value)(hl:us.length=2)(h:∀ (j:Nat) (d:DV) (u:Value),(PT.e x)[j]?=some d->us[j]?=some u->DRd w S d u):∃ r:RawTPart,r.v=us/\RawTPart.R x r:=by
 match us,hl with
 | [u0,u1],_=>
  refine⟨⟨x.dev,u1,(h 1 _ u1 rfl rfl).one⟩,?_,rfl⟩;have e0:=h 0 _ u0 rfl rfl
  cases e0
  rfl
def xRa(x y:RawTPart):Int:=Lib.compareInt x.dev_ y.dev_
theorem Yca(x y:RawTPart)(W:World):Calls Tryz.prog 136 #[.agg #[.int .u16 x.dev_,x.c1],.agg #[.int .u16 y.dev_,y.c1]] W fun e w'=>e=.returned (.int .i64 (xRa x y))/\∃ q os',w'=grow (W.drewN q) os':=by
 have c1:=fun W'=>uAa x.dev_ y.dev_ W'
 unfold xRa
 generalize Lib.compareInt x.dev_ y.dev_=r1 at c1 ⊢
 go_enter Tryz.func136,Tryz.ntmps136
 go_wp2_with (go_at_call 87;refine(c1 _).mono ?_;rintro e w' ⟨rfl,rfl⟩)
 go_ret
 exact⟨rfl,0,_,by rw[alloc_eq_grow,alloc_eq_grow,grow_grow];rfl⟩
theorem yKa(x y:RawTPart):ltOf xRa x y=(fun x y:RawTPart=>decide (x.dev_ < y.dev_)) x y:=by
 unfold ltOf xRa Lib.compareInt ;rw[Bool.eq_iff_iff];simp only[decide_eq_true_eq,Bool.or_eq_true,Bool.and_eq_true]
 split <;> (repeat' split) <;> omega
theorem uDa : SWO (ltOf xRa) where
 irrefl x:=by rw[yKa];simp[]
 trans x y z h1 h2:=by rw[yKa] at *;simp[] at *;omega
 ntrans x y z h1 h2:=by rw[yKa] at *;simp[] at *;omega
instance inhcf135 : Inhabited RawTPart:=⟨⟨0,.int .u64 0,rfl⟩⟩
theorem Yda(blk off size:Nat)(w:World):CmpLays Tryz.prog 136 #[] RawTPart.v 2 xRa blk off size w:=fun _ _ _ _ x y=>Yca x y _
set_option maxHeartbeats 2000000 in
set_option maxRecDepth 100000 in
theorem ZIa(blk off cap:Nat)(d:Array RawTPart)(w:World)(hH:HoldsK RawTPart.v 2 w blk off d)(hblk:blk < w.heap.size)(hsz:d.size < 4611686018427387904) :
  Calls Tryz.prog 135 #[.slice (some ⟨blk,off,none⟩) d.size cap,.func (.func 136) #[] #[]] w fun e w'=>e=.returned (.tuple #[])/\∃ n os,w'=sortWorldK RawTPart.v 2 w blk off n (pdq (ltOf xRa) d 0 d.size (Lib.bitLen d.size) true true) os:=by
 have eg:∀ args w,(callFunc 136 args).run Tryz.prog w=.ok (.enter 136 args) w:=Tryz.call136;have e14:=Tryz.call177;have e15:=Tryz.call121;have hlim:Lib.bitLen d.size < 4611686018427387904:=Nat.lt_of_le_of_lt (Lib.bitLen_le d.size 62 (by omega) (by omega)) (by omega);have hp:=AnyQ.pdqsortCmpFunc_all Tryz.pdq177 2 Tryz.isAgg99 Tryz.sizeOf99 RawTPart.v xRa 136 #[] uDa blk off cap d w eg (Yda blk off d.size w) ⟨fun _=>rfl,RawTPart.v1,hH,hblk⟩ (d.size+1) 0 d.size (Lib.bitLen d.size) d w (by omega) rfl (SWK.start hH) (Nat.zero_le _) (Nat.le_refl _) hsz hlim (Or.inl rfl)
 change Calls Tryz.prog 177 _ _ _ at hp
 have hl:Calls Tryz.prog 121 #[.int .u64 (d.size:Int)] w fun e w'=>e=.returned (.int .i64 (Lib.bitLen d.size:Nat))/\w'=w:=by
  have h:=Any.bits_Len (SlLaysF0.n15.bits Tryz.bits121) (d.size:Int) w (by omega) (by omega)
  rwa [Int.toNat_natCast] at h
 have wr:IntKind.u64.wrap (d.size:Int)=d.size:=by simp[IntKind.wrap,IntKind.bits,IntKind.signed];omega
 clear hH
 go_enter Tryz.func135,Tryz.ntmps135
 go_wp2_with (first | (go_at_call 121;refine hl.mono ?_;rintro e w' ⟨rfl,rfl⟩) | (go_at_call 177;refine hp.mono ?_;rintro e w' ⟨rfl,n,os,rfl⟩))
 go_end0
 exact⟨rfl,n,os,rfl⟩
theorem wsa(w:World):Calls Tryz.prog 135 #[.slice none 0 0,.func (.func 136) #[] #[]] w fun e w'=>e=.returned (.tuple #[])/\Go.RowKit.Below w.heap.size w w':=by
 have e14:=Tryz.call177;have e15:=Tryz.call121;have hp:=fun lim W=>AnyF.pdqsortCmpFunc_none Tryz.pdq177 none 0 lim (.func (.func 136) #[] #[]) W
 have hl:∀ W,Calls Tryz.prog 121 #[.int .u64 0] W fun e w'=>e=.returned (.int .i64 (Lib.bitLen 0:Nat))/\w'=W:=fun W=>by
  have h:=Any.bits_Len (SlLaysF0.n15.bits Tryz.bits121) 0 W (by omega) (by omega);exact h
 go_enter Tryz.func135,Tryz.ntmps135
 go_wp2_with (first | (go_at_call 121;refine(hl _).mono ?_;rintro e w' ⟨rfl,rfl⟩) | (go_at_call 177;refine(hp _ _).mono ?_;rintro e w' ⟨rfl,rfl⟩))
 go_end0
 exact⟨rfl,Go.RowKit.Below.refl _ _⟩
theorem ZJa : SortLaw Tryz.prog 135 136 2 RawTPart.v (fun x y:RawTPart=>decide (x.dev_ < y.dev_)):=SortLaw.of uDa yKa (fun _=>rfl) wsa (fun blk off cap d w hH hblk hsz=>ZIa blk off cap d w hH hblk hsz)
theorem rlt135(x y:PT)(r r':RawTPart)(h1:RawTPart.R x r)(h2:RawTPart.R y r'):((fun x y:RawTPart=>decide (x.dev_ < y.dev_))) r r'=zea x y:=by simp only[RawTPart.R] at h1 h2;simp[h1,h2,zea]
def xSa(x y:RN):Int:=Lib.compareInt x.lo y.lo
theorem Yea(x y:RN)(W:World):Calls Tryz.prog 176 #[.agg #[.int .u64 x.lo,.int .u64 x.hi],.agg #[.int .u64 y.lo,.int .u64 y.hi]] W fun e w'=>e=.returned (.int .i64 (xSa x y))/\∃ q os',w'=grow (W.drewN q) os':=by
 have c1:=fun W'=>YWa x.lo y.lo W'
 unfold xSa
 generalize Lib.compareInt x.lo y.lo=r1 at c1 ⊢
 go_enter Tryz.func176,Tryz.ntmps176
 go_wp2_with (go_at_call 114;refine(c1 _).mono ?_;rintro e w' ⟨rfl,rfl⟩)
 go_ret
 exact⟨rfl,0,_,by rw[alloc_eq_grow,alloc_eq_grow,grow_grow];rfl⟩
theorem yLa(x y:RN):ltOf xSa x y=zLa x y:=by
 unfold ltOf xSa Lib.compareInt zLa;rw[Bool.eq_iff_iff];simp only[decide_eq_true_eq,Bool.or_eq_true,Bool.and_eq_true]
 split <;> (repeat' split) <;> omega
theorem uEa : SWO (ltOf xSa) where
 irrefl x:=by rw[yLa];simp[zLa]
 trans x y z h1 h2:=by rw[yLa] at *;simp[zLa] at *;omega
 ntrans x y z h1 h2:=by rw[yLa] at *;simp[zLa] at *;omega
instance inhcf175 : Inhabited RN:=⟨⟨0,0⟩⟩
theorem Yfa(blk off size:Nat)(w:World):CmpLays Tryz.prog 176 #[] RN.v 2 xSa blk off size w:=fun _ _ _ _ x y=>Yea x y _
set_option maxHeartbeats 2000000 in
set_option maxRecDepth 100000 in
theorem ZKa(blk off cap:Nat)(d:Array RN)(w:World)(hH:HoldsK RN.v 2 w blk off d)(hblk:blk < w.heap.size)(hsz:d.size < 4611686018427387904) :
  Calls Tryz.prog 175 #[.slice (some ⟨blk,off,none⟩) d.size cap,.func (.func 176) #[] #[]] w fun e w'=>e=.returned (.tuple #[])/\∃ n os,w'=sortWorldK RN.v 2 w blk off n (pdq (ltOf xSa) d 0 d.size (Lib.bitLen d.size) true true) os:=by
 have eg:∀ args w,(callFunc 176 args).run Tryz.prog w=.ok (.enter 176 args) w:=Tryz.call176;have e14:=Tryz.call200;have e15:=Tryz.call121;have hlim:Lib.bitLen d.size < 4611686018427387904:=Nat.lt_of_le_of_lt (Lib.bitLen_le d.size 62 (by omega) (by omega)) (by omega);have hp:=AnyQ.pdqsortCmpFunc_all Tryz.pdq200 2 Tryz.isAgg124 Tryz.sizeOf124 RN.v xSa 176 #[] uEa blk off cap d w eg (Yfa blk off d.size w) ⟨fun _=>rfl,RN.v1,hH,hblk⟩ (d.size+1) 0 d.size (Lib.bitLen d.size) d w (by omega) rfl (SWK.start hH) (Nat.zero_le _) (Nat.le_refl _) hsz hlim (Or.inl rfl)
 change Calls Tryz.prog 200 _ _ _ at hp
 have hl:Calls Tryz.prog 121 #[.int .u64 (d.size:Int)] w fun e w'=>e=.returned (.int .i64 (Lib.bitLen d.size:Nat))/\w'=w:=by
  have h:=Any.bits_Len (SlLaysF0.n15.bits Tryz.bits121) (d.size:Int) w (by omega) (by omega)
  rwa [Int.toNat_natCast] at h
 have wr:IntKind.u64.wrap (d.size:Int)=d.size:=by simp[IntKind.wrap,IntKind.bits,IntKind.signed];omega
 clear hH
 go_enter Tryz.func175,Tryz.ntmps175
 go_wp2_with (first | (go_at_call 121;refine hl.mono ?_;rintro e w' ⟨rfl,rfl⟩) | (go_at_call 200;refine hp.mono ?_;rintro e w' ⟨rfl,n,os,rfl⟩))
 go_end0
 exact⟨rfl,n,os,rfl⟩
theorem wta(w:World):Calls Tryz.prog 175 #[.slice none 0 0,.func (.func 176) #[] #[]] w fun e w'=>e=.returned (.tuple #[])/\Go.RowKit.Below w.heap.size w w':=by
 have e14:=Tryz.call200;have e15:=Tryz.call121;have hp:=fun lim W=>AnyF.pdqsortCmpFunc_none Tryz.pdq200 none 0 lim (.func (.func 176) #[] #[]) W
 have hl:∀ W,Calls Tryz.prog 121 #[.int .u64 0] W fun e w'=>e=.returned (.int .i64 (Lib.bitLen 0:Nat))/\w'=W:=fun W=>by
  have h:=Any.bits_Len (SlLaysF0.n15.bits Tryz.bits121) 0 W (by omega) (by omega);exact h
 go_enter Tryz.func175,Tryz.ntmps175
 go_wp2_with (first | (go_at_call 121;refine(hl _).mono ?_;rintro e w' ⟨rfl,rfl⟩) | (go_at_call 200;refine(hp _ _).mono ?_;rintro e w' ⟨rfl,rfl⟩))
 go_end0
 exact⟨rfl,Go.RowKit.Below.refl _ _⟩
theorem ZLa : SortLaw Tryz.prog 175 176 2 RN.v zLa:=SortLaw.of uEa yLa (fun _=>rfl) wta (fun blk off cap d w hH hblk hsz=>ZKa blk off cap d w hH hblk hsz)
def xTa(x y:DT):Int:=if Lib.compareInt x.dev y.dev≠0 then Lib.compareInt x.dev y.dev else Lib.compareInt x.n y.n
theorem Yga(x y:DT)(W:World):Calls Tryz.prog 76 #[.agg #[.int .u16 x.dev,.int .u64 x.n],.agg #[.int .u16 y.dev,.int .u64 y.n]] W fun e w'=>e=.returned (.int .i64 (xTa x y))/\∃ q os',w'=grow (W.drewN q) os':=by
 have c1:=fun W'=>uAa x.dev y.dev W'
 have c2:=fun W'=>YWa x.n y.n W'
 unfold xTa
 generalize Lib.compareInt x.dev y.dev=r1 at c1 ⊢
 generalize Lib.compareInt x.n y.n=r2 at c2 ⊢
 by_cases h:r1=0
 ·subst h
  go_enter Tryz.func76,Tryz.ntmps76
  go_wp2_with (first | (go_at_call 87;refine(c1 _).mono ?_;rintro e w' ⟨rfl,rfl⟩) | (go_at_call 114;refine(c2 _).mono ?_;rintro e w' ⟨rfl,rfl⟩))
  go_ret
  exact⟨by simp,0,_,by rw[alloc_eq_grow,alloc_eq_grow,grow_grow];rfl⟩
 ·go_enter Tryz.func76,Tryz.ntmps76
  go_wp2_with (first | (go_at_call 87;refine(c1 _).mono ?_;rintro e w' ⟨rfl,rfl⟩) | (go_at_call 114;refine(c2 _).mono ?_;rintro e w' ⟨rfl,rfl⟩))
  go_ret
  exact⟨by simp[h],0,_,by rw[alloc_eq_grow,alloc_eq_grow,grow_grow];rfl⟩
theorem yMa(x y:DT):ltOf xTa x y=zr x y:=by
 unfold ltOf xTa Lib.compareInt zr;rw[Bool.eq_iff_iff];simp only[decide_eq_true_eq,Bool.or_eq_true,Bool.and_eq_true]
 split <;> (repeat' split) <;> omega
theorem uFa : SWO (ltOf xTa) where
 irrefl x:=by rw[yMa];simp[zr]
 trans x y z h1 h2:=by rw[yMa] at *;simp[zr] at *;omega
 ntrans x y z h1 h2:=by rw[yMa] at *;simp[zr] at *;omega
instance inhcf178 : Inhabited DT:=⟨⟨0,0⟩⟩
theorem Yha(blk off size:Nat)(w:World):CmpLays Tryz.prog 76 #[] DT.v 2 xTa blk off size w:=fun _ _ _ _ x y=>Yga x y _
set_option maxHeartbeats 2000000 in
set_option maxRecDepth 100000 in
theorem ZMa(blk off cap:Nat)(d:Array DT)(w:World)(hH:HoldsK DT.v 2 w blk off d)(hblk:blk < w.heap.size)(hsz:d.size < 4611686018427387904) :
  Calls Tryz.prog 178 #[.slice (some ⟨blk,off,none⟩) d.size cap,.func (.func 76) #[] #[]] w fun e w'=>e=.returned (.tuple #[])/\∃ n os,w'=sortWorldK DT.v 2 w blk off n (pdq (ltOf xTa) d 0 d.size (Lib.bitLen d.size) true true) os:=by
 have eg:∀ args w,(callFunc 76 args).run Tryz.prog w=.ok (.enter 76 args) w:=Tryz.call76;have e14:=Tryz.call209;have e15:=Tryz.call121;have hlim:Lib.bitLen d.size < 4611686018427387904:=Nat.lt_of_le_of_lt (Lib.bitLen_le d.size 62 (by omega) (by omega)) (by omega);have hp:=AnyQ.pdqsortCmpFunc_all Tryz.pdq209 2 Tryz.isAgg101 Tryz.sizeOf101 DT.v xTa 76 #[] uFa blk off cap d w eg (Yha blk off d.size w) ⟨fun _=>rfl,DT.v1,hH,hblk⟩ (d.size+1) 0 d.size (Lib.bitLen d.size) d w (by omega) rfl (SWK.start hH) (Nat.zero_le _) (Nat.le_refl _) hsz hlim (Or.inl rfl)
 change Calls Tryz.prog 209 _ _ _ at hp
 have hl:Calls Tryz.prog 121 #[.int .u64 (d.size:Int)] w fun e w'=>e=.returned (.int .i64 (Lib.bitLen d.size:Nat))/\w'=w:=by
  have h:=Any.bits_Len (SlLaysF0.n15.bits Tryz.bits121) (d.size:Int) w (by omega) (by omega)
  rwa [Int.toNat_natCast] at h
 have wr:IntKind.u64.wrap (d.size:Int)=d.size:=by simp[IntKind.wrap,IntKind.bits,IntKind.signed];omega
 clear hH
 go_enter Tryz.func178,Tryz.ntmps178
 go_wp2_with (first | (go_at_call 121;refine hl.mono ?_;rintro e w' ⟨rfl,rfl⟩) | (go_at_call 209;refine hp.mono ?_;rintro e w' ⟨rfl,n,os,rfl⟩))
 go_end0
 exact⟨rfl,n,os,rfl⟩
theorem wua(w:World):Calls Tryz.prog 178 #[.slice none 0 0,.func (.func 76) #[] #[]] w fun e w'=>e=.returned (.tuple #[])/\Go.RowKit.Below w.heap.size w w':=by
 have e14:=Tryz.call209;have e15:=Tryz.call121;have hp:=fun lim W=>AnyF.pdqsortCmpFunc_none Tryz.pdq209 none 0 lim (.func (.func 76) #[] #[]) W
 have hl:∀ W,Calls Tryz.prog 121 #[.int .u64 0] W fun e w'=>e=.returned (.int .i64 (Lib.bitLen 0:Nat))/\w'=W:=fun W=>by
  have h:=Any.bits_Len (SlLaysF0.n15.bits Tryz.bits121) 0 W (by omega) (by omega);exact h
 go_enter Tryz.func178,Tryz.ntmps178
 go_wp2_with (first | (go_at_call 121;refine(hl _).mono ?_;rintro e w' ⟨rfl,rfl⟩) | (go_at_call 209;refine(hp _ _).mono ?_;rintro e w' ⟨rfl,rfl⟩))
 go_end0
 exact⟨rfl,Go.RowKit.Below.refl _ _⟩
theorem Yia : SortLaw Tryz.prog 178 76 2 DT.v zr:=SortLaw.of uFa yMa (fun _=>rfl) wua (fun blk off cap d w hH hblk hsz=>ZMa blk off cap d w hH hblk hsz)
end Go.Proofs
namespace Go.Ep
open Go.RowKit
def RowAt(w:World)(e:TypeId)(k:Nat)(l:List (List DV)):Option (Nat×Nat)->Value->Prop
 | none,v=>l=[]/\v=.slice none 0 0
 | some (b,cap),v=>v=.slice (some ⟨b,0,none⟩) l.length cap/\∃ cur:List Value,w.heap[b]?=some (.cells cur.toArray e (0,0))/\l.length<=cap/\cap<=maxLen/\cur.length=cap*k/\(∀ (i:Nat) (cs:List DV),l[i]?=some cs->cs.length=k) /\
   ∀ (i:Nat) (cs:List DV) (j:Nat) (x:DV),l[i]?=some cs->cs[j]?=some x->∃ u,cur[i*k+j]?=some u/\x=.v u/\u.oneCell'=true
def uGa(l:List (List DV)):Prop:=∀ cs∈l,∀ x∈cs,∃ u,x=DV.v u
abbrev Vm:=List (List Int×List (List DV))
def yNa(R:Vm):Mp:=R.map fun p=>(p.1,[DV.sl p.2])
def Dt(ctx:Ctx)(mb:Nat)(blk:Nat->Option (Nat×Nat))(b:Nat):Prop:=(ctx.S b\/ctx.w0.heap.size<=b)/\b≠mb/\∀ i c,blk i≠some (b,c)
structure RelT(ctx:Ctx)(ks:List IntKind)(e:TypeId)(k mid n:Nat)(sl:List (Nat×PV))(R:Vm)(a:Act)(w:World)(g:zw)(mb:Nat)(blk:Nat->Option (Nat×Nat))(es:Array MapEntry)(ck:Nat):Prop where
 defers:a.defers=[]
 size:a.tmps.size=n
 slots:∀ i p,(PState.mk n sl []).at i=some p->Rd w g (Dt ctx mb blk) p (a.tmps.getD i undef)
 gm:∃ q,g mid=some (mb,q)
 lt:mb < w.heap.size/\(ctx.w0.heap.size<=mb\/ctx.K mb)
 hh:w.heap[mb]?=some (.map es ck)
 sz:es.size=R.length
 below:∀ b∈es.toList.map (·.born),b < ck
 nodup:(es.toList.map (·.born)).Nodup
 ent:∀ (i:Nat) (ns:List Int) (l:List (List DV)),R[i]?=some (ns,l)->∃ x,es[i]?=some x/\x.key=Yw ks ns/\ns.length=ks.length/\RowAt w e k l (blk i) x.val
 inj:∀ i j b c c',blk i=some (b,c)->blk j=some (b,c')->i=j
 own:∀ i b c,blk i=some (b,c)->b < w.heap.size/\(ctx.w0.heap.size<=b\/ctx.K b)/\b≠mb
 out:∀ i,R.length<=i->blk i=none
 os:w.os=ctx.w0.os
 tape:w.tape=ctx.w0.tape
 output:w.output=ctx.w0.output
 grows:ctx.w0.heap.size<=w.heap.size
 keep:∀ q,q < ctx.w0.heap.size->¬ ctx.K q->w.heap[q]?=ctx.w0.heap[q]?
theorem at_mem{n:Nat}{sl:List (Nat×PV)}{o:List (Nat×Ob)}{i:Nat}{p:PV}(h:(PState.mk n sl o).at i=some p):(i,p)∈sl:=Jb (uH h)
theorem rd_row{w:World}{g:zw}{S:Nat->Prop}{id n:Nat}{u:Value}(h:Rd w g S (.row id n) u):(∃ b c,g id=some (b,c)/\u=.slice (some ⟨b,0,none⟩) n c)\/(g id=none/\n=0/\u=.slice none 0 0):=by
 cases h with
 | row _ _ b c h=>exact .inl ⟨b,c,h,rfl⟩
 | rowNil _ h=>exact .inr ⟨h,rfl,rfl⟩
section
variable{ctx:Ctx}{ks:List IntKind}{e:TypeId}{k mid n:Nat}{sl:List (Nat×PV)}{a:Act}{w:World}{g:zw}
theorem RelT.start{bs0:List Nat}{ck0:Nat}(h:RelG ctx g ⟨n,sl,[(mid,.map ks false [] bs0 ck0)]⟩ a w):∃ mb es ck,RelT ctx ks e k mid n sl [] a w g mb (fun _=>none) es ck:=by
 have hl:look [(mid,Ob.map ks false [] bs0 ck0)] mid=some (.map ks false [] bs0 ck0):=by simp[look]
 cases h.objs mid _ hl with
 | map _ _ _ _ _ blk q es hg hh hm=>
  refine⟨blk,es,ck0,h.defers,h.size,fun i p hp=>?_,⟨q,hg⟩,h.own mid _ blk q hl hg,hh,hm.size,by rw[<- hm.stamps];exact hm.below,by rw[<- hm.stamps];exact hm.nodup,(fun i ns l hi=>by simp at hi),(fun i j b c c' hi=>by cases hi),(fun i b c hi=>by cases hi),fun _ _=>rfl,h.os,h.tape,h.output,h.grows,h.keep⟩;refine(h.slots i p hp).keep ⟨Nat.le_refl _,fun _ _ _=>rfl⟩ (fun b hb _=>⟨hb.1,fun eb=>?_,fun i c hc=>by cases hc⟩) (fun _ _=>rfl);subst eb;exact hb.2 mid _ q hl hg
theorem cell_cur{b:Nat}{cur:List Value}(hh:w.heap[b]?=some (.cells cur.toArray e (0,0)))(o:Nat):w.cell? ⟨b,o,none⟩=cur[o]?:=yD hh o
theorem RelT.done{R:Vm}{mb:Nat}{blk:Nat->Option (Nat×Nat)}{es:Array MapEntry}{ck:Nat}(hK:∀ b,ctx.K b->ctx.S b)(h:RelT ctx ks e k mid n sl R a w g mb blk es ck):RelG ctx g ⟨n,sl,[(mid,.map ks false (yNa R) (es.toList.map (·.born)) ck)]⟩ a w:=by
 obtain⟨q,hg⟩:=h.gm;have hlk:∀ id o,look [(mid,Ob.map ks false (yNa R) (es.toList.map (·.born)) ck)] id=some o->id=mid:=fun id o ho=>by
  simp only[look] at ho
  split at ho
  ·assumption
  ·cases ho
 have hfree:∀ b,(ctx.S b\/ctx.w0.heap.size<=b)->b≠mb->yE ctx g [(mid,Ob.map ks false (yNa R) (es.toList.map (·.born)) ck)] b:=fun b h1 h2=>⟨h1,fun id o m ho hgi=>by
  rw[hlk id o ho,hg] at hgi;cases hgi;exact h2 rfl⟩
 refine⟨h.defers,h.size,fun i p hp=>?_,fun id o ho=>?_,fun i j oi oj b m m' hi hj _ _=>by rw[hlk i oi hi,hlk j oj hj],fun id o b m ho hgi=>?_,h.os,h.tape,h.output,h.grows,h.keep⟩
 ·exact(h.slots i p hp).keep ⟨Nat.le_refl _,fun _ _ _=>rfl⟩ (fun b hb _=>hfree b hb.1 hb.2.1) (fun _ _=>rfl)
 ·have hid:=hlk id o ho;subst hid;simp only[look,if_true] at ho
  cases ho
  refine .map ks false _ _ ck mb q es hg h.hh ⟨by simp[yNa,h.sz],rfl,h.below,h.nodup,fun i ns cs hi=>?_⟩;unfold yNa at hi;rw[List.getElem?_map] at hi
  cases hR:R[i]? with
  | none=>rw[hR] at hi;cases hi
  | some r=>
   obtain⟨ns',l⟩:=r;rw[hR] at hi;simp only[Option.map_some,Option.some.injEq,Prod.mk.injEq] at hi;obtain⟨rfl,rfl⟩:=hi;obtain⟨x,h1,h2,h3,h4⟩:=h.ent i _ l hR;have hd:DRd w (yE ctx g [(id,Ob.map ks false (yNa R) (es.toList.map (·.born)) ck)]) (.sl l) x.val:=by
    cases hb:blk i with
    | none=>
     rw[hb] at h4;obtain⟨rfl,hv⟩:=h4;rw[hv];exact .nil none 0 (Nat.zero_le _) (fun _=>rfl)
    | some bc=>
     obtain⟨b,cap⟩:=bc;rw[hb] at h4;obtain⟨hv,cur,hc,hlc,hcap,hcl,hkk,hr⟩:=h4;rw[hv];obtain⟨o1,o2,o3⟩:=h.own i b cap hb;refine .sl l b 0 cap k (fun i j=>cur.getD (i*k+j) undef) hlc hcap (hfree b (o2.elim .inr fun q=>.inl (hK b q)) o3) o1 hkk (fun i' j' hi' hj'=>?_) fun i' cs j' x' hi' hx'=>?_
     ·rw[cell_cur hc,Nat.zero_add];have:i'*k+j' < cur.length:=by rw[hcl];exact Zv (by omega) hj'
      simp[List.getD,this]
     ·obtain⟨u,hu,rfl,h1⟩:=hr i' cs j' x' hi' hx';simp only[List.getD,hu,Option.getD_some];exact .v u h1
   refine⟨x,[x.val],h1,h2,rfl,rfl,fun _=>rfl,fun u hu=>by rw[List.mem_singleton] at hu;rw[hu];exact hd.one,h3,fun j y u hy hu=>?_⟩
   cases j with
   | zero=>simp at hy hu;subst hy;subst hu;exact hd
   | succ j=>simp at hy
 ·rw[hlk id o ho,hg] at hgi
  cases hgi
  exact h.lt
def ZM(R:Vm)(es:Array MapEntry):List (List Int×Value):=List.zipWith (fun r x=>(r.1,x.val)) R es.toList
theorem uP{R:Vm}{es:Array MapEntry}(h:es.size=R.length):(ZM R es).length=R.length:=by simp[ZM,h]
theorem xUa{R:Vm}{es:Array MapEntry}(h:es.size=R.length):(ZM R es).map (·.1)=R.map (·.1):=by
 apply List.ext_getElem?;intro i;simp only[ZM,List.getElem?_map,List.getElem?_zipWith]
 cases hR:R[i]? with
 | none=>simp
 | some r=>
  have:i < es.toList.length:=by have:=(List.getElem?_eq_some_iff.1 hR).1;simp;omega
  simp[List.getElem?_eq_getElem this]
theorem xVa{R:Vm}{es:Array MapEntry}{i:Nat}{ns:List Int}{u:Value}(h:(ZM R es)[i]?=some (ns,u)):∃ l x,R[i]?=some (ns,l)/\es[i]?=some x/\x.val=u:=by
 simp only[ZM,List.getElem?_zipWith] at h
 cases hR:R[i]? with
 | none=>rw[hR] at h;cases h
 | some r=>
  cases hx:es.toList[i]? with
  | none=>rw[hR,hx] at h;cases h
  | some x=>
   rw[hR,hx] at h;simp only[Option.some.injEq,Prod.mk.injEq] at h;exact⟨r.2,x,by rw[<- h.1],by simpa using hx,h.2⟩
theorem qD{R:Vm}{es:Array MapEntry}{i:Nat}{ns:List Int}{l:List (List DV)}{x:MapEntry}(h:R[i]?=some (ns,l))(hx:es[i]?=some x):(ZM R es)[i]?=some (ns,x.val):=by
 have hx':es.toList[i]?=some x:=by simpa using hx
 rw[ZM,List.getElem?_zipWith,h,hx']
def ctxT(ctx:Ctx)(mb:Nat)(blk:Nat->Option (Nat×Nat))(j:Nat)(w:World):Ctx:=⟨w,Dt ctx mb blk,fun b=>b=mb\/∃ c,blk j=some (b,c)⟩
section
variable{R:Vm}{mb:Nat}{blk:Nat->Option (Nat×Nat)}{es:Array MapEntry}{ck:Nat}
theorem RelT.found(h:RelT ctx ks e k mid n sl R a w g mb blk es ck)(hnm:∀ x∈sl,∀ id,x.2.has id=true->id=mid)(hm:mid≠50){j:Nat}{ns:List Int}{l:List (List DV)}(hj:R[j]?=some (ns,l)) :
  RelG (ctxT ctx mb blk j w) (upd g 50 (blk j)) ⟨n,sl,[(mid,.mapP ks (ZM R es) (some (j,.row 50 l.length)) (es.toList.map (·.born)) ck),(50,.row e k l)]⟩ a w:=by
 obtain⟨q,hg⟩:=h.gm;have hgm:upd g 50 (blk j) mid=some (mb,q):=by rw[yw hm];exact hg
 have hg5:upd g 50 (blk j) 50=blk j:=zZ _ _ _;have hlk:∀ id o,look [(mid,Ob.mapP ks (ZM R es) (some (j,.row 50 l.length)) (es.toList.map (·.born)) ck),(50,Ob.row e k l)] id=some o->(id=mid/\o=.mapP ks (ZM R es) (some (j,.row 50 l.length)) (es.toList.map (·.born)) ck)\/(id=50/\o=.row e k l):=fun id o ho=>by
  simp only[look] at ho
  split at ho
  ·cases ho;exact .inl ⟨by assumption,rfl⟩
  ·split at ho
   ·cases ho;exact .inr ⟨by assumption,rfl⟩
   ·cases ho
 have hfree:∀ b,Dt ctx mb blk b->yE (ctxT ctx mb blk j w) (upd g 50 (blk j)) [(mid,Ob.mapP ks (ZM R es) (some (j,.row 50 l.length)) (es.toList.map (·.born)) ck),(50,Ob.row e k l)] b:=fun b hb=>⟨.inl hb,fun id o m ho hgi=>by
  rcases hlk id o ho with⟨rfl,_⟩ | ⟨rfl,_⟩
  ·rw[hgm] at hgi;cases hgi;exact hb.2.1 rfl
  ·rw[hg5] at hgi;exact hb.2.2 j m hgi⟩
 obtain⟨x,h1,h2,h3,h4⟩:=h.ent j ns l hj;refine⟨h.defers,h.size,fun i p hp=>?_,fun id o ho=>?_,fun i i' oi oj b m m' hi hi' hgi hgj=>?_,fun id o b m ho hgi=>?_,rfl,rfl,rfl,Nat.le_refl _,fun _ _ _=>rfl⟩
 ·exact(h.slots i p hp).keep ⟨Nat.le_refl _,fun _ _ _=>rfl⟩ (fun b hb _=>hfree b hb) (fun id hid=>by rw[hnm _ (at_mem hp) id hid,hgm,hg])
 ·rcases hlk id o ho with⟨rfl,rfl⟩ | ⟨rfl,rfl⟩
  ·refine .mapP ks _ _ _ ck mb q es hgm h.hh (by rw[uP h.sz,h.sz]) rfl h.below h.nodup (fun i ns' u hi=>?_) fun j' p hjp=>?_
   ·obtain⟨l',x',r1,r2,r3⟩:=xVa hi;obtain⟨x2,s1,s2,s3,s4⟩:=h.ent i ns' l' r1;rw[r2] at s1;cases s1;refine⟨x',r2,s2,s3,?_,fun _=>r3⟩
    cases hb:blk i with
    | none=>rw[hb] at s4;rw[s4.2];rfl
    | some bc=>obtain⟨b,c⟩:=bc;rw[hb] at s4;rw[s4.1];rfl
   ·cases hjp
    refine⟨x,h1,?_⟩
    cases hb:blk j with
    | none=>rw[hb] at h4;obtain⟨rfl,hv⟩:=h4;rw[hv];exact .rowNil 50 (zZ _ _ _)
    | some bc=>obtain⟨b,c⟩:=bc;rw[hb] at h4;rw[h4.1];exact .row 50 _ b c (zZ _ _ _)
  ·cases hb:blk j with
   | none=>rw[hb] at h4;obtain⟨rfl,hv⟩:=h4;exact .rowNil e k (zZ _ _ _)
   | some bc=>
    obtain⟨b,c⟩:=bc;rw[hb] at h4;obtain⟨hv,cur,hc,hlc,hcap,hcl,hkk,hr⟩:=h4;refine .row e k l b c cur (zZ _ _ _) hc hlc hcap hcl hkk fun i' cs j' x' hi' hx'=>?_
    obtain⟨u,hu,rfl,ho1⟩:=hr i' cs j' x' hi' hx';exact⟨u,hu,.v u ho1⟩
 ·rcases hlk i oi hi with⟨rfl,_⟩ | ⟨rfl,_⟩ <;> rcases hlk i' oj hi' with⟨rfl,_⟩ | ⟨rfl,_⟩
  ·rfl
  ·rw[hgm] at hgi;cases hgi;rw[hg5] at hgj;exact((h.own j _ _ hgj).2.2 rfl).elim
  ·rw[hgm] at hgj;cases hgj;rw[hg5] at hgi;exact((h.own j _ _ hgi).2.2 rfl).elim
  ·rfl
 ·rcases hlk id o ho with⟨rfl,_⟩ | ⟨rfl,_⟩
  ·rw[hgm] at hgi;cases hgi;exact⟨h.lt.1,.inr (.inl rfl)⟩
  ·rw[hg5] at hgi;exact⟨(h.own j _ _ hgi).1,.inr (.inr ⟨_,hgi⟩)⟩
theorem RelT.fresh(h:RelT ctx ks e k mid n sl R a w g mb blk es ck)(j:Nat) :
  RelG (ctxT ctx mb blk j w) g ⟨n,sl,[(mid,.mapP ks (ZM R es) none (es.toList.map (·.born)) ck)]⟩ a w:=by
 obtain⟨q,hg⟩:=h.gm;have hlk:∀ id o,look [(mid,Ob.mapP ks (ZM R es) none (es.toList.map (·.born)) ck)] id=some o->id=mid/\o=.mapP ks (ZM R es) none (es.toList.map (·.born)) ck:=fun id o ho=>by
  simp only[look] at ho
  split at ho
  ·cases ho;exact⟨by assumption,rfl⟩
  ·cases ho
 have hfree:∀ b,Dt ctx mb blk b->yE (ctxT ctx mb blk j w) g [(mid,Ob.mapP ks (ZM R es) none (es.toList.map (·.born)) ck)] b:=fun b hb=>⟨.inl hb,fun id o m ho hgi=>by
  rw[(hlk id o ho).1,hg] at hgi;cases hgi;exact hb.2.1 rfl⟩
 refine⟨h.defers,h.size,fun i p hp=>?_,fun id o ho=>?_,fun i i' oi oj b m m' hi hi' hgi hgj=>?_,fun id o b m ho hgi=>?_,rfl,rfl,rfl,Nat.le_refl _,fun _ _ _=>rfl⟩
 ·exact(h.slots i p hp).keep ⟨Nat.le_refl _,fun _ _ _=>rfl⟩ (fun b hb _=>hfree b hb) (fun _ _=>rfl)
 ·obtain⟨rfl,rfl⟩:=hlk id o ho;refine .mapP ks _ _ _ ck mb q es hg h.hh (by rw[uP h.sz,h.sz]) rfl h.below h.nodup (fun i ns' u hi=>?_) fun j' p hjp=>by cases hjp
  obtain⟨l',x',r1,r2,r3⟩:=xVa hi;obtain⟨x2,s1,s2,s3,s4⟩:=h.ent i ns' l' r1;rw[r2] at s1;cases s1;refine⟨x',r2,s2,s3,?_,fun _=>r3⟩
  cases hb:blk i with
  | none=>rw[hb] at s4;rw[s4.2];rfl
  | some bc=>obtain⟨b,c⟩:=bc;rw[hb] at s4;rw[s4.1];rfl
 ·rw[(hlk i oi hi).1,(hlk i' oj hi').1]
 ·rw[(hlk id o ho).1,hg] at hgi;cases hgi;exact⟨h.lt.1,.inr (.inl rfl)⟩
theorem RelT.back(h:RelT ctx ks e k mid n sl R a w g mb blk es ck){j q:Nat}{ns:List Int}{l:List (List DV)}{R':Vm}{vm:List (List Int×Value)}{sl':List (Nat×PV)}{a':Act}{w':World}{g':zw}{bs':List Nat}{ck':Nat}(hq:mid≠q)(hle:R.length<=R'.length)
  (hvl:vm.length=R'.length) (hj:R'[j]?=some (ns,l)) (hjv:∃ u,vm[j]?=some (ns,u)) (hvm:∀ i ns' l',i≠j->R'[i]?=some (ns',l')->R[i]?=some (ns',l')/\∃ x,es[i]?=some x/\vm[i]?=some (ns',x.val)) (hpl:uGa l)
  (hr:RelG (ctxT ctx mb blk j w) g' ⟨n,sl',[(mid,.mapP ks vm (some (j,.row q l.length)) bs' ck'),(q,.row e k l)]⟩ a' w') :
  ∃ mb' blk' es',RelT ctx ks e k mid n sl' R' a' w' g' mb' blk' es' ck':=by
 have hlm:look [(mid,Ob.mapP ks vm (some (j,.row q l.length)) bs' ck'),(q,Ob.row e k l)] mid=some (.mapP ks vm (some (j,.row q l.length)) bs' ck'):=by simp[look]
 have hlq:look [(mid,Ob.mapP ks vm (some (j,.row q l.length)) bs' ck'),(q,Ob.row e k l)] q=some (.row e k l):=by simp[look,Ne.symm hq]
 cases hr.objs mid _ hlm with
 | mapP _ _ _ _ _ mb' n' es' hgm hh hsz hst hbl hnd hent hov=>
  subst hst;have hgr:w.heap.size<=w'.heap.size:=hr.grows;have hbase:ctx.w0.heap.size<=w.heap.size:=h.grows;have hown:∀ id o b m,look [(mid,Ob.mapP ks vm (some (j,.row q l.length)) (es'.toList.map (·.born)) ck'),(q,Ob.row e k l)] id=some o->g' id=some (b,m)->b < w'.heap.size/\(w.heap.size<=b\/b=mb\/∃ c,blk j=some (b,c)):=fun id o b m ho hg=>hr.own id o b m ho hg
  have hnew:∀ b,(w.heap.size<=b\/b=mb\/∃ c,blk j=some (b,c))->ctx.w0.heap.size<=b\/ctx.K b:=fun b hb=>by
   rcases hb with hb | hb | ⟨c,hb⟩
   ·exact .inl (by omega)
   ·subst hb;exact h.lt.2
   ·exact(h.own j b c hb).2.1
  have hkeep:∀ i b c,i≠j->blk i=some (b,c)->w'.heap[b]?=w.heap[b]?:=fun i b c hij hb=>hr.keep b (h.own i b c hb).1 fun hk=>by
   rcases hk with hk | ⟨c',hk⟩
   ·exact(h.own i b c hb).2.2 hk
   ·exact hij (h.inj i j b c c' hb hk)
  have hdiff:∀ i b c,i≠j->blk i=some (b,c)->¬ (w.heap.size<=b\/b=mb\/∃ c,blk j=some (b,c)):=fun i b c hij hb hk=>by
   rcases hk with hk | hk | ⟨c',hk⟩
   ·have:=(h.own i b c hb).1;omega
   ·exact(h.own i b c hb).2.2 hk
   ·exact hij (h.inj i j b c c' hb hk)
  refine⟨mb',fun i=>if i=j then g' q else blk i,es',hr.defers,hr.size,fun i p hp=>?_,⟨n',hgm⟩,⟨(hown mid _ mb' n' hlm hgm).1,hnew mb' (hown mid _ mb' n' hlm hgm).2⟩,hh,by rw[hsz,hvl],hbl,hnd,fun i ns' l' hi=>?_,fun i i' b c c' hi hi'=>?_,fun i b c hi=>?_,fun i hi=>?_,?_,?_,?_,by omega,fun z hz hzK=>?_⟩
  ·refine(hr.slots i p hp).keep ⟨Nat.le_refl _,fun _ _ _=>rfl⟩ (fun b hb _=>⟨?_,fun eb=>?_,fun i' c hc=>?_⟩) (fun _ _=>rfl)
   ·rcases hb.1 with h1 | h1
    ·exact h1.1
    ·have h1':w.heap.size<=b:=h1;exact .inr (by omega)
   ·subst eb;exact hb.2 mid _ n' hlm hgm
   ·simp only at hc
    split at hc
    ·exact hb.2 q _ c hlq hc
    ·rcases hb.1 with h1 | h1
     ·exact h1.2.2 i' c hc
     ·have h1':w.heap.size<=b:=h1;have:=(h.own i' b c hc).1;omega
  ·by_cases hij:i=j
   ·subst hij;rw[hj] at hi
    cases hi
    obtain⟨u,hu⟩:=hjv;obtain⟨x,r1,r2,r3,_,_⟩:=hent i _ u hu;obtain⟨x',s1,s2⟩:=hov i _ rfl;rw[r1] at s1
    cases s1
    refine⟨x,r1,r2,r3,?_⟩;simp only[if_true];have h2:=rd_row s2
    generalize hL:l.length=L at h2
    cases hr.objs q _ hlq with
    | rowNil _ _ hgq=>
     rw[hgq];rcases h2 with⟨b,c,hgi,_⟩ | ⟨_,_,hv⟩
     ·rw[hgq] at hgi;cases hgi
     ·exact⟨rfl,hv⟩
    | row _ _ _ b c cur hgq hc hlc hcap hcl hkk hrr=>
     rw[hgq];rcases h2 with⟨b',c',hgi,hv⟩ | ⟨hgi,_,_⟩
     ·rw[hgq] at hgi
      cases hgi
      subst hL;refine⟨hv,cur,hc,hlc,hcap,hcl,hkk,fun i' cs j' y hi' hy=>?_⟩;obtain⟨u',hu',hd⟩:=hrr i' cs j' y hi' hy;obtain⟨u2,rfl⟩:=hpl cs (List.mem_of_getElem? hi') y (List.mem_of_getElem? hy)
      cases hd with
      | v _ h1=>exact⟨_,hu',rfl,h1⟩
     ·rw[hgq] at hgi;cases hgi
   ·obtain⟨r0,x0,e0,r1⟩:=hvm i ns' l' hij hi;obtain⟨x,s1,s2,s3,s4,s5⟩:=hent i _ _ r1;refine⟨x,s1,s2,s3,?_⟩;have hxv:=s5 fun p hp=>by cases hp;exact hij rfl
    simp only[if_neg hij];obtain⟨x',t1,_,_,t4⟩:=h.ent i ns' l' r0;rw[e0] at t1
    cases t1
    rw[hxv]
    cases hb:blk i with
    | none=>rw[hb] at t4;exact t4
    | some bc=>
     obtain⟨b,c⟩:=bc;rw[hb] at t4;obtain⟨hv,cur,hc,rest⟩:=t4;exact⟨hv,cur,by rw[hkeep i b c hij hb];exact hc,rest⟩
  ·have hi0:=hi;have hi0':=hi';clear hi hi';have hi:(if i=j then g' q else blk i)=some (b,c):=hi0;have hi':(if i'=j then g' q else blk i')=some (b,c'):=hi0'
   by_cases h1:i=j <;> by_cases h2:i'=j
   ·rw[h1,h2]
   ·rw[if_pos h1] at hi;rw[if_neg h2] at hi';exact(hdiff i' b c' h2 hi' (hown q _ b c hlq hi).2).elim
   ·rw[if_neg h1] at hi;rw[if_pos h2] at hi';exact(hdiff i b c h1 hi (hown q _ b c' hlq hi').2).elim
   ·rw[if_neg h1] at hi;rw[if_neg h2] at hi';exact h.inj i i' b c c' hi hi'
  ·replace hi:(if i=j then g' q else blk i)=some (b,c):=hi
   by_cases h1:i=j
   ·rw[if_pos h1] at hi;have:=hown q _ b c hlq hi;exact⟨this.1,hnew b this.2,fun eb=>by subst eb;exact hq (hr.inj mid q _ _ b n' c hlm hlq hgm hi)⟩
   ·rw[if_neg h1] at hi;have:=h.own i b c hi;exact⟨by omega,this.2.1,fun eb=>by subst eb;exact hdiff i b c h1 hi (hown mid _ b n' hlm hgm).2⟩
  ·have hjl:=(List.getElem?_eq_some_iff.1 hj).1;simp only[if_neg (show i≠j by omega)];exact h.out i (by omega)
  ·rw[<- h.os];exact hr.os
  ·rw[<- h.tape];exact hr.tape
  ·rw[<- h.output];exact hr.output
  ·rw[<- h.keep z hz hzK];refine hr.keep z (Nat.lt_of_lt_of_le hz hbase) fun hk=>?_
   rcases hk with hk | ⟨c,hk⟩
   ·subst hk;rcases h.lt.2 with h1 | h1
    ·omega
    ·exact hzK h1
   ·rcases(h.own j z c hk).2.1 with h1 | h1
    ·omega
    ·exact hzK h1
theorem RelT.back0(h:RelT ctx ks e k mid n sl R a w g mb blk es ck){j:Nat}(hjn:blk j=none){sl':List (Nat×PV)}{a':Act}{w':World}{g':zw}{bs':List Nat}{ck':Nat}
  (hr:RelG (ctxT ctx mb blk j w) g' ⟨n,sl',[(mid,.mapP ks (ZM R es) none bs' ck')]⟩ a' w') :
  ∃ mb' es',RelT ctx ks e k mid n sl' R a' w' g' mb' blk es' ck':=by
 have hlm:look [(mid,Ob.mapP ks (ZM R es) none bs' ck')] mid=some (.mapP ks (ZM R es) none bs' ck'):=by simp[look]
 cases hr.objs mid _ hlm with
 | mapP _ _ _ _ _ mb' n' es' hgm hh hsz hst hbl hnd hent hov=>
  subst hst;have hgr:w.heap.size<=w'.heap.size:=hr.grows;have hbase:ctx.w0.heap.size<=w.heap.size:=h.grows;have hown:mb' < w'.heap.size/\(w.heap.size<=mb'\/mb'=mb\/∃ c,blk j=some (mb',c)):=hr.own mid _ mb' n' hlm hgm;have hown2:w.heap.size<=mb'\/mb'=mb:=by
   rcases hown.2 with h1 | h1 | ⟨c,h1⟩
   ·exact .inl h1
   ·exact .inr h1
   ·rw[hjn] at h1;cases h1
  have hkeep:∀ i b c,blk i=some (b,c)->w'.heap[b]?=w.heap[b]?:=fun i b c hb=>hr.keep b (h.own i b c hb).1 fun hk=>by
   rcases hk with hk | ⟨c',hk⟩
   ·exact(h.own i b c hb).2.2 hk
   ·rw[hjn] at hk;cases hk
  refine⟨mb',es',hr.defers,hr.size,fun i p hp=>?_,⟨n',hgm⟩,⟨hown.1,?_⟩,hh,by rw[hsz,uP h.sz],hbl,hnd,fun i ns' l' hi=>?_,h.inj,fun i b c hi=>?_,h.out,?_,?_,?_,by omega,fun z hz hzK=>?_⟩
  ·refine(hr.slots i p hp).keep ⟨Nat.le_refl _,fun _ _ _=>rfl⟩ (fun b hb _=>⟨?_,fun eb=>?_,fun i' c hc=>?_⟩) (fun _ _=>rfl)
   ·rcases hb.1 with h1 | h1
    ·exact h1.1
    ·have h1':w.heap.size<=b:=h1;exact .inr (by omega)
   ·subst eb;exact hb.2 mid _ n' hlm hgm
   ·rcases hb.1 with h1 | h1
    ·exact h1.2.2 i' c hc
    ·have h1':w.heap.size<=b:=h1;have:=(h.own i' b c hc).1;omega
  ·rcases hown2 with h1 | h1
   ·exact .inl (by omega)
   ·rw[h1];exact h.lt.2
  ·obtain⟨x',t1,t2,t3,t4⟩:=h.ent i ns' l' hi;obtain⟨x,s1,s2,s3,s4,s5⟩:=hent i _ _ (qD hi t1);refine⟨x,s1,s2,s3,?_⟩;rw[s5 fun p hp=>by cases hp]
   cases hb:blk i with
   | none=>rw[hb] at t4;exact t4
   | some bc=>
    obtain⟨b,c⟩:=bc;rw[hb] at t4;obtain⟨hv,cur,hc,rest⟩:=t4;exact⟨hv,cur,by rw[hkeep i b c hb];exact hc,rest⟩
  ·have:=h.own i b c hi;refine⟨by omega,this.2.1,fun eb=>?_⟩;rcases hown2 with h1 | h1
   ·omega
   ·exact this.2.2 (by rw[eb,h1])
  ·rw[<- h.os];exact hr.os
  ·rw[<- h.tape];exact hr.tape
  ·rw[<- h.output];exact hr.output
  ·rw[<- h.keep z hz hzK];refine hr.keep z (Nat.lt_of_lt_of_le hz hbase) fun hk=>?_
   rcases hk with hk | ⟨c,hk⟩
   ·subst hk;rcases h.lt.2 with h1 | h1
    ·omega
    ·exact hzK h1
   ·rw[hjn] at hk;cases hk
end
end
section
variable{P:Program}{ctx:Ctx}{ks:List IntKind}{e:TypeId}{k mid n:Nat}{Q:PQ}{s:PState}{c:Code}
inductive RoundT (P:Program) (c:Code) (ks:List IntKind) (e:TypeId) (k mid n:Nat) (sl:List (Nat×PV)) (R:Vm) (sl':List (Nat×PV)) (R':Vm):Prop
 | found {j nl nl':Nat} {ns:List Int} {l l':List (List DV)} (hl:nl=l.length) (hl':nl'=l'.length) (hj:R[j]?=some (ns,l)) (hR:R'=R.set j (ns,l'))
   (h:∀ (ctx:Ctx) (vm:List (List Int×Value)) (bs:List Nat) (ck:Nat),vm.map (·.1)=R.map (·.1)->PWc P ctx c (fun x t=>x=.normal/\Sub ctx t ⟨n,sl',[(mid,.mapP ks vm (some (j,.row 50 nl')) bs ck),(50,.row e k l')]⟩) ⟨n,sl,[(mid,.mapP ks vm (some (j,.row 50 nl)) bs ck),(50,.row e k l)]⟩)
 | fresh {q nl':Nat} {ns:List Int} {l':List (List DV)} (hl':nl'=l'.length) (hq:mid≠q) (hR:R'=R++[(ns,l')])
   (h:∀ (ctx:Ctx) (vm:List (List Int×Value)) (bs:List Nat) (ck:Nat),vm.map (·.1)=R.map (·.1)->PWc P ctx c (fun x t=>x=.normal/\Sub ctx t ⟨n,sl',[(mid,.mapP ks (vm++[(ns,undef)]) (some (vm.length,.row q nl')) (bs++[ck]) (ck+1)),(q,.row e k l')]⟩) ⟨n,sl,[(mid,.mapP ks vm none bs ck)]⟩)
 | skip (hR:R'=R) (h:∀ (ctx:Ctx) (vm:List (List Int×Value)) (bs:List Nat) (ck:Nat),PWc P ctx c (fun x t=>x=.normal/\Sub ctx t ⟨n,sl',[(mid,.mapP ks vm none bs ck)]⟩) ⟨n,sl,[(mid,.mapP ks vm none bs ck)]⟩)
theorem RoundT.run{sl sl':List (Nat×PV)}{R R':Vm}(hr:RoundT P c ks e k mid n sl R sl' R')(hm:mid≠50)(hnm:∀ x∈sl,∀ id,x.2.has id=true->id=mid)(hpl:∀ p∈R',uGa p.2)
  {a:Act} {w:World} {g:zw} {mb:Nat} {blk:Nat->Option (Nat×Nat)} {es:Array MapEntry} {ck:Nat} (h:RelT ctx ks e k mid n sl R a w g mb blk es ck) :
  c.wp P (fun x a' w'=>x=.normal/\∃ g' mb' blk' es' ck',RelT ctx ks e k mid n sl' R' a' w' g' mb' blk' es' ck') a w:=by
 cases hr with
 | @found j nl nl' ns l l' hl hl' hj hR hw=>
  subst hl hl';refine wp_mono (hw (ctxT ctx mb blk j w) (ZM R es) (es.toList.map (·.born)) ck (xUa h.sz) a w ⟨_,h.found hnm hm hj⟩) fun x a' w' ⟨t,⟨hx,hs⟩,ht⟩=>⟨hx,?_⟩
  obtain⟨g',hg'⟩:=hs a' w' ht;subst hR;have hjl:=(List.getElem?_eq_some_iff.1 hj).1;obtain⟨x0,e0,_,_,_⟩:=h.ent j ns l hj;have hj':(R.set j (ns,l'))[j]?=some (ns,l'):=by rw[List.getElem?_set_self hjl]
  obtain⟨mb',blk',es',hT⟩:=h.back (R':=R.set j (ns,l')) (vm:=ZM R es) (q:=50) hm (by simp) (by rw[uP h.sz];simp) hj' ⟨x0.val,qD hj e0⟩ (fun i ns' l2 hij hi=>by
   rw[List.getElem?_set_ne (Ne.symm hij)] at hi;obtain⟨x1,e1,_⟩:=h.ent i ns' l2 hi;exact⟨hi,x1,e1,qD hi e1⟩) (hpl _ (List.mem_of_getElem? hj')) hg'
  exact⟨g',mb',blk',es',_,hT⟩
 | @fresh q nl' ns l' hl' hq hR hw=>
  subst hl';refine wp_mono (hw (ctxT ctx mb blk R.length w) (ZM R es) (es.toList.map (·.born)) ck (xUa h.sz) a w ⟨_,h.fresh R.length⟩) fun x a' w' ⟨t,⟨hx,hs⟩,ht⟩=>⟨hx,?_⟩
  obtain⟨g',hg'⟩:=hs a' w' ht;subst hR;have hj':(R++[(ns,l')])[R.length]?=some (ns,l'):=by simp
  rw[uP h.sz] at hg';obtain⟨mb',blk',es',hT⟩:=h.back (R':=R++[(ns,l')]) (j:=R.length) (vm:=ZM R es++[(ns,undef)]) (q:=q) hq (by simp) (by simp[uP h.sz]) hj' ⟨undef,by rw[List.getElem?_append_right (by rw[uP h.sz];exact Nat.le_refl _)];simp[uP h.sz]⟩ (fun i ns' l2 hij hi=>by
   have hil:i < R.length:=by
    have:=(List.getElem?_eq_some_iff.1 hi).1;simp at this;omega
   rw[List.getElem?_append_left hil] at hi;obtain⟨x1,e1,_⟩:=h.ent i ns' l2 hi;exact⟨hi,x1,e1,by rw[List.getElem?_append_left (by rw[uP h.sz];exact hil)];exact qD hi e1⟩) (hpl _ (List.mem_of_getElem? hj')) hg'
  exact⟨g',mb',blk',es',_,hT⟩
 | skip hR hw=>
  refine wp_mono (hw (ctxT ctx mb blk R.length w) (ZM R es) (es.toList.map (·.born)) ck a w ⟨_,h.fresh R.length⟩) fun x a' w' ⟨t,⟨hx,hs⟩,ht⟩=>⟨hx,?_⟩
  obtain⟨g',hg'⟩:=hs a' w' ht;subst hR;obtain⟨mb',es',hT⟩:=h.back0 (h.out _ (Nat.le_refl _)) hg';exact⟨g',mb',blk,es',_,hT⟩
theorem PWc.loopRows{bid N:Nat}(J:Nat->List (Nat×PV))(R:Nat->Vm)(Jf:List (Nat×PV))(bs0:List Nat)(ck0:Nat)(hK:∀ b,ctx.K b->ctx.S b)(hm:mid≠50)(hJ:∀ i,∀ x∈J i,∀ id,x.2.has id=true->id=mid)
  (h0:R 0=[]) (hpl:∀ i,∀ p∈R i,uGa p.2) (hs:Sub ctx s ⟨n,J 0,[(mid,.map ks false [] bs0 ck0)]⟩)
  (round:∀ i,i < N->RoundT P c ks e k mid n (J i) (R i) (J (i+1)) (R (i+1)))
  (mf:Mp) (hmf:yNa (R N)=mf) (last:∀ (ctx:Ctx) (vm:List (List Int×Value)) (bs:List Nat) (ck:Nat),PWc P ctx c (fun x t=>x=.exit bid/\Sub ctx t ⟨n,Jf,[(mid,.mapP ks vm none bs ck)]⟩) ⟨n,J N,[(mid,.mapP ks vm none bs ck)]⟩)
  (hQ:∀ bs ck,Q (.exit bid) ⟨n,Jf,[(mid,.map ks false mf bs ck)]⟩):PWc P ctx (.loop c) Q s:=by
 subst hmf;intro a w hr;refine LoopAt.loop ?_;have key:∀ d i,i+d=N->∀ a w g mb blk es ck,RelT ctx ks e k mid n (J i) (R i) a w g mb blk es ck->LoopAt P c (lift ctx Q) a w:=by
  intro d
  induction d with
  | zero=>
   intro i hi a w g mb blk es ck h;have:i=N:=by omega
   subst this;refine LoopAt.step (wp_mono (last (ctxT ctx mb blk (R i).length w) (ZM (R i) es) (es.toList.map (·.born)) ck a w ⟨_,h.fresh (R i).length⟩) fun x a' w' ⟨t,⟨hx,hsb⟩,ht⟩=>?_);obtain⟨g',hg'⟩:=hsb a' w' ht;obtain⟨mb',es',hT⟩:=h.back0 (h.out _ (Nat.le_refl _)) hg';subst hx;exact⟨_,hQ _ _,g',hT.done hK⟩
  | succ d ih=>
   intro i hi a w g mb blk es ck h;refine LoopAt.step (wp_mono ((round i (by omega)).run hm (hJ i) (hpl (i+1)) h) fun x a' w' ⟨hx,g',mb',blk',es',ck',hT⟩=>?_);subst hx;exact ih (i+1) (by omega) a' w' g' mb' blk' es' ck' hT
 obtain⟨g,hg⟩:=hs a w hr;obtain⟨mb,es,ck,hT⟩:=RelT.start (e:=e) (k:=k) hg;rw[<- h0] at hT;exact key N 0 (by omega) a w g mb _ es ck hT
end
section
variable{κ α:Type}{eK:κ->List Int}{enc:α->List DV}
def ZB(eK:κ->List Int)(enc:α->List DV)(m:List (κ×List α)):Vm:=m.map fun x=>(eK x.1,x.2.map enc)
theorem rowsM_of(m:List (κ×List α)):yNa (ZB eK enc m)=yI eK (eL enc) m:=by simp[yNa,ZB,yI,eL]
theorem xWa(h:∀ x,∀ d∈enc x,∃ u,d=DV.v u)(m:List (κ×List α)):∀ p∈ZB eK enc m,uGa p.2:=by
 intro p hp cs hcs d hd;simp only[ZB,List.mem_map] at hp;obtain⟨x,_,rfl⟩:=hp;obtain⟨y,_,rfl⟩:=List.mem_map.1 hcs;exact h y d hd
variable[DecidableEq κ]
theorem xXa{vm:List (List Int×Value)}{R:Vm}(h:vm.map (·.1)=R.map (·.1)):Yr vm=R.map fun x=>(x.1,[]):=by
 have e1:Yr vm=(vm.map (·.1)).map fun k=>(k,[]):=by simp[Yr]
 rw[e1,h];simp
theorem zfa(inj:∀ a b,eK a=eK b->a=b)(q:κ):∀ m:List (κ×List α),
  (∃ j l,vB (eK q) ((ZB eK enc m).map fun x=>(x.1,([]:List DV))) 0=some j/\(ZB eK enc m)[j]?=some (eK q,l.map enc)/\AL.getZ m q []=l/\∀ l',ZB eK enc (AL.set m q l')=(ZB eK enc m).set j (eK q,l'.map enc)) \/
  (vB (eK q) ((ZB eK enc m).map fun x=>(x.1,([]:List DV))) 0=none/\AL.getZ m q []=[]/\∀ l',ZB eK enc (AL.set m q l')=ZB eK enc m++[(eK q,l'.map enc)])
 | []=>.inr ⟨rfl,rfl,fun _=>rfl⟩
 | (k,v)::r=>by
  by_cases h:k=q
  ·subst h;refine .inl ⟨0,v,?_,rfl,?_,fun l'=>?_⟩
   ·show(if eK k=eK k then _ else _)=_;rw[if_pos rfl]
   ·simp[AL.getZ,AL.get]
   ·simp[ZB,AL.set]
  ·have he:¬ eK k=eK q:=fun e=>h (inj _ _ e)
   have hp:vB (eK q) ((ZB eK enc ((k,v)::r)).map fun x=>(x.1,([]:List DV))) 0=(vB (eK q) ((ZB eK enc r).map fun x=>(x.1,([]:List DV))) 0).map (1+·):=by
    show(if eK k=eK q then _ else _)=_;rw[if_neg he,uY]
    rfl
   have hg:AL.getZ ((k,v)::r) q []=AL.getZ r q []:=by simp[AL.getZ,AL.get,h]
   rcases zfa inj q r with⟨j,l,h1,h2,h3,h4⟩ | ⟨h1,h2,h3⟩
   ·refine .inl ⟨1+j,l,by rw[hp,h1];rfl,?_,by rw[hg,h3],fun l'=>?_⟩
    ·rw[Nat.add_comm];exact h2
    ·rw[Nat.add_comm];have:=h4 l';simp only[AL.set,h,if_false];show _::ZB eK enc (AL.set r q l')=_::_;rw[this];rfl
   ·refine .inr ⟨by rw[hp,h1];rfl,by rw[hg,h2],fun l'=>?_⟩;simp only[AL.set,h,if_false];show _::ZB eK enc (AL.set r q l')=_::_;rw[h3 l'];rfl
end
namespace AL
variable{κ α β:Type}[DecidableEq κ]
theorem Yja{ν:Type}(m:List (κ×ν))(k q:κ)(v z:ν):getZ (set m k v) q z=if k=q then v else getZ m q z:=by
 induction m with
 | nil=>by_cases h:k=q <;> simp[getZ,set,get,h]
 | cons x r ih=>
  obtain⟨a,u⟩:=x
  by_cases ha:a=k
  ·subst ha
   by_cases h:a=q <;> simp[getZ,set,get,h]
  ·simp only[set,ha,if_false]
   by_cases h:a=q
   ·subst h;have:¬ k=a:=fun e=>ha e.symm
    simp[getZ,get,this]
   ·have e1:getZ ((a,u)::set r k v) q z=getZ (set r k v) q z:=by simp[getZ,get,h]
    have e2:getZ ((a,u)::r) q z=getZ r q z:=by simp[getZ,get,h]
    rw[e1,e2];exact ih
theorem wva(m l l':List (κ×List α)):grow m (l++l')=grow (grow m l) l':=by simp[grow]
theorem grow_take{c:List β}{i:Nat}{p:β}(hp:c[i]?=some p)(f:β->Option (κ×List α)):grow ([]:List (κ×List α)) ((c.take (i+1)).filterMap f)=grow (grow [] ((c.take i).filterMap f)) (f p).toList:=by
 rw[List.take_add_one,hp,List.filterMap_append,wva]
 cases h:f p <;> simp[h]
theorem grow_len(q:κ)(l:List (κ×List α)):∀ m:List (κ×List α),(getZ (grow m l) q []).length<=(getZ m q []).length+(l.map fun x=>x.2.length).sum:=by
 induction l with
 | nil=>intro m;simp[grow]
 | cons x r ih=>
  intro m;have h1:=ih (set m x.1 (getZ m x.1 []++x.2));rw[Yja] at h1;show(getZ (grow (set m x.1 (getZ m x.1 []++x.2)) r) q []).length<=_;simp only[List.map_cons,List.sum_cons]
  by_cases h:x.1=q
  ·subst h;rw[if_pos rfl,List.length_append] at h1;omega
  ·rw[if_neg h] at h1;omega
theorem grow_bound{c:List β}{i n bs:Nat}{p:β}{x:κ×List α}{f:β->Option (κ×List α)}(hB:growOK bs n (c.filterMap f))(hp:c[i]?=some p)(hf:f p=some x) :
  ((getZ (grow [] ((c.take i).filterMap f)) x.1 []).length+x.2.length)*bs<=140737488355328:=by
 have h1:=grow_len x.1 ((c.take i).filterMap f) [];have h2:c=c.take i++p::c.drop (i+1):=by
  have hlt:=(List.getElem?_eq_some_iff.1 hp).1;have:c[i]=p:=(List.getElem?_eq_some_iff.1 hp).2;rw[<- this,<- List.drop_eq_getElem_cons hlt,List.take_append_drop]
 have h3:((c.filterMap f).map fun x=>x.2.length).sum=(((c.take i).filterMap f).map fun x=>x.2.length).sum+(x.2.length+(((c.drop (i+1)).filterMap f).map fun x=>x.2.length).sum):=by
  conv=>lhs;rw[h2]
  simp[List.filterMap_append,List.filterMap_cons,hf]
 have h4:(getZ ([]:List (κ×List α)) x.1 []).length=0:=by simp[getZ,get]
 refine Nat.le_trans (Nat.mul_le_mul_right bs ?_) hB.2;omega
end AL
theorem zga{s s':PState}(h1:s'.n=s.n)(h2:s'.sl=s.sl){y:Operand}{q:PV}(h:s.ev y=some q):s'.ev y=some q:=by
 cases y with
 | tmp t=>show s'.at t=_;unfold PState.at;rw[h1,h2];exact h
 | const v=>cases v <;> exact h
 | func f=>exact h
 | global g=>exact h
theorem evObjs{s:PState}{objs:List (Nat×Ob)}{y:Operand}{q:PV}(h:s.ev y=some q):({ s with objs:=objs }:PState).ev y=some q:=zga (s:=s) rfl rfl h
theorem wwa{s:PState}{id:Nat}{e k:Nat}{l:List (List DV)}(h:s.fresh id=true):({ s with objs:=yJ id (.row e k l) s.objs }:PState).alone id=true:=by
 unfold PState.fresh at h;unfold PState.alone;rw[Bool.and_eq_true] at h ⊢;refine⟨h.1,List.all_eq_true.2 fun x hx=>?_⟩;obtain⟨xk,xo⟩:=x;rcases Ui hx with h3 | h3
 ·cases h3;rfl
 ·have:=List.all_eq_true.1 h.2 _ h3;simp only[Bool.and_eq_true] at this;exact this.2
theorem idxU{α:Type}{l:List α}{i:Int}{x y:α}(h1:0<=i/\l[i.toNat]?=some x)(h2:0<=i/\l[i.toNat]?=some y):x=y:=by have:=h1.2.symm.trans h2.2;cases this;rfl
theorem wrapNat{i:Nat}(h:i < 9223372036854775807):IntKind.i64.wrap ((i:Int)+1)=((i+1:Nat):Int):=by rw[vqa (by omega) (by omega)];rfl
end Go.Ep
namespace Go.Ep
open Go.RowKit
theorem Yka{α β : Type}(f : α->β){l l' : List β}(h : l'.Perm l) : ∀ Z : List α, Z.map f=l->∃ Z' : List α, Z'.Perm Z/\Z'.map f=l' := by
  induction h with
  | nil => intro Z hZ; exact ⟨[], by have : Z = [] := by simpa using hZ
                                     rw[this], rfl⟩
  | cons x _ ih =>
    intro Z hZ
    cases Z with
    | nil => cases hZ
    | cons z r =>
      simp only[List.map_cons, List.cons.injEq] at hZ;obtain⟨Z', h1, h2⟩ := ih r hZ.2;exact⟨z::Z', h1.cons z, by simp[hZ.1, h2]⟩
  | swap x y _ =>
    intro Z hZ
    match Z, hZ with
    | a::b::r, hZ =>
      simp only[List.map_cons, List.cons.injEq] at hZ;exact⟨b::a::r, List.Perm.swap a b r, by simp[hZ]⟩
    | [a], hZ => simp at hZ
    | [], hZ => cases hZ
  | trans _ _ ih1 ih2 =>
    intro Z hZ;obtain⟨Z1, h1, h2⟩ := ih2 Z hZ;obtain⟨Z2, h3, h4⟩ := ih1 Z1 h2;exact⟨Z2, h3.trans h1, h4⟩
section
variable{P:Program}{ctx:Ctx}{Q:PQ}{s:PState}
variable{dst:Option Tmp}{ty:TypeId}{pos:String}{after:Array Edge}{gd:Option (Nat×Bool)}
theorem raws{α X:Type}{enc:α->List Value}{encD:X->List DV}{R:X->α->Prop}{k:Nat}{w:World}{S:Nat->Prop}{cur:List Value}
  (hraw:∀ (x:X) (us:List Value),us.length=k->(∀ (j:Nat) (d:DV) (u:Value),(encD x)[j]?=some d->us[j]?=some u->DRd w S d u)->∃ r:α,enc r=us/\R x r) (hk:∀ y,(encD y).length=k) :
  ∀ (l:List X) (b:Nat),(∀ (i:Nat) (x:X) (j:Nat) (d:DV),l[i]?=some x->(encD x)[j]?=some d->∃ u,cur[(b+i)*k+j]?=some u/\DRd w S d u) ->
   ∃ Z:List (X×α),Z.map (·.1)=l/\∀ i z,Z[i]?=some z->R z.1 z.2/\(∀ (j:Nat) (u:Value),(enc z.2)[j]?=some u->cur[(b+i)*k+j]?=some u)/\∀ (j:Nat) (d:DV) (u:Value),(encD z.1)[j]?=some d->(enc z.2)[j]?=some u->DRd w S d u
 | [],b,_=>⟨[],rfl,fun i z h=>by simp at h⟩
 | x::r,b,h=>by
  obtain⟨Z,h1,h2⟩:=raws hraw hk r (b+1) fun i y j d hi hd=>by
   have:=h (i+1) y j d (by simpa using hi) hd
   rwa [show b+(i+1)=b+1+i by omega] at this
  let us:List Value:=(List.range k).map fun j=>cur.getD (b*k+j) undef
  have hget:∀ j d,(encD x)[j]?=some d->∃ u,us[j]?=some u/\cur[b*k+j]?=some u/\DRd w S d u:=fun j d hd=>by
   obtain⟨u,h3,h4⟩:=h 0 x j d rfl hd;rw[Nat.add_zero] at h3;have hj:j < k:=by rw[<- hk x];exact(List.getElem?_eq_some_iff.1 hd).1
   exact⟨u,by simp[us,hj,List.getD,h3],h3,h4⟩
  obtain⟨q,h3,h4⟩:=hraw x us (by simp[us]) fun j d u hd hu=>by
   obtain⟨u',h5,_,h6⟩:=hget j d hd;rw[h5] at hu;cases hu;exact h6
  refine⟨(x,q)::Z,by simp[h1],fun i z hz=>?_⟩
  cases i with
  | zero=>
   simp only[List.getElem?_cons_zero,Option.some.injEq] at hz;subst hz;refine⟨h4,fun j u hu=>?_,fun j d u hd hu=>?_⟩
   ·rw[Nat.add_zero];simp only[h3] at hu;have hj:j < k:=by have:=(List.getElem?_eq_some_iff.1 hu).1;simpa[us] using this
    have hj2:j < (encD x).length:=by rw[hk];exact hj
    obtain⟨u',h5,h6,_⟩:=hget j _ (List.getElem?_eq_getElem hj2);rw[h5] at hu;cases hu;exact h6
   ·simp only[h3] at hu;obtain⟨u',h5,_,h6⟩:=hget j d hd;rw[h5] at hu;cases hu;exact h6
  | succ i=>
   have:=h2 i z (by simpa using hz)
   rwa [show b+1+i=b+(i+1) by omega] at this
theorem PWl.sortFnR{α X:Type}{ops:Array Oper}{rest:List Oper}{id n k:Nat}{e:TypeId}{fx x gx:Operand}{ats:Array TypeId}{f g:FuncId}{enc:α->List Value}{encD:X->List DV}{ltR:α->α->Bool}{lt:X->X->Bool}{R:X->α->Prop}{l:List X}(hS:SortLaw P f g k enc ltR)
  (hraw:∀ (w:World) (S:Nat->Prop) (x:X) (us:List Value),us.length=k->(∀ (j:Nat) (d:DV) (u:Value),(encD x)[j]?=some d->us[j]?=some u->DRd w S d u)->∃ r:α,enc r=us/\R x r) (hlt:∀ x y r r',R x r->R y r'->ltR r r'=lt x y) (hk:∀ y,(encD y).length=k) (hk2:∀ y,(enc y).length=k)
  (hfx:s.ev fx=some (.d (.v (.func (.func f) #[] #[])))) (he:∀ args w,(callFunc f args).run P w=.ok (.enter f args) w) (hx:s.ev x=some (.row id n)) (hgx:s.ev gx=some (.d (.v (.func (.func g) #[] #[]))))
  (hl:look s.objs id=some (.row e k (l.map encD))) (hn:l.length=n) (hlen:l.length < 4611686018427387904) (hgd:gd=none)
  (h:∀ l':List X,l'.Perm l->l'.Pairwise (fun x y=>lt y x=false)->PWl P ctx ops Q rest ((s.setO id (.row e k (l'.map encD))).putD dst (.tup []))) :
  PWl P ctx ops Q (⟨dst,.call ⟨.value fx,#[x,gx],ats⟩,ty,pos,after,gd⟩::rest) s:=by
 rintro a w ⟨gh,hg⟩;refine wpList_plain hgd fun K hK=>?_
 have hxv:=hg.ev hx;have hob:=hg.objs id _ hl;unfold Oper.wp;rw[Zw (o:=⟨dst,.call ⟨.value fx,#[x,gx],ats⟩,ty,pos,after,gd⟩) rfl (Jd hg hfx) he w]
 generalize hv:a.eval x=v at hxv
 have hargs:(#[x,gx]:Array Operand).map a.eval=#[v,.func (.func g) #[] #[]]:=by simp[hv,Jd hg hgx]
 rw[hargs]
 generalize hL:l.map encD=L at hob
 cases hob with
 | rowNil _ _ hgn=>
  have hl0:l=[]:=by simpa using hL
  subst hl0
  cases hxv with
  | row _ _ blk cap hgi=>rw[hgn] at hgi;cases hgi
  | rowNil=>
   refine(hS.nil w).mono fun en w' ⟨hen,hb⟩=>?_
   subst hen;have hsub:Sub ctx s (s.setO id (.row e k ([].map encD))):=Sub.drop rfl (fun i p hp=>hp) (fun j o hj=>by
    simp only[PState.setO,zF] at hj
    split at hj
    ·rename_i ej;subst ej;cases hj;rw[hl]
    ·exact hj)
   obtain⟨g2,hg2⟩:=hsub a w' ⟨gh,hg.below hb⟩;exact hK _ _ (h [] (List.Perm.refl _) List.Pairwise.nil _ _ ⟨g2,hg2.put dst (.tup [] [] rfl (by simp))⟩)
 | row _ _ _ blk' cap' cur hgi hh hlc hcap hcs hkk hr'=>
  cases hxv with
  | rowNil _ hgn=>rw[hgn] at hgi;cases hgi
  | row _ _ blk cap hgi'=>
   rw[hgi] at hgi'
   cases hgi'
   subst hL;subst hn;obtain⟨Z,hZ1,hZ2⟩:=raws (cur:=cur) (hraw w (yE ctx gh s.objs)) hk l 0 fun i y j d hi hd=>by
    rw[Nat.zero_add];exact hr' i (encD y) j d (by simp[hi]) hd
   have hZl:(Z.map (·.2)).length=l.length:=by rw[<- hZ1];simp
   have hcells:∀ (i:Nat) (y:α) (j:Nat) (u:Value),(Z.map (·.2))[i]?=some y->(enc y)[j]?=some u->cur[i*k+j]?=some u:=by
    intro i y j u hi hu;rw[List.getElem?_map] at hi
    cases hz:Z[i]? with
    | none=>rw[hz] at hi;cases hi
    | some z=>
     rw[hz] at hi;simp only[Option.map_some,Option.some.injEq] at hi;subst hi;have:=(hZ2 i z hz).2.1 j u hu
     rwa [Nat.zero_add] at this
   have hrow:=hS.row w blk' cap' (Z.map (·.2)) e cur hh (by rw[hZl];simpa using hlc) hcs (by rw[hZl];exact hlen) hcells;rw[hZl] at hrow;refine hrow.mono fun en w' ⟨hen,l2,cur',hperm,hsort,hh',hcl,hc',hos,htape,hout,hsz,hother⟩=>?_
   subst hen;obtain⟨Z',hP,hZ'⟩:=Yka (·.2) hperm Z rfl;have hmem:∀ z∈Z',R z.1 z.2/\∀ (j:Nat) (d:DV) (u:Value),(encD z.1)[j]?=some d->(enc z.2)[j]?=some u->DRd w (yE ctx gh s.objs) d u:=fun z hz=>by
    obtain⟨i,hi⟩:=List.mem_iff_getElem?.1 (hP.subset hz);exact⟨(hZ2 i z hi).1,(hZ2 i z hi).2.2⟩
   let l':=Z'.map (·.1)
   have hl'p:l'.Perm l:=by rw[<- hZ1];exact hP.map _
   have hl's:l'.Pairwise (fun x y=>lt y x=false):=by
    rw[<- hZ'] at hsort;rw[List.pairwise_map] at hsort ⊢;refine List.Pairwise.imp_of_mem (fun {p q} hp hq hpq=>?_) hsort;rw[<- hlt _ _ _ _ (hmem q hq).1 (hmem p hp).1];exact hpq
   have hown:=hg.own id _ blk' cap' hl hgi;have hst:xC w w' (yE ctx gh s.objs):=⟨hsz,fun b ⟨_,h2⟩ hlt=>hother b hlt fun eb=>by subst eb;exact h2 id _ cap' hl hgi⟩
   have hpl:l'.length=l.length:=hl'p.length_eq;have hsetF:∀ b,yE ctx gh s.objs b->yE ctx gh s.objs b:=fun _ h=>h
   have hwr:=hg.wrote hl hgi (w':=w') hos htape hout hsz hother hown.2 (ob:=.row e k (l'.map encD)) (.row e k _ blk' cap' cur' hgi hh' (by simpa[hpl] using hlc) hcap (by rw[hcl];exact hcs)
    (fun i cs hi=>by
     rw[List.getElem?_map] at hi
     cases hy:l'[i]? with
     | none=>simp[hy] at hi
     | some y=>simp[hy] at hi;subst hi;exact hk y)
    (fun i cs j d hi hd=>by
     rw[List.getElem?_map] at hi
     cases hy:l'[i]? with
     | none=>simp[hy] at hi
     | some y=>
      simp[hy] at hi;subst hi;simp only[l',List.getElem?_map] at hy
      cases hz:Z'[i]? with
      | none=>rw[hz] at hy;cases hy
      | some z=>
       rw[hz] at hy;simp only[Option.map_some,Option.some.injEq] at hy;subst hy;have hj:j < (enc z.2).length:=by rw[hk2,<- hk z.1];exact(List.getElem?_eq_some_iff.1 hd).1
       have hu:(enc z.2)[j]?=some (enc z.2)[j]:=List.getElem?_eq_getElem hj;refine⟨_,hc' i z.2 j _ (by rw[<- hZ',List.getElem?_map,hz];rfl) hu,?_⟩;exact((hmem z (List.mem_of_getElem? hz)).2 j d _ hd hu).keep hst (fun b hb _=>vb hl b hb)))
   exact hK _ _ (h l' hl'p hl's _ _ ⟨gh,hwr.put dst (.tup [] [] rfl (by simp))⟩)
end
end Go.Ep
namespace Go.Ep
open Go.RowKit
section
variable{P:Program}{ctx:Ctx}{s:PState}
variable{dst:Option Tmp}{ty:TypeId}{pos:String}{after:Array Edge}{gd:Option (Nat×Bool)}
theorem LR.buildR{t:TypeId}{places:List (Nat×Nat)}{zs:List Value}{parts:Array (Nat×Operand)}{ps:List (Nat×PV)}{ns:List PV}(hB:wH P t places zs)(hz1:(zs.all Value.oneCell')=true)(hps:s.evp parts.toList=some ps)(hns:u6a places (zs.map fun z=>PV.d (.v z)) ps=some ns) :
  Local P ctx ⟨dst,.build t parts,ty,pos,after,gd⟩ s (s.putD dst (.agg ns)):=
 zN (o:=⟨dst,.build t parts,ty,pos,after,gd⟩) fun a w g hg=>by
  have hz1':∀ u∈zs,u.oneCell'=true:=by simpa using hz1
  obtain⟨vs,h1,h2,h3,h4⟩:=wba (w:=w) (g:=g) (S:=yE ctx g s.objs) ps (parts.toList.map fun x=>(x.1,a.eval x.2)) (zs.map fun z=>PV.d (.v z)) zs ns (by simpa using wca hps) (by
   intro j p r hp hr;rw[List.getElem?_map] at hr
   cases hx:parts.toList[j]? with
   | none=>simp[hx] at hr
   | some x=>
    simp[hx] at hr;subst hr;obtain⟨e1,e2⟩:=wda hps hp hx;exact⟨e1,hg.ev e2⟩) (by simp) (by
   intro i p u hp hu;simp[hu] at hp;subst hp;exact .d (.v u (hz1' u (List.mem_of_getElem? hu)))) hz1' hns
  refine⟨.agg vs.toArray,?_,.agg ns vs h2 h3 h4⟩;have hb:P.built t (parts.map fun(i,x)=>(i,a.eval x)).toList=some vs.toArray:=by
   rw[hB];simpa using h1
  have hrun:=run_build w t (parts.map fun(i,x)=>(i,a.eval x)) vs.toArray hb;simp only[execOp,Sem.run_bind,hrun,Result.andThen_ok,Sem.run_pure]
theorem LR.loadRpPart{x:Operand}{id i o m k:Nat}{T T0:TypeId}{l:List (List DV)}{cs ys:List DV}(ha:∀ w,(isAgg T).run P w=.ok true w)(hs:∀ w,(sizeOf T).run P w=.ok m w)(hx:s.ev x=some (.rp id i o k))(hl:look s.objs id=some (.row T0 k l))(hi:l[i]?=some cs)(hm:o+m<=k)(hy:(cs.drop o).take m=ys) :
  Local P ctx ⟨dst,.load T x,ty,pos,after,gd⟩ s (s.putD dst (.agg (ys.map .d))):=
 zN (o:=⟨dst,.load T x,ty,pos,after,gd⟩) fun a w g hg=>by
  subst hy;have h:=hg.ev hx
  generalize hv:a.eval x=v at h
  cases h with
  | rp _ _ _ _ blk cap hgi=>
   obtain⟨hlen,c,hc⟩:=zta (hg.objs id _ hl) hgi hi
   let us:List Value:=(List.range m).map fun j=>c (o+j)
   have hul:us.length=m:=by simp[us]
   have hcj:∀ j,j < m->∃ x,cs[o+j]?=some x/\w.cell? ⟨blk,i*k+(o+j),none⟩=some (c (o+j))/\DRd w (yE ctx g s.objs) x (c (o+j)):=fun j hj=>by
    have:o+j < cs.length:=by omega
    exact⟨cs[o+j],List.getElem?_eq_getElem this,hc _ _ (List.getElem?_eq_getElem this)⟩
   refine⟨.agg us.toArray,?_,.agg _ _ (by rw[List.length_map,hul,List.length_take,List.length_drop];omega) ?_ ?_⟩
   ·have:=uX (P:=P) (us:=us) ha (by rw[hul];exact hs) (w:=w) (b:=blk) (o:=i*k+o) (fun j u hu=>by
     have hj:j < m:=by rw[<- hul];exact(List.getElem?_eq_some_iff.1 hu).1
     have:u=c (o+j):=by simp[us,hj] at hu;exact hu.symm
     rw[this,Nat.add_assoc];exact(hcj j hj).choose_spec.2.1)
    simp[execOp,hv,Instr.loadAt,Instr.sureAddr,this,Result.andThen]
   ·intro j p u hp hu;have hj:j < m:=by rw[<- hul];exact(List.getElem?_eq_some_iff.1 hu).1
    have hu':u=c (o+j):=by simp[us,hj] at hu;exact hu.symm
    obtain⟨x,hx,_,hd⟩:=hcj j hj;rw[List.getElem?_map,List.getElem?_take,if_pos hj,List.getElem?_drop,hx] at hp;simp only[Option.map_some,Option.some.injEq] at hp;subst hp;rw[hu'];exact .d hd
   ·intro u hu;simp only[us,List.mem_map,List.mem_range] at hu;obtain⟨j,hj,rfl⟩:=hu;obtain⟨x,hx,_,hd⟩:=hcj j hj;exact hd.one
theorem LR.loadRpPartT{α:Type}{enc:α->List DV}{L:List α}{x:Operand}{id n o m k:Nat}{T T0:TypeId}{y:α}{ys:List DV}(ha:∀ w,(isAgg T).run P w=.ok true w)(hs:∀ w,(sizeOf T).run P w=.ok m w)(hx:s.ev x=some (.rp id n o k))(hl:look s.objs id=some (.row T0 k (L.map enc)))(hy:L[n]?=some y)(hm:Nat.ble (o+m) k=true)(hys:((enc y).drop o).take m=ys) :
  Local P ctx ⟨dst,.load T x,ty,pos,after,gd⟩ s (s.putD dst (.agg (ys.map .d))):=LR.loadRpPart ha hs hx hl (by simp[hy]) (Nat.le_of_ble_eq_true hm) hys
theorem Sub.frzC{id oid j n k:Nat}{e T:TypeId}{l:List (List DV)}{cs:List PV}(js:List Nat)(hK:∀ b,ctx.K b->ctx.S b)(hl:look s.objs id=some (.row e k l))(hn:l.length=n)(hjs:∀ j∈js,s.at j=some (.row id n))
  (ho:look s.objs oid=some (.cells T cs)) (hj:cs[j]?=some (.row id n)) (hne:Nat.beq oid id=false) :
  Sub ctx s { n:=s.n,sl:=(s.sets (.d (.sl l)) js).sl,objs:=yJ oid (.cells T (cs.set j (.d (.sl l)))) (uu id s.objs) }:=by
 have hne':oid≠id:=fun e=>by rw[e] at hne;simp at hne
 rintro a w ⟨g,h⟩;have hlk:∀ {q:Nat} {o:Ob},look (yJ oid (.cells T (cs.set j (.d (.sl l)))) (uu id s.objs)) q=some o->q≠id/\∃ o',look s.objs q=some o'/\((q=oid/\o'=.cells T cs/\o=.cells T (cs.set j (.d (.sl l))))\/(q≠oid/\o'=o)):=fun {q o} hq=>by
  rw[zF] at hq
  by_cases e:q=oid
  ·subst e;rw[if_pos rfl] at hq;cases hq;exact⟨hne',_,ho,.inl ⟨rfl,rfl,rfl⟩⟩
  ·rw[if_neg e,yp] at hq
   split at hq
   ·cases hq
   ·rename_i h2;exact⟨h2,_,hq,.inr ⟨e,rfl⟩⟩
 have hF:∀ b,yE ctx g s.objs b->yE ctx g (yJ oid (.cells T (cs.set j (.d (.sl l)))) (uu id s.objs)) b:=fun b ⟨h1,h2⟩=>⟨h1,fun q o m hq hg=>by
  obtain⟨_,o',h3,_⟩:=hlk hq;exact h2 q o' m h3 hg⟩
 have hst:xC w w (yE ctx g s.objs):=⟨Nat.le_refl _,fun _ _ _=>rfl⟩
 have frozen:∀ u,Rd w g (yE ctx g s.objs) (.row id n) u->Rd w g (yE ctx g (yJ oid (.cells T (cs.set j (.d (.sl l)))) (uu id s.objs))) (.d (.sl l)) u:=by
  intro u hr;have hob:=h.objs id _ hl
  cases hob with
  | rowNil _ _ hgn=>
   cases hr with
   | row _ _ blk cap hgi=>rw[hgn] at hgi;cases hgi
   | rowNil=>exact .d (.nil none 0 (Nat.zero_le _) (fun _=>rfl))
  | row _ _ _ blk' cap' cur hgi hh hlc hcap hcs hkk hr'=>
   cases hr with
   | rowNil _ hgn=>rw[hgn] at hgi;cases hgi
   | row _ _ blk cap hgi'=>
    rw[hgi] at hgi'
    cases hgi'
    subst hn;have hown:=h.own id _ blk' cap' hl hgi;have hfree:yE ctx g (yJ oid (.cells T (cs.set j (.d (.sl l)))) (uu id s.objs)) blk':=⟨hown.2.elim .inr fun hh=>.inl (hK _ hh),fun q o m hq hgj=>by
     obtain⟨hne,o',hq',_⟩:=hlk hq;exact hne (h.inj q id _ _ blk' m cap' hq' hl hgj hgi)⟩
    refine .d (.sl l blk' 0 cap' k (fun i j=>cur.getD (i*k+j) undef) hlc hcap hfree hown.1 hkk ?_ ?_)
    ·intro i j hi hj;have hlt:i*k+j < cur.length:=by rw[hcs];exact Zv (by omega) hj
     rw[yD hh];simp[hlt]
    ·intro i cs j x hi hx;obtain⟨u,hu,hd⟩:=hr' i cs j x hi hx;have e:cur.getD (i*k+j) undef=u:=by simp[List.getD,hu]
     show DRd w _ x (cur.getD (i*k+j) undef);rw[e];exact hd.keep hst (fun b hb _=>hF b hb)
 refine⟨g,⟨h.defers,h.size,?_,?_,?_,?_,h.os,h.tape,h.output,h.grows,h.keep⟩⟩
 ·intro i p hp;have hp':(s.sets (.d (.sl l)) js).at i=some p:=jY (by rw[zya];exact UW (s:={ n:=s.n,sl:=(s.sets (.d (.sl l)) js).sl,objs:=yJ oid (.cells T (cs.set j (.d (.sl l)))) (uu id s.objs) }) hp) (uH (s:={ n:=s.n,sl:=(s.sets (.d (.sl l)) js).sl,objs:=yJ oid (.cells T (cs.set j (.d (.sl l)))) (uu id s.objs) }) hp);rcases zza _ js s i p hp' with⟨h1,rfl⟩ | h2
  ·exact frozen _ (h.slots i _ (hjs i h1))
  ·exact(h.slots i p h2).keep hst (fun b hb _=>hF b hb) (fun _ _=>rfl)
 ·intro q o hq;obtain⟨hqi,o',hq',hcase⟩:=hlk hq;rcases hcase with⟨rfl,rfl,rfl⟩ | ⟨hqo,rfl⟩
  ·cases h.objs q _ ho with
   | cells _ _ blk n' us hgi hh hlen hr h1'=>
    refine .cells T _ blk n' us hgi hh (by simpa using hlen) (fun i p u hp hu=>?_) h1';rw[List.getElem?_set] at hp
    split at hp
    ·rename_i e
     subst e
     split at hp
     ·simp only[Option.some.injEq] at hp;subst hp;exact frozen u (hr j _ u hj hu)
     ·cases hp
    ·exact(hr i p u hp hu).keep hst (fun b hb _=>hF b hb) (fun _ _=>rfl)
  ·exact(h.objs q _ hq').keep hst (fun b hb _=>hF b hb) (fun _ _ _=>rfl) rfl (fun _ _=>rfl)
 ·intro i j oi oj b n m hi hj;obtain⟨_,_,h1,_⟩:=hlk hi;obtain⟨_,_,h2,_⟩:=hlk hj;exact h.inj i j _ _ b n m h1 h2
 ·intro q o b n hq;obtain⟨_,_,h1,_⟩:=hlk hq;exact h.own q _ b n h1
theorem PWl.frzC{Q:PQ}{ops:Array Oper}{rest:List Oper}{id oid j n k:Nat}{e T:TypeId}{l:List (List DV)}{cs:List PV}(js:List Nat)(hK:∀ b,ctx.K b->ctx.S b)(hjs:AllRow s id n js)(hl:look s.objs id=some (.row e k l))(hn:l.length=n)
  (ho:look s.objs oid=some (.cells T cs)) (hj:cs[j]?=some (.row id n)) (hne:Nat.beq oid id=false)
  (h:PWl P ctx ops Q rest { n:=s.n,sl:=(s.sets (.d (.sl l)) js).sl,objs:=yJ oid (.cells T (cs.set j (.d (.sl l)))) (uu id s.objs) }):PWl P ctx ops Q rest s:=PWl.sub (Sub.frzC js hK hl hn hjs.get ho hj hne) h
end
section
variable{P:Program}{ctx:Ctx}{ops:Array Oper}{Q:PState->Prop}{s:PState}
variable{dst:Option Tmp}{ty:TypeId}{pos:String}{after:Array Edge}{gd:Option (Nat×Bool)}
variable{α:Type}{enc:α->List DV}{L R:List α}{x y:Operand}{id oid m k bs' j:Nat}{t t' e e' T:TypeId}{cs:List PV}
theorem LR.appC(js:List Nat)(hE:ElemOK P t e k bs')(hu':P.underlying t'=some (.slice e'))(hx:s.ev x=some (.row id m))(hm:m=L.length)(hl:look s.objs id=some (.row e k (L.map enc)))
  (hlm:look s.objs oid=some (.cells T cs)) (hall:PV.has.hasL id (cs.set j .junk)=false) (hne:Nat.beq id oid=false)
  (hy:∀ s':PState,s'.n=s.n->s'.sl=s.sl->Src ctx s' y (R.map enc) k) (hk:∀ x,(enc x).length=k) (hb:(L.length+R.length)*bs'<=140737488355328) (h1:Nat.ble 1 bs'=true) (ha:(s.junks js).aloneX id [oid]=true) :
  Local P ctx ⟨dst,.call ⟨.builtin .append,#[x,y],#[t,t']⟩,ty,pos,after,gd⟩ s ((((s.junks js).setO oid (.cells T (cs.set j .junk))).setO id (.row e k ((L++R).map enc))).putD dst (.row id (L++R).length)):=by
 have hne':id≠oid:=fun e=>by rw[e] at hne;simp at hne
 let s2:PState:={ s with objs:=yJ oid (.cells T (cs.set j .junk)) (uu oid s.objs) }
 have hsub:Sub ctx s s2:=Sub.trans (Sub.junkCell (j:=j) hlm) (Sub.drop rfl (fun i q hq=>hq) (fun i o ho=>by
  rw[uZ] at ho;rw[zF];exact ho))
 have hj2:∀ js,(s2.junks js).sl=(s.junks js).sl:=fun js=>by rw[vK,vK]
 have ha2:(s2.junks js).alone id=true:=by
  unfold PState.aloneX at ha;unfold PState.alone;rw[hj2 js];rw[Bool.and_eq_true] at ha ⊢;refine⟨ha.1,List.all_eq_true.2 fun q hq=>?_⟩;rw[yc] at hq;have h2:=List.all_eq_true.1 ha.2;obtain⟨qk,qo⟩:=q;rcases Ui hq with h3 | h3
  ·cases h3;simpa[Ob.has] using hall
  ·have h4:=Uj h3;have h5:=h2 (qk,qo) (by rw[yc];exact h4.2);have h6:inL [oid] qk=false:=by
    rw[WP];simpa using h4.1
   simpa[h6] using h5
 have hl2:look s2.objs id=some (.row e k (L.map enc)):=by
  show look (yJ _ _ _) _=_;rw[uZ,if_neg hne'];exact hl
 refine Local.pre hsub ((LR.appT (enc:=enc) (L:=L) (R:=R) (s:=s2) js hE hu' (by cases x <;> exact hx) hm hl2 (hy s2 rfl rfl) hk hb h1 ha2).post ?_);refine Sub.drop ?_ (fun i q hq=>?_) (fun i o ho=>?_)
 ·simp only[ul];show(s2.junks js).n=(s.junks js).n;rw[wI,wI]
 ·have hsl:(((s2.junks js).setO id (.row e k ((L++R).map enc))).putD dst (.row id (L++R).length)).sl=((((s.junks js).setO oid (.cells T (cs.set j .junk))).setO id (.row e k ((L++R).map enc))).putD dst (.row id (L++R).length)).sl:=by
   cases dst <;> simp[PState.putD,PState.put,PState.setO,hj2]
  have hn:(((s2.junks js).setO id (.row e k ((L++R).map enc))).putD dst (.row id (L++R).length)).n=((((s.junks js).setO oid (.cells T (cs.set j .junk))).setO id (.row e k ((L++R).map enc))).putD dst (.row id (L++R).length)).n:=by
   simp only[ul];show(s2.junks js).n=(s.junks js).n;rw[wI,wI]
  rw[WI] at hq ⊢;rw[hsl,hn];exact hq
 ·rw[xP] at ho ⊢;simp only[PState.setO,yc] at ho ⊢;rw[zF] at ho ⊢
  by_cases hi:i=id
  ·rw[if_pos hi] at ho ⊢;exact ho
  ·rw[if_neg hi] at ho ⊢;rw[zF] at ho;show look (yJ _ _ (uu _ _)) _=_;rw[uZ];exact ho
end
end Go.Ep
namespace Go.Ep
theorem EndsO.mkX{G:Type}{P:Program}{ctx:Ctx}{fn:Func}{pl ex:List (Nat×Ob)}{r:PV}{os':G->List (Nat×Ob)}{e:Exit}{s:PState}(gh:G){n:Nat}{sl:List (Nat×PV)}{ps:List PV}(he:e=.normal\/e=.ret)(hsub:Sub ctx s ⟨n,sl,(os' gh++pl)++ex⟩)
  (hres:xKa P ⟨n,sl,(os' gh++pl)++ex⟩ fn.results.toList ps) (hq:wea ps=r) (hd:(pl.all fun x=>!inL ((os' gh).map (·.1)) x.1)=true):EndsO P ctx fn pl r os' e s:=by
 refine⟨he,gh,ps,_,hsub,hres,hq,fun id o h=>xR (xR h),fun id o h=>xR ?_⟩;rw[vR]
 cases hl:look (os' gh) id with
 | none=>rw[Option.none_or];exact h
 | some q=>
  have h1:=List.all_eq_true.1 hd _ (va h);have h2:=zp.2 (yg hl);rw[h2] at h1;cases h1
end Go.Ep
namespace Go.Ep
open Go.RowKit
section
variable{P:Program}{ctx:Ctx}{Q:PQ}{s:PState}
variable{dst:Option Tmp}{ty:TypeId}{pos:String}{after:Array Edge}{gd:Option (Nat×Bool)}
theorem LR.strIdx{x i:Operand}{t:TypeId}{b:ByteArray}{k:IntKind}{n y:Int}(hu:P.underlying t=some .string)(hx:s.ev x=some (.d (.v (.string b))))(hi:s.ev i=some (.d (.v (.int k n))))(hy:0<=n/\(xW b)[n.toNat]?=some y) :
  Local P ctx ⟨dst,.index t x i,ty,pos,after,gd⟩ s (s.putD dst (.d (.v (.int .u8 y)))):=
 zN (o:=⟨dst,.index t x i,ty,pos,after,gd⟩) fun a w g hg=>by
  obtain⟨h0,h1⟩:=hy;have hlt:n.toNat < b.size:=by
   have:=(List.getElem?_eq_some_iff.1 h1).1;simpa[xW] using this
  have hb:0<=n/\n < b.size:=⟨h0,by omega⟩
  have hv:((b[n.toNat]'hlt).toNat:Int)=y:=by
   have:=(List.getElem?_eq_some_iff.1 h1).2;simp only[xW,List.getElem_map,Array.getElem_toList] at this;exact this
  refine⟨.int .u8 y,?_,.d (.v _ rfl)⟩;simp only[execOp,Jd hg hx,Jd hg hi,Sem.run_bind,run_index_string w t b k n hu,dif_pos hb,hv,Result.andThen_ok,Sem.run_pure]
theorem LR.bytesStr{x:Operand}{src dt e:TypeId}{l:List Int}(hs:P.underlying src=some (.slice e))(he:P.underlying e=some (.int .u8))(hd:P.underlying dt=some .string)(hx:s.ev x=some (.d (.sl (l.map (eK .u8))))) :
  Local P ctx ⟨dst,.convert src dt x,ty,pos,after,gd⟩ s (s.putD dst (.d (.v (.string (wha l))))):=
 zN (o:=⟨dst,.convert src dt x,ty,pos,after,gd⟩) fun a w g hg=>by
  have h:=hg.ev hx
  generalize hv:a.eval x=v at h
  refine⟨.string (wha l),?_,.d (.v _ rfl)⟩
  generalize hq:l.map (eK .u8)=q at h
  cases h with
  | d h=>
   cases h with
   | nil ao cap=>
    have hl:l=[]:=by simpa using hq
    subst hl;simp only[execOp,hv,Sem.run_bind,run_convert_bytes_string w src dt e ao 0 cap hs he hd]
    cases ao with
    | none=>simp[Conv.bytesToString,wha,Result.andThen]
    | some ad=>
     have:=run_bytesToString (P:=P) w ad 0 cap [] (by simp[loadCells,loadCellsFrom]);rw[this]
     rfl
   | sl _ b off cap k c hl hcap hS hb hk hc hr=>
    subst hq;simp only[execOp,hv,Sem.run_bind,run_convert_bytes_string w src dt e _ _ cap hs he hd,List.length_map];have hload:=run_loadCells_list (P:=P) w ⟨b,off,none⟩ (l.map (Value.int .u8)) (fun j v hj=>by
     rw[List.getElem?_map] at hj
     cases hlj:l[j]? with
     | none=>rw[hlj] at hj;cases hj
     | some n=>
      rw[hlj] at hj;simp only[Option.map_some,Option.some.injEq] at hj;subst hj;have hjl:j < l.length:=(List.getElem?_eq_some_iff.1 hlj).1;have hkk:=hk j (eK .u8 n) (by simp[hlj]);have hk1:k=1:=by simpa[eK] using hkk.symm
      subst hk1;have h1:=hc j 0 (by simpa using hjl) (by omega);have h2:=hr j (eK .u8 n) 0 (.v (.int .u8 n)) (by simp[hlj]) rfl
      generalize c j 0=q at h1 h2
      cases h2
      simp only[Nat.mul_one,Nat.add_zero] at h1
      by_cases hj0:j=0
      ·subst hj0;simpa[Addr.add] using h1
      ·simpa[Addr.add,hj0] using h1)
    rw[List.length_map] at hload;rw[run_bytesToString w _ l.length cap l hload]
    rfl
end
end Go.Ep
namespace Go.Ep
open Go.RowKit
section
variable{P:Program}{ctx:Ctx}{s:PState}
variable{dst:Option Tmp}{ty:TypeId}{pos:String}{after:Array Edge}{gd:Option (Nat×Bool)}
theorem LR.strBytes{x:Operand}{src dt e:TypeId}{b:ByteArray}(hs:P.underlying src=some .string)(hd:P.underlying dt=some (.slice e))(he:P.underlying e=some (.int .u8))(hx:s.ev x=some (.d (.v (.string b))))(hsz:b.size<=9223372036854775807) :
  Local P ctx ⟨dst,.convert src dt x,ty,pos,after,gd⟩ s (s.putD dst (.d (.sl ((xW b).map (eK .u8))))):=
 yT (o:=⟨dst,.convert src dt x,ty,pos,after,gd⟩) fun a w g hg=>by
  have hrun:=run_bytes_of_string (P:=P) w src dt e b hs hd he;have hge:=grownCap_ge w b.size 0 e;have hcm:=grownCap_le_maxLen w b.size 0 e (by unfold maxLen;omega)
  generalize grownCap w b.size 0 e=cap at hrun hge hcm
  generalize hfr:((bytesRow b cap).size,(bytesRow b cap).size+1)=fr at hrun
  have hb:Below w.heap.size w (w.drew.alloc (.cells (bytesRow b cap) e fr)):=(Below.refl w.heap.size w).drew.alloc (Nat.le_refl _) _;have hg':=hg.below hb;refine⟨.slice (some ⟨w.heap.size,0,none⟩) b.size cap,w.drew.alloc (.cells (bytesRow b cap) e fr),by simp only[execOp,Jd hg hx,hrun,Sem.run_bind,Result.andThen_ok,Sem.run_pure],g,hg'.put dst (.d ?_)⟩;have hlen:((xW b).map (eK .u8)).length=b.size:=by simp[xW]
  have hS:yE ctx g s.objs w.heap.size:=UZ hg (.inr (Nat.le_refl _));have:=DRd.sl (w:=w.drew.alloc (.cells (bytesRow b cap) e fr)) (S:=yE ctx g s.objs) ((xW b).map (eK .u8)) w.heap.size 0 cap 1 (fun i _=>((bytesRow b cap)[i]?).getD undef) (by rw[hlen];exact hge) hcm hS (by rw[World.size_alloc];exact Nat.lt_succ_self _) (fun i cs hi=>by
   rw[List.getElem?_map] at hi
   cases h2:(xW b)[i]? with
   | none=>rw[h2] at hi;cases hi
   | some n=>rw[h2] at hi;cases hi;rfl) (fun i j hi hj=>by
   rw[hlen] at hi;have hj0:j=0:=by omega
   subst hj0;have:=World.cell?_alloc_mark w.drew (bytesRow b cap) e fr i;simp only[Nat.mul_one,Nat.add_zero,Nat.zero_add];have e1:w.drew.heap.size=w.heap.size:=rfl;rw[e1] at this;rw[this,bytesRow_at b cap i hi]
   rfl) (fun i cs j x hi hx2=>by
   rw[List.getElem?_map] at hi
   cases h2:(xW b)[i]? with
   | none=>rw[h2] at hi;cases hi
   | some n=>
    rw[h2] at hi;simp only[Option.map_some,Option.some.injEq] at hi;subst hi;have hj0:j=0:=by have:=(List.getElem?_eq_some_iff.1 hx2).1;simp[eK] at this;exact this
    subst hj0;simp[eK] at hx2;subst hx2;have hi2:i < b.data.size:=by have:=(List.getElem?_eq_some_iff.1 h2).1;simpa[xW] using this
    have hn:n=(b.data[i].toNat:Int):=by
     have:=(List.getElem?_eq_some_iff.1 h2).2;simp only[xW,List.getElem_map,Array.getElem_toList] at this;exact this.symm
    rw[bytesRow_at b cap i hi2,hn];exact .v _ rfl)
  rw[hlen] at this;exact this
end
end Go.Ep
