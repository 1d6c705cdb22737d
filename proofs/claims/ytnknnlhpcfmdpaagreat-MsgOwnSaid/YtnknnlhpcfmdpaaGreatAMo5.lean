/- Texts that the walks and laws lean on, side by side. -/
import Derived.Test.YtnknnlhpcfmdpaaGreatProg
import Derived.Shelf.SlGeneric
import Derived.Shelf.SlLaysF0
import Derived.Ground.SlsfProg
import Derived.Shelf.SlSortCmp.WholeK
import Derived.Shelf.SlSortCmp.NoneTotal
import Derived.StillTactics
import Derived.RegionTactic
import Derived.Laws.BytesString
import Derived.Laws.IdiomStrings
import Derived.Test.YtnknnlhpcfmdpaaGreatAMo2
import Derived.Test.YtnknnlhpcfmdpaaGreatAMo3
import Derived.Test.YtnknnlhpcfmdpaaGreatAMo4
set_option linter.unusedVariables false
set_option linter.unusedSimpArgs false
namespace Go.Proofs
open Go.Shelf
def Tryz.pdq121_ren : Go.Shelf.Ren:=⟨fun | 14=>121 | 20=>128 | 21=>129 | 22=>130 | 23=>131 | 24=>132 | 25=>133 | 26=>134 | 27=>135 | 46=>156 | 47=>157 | 48=>158 | 49=>159 | 50=>160 | 15=>122 | 57=>167 | 28=>136 | 29=>137 | n=>n,fun | 24=>37 | 22=>24 | 3=>3 | 25=>100 | 4=>4 | 0=>0 | 46=>121 | 45=>120 | 50=>103 | 66=>141 | 39=>114 | 55=>22 | 70=>145 | 76=>151 | 77=>152 | 53=>127 | 5=>5 | 9=>9 | n=>n,fun | n=>n⟩
theorem Tryz.pdq121 : Go.Proofs.SlLaysF0.n14 Tryz.prog Tryz.pdq121_ren:={
 mixed:=by kernel_rfl
 f14:=⟨Tryz.f121.name,by decide,Tryz.func121.trans (congrArg some (by kernel_rfl))⟩
 f15:=Tryz.func122.trans (congrArg some (by kernel_rfl))
 f20:=⟨Tryz.f128.name,by decide,Tryz.func128.trans (congrArg some (by kernel_rfl))⟩
 f21:=⟨Tryz.f129.name,by decide,Tryz.func129.trans (congrArg some (by kernel_rfl))⟩
 f22:=⟨Tryz.f130.name,by decide,Tryz.func130.trans (congrArg some (by kernel_rfl))⟩
 f23:=⟨Tryz.f131.name,by decide,Tryz.func131.trans (congrArg some (by kernel_rfl))⟩
 f24:=⟨Tryz.f132.name,by decide,Tryz.func132.trans (congrArg some (by kernel_rfl))⟩
 f25:=⟨Tryz.f133.name,by decide,Tryz.func133.trans (congrArg some (by kernel_rfl))⟩
 f26:=⟨Tryz.f134.name,by decide,Tryz.func134.trans (congrArg some (by kernel_rfl))⟩
 f27:=⟨Tryz.f135.name,by decide,Tryz.func135.trans (congrArg some (by kernel_rfl))⟩
 f28:=Tryz.func136.trans (congrArg some (by kernel_rfl))
 f29:=Tryz.func137.trans (congrArg some (by kernel_rfl))
 f46:=⟨Tryz.f156.name,by decide,Tryz.func156.trans (congrArg some (by kernel_rfl))⟩
 f47:=Tryz.func157.trans (congrArg some (by kernel_rfl))
 f48:=Tryz.func158.trans (congrArg some (by kernel_rfl))
 f49:=⟨Tryz.f159.name,by decide,Tryz.func159.trans (congrArg some (by kernel_rfl))⟩
 f50:=⟨Tryz.f160.name,by decide,Tryz.func160.trans (congrArg some (by kernel_rfl))⟩
 f57:=⟨Tryz.f167.name,by decide,Tryz.func167.trans (congrArg some (by kernel_rfl))⟩
 t0:=Tryz.underlying0
 a0:=Tryz.isAgg0
 z0:=Tryz.sizeOf0
 v0:=Tryz.zeroValue0
 t3:=Tryz.underlying3
 a3:=Tryz.isAgg3
 z3:=Tryz.sizeOf3
 v3:=Tryz.zeroValue3
 t4:=Tryz.underlying4
 a4:=Tryz.isAgg4
 z4:=Tryz.sizeOf4
 v4:=Tryz.zeroValue4
 t5:=Tryz.underlying5
 a5:=Tryz.isAgg5
 z5:=Tryz.sizeOf5
 v5:=Tryz.zeroValue5
 t9:=Tryz.underlying9
 a9:=Tryz.isAgg9
 z9:=Tryz.sizeOf9
 v9:=Tryz.zeroValue9
 t22:=Tryz.underlying24
 a22:=Tryz.isAgg24
 z22:=Tryz.sizeOf24
 v22:=Tryz.zeroValue24
 t25:=Tryz.underlying100
 a25:=Tryz.isAgg100
 z25:=Tryz.sizeOf100
 v25:=Tryz.zeroValue100
 t39:=Tryz.underlying114
 a39:=Tryz.isAgg114
 z39:=Tryz.sizeOf114
 v39:=Tryz.zeroValue114
 t45:=Tryz.underlying120
 a45:=Tryz.isAgg120
 z45:=Tryz.sizeOf120
 v45:=Tryz.zeroValue120
 t46:=Tryz.underlying121
 a46:=Tryz.isAgg121
 z46:=Tryz.sizeOf121
 v46:=Tryz.zeroValue121
 t50:=Tryz.underlying103
 a50:=Tryz.isAgg103
 z50:=Tryz.sizeOf103
 v50:=Tryz.zeroValue103
 t53:=Tryz.underlying127
 a53:=Tryz.isAgg127
 z53:=Tryz.sizeOf127
 v53:=Tryz.zeroValue127
 t55:=Tryz.underlying22
 a55:=Tryz.isAgg22
 z55:=Tryz.sizeOf22
 v55:=Tryz.zeroValue22
 t66:=Tryz.underlying141
 a66:=Tryz.isAgg141
 z66:=Tryz.sizeOf141
 v66:=Tryz.zeroValue141
 t70:=Tryz.underlying145
 a70:=Tryz.isAgg145
 z70:=Tryz.sizeOf145
 v70:=Tryz.zeroValue145
 t76:=Tryz.underlying151
 a76:=Tryz.isAgg151
 z76:=Tryz.sizeOf151
 v76:=Tryz.zeroValue151
 t77:=Tryz.underlying152
 a77:=Tryz.isAgg152
 z77:=Tryz.sizeOf152
 v77:=Tryz.zeroValue152 }
def Tryz.pdq125_ren : Go.Shelf.Ren:=⟨fun | 14=>125 | 20=>139 | 21=>140 | 22=>141 | 23=>142 | 24=>143 | 25=>144 | 26=>145 | 27=>146 | 46=>161 | 47=>157 | 48=>158 | 49=>162 | 50=>163 | 15=>122 | 57=>168 | 28=>136 | 29=>137 | n=>n,fun | 24=>41 | 22=>42 | 3=>3 | 25=>66 | 4=>4 | 0=>0 | 46=>121 | 45=>120 | 50=>103 | 66=>141 | 39=>114 | 55=>22 | 70=>145 | 76=>151 | 77=>152 | 53=>127 | 5=>5 | 9=>9 | n=>n,fun | n=>n⟩
theorem Tryz.pdq125 : Go.Proofs.SlLaysF0.n14 Tryz.prog Tryz.pdq125_ren:={
 mixed:=by kernel_rfl
 f14:=⟨Tryz.f125.name,by decide,Tryz.func125.trans (congrArg some (by kernel_rfl))⟩
 f15:=Tryz.func122.trans (congrArg some (by kernel_rfl))
 f20:=⟨Tryz.f139.name,by decide,Tryz.func139.trans (congrArg some (by kernel_rfl))⟩
 f21:=⟨Tryz.f140.name,by decide,Tryz.func140.trans (congrArg some (by kernel_rfl))⟩
 f22:=⟨Tryz.f141.name,by decide,Tryz.func141.trans (congrArg some (by kernel_rfl))⟩
 f23:=⟨Tryz.f142.name,by decide,Tryz.func142.trans (congrArg some (by kernel_rfl))⟩
 f24:=⟨Tryz.f143.name,by decide,Tryz.func143.trans (congrArg some (by kernel_rfl))⟩
 f25:=⟨Tryz.f144.name,by decide,Tryz.func144.trans (congrArg some (by kernel_rfl))⟩
 f26:=⟨Tryz.f145.name,by decide,Tryz.func145.trans (congrArg some (by kernel_rfl))⟩
 f27:=⟨Tryz.f146.name,by decide,Tryz.func146.trans (congrArg some (by kernel_rfl))⟩
 f28:=Tryz.func136.trans (congrArg some (by kernel_rfl))
 f29:=Tryz.func137.trans (congrArg some (by kernel_rfl))
 f46:=⟨Tryz.f161.name,by decide,Tryz.func161.trans (congrArg some (by kernel_rfl))⟩
 f47:=Tryz.func157.trans (congrArg some (by kernel_rfl))
 f48:=Tryz.func158.trans (congrArg some (by kernel_rfl))
 f49:=⟨Tryz.f162.name,by decide,Tryz.func162.trans (congrArg some (by kernel_rfl))⟩
 f50:=⟨Tryz.f163.name,by decide,Tryz.func163.trans (congrArg some (by kernel_rfl))⟩
 f57:=⟨Tryz.f168.name,by decide,Tryz.func168.trans (congrArg some (by kernel_rfl))⟩
 t0:=Tryz.underlying0
 a0:=Tryz.isAgg0
 z0:=Tryz.sizeOf0
 v0:=Tryz.zeroValue0
 t3:=Tryz.underlying3
 a3:=Tryz.isAgg3
 z3:=Tryz.sizeOf3
 v3:=Tryz.zeroValue3
 t4:=Tryz.underlying4
 a4:=Tryz.isAgg4
 z4:=Tryz.sizeOf4
 v4:=Tryz.zeroValue4
 t5:=Tryz.underlying5
 a5:=Tryz.isAgg5
 z5:=Tryz.sizeOf5
 v5:=Tryz.zeroValue5
 t9:=Tryz.underlying9
 a9:=Tryz.isAgg9
 z9:=Tryz.sizeOf9
 v9:=Tryz.zeroValue9
 t22:=Tryz.underlying42
 a22:=Tryz.isAgg42
 z22:=Tryz.sizeOf42
 v22:=Tryz.zeroValue42
 t25:=Tryz.underlying66
 a25:=Tryz.isAgg66
 z25:=Tryz.sizeOf66
 v25:=Tryz.zeroValue66
 t39:=Tryz.underlying114
 a39:=Tryz.isAgg114
 z39:=Tryz.sizeOf114
 v39:=Tryz.zeroValue114
 t45:=Tryz.underlying120
 a45:=Tryz.isAgg120
 z45:=Tryz.sizeOf120
 v45:=Tryz.zeroValue120
 t46:=Tryz.underlying121
 a46:=Tryz.isAgg121
 z46:=Tryz.sizeOf121
 v46:=Tryz.zeroValue121
 t50:=Tryz.underlying103
 a50:=Tryz.isAgg103
 z50:=Tryz.sizeOf103
 v50:=Tryz.zeroValue103
 t53:=Tryz.underlying127
 a53:=Tryz.isAgg127
 z53:=Tryz.sizeOf127
 v53:=Tryz.zeroValue127
 t55:=Tryz.underlying22
 a55:=Tryz.isAgg22
 z55:=Tryz.sizeOf22
 v55:=Tryz.zeroValue22
 t66:=Tryz.underlying141
 a66:=Tryz.isAgg141
 z66:=Tryz.sizeOf141
 v66:=Tryz.zeroValue141
 t70:=Tryz.underlying145
 a70:=Tryz.isAgg145
 z70:=Tryz.sizeOf145
 v70:=Tryz.zeroValue145
 t76:=Tryz.underlying151
 a76:=Tryz.isAgg151
 z76:=Tryz.sizeOf151
 v76:=Tryz.zeroValue151
 t77:=Tryz.underlying152
 a77:=Tryz.isAgg152
 z77:=Tryz.sizeOf152
 v77:=Tryz.zeroValue152 }
def Tryz.pdq127_ren : Go.Shelf.Ren:=⟨fun | 14=>127 | 20=>148 | 21=>149 | 22=>150 | 23=>151 | 24=>152 | 25=>153 | 26=>154 | 27=>155 | 46=>164 | 47=>157 | 48=>158 | 49=>165 | 50=>166 | 15=>122 | 57=>169 | 28=>136 | 29=>137 | n=>n,fun | 24=>39 | 22=>35 | 3=>3 | 25=>111 | 4=>4 | 0=>0 | 46=>121 | 45=>120 | 50=>103 | 66=>141 | 39=>114 | 55=>22 | 70=>145 | 76=>151 | 77=>152 | 53=>127 | 5=>5 | 9=>9 | n=>n,fun | n=>n⟩
theorem Tryz.pdq127 : Go.Proofs.SlLaysF0.n14 Tryz.prog Tryz.pdq127_ren:={
 mixed:=by kernel_rfl
 f14:=⟨Tryz.f127.name,by decide,Tryz.func127.trans (congrArg some (by kernel_rfl))⟩
 f15:=Tryz.func122.trans (congrArg some (by kernel_rfl))
 f20:=⟨Tryz.f148.name,by decide,Tryz.func148.trans (congrArg some (by kernel_rfl))⟩
 f21:=⟨Tryz.f149.name,by decide,Tryz.func149.trans (congrArg some (by kernel_rfl))⟩
 f22:=⟨Tryz.f150.name,by decide,Tryz.func150.trans (congrArg some (by kernel_rfl))⟩
 f23:=⟨Tryz.f151.name,by decide,Tryz.func151.trans (congrArg some (by kernel_rfl))⟩
 f24:=⟨Tryz.f152.name,by decide,Tryz.func152.trans (congrArg some (by kernel_rfl))⟩
 f25:=⟨Tryz.f153.name,by decide,Tryz.func153.trans (congrArg some (by kernel_rfl))⟩
 f26:=⟨Tryz.f154.name,by decide,Tryz.func154.trans (congrArg some (by kernel_rfl))⟩
 f27:=⟨Tryz.f155.name,by decide,Tryz.func155.trans (congrArg some (by kernel_rfl))⟩
 f28:=Tryz.func136.trans (congrArg some (by kernel_rfl))
 f29:=Tryz.func137.trans (congrArg some (by kernel_rfl))
 f46:=⟨Tryz.f164.name,by decide,Tryz.func164.trans (congrArg some (by kernel_rfl))⟩
 f47:=Tryz.func157.trans (congrArg some (by kernel_rfl))
 f48:=Tryz.func158.trans (congrArg some (by kernel_rfl))
 f49:=⟨Tryz.f165.name,by decide,Tryz.func165.trans (congrArg some (by kernel_rfl))⟩
 f50:=⟨Tryz.f166.name,by decide,Tryz.func166.trans (congrArg some (by kernel_rfl))⟩
 f57:=⟨Tryz.f169.name,by decide,Tryz.func169.trans (congrArg some (by kernel_rfl))⟩
 t0:=Tryz.underlying0
 a0:=Tryz.isAgg0
 z0:=Tryz.sizeOf0
 v0:=Tryz.zeroValue0
 t3:=Tryz.underlying3
 a3:=Tryz.isAgg3
 z3:=Tryz.sizeOf3
 v3:=Tryz.zeroValue3
 t4:=Tryz.underlying4
 a4:=Tryz.isAgg4
 z4:=Tryz.sizeOf4
 v4:=Tryz.zeroValue4
 t5:=Tryz.underlying5
 a5:=Tryz.isAgg5
 z5:=Tryz.sizeOf5
 v5:=Tryz.zeroValue5
 t9:=Tryz.underlying9
 a9:=Tryz.isAgg9
 z9:=Tryz.sizeOf9
 v9:=Tryz.zeroValue9
 t22:=Tryz.underlying35
 a22:=Tryz.isAgg35
 z22:=Tryz.sizeOf35
 v22:=Tryz.zeroValue35
 t25:=Tryz.underlying111
 a25:=Tryz.isAgg111
 z25:=Tryz.sizeOf111
 v25:=Tryz.zeroValue111
 t39:=Tryz.underlying114
 a39:=Tryz.isAgg114
 z39:=Tryz.sizeOf114
 v39:=Tryz.zeroValue114
 t45:=Tryz.underlying120
 a45:=Tryz.isAgg120
 z45:=Tryz.sizeOf120
 v45:=Tryz.zeroValue120
 t46:=Tryz.underlying121
 a46:=Tryz.isAgg121
 z46:=Tryz.sizeOf121
 v46:=Tryz.zeroValue121
 t50:=Tryz.underlying103
 a50:=Tryz.isAgg103
 z50:=Tryz.sizeOf103
 v50:=Tryz.zeroValue103
 t53:=Tryz.underlying127
 a53:=Tryz.isAgg127
 z53:=Tryz.sizeOf127
 v53:=Tryz.zeroValue127
 t55:=Tryz.underlying22
 a55:=Tryz.isAgg22
 z55:=Tryz.sizeOf22
 v55:=Tryz.zeroValue22
 t66:=Tryz.underlying141
 a66:=Tryz.isAgg141
 z66:=Tryz.sizeOf141
 v66:=Tryz.zeroValue141
 t70:=Tryz.underlying145
 a70:=Tryz.isAgg145
 z70:=Tryz.sizeOf145
 v70:=Tryz.zeroValue145
 t76:=Tryz.underlying151
 a76:=Tryz.isAgg151
 z76:=Tryz.sizeOf151
 v76:=Tryz.zeroValue151
 t77:=Tryz.underlying152
 a77:=Tryz.isAgg152
 z77:=Tryz.sizeOf152
 v77:=Tryz.zeroValue152 }
def Tryz.bits122_ren : Go.Shelf.Ren:=⟨fun | 15=>122 | 28=>136 | 29=>137 | n=>n,fun | 39=>114 | 3=>3 | 53=>127 | 55=>22 | 4=>4 | 5=>5 | 9=>9 | n=>n,fun | n=>n⟩
theorem Tryz.bits122 : Go.Proofs.SlLaysF0.n15 Tryz.prog Tryz.bits122_ren:={
 mixed:=by kernel_rfl
 f15:=Tryz.func122.trans (congrArg some (by kernel_rfl))
 f28:=Tryz.func136.trans (congrArg some (by kernel_rfl))
 f29:=Tryz.func137.trans (congrArg some (by kernel_rfl))
 t3:=Tryz.underlying3
 a3:=Tryz.isAgg3
 z3:=Tryz.sizeOf3
 v3:=Tryz.zeroValue3
 t4:=Tryz.underlying4
 a4:=Tryz.isAgg4
 z4:=Tryz.sizeOf4
 v4:=Tryz.zeroValue4
 t5:=Tryz.underlying5
 a5:=Tryz.isAgg5
 z5:=Tryz.sizeOf5
 v5:=Tryz.zeroValue5
 t9:=Tryz.underlying9
 a9:=Tryz.isAgg9
 z9:=Tryz.sizeOf9
 v9:=Tryz.zeroValue9
 t39:=Tryz.underlying114
 a39:=Tryz.isAgg114
 z39:=Tryz.sizeOf114
 v39:=Tryz.zeroValue114
 t53:=Tryz.underlying127
 a53:=Tryz.isAgg127
 z53:=Tryz.sizeOf127
 v53:=Tryz.zeroValue127
 t55:=Tryz.underlying22
 a55:=Tryz.isAgg22
 z55:=Tryz.sizeOf22
 v55:=Tryz.zeroValue22 }
end Go.Proofs
namespace Go.Ep
open Go.Shelf Go.RowKit Go.Lib Go.Sort Go.Proofs
theorem SortLaw.of{α:Type}[Inhabited α]{P:Program}{f g:FuncId}{k:Nat}{enc:α → List Value}{lt:α → α → Bool}{cf:α → α → Int}(hO:SWO (ltOf cf))(hlt:∀ x y,ltOf cf x y=lt x y)(hk:∀ x,(enc x).length=k)
  (hnil:∀ w:World,Calls P f #[.slice none 0 0,.func (.func g) #[] #[]] w fun e w'=>e=.returned (.tuple #[]) ∧ Go.RowKit.Below w.heap.size w w')
  (hrow:∀ (blk off cap:Nat) (d:Array α) (w:World),HoldsK enc k w blk off d → blk < w.heap.size → d.size < 4611686018427387904 →
   Calls P f #[.slice (some ⟨blk,off,none⟩) d.size cap,.func (.func g) #[] #[]] w fun e w'=>e=.returned (.tuple #[]) ∧ ∃ n os,w'=sortWorldK enc k w blk off n (pdq (ltOf cf) d 0 d.size (Lib.bitLen d.size) true true) os):SortLaw P f g k enc lt:=by
 refine⟨hnil,fun w blk cap l T cur hh hlc hcs hlen hcells=>?_⟩;have hblk:blk < w.heap.size:=(Array.getElem?_eq_some_iff.1 hh).1;have hH:HoldsK enc k w blk 0 l.toArray:=by
  intro j hj;rw[size_flatK] at hj;have hj':j < l.length*k:=by simpa using hj
  obtain⟨hk0,h1,h2,h3⟩:=idx_split hj'
  constructor
  ·rw[Nat.zero_add,cell_of_heap hh];show _=some ((flatK enc k l.toArray)[j]!);rw[get_flatK _ _ _ _ hj];have hx:l[j / k]?=some l[j / k]:=List.getElem?_eq_getElem h1;have hlk:(enc l[j / k]).length=k:=hk _;have hu:(enc l[j / k])[j % k]?=some ((enc l[j / k])[j % k]'(by omega)):=List.getElem?_eq_getElem (by omega);have:=hcells (j / k) _ (j % k) _ hx hu;rw[h3] at this;rw[this];have e1:(l.toArray)[j / k]! = l[j / k]:=by simp[h1]
   rw[e1];simp[hu]
  ·simp[World.frozen?,hh]
 have hd:l.toArray.size=l.length:=by simp
 have hcall:=hrow blk 0 cap l.toArray w hH hblk (by simpa using hlen);rw[hd] at hcall;refine hcall.mono fun e w' ⟨he,n,os,hw⟩=>⟨he,?_⟩
 have hp:=pdq_sorts (ltOf cf) hO l.toArray 0 l.toArray.size (Lib.bitLen l.toArray.size) true true (Nat.zero_le _) (Nat.le_refl _) (Or.inl rfl);rw[hd] at hp
 generalize pdq (ltOf cf) l.toArray 0 l.length (Lib.bitLen l.length) true true=d' at hp hw
 obtain⟨⟨hsz,_,hperm⟩,hsort⟩:=hp;have hsz':d'.size=l.length:=by simpa using hsz
 have hp':d'.toList.Perm l:=by
  have e1:(d'.extract 0 l.length).toList=d'.toList:=by rw[← hsz'];simp
  have e2:(l.toArray.extract 0 l.length).toList=l:=by simp
  rw[e1,e2] at hperm;exact hperm
 have hmod:∀ b,b < w.heap.size → (sortWorldK enc k w blk 0 n d' os).heap[b]?=if blk=b then (w.heap[b]?).map (onCells (putCells id 0 (flatK enc k d'))) else w.heap[b]?:=by
  intro b hb;have hb2:b < (putRowK enc k (Sort.ahead w n) blk 0 d').heap.size:=by simpa[putRowK,Sort.ahead] using hb
  show(grow (putRowK enc k (Sort.ahead w n) blk 0 d') os).heap[b]?=_;rw[Sort.heap_grow_old _ _ hb2];show((w.heap.modify blk (onCells (putCells id 0 (flatK enc k d')))))[b]?=_;rw[Array.getElem?_modify]
 subst hw;refine⟨d'.toList,(putCells id 0 (flatK enc k d') cur.toArray).toList,hp',?_,?_,?_,?_,rfl,rfl,rfl,?_,?_⟩
 ·rw[List.pairwise_iff_getElem];intro i j hi hj hij;have:=hsort i j (Nat.zero_le _) hij (by simpa[hsz'] using hj);rw[hlt] at this;have hi':i < d'.size:=by simpa using hi
  have hj':j < d'.size:=by simpa using hj
  simpa[hi',hj'] using this
 ·rw[hmod blk hblk,if_pos rfl,hh];simp[onCells]
 ·simp[putCells]
 ·intro i x j u hi hu;have hi':i < l.length:=by rw[← hsz'];have:=(List.getElem?_eq_some_iff.1 hi).1;simpa using this
  have hj:j < k:=by rw[← hk x];exact(List.getElem?_eq_some_iff.1 hu).1
  have hlt2:i*k+j < l.length*k:=idx_lt hi' hj;have hcl:l.length*k ≤ cur.length:=by rw[hcs];exact Nat.mul_le_mul_right k hlc
  have hin:i*k+j < d'.size*k:=by rw[hsz'];exact hlt2
  have hget:(flatK enc k d')[i*k+j]! = u:=by
   rw[get_flatK _ _ _ _ hin];have hk0:0 < k:=by omega
   have e1:(i*k+j) / k=i:=by rw[Nat.mul_comm,Nat.mul_add_div hk0,Nat.div_eq_of_lt hj];omega
   have e2:(i*k+j) % k=j:=by rw[Nat.mul_comm,Nat.mul_add_mod,Nat.mod_eq_of_lt hj]
   rw[e1,e2];have e3:d'[i]! = x:=by
    obtain⟨h1,h2⟩:=List.getElem?_eq_some_iff.1 hi;have h1':i < d'.size:=by simpa using h1
    rw[getElem!_pos d' i h1'];simpa using h2
   rw[e3];simp[hu]
  have hc2:i*k+j < cur.length:=by omega
  simp only[putCells,Array.toList_mapIdx,List.getElem?_mapIdx];rw[List.getElem?_eq_getElem hc2];simp only[Option.map_some,id];rw[if_pos ⟨Nat.zero_le _,by rw[size_flatK];omega⟩,Nat.sub_zero,hget]
 ·show w.heap.size ≤ (grow (putRowK enc k (Sort.ahead w n) blk 0 d') os).heap.size;simp[grow,putRowK,Sort.ahead]
 ·intro b hb hne;rw[hmod b hb,if_neg (Ne.symm hne)]
end Go.Ep
namespace Go.Proofs
set_option linter.unusedSimpArgs false
set_option linter.unusedVariables false
open Go.Shelf Go.RowKit Go.Lib Go.Sort Go.Ep
theorem nanu16(a:Int)(W:World):Calls Tryz.prog 109 #[.int .u16 a] W fun e w'=>e=.returned (.bool false) ∧ w'=W:=by
 go_enter Tryz.func109,Tryz.ntmps109
 go_wp2
 go_ret
 exact⟨by simp,rfl⟩
theorem cmpu16(a b:Int)(W:World):Calls Tryz.prog 82 #[.int .u16 a,.int .u16 b] W fun e w'=>e=.returned (.int .i64 (Lib.compareInt a b)) ∧ w'=W:=by
 unfold Lib.compareInt
 by_cases h1:a < b
 ·go_enter Tryz.func82,Tryz.ntmps82
  go_wp2_with (go_at_call 109;refine(nanu16 _ _).mono ?_;rintro e w' ⟨rfl,rfl⟩)
  go_ret
  exact⟨by simp[h1],rfl⟩
 ·by_cases h2:b < a
  ·go_enter Tryz.func82,Tryz.ntmps82
   go_wp2_with (go_at_call 109;refine(nanu16 _ _).mono ?_;rintro e w' ⟨rfl,rfl⟩)
   go_ret
   exact⟨by simp[h1,h2],rfl⟩
  ·go_enter Tryz.func82,Tryz.ntmps82
   go_wp2_with (go_at_call 109;refine(nanu16 _ _).mono ?_;rintro e w' ⟨rfl,rfl⟩)
   go_ret
   exact⟨by simp[h1,h2],rfl⟩
theorem nanu64(a:Int)(W:World):Calls Tryz.prog 110 #[.int .u64 a] W fun e w'=>e=.returned (.bool false) ∧ w'=W:=by
 go_enter Tryz.func110,Tryz.ntmps110
 go_wp2
 go_ret
 exact⟨by simp,rfl⟩
theorem cmpu64(a b:Int)(W:World):Calls Tryz.prog 83 #[.int .u64 a,.int .u64 b] W fun e w'=>e=.returned (.int .i64 (Lib.compareInt a b)) ∧ w'=W:=by
 unfold Lib.compareInt
 by_cases h1:a < b
 ·go_enter Tryz.func83,Tryz.ntmps83
  go_wp2_with (go_at_call 110;refine(nanu64 _ _).mono ?_;rintro e w' ⟨rfl,rfl⟩)
  go_ret
  exact⟨by simp[h1],rfl⟩
 ·by_cases h2:b < a
  ·go_enter Tryz.func83,Tryz.ntmps83
   go_wp2_with (go_at_call 110;refine(nanu64 _ _).mono ?_;rintro e w' ⟨rfl,rfl⟩)
   go_ret
   exact⟨by simp[h1,h2],rfl⟩
  ·go_enter Tryz.func83,Tryz.ntmps83
   go_wp2_with (go_at_call 110;refine(nanu64 _ _).mono ?_;rintro e w' ⟨rfl,rfl⟩)
   go_ret
   exact⟨by simp[h1,h2],rfl⟩
structure RawTPart where
 dev_:Int
 c1:Value
 h1:c1.oneCell'=true
def RawTPart.v(r:RawTPart):List Value:=[.int .u16 r.dev_,r.c1]
theorem RawTPart.v1(r:RawTPart):∀ u∈r.v,u.oneCell'=true:=by
 intro u hu;simp only[RawTPart.v,List.mem_cons,List.not_mem_nil,or_false] at hu;rcases hu with rfl | rfl
 ·rfl
 ·exact r.h1
def RawTPart.R(x:TPart)(r:RawTPart):Prop:=r.dev_=x.dev
theorem RawTPart.raw(w:World)(S:Nat → Prop)(x:TPart)(us:List Value)(hl:us.length=2)(h:∀ (j:Nat) (d:DV) (u:Value),(TPart.e x)[j]?=some d → us[j]?=some u → DRd w S d u):∃ r:RawTPart,r.v=us ∧ RawTPart.R x r:=by
 match us,hl with
 | [u0,u1],_=>
  refine⟨⟨x.dev,u1,(h 1 _ u1 rfl rfl).one⟩,?_,rfl⟩;have e0:=h 0 _ u0 rfl rfl
  cases e0
  rfl
def cf103(x y:RawTPart):Int:=Lib.compareInt x.dev_ y.dev_
theorem callcf103(x y:RawTPart)(W:World):Calls Tryz.prog 104 #[.agg #[.int .u16 x.dev_,x.c1],.agg #[.int .u16 y.dev_,y.c1]] W fun e w'=>e=.returned (.int .i64 (cf103 x y)) ∧ ∃ q os',w'=grow (W.drewN q) os':=by
 have c1:=fun W'=>cmpu16 x.dev_ y.dev_ W'
 unfold cf103
 generalize Lib.compareInt x.dev_ y.dev_=r1 at c1 ⊢
 go_enter Tryz.func104,Tryz.ntmps104
 go_wp2_with (go_at_call 82;refine(c1 _).mono ?_;rintro e w' ⟨rfl,rfl⟩)
 go_ret
 exact⟨rfl,0,_,by rw[alloc_eq_grow,alloc_eq_grow,grow_grow];rfl⟩
theorem ltcf103(x y:RawTPart):ltOf cf103 x y=(fun x y:RawTPart=>decide (x.dev_ < y.dev_)) x y:=by
 unfold ltOf cf103 Lib.compareInt ;rw[Bool.eq_iff_iff];simp only[decide_eq_true_eq,Bool.or_eq_true,Bool.and_eq_true]
 split <;> (repeat' split) <;> omega
theorem swocf103 : SWO (ltOf cf103) where
 irrefl x:=by rw[ltcf103];simp[]
 trans x y z h1 h2:=by rw[ltcf103] at *;simp[] at *;omega
 ntrans x y z h1 h2:=by rw[ltcf103] at *;simp[] at *;omega
instance inhcf103 : Inhabited RawTPart:=⟨⟨0,.int .u64 0,rfl⟩⟩
theorem layscf103(blk off size:Nat)(w:World):CmpLays Tryz.prog 104 #[] RawTPart.v 2 cf103 blk off size w:=fun _ _ _ _ x y=>callcf103 x y _
set_option maxHeartbeats 2000000 in
set_option maxRecDepth 100000 in
theorem sort103_eq(blk off cap:Nat)(d:Array RawTPart)(w:World)(hH:HoldsK RawTPart.v 2 w blk off d)(hblk:blk < w.heap.size)(hsz:d.size < 4611686018427387904) :
  Calls Tryz.prog 103 #[.slice (some ⟨blk,off,none⟩) d.size cap,.func (.func 104) #[] #[]] w fun e w'=>e=.returned (.tuple #[]) ∧ ∃ n os,w'=sortWorldK RawTPart.v 2 w blk off n (pdq (ltOf cf103) d 0 d.size (Lib.bitLen d.size) true true) os:=by
 have eg:∀ args w,(callFunc 104 args).run Tryz.prog w=.ok (.enter 104 args) w:=Tryz.call104;have e14:=Tryz.call121;have e15:=Tryz.call122;have hlim:Lib.bitLen d.size < 4611686018427387904:=Nat.lt_of_le_of_lt (Lib.bitLen_le d.size 62 (by omega) (by omega)) (by omega);have hp:=AnyQ.pdqsortCmpFunc_all Tryz.pdq121 2 Tryz.isAgg37 Tryz.sizeOf37 RawTPart.v cf103 104 #[] swocf103 blk off cap d w eg (layscf103 blk off d.size w) ⟨fun _=>rfl,RawTPart.v1,hH,hblk⟩ (d.size+1) 0 d.size (Lib.bitLen d.size) d w (by omega) rfl (SWK.start hH) (Nat.zero_le _) (Nat.le_refl _) hsz hlim (Or.inl rfl)
 change Calls Tryz.prog 121 _ _ _ at hp
 have hl:Calls Tryz.prog 122 #[.int .u64 (d.size:Int)] w fun e w'=>e=.returned (.int .i64 (Lib.bitLen d.size:Nat)) ∧ w'=w:=by
  have h:=Any.bits_Len (SlLaysF0.n15.bits Tryz.bits122) (d.size:Int) w (by omega) (by omega)
  rwa [Int.toNat_natCast] at h
 have wr:IntKind.u64.wrap (d.size:Int)=d.size:=by simp[IntKind.wrap,IntKind.bits,IntKind.signed];omega
 clear hH
 go_enter Tryz.func103,Tryz.ntmps103
 go_wp2_with (first | (go_at_call 122;refine hl.mono ?_;rintro e w' ⟨rfl,rfl⟩) | (go_at_call 121;refine hp.mono ?_;rintro e w' ⟨rfl,n,os,rfl⟩))
 go_end0
 exact⟨rfl,n,os,rfl⟩
theorem sort103_nil(w:World):Calls Tryz.prog 103 #[.slice none 0 0,.func (.func 104) #[] #[]] w fun e w'=>e=.returned (.tuple #[]) ∧ Go.RowKit.Below w.heap.size w w':=by
 have e14:=Tryz.call121;have e15:=Tryz.call122;have hp:=fun lim W=>AnyF.pdqsortCmpFunc_none Tryz.pdq121 none 0 lim (.func (.func 104) #[] #[]) W
 have hl:∀ W,Calls Tryz.prog 122 #[.int .u64 0] W fun e w'=>e=.returned (.int .i64 (Lib.bitLen 0:Nat)) ∧ w'=W:=fun W=>by
  have h:=Any.bits_Len (SlLaysF0.n15.bits Tryz.bits122) 0 W (by omega) (by omega);exact h
 go_enter Tryz.func103,Tryz.ntmps103
 go_wp2_with (first | (go_at_call 122;refine(hl _).mono ?_;rintro e w' ⟨rfl,rfl⟩) | (go_at_call 121;refine(hp _ _).mono ?_;rintro e w' ⟨rfl,rfl⟩))
 go_end0
 exact⟨rfl,Go.RowKit.Below.refl _ _⟩
theorem srt103_104 : SortLaw Tryz.prog 103 104 2 RawTPart.v (fun x y:RawTPart=>decide (x.dev_ < y.dev_)):=SortLaw.of swocf103 ltcf103 (fun _=>rfl) sort103_nil (fun blk off cap d w hH hblk hsz=>sort103_eq blk off cap d w hH hblk hsz)
theorem rlt103(x y:TPart)(r r':RawTPart)(h1:RawTPart.R x r)(h2:RawTPart.R y r'):((fun x y:RawTPart=>decide (x.dev_ < y.dev_))) r r'=ltPart x y:=by simp only[RawTPart.R] at h1 h2;simp[h1,h2,ltPart]
def cf112(x y:TDot):Int:=if Lib.compareInt x.dev y.dev≠0 then Lib.compareInt x.dev y.dev else Lib.compareInt x.n y.n
theorem callcf112(x y:TDot)(W:World):Calls Tryz.prog 50 #[.agg #[.int .u16 x.dev,.int .u64 x.n],.agg #[.int .u16 y.dev,.int .u64 y.n]] W fun e w'=>e=.returned (.int .i64 (cf112 x y)) ∧ ∃ q os',w'=grow (W.drewN q) os':=by
 have c1:=fun W'=>cmpu16 x.dev y.dev W'
 have c2:=fun W'=>cmpu64 x.n y.n W'
 unfold cf112
 generalize Lib.compareInt x.dev y.dev=r1 at c1 ⊢
 generalize Lib.compareInt x.n y.n=r2 at c2 ⊢
 by_cases h:r1=0
 ·subst h
  go_enter Tryz.func50,Tryz.ntmps50
  go_wp2_with (first | (go_at_call 82;refine(c1 _).mono ?_;rintro e w' ⟨rfl,rfl⟩) | (go_at_call 83;refine(c2 _).mono ?_;rintro e w' ⟨rfl,rfl⟩))
  go_ret
  exact⟨by simp,0,_,by rw[alloc_eq_grow,alloc_eq_grow,grow_grow];rfl⟩
 ·go_enter Tryz.func50,Tryz.ntmps50
  go_wp2_with (first | (go_at_call 82;refine(c1 _).mono ?_;rintro e w' ⟨rfl,rfl⟩) | (go_at_call 83;refine(c2 _).mono ?_;rintro e w' ⟨rfl,rfl⟩))
  go_ret
  exact⟨by simp[h],0,_,by rw[alloc_eq_grow,alloc_eq_grow,grow_grow];rfl⟩
theorem ltcf112(x y:TDot):ltOf cf112 x y=ltDot x y:=by
 unfold ltOf cf112 Lib.compareInt ltDot;rw[Bool.eq_iff_iff];simp only[decide_eq_true_eq,Bool.or_eq_true,Bool.and_eq_true]
 split <;> (repeat' split) <;> omega
theorem swocf112 : SWO (ltOf cf112) where
 irrefl x:=by rw[ltcf112];simp[ltDot]
 trans x y z h1 h2:=by rw[ltcf112] at *;simp[ltDot] at *;omega
 ntrans x y z h1 h2:=by rw[ltcf112] at *;simp[ltDot] at *;omega
instance inhcf112 : Inhabited TDot:=⟨⟨0,0⟩⟩
theorem layscf112(blk off size:Nat)(w:World):CmpLays Tryz.prog 50 #[] TDot.v 2 cf112 blk off size w:=fun _ _ _ _ x y=>callcf112 x y _
set_option maxHeartbeats 2000000 in
set_option maxRecDepth 100000 in
theorem sort112_eq(blk off cap:Nat)(d:Array TDot)(w:World)(hH:HoldsK TDot.v 2 w blk off d)(hblk:blk < w.heap.size)(hsz:d.size < 4611686018427387904) :
  Calls Tryz.prog 112 #[.slice (some ⟨blk,off,none⟩) d.size cap,.func (.func 50) #[] #[]] w fun e w'=>e=.returned (.tuple #[]) ∧ ∃ n os,w'=sortWorldK TDot.v 2 w blk off n (pdq (ltOf cf112) d 0 d.size (Lib.bitLen d.size) true true) os:=by
 have eg:∀ args w,(callFunc 50 args).run Tryz.prog w=.ok (.enter 50 args) w:=Tryz.call50;have e14:=Tryz.call125;have e15:=Tryz.call122;have hlim:Lib.bitLen d.size < 4611686018427387904:=Nat.lt_of_le_of_lt (Lib.bitLen_le d.size 62 (by omega) (by omega)) (by omega);have hp:=AnyQ.pdqsortCmpFunc_all Tryz.pdq125 2 Tryz.isAgg41 Tryz.sizeOf41 TDot.v cf112 50 #[] swocf112 blk off cap d w eg (layscf112 blk off d.size w) ⟨fun _=>rfl,TDot.v1,hH,hblk⟩ (d.size+1) 0 d.size (Lib.bitLen d.size) d w (by omega) rfl (SWK.start hH) (Nat.zero_le _) (Nat.le_refl _) hsz hlim (Or.inl rfl)
 change Calls Tryz.prog 125 _ _ _ at hp
 have hl:Calls Tryz.prog 122 #[.int .u64 (d.size:Int)] w fun e w'=>e=.returned (.int .i64 (Lib.bitLen d.size:Nat)) ∧ w'=w:=by
  have h:=Any.bits_Len (SlLaysF0.n15.bits Tryz.bits122) (d.size:Int) w (by omega) (by omega)
  rwa [Int.toNat_natCast] at h
 have wr:IntKind.u64.wrap (d.size:Int)=d.size:=by simp[IntKind.wrap,IntKind.bits,IntKind.signed];omega
 clear hH
 go_enter Tryz.func112,Tryz.ntmps112
 go_wp2_with (first | (go_at_call 122;refine hl.mono ?_;rintro e w' ⟨rfl,rfl⟩) | (go_at_call 125;refine hp.mono ?_;rintro e w' ⟨rfl,n,os,rfl⟩))
 go_end0
 exact⟨rfl,n,os,rfl⟩
theorem sort112_nil(w:World):Calls Tryz.prog 112 #[.slice none 0 0,.func (.func 50) #[] #[]] w fun e w'=>e=.returned (.tuple #[]) ∧ Go.RowKit.Below w.heap.size w w':=by
 have e14:=Tryz.call125;have e15:=Tryz.call122;have hp:=fun lim W=>AnyF.pdqsortCmpFunc_none Tryz.pdq125 none 0 lim (.func (.func 50) #[] #[]) W
 have hl:∀ W,Calls Tryz.prog 122 #[.int .u64 0] W fun e w'=>e=.returned (.int .i64 (Lib.bitLen 0:Nat)) ∧ w'=W:=fun W=>by
  have h:=Any.bits_Len (SlLaysF0.n15.bits Tryz.bits122) 0 W (by omega) (by omega);exact h
 go_enter Tryz.func112,Tryz.ntmps112
 go_wp2_with (first | (go_at_call 122;refine(hl _).mono ?_;rintro e w' ⟨rfl,rfl⟩) | (go_at_call 125;refine(hp _ _).mono ?_;rintro e w' ⟨rfl,rfl⟩))
 go_end0
 exact⟨rfl,Go.RowKit.Below.refl _ _⟩
theorem srt112_50 : SortLaw Tryz.prog 112 50 2 TDot.v ltDot:=SortLaw.of swocf112 ltcf112 (fun _=>rfl) sort112_nil (fun blk off cap d w hH hblk hsz=>sort112_eq blk off cap d w hH hblk hsz)
def cf119(x y:TRun):Int:=Lib.compareInt x.lo y.lo
theorem callcf119(x y:TRun)(W:World):Calls Tryz.prog 120 #[.agg #[.int .u64 x.lo,.int .u64 x.hi],.agg #[.int .u64 y.lo,.int .u64 y.hi]] W fun e w'=>e=.returned (.int .i64 (cf119 x y)) ∧ ∃ q os',w'=grow (W.drewN q) os':=by
 have c1:=fun W'=>cmpu64 x.lo y.lo W'
 unfold cf119
 generalize Lib.compareInt x.lo y.lo=r1 at c1 ⊢
 go_enter Tryz.func120,Tryz.ntmps120
 go_wp2_with (go_at_call 83;refine(c1 _).mono ?_;rintro e w' ⟨rfl,rfl⟩)
 go_ret
 exact⟨rfl,0,_,by rw[alloc_eq_grow,alloc_eq_grow,grow_grow];rfl⟩
theorem ltcf119(x y:TRun):ltOf cf119 x y=ltRun x y:=by
 unfold ltOf cf119 Lib.compareInt ltRun;rw[Bool.eq_iff_iff];simp only[decide_eq_true_eq,Bool.or_eq_true,Bool.and_eq_true]
 split <;> (repeat' split) <;> omega
theorem swocf119 : SWO (ltOf cf119) where
 irrefl x:=by rw[ltcf119];simp[ltRun]
 trans x y z h1 h2:=by rw[ltcf119] at *;simp[ltRun] at *;omega
 ntrans x y z h1 h2:=by rw[ltcf119] at *;simp[ltRun] at *;omega
instance inhcf119 : Inhabited TRun:=⟨⟨0,0⟩⟩
theorem layscf119(blk off size:Nat)(w:World):CmpLays Tryz.prog 120 #[] TRun.v 2 cf119 blk off size w:=fun _ _ _ _ x y=>callcf119 x y _
set_option maxHeartbeats 2000000 in
set_option maxRecDepth 100000 in
theorem sort119_eq(blk off cap:Nat)(d:Array TRun)(w:World)(hH:HoldsK TRun.v 2 w blk off d)(hblk:blk < w.heap.size)(hsz:d.size < 4611686018427387904) :
  Calls Tryz.prog 119 #[.slice (some ⟨blk,off,none⟩) d.size cap,.func (.func 120) #[] #[]] w fun e w'=>e=.returned (.tuple #[]) ∧ ∃ n os,w'=sortWorldK TRun.v 2 w blk off n (pdq (ltOf cf119) d 0 d.size (Lib.bitLen d.size) true true) os:=by
 have eg:∀ args w,(callFunc 120 args).run Tryz.prog w=.ok (.enter 120 args) w:=Tryz.call120;have e14:=Tryz.call127;have e15:=Tryz.call122;have hlim:Lib.bitLen d.size < 4611686018427387904:=Nat.lt_of_le_of_lt (Lib.bitLen_le d.size 62 (by omega) (by omega)) (by omega);have hp:=AnyQ.pdqsortCmpFunc_all Tryz.pdq127 2 Tryz.isAgg39 Tryz.sizeOf39 TRun.v cf119 120 #[] swocf119 blk off cap d w eg (layscf119 blk off d.size w) ⟨fun _=>rfl,TRun.v1,hH,hblk⟩ (d.size+1) 0 d.size (Lib.bitLen d.size) d w (by omega) rfl (SWK.start hH) (Nat.zero_le _) (Nat.le_refl _) hsz hlim (Or.inl rfl)
 change Calls Tryz.prog 127 _ _ _ at hp
 have hl:Calls Tryz.prog 122 #[.int .u64 (d.size:Int)] w fun e w'=>e=.returned (.int .i64 (Lib.bitLen d.size:Nat)) ∧ w'=w:=by
  have h:=Any.bits_Len (SlLaysF0.n15.bits Tryz.bits122) (d.size:Int) w (by omega) (by omega)
  rwa [Int.toNat_natCast] at h
 have wr:IntKind.u64.wrap (d.size:Int)=d.size:=by simp[IntKind.wrap,IntKind.bits,IntKind.signed];omega
 clear hH
 go_enter Tryz.func119,Tryz.ntmps119
 go_wp2_with (first | (go_at_call 122;refine hl.mono ?_;rintro e w' ⟨rfl,rfl⟩) | (go_at_call 127;refine hp.mono ?_;rintro e w' ⟨rfl,n,os,rfl⟩))
 go_end0
 exact⟨rfl,n,os,rfl⟩
theorem sort119_nil(w:World):Calls Tryz.prog 119 #[.slice none 0 0,.func (.func 120) #[] #[]] w fun e w'=>e=.returned (.tuple #[]) ∧ Go.RowKit.Below w.heap.size w w':=by
 have e14:=Tryz.call127;have e15:=Tryz.call122;have hp:=fun lim W=>AnyF.pdqsortCmpFunc_none Tryz.pdq127 none 0 lim (.func (.func 120) #[] #[]) W
 have hl:∀ W,Calls Tryz.prog 122 #[.int .u64 0] W fun e w'=>e=.returned (.int .i64 (Lib.bitLen 0:Nat)) ∧ w'=W:=fun W=>by
  have h:=Any.bits_Len (SlLaysF0.n15.bits Tryz.bits122) 0 W (by omega) (by omega);exact h
 go_enter Tryz.func119,Tryz.ntmps119
 go_wp2_with (first | (go_at_call 122;refine(hl _).mono ?_;rintro e w' ⟨rfl,rfl⟩) | (go_at_call 127;refine(hp _ _).mono ?_;rintro e w' ⟨rfl,rfl⟩))
 go_end0
 exact⟨rfl,Go.RowKit.Below.refl _ _⟩
theorem srt119_120 : SortLaw Tryz.prog 119 120 2 TRun.v ltRun:=SortLaw.of swocf119 ltcf119 (fun _=>rfl) sort119_nil (fun blk off cap d w hH hblk hsz=>sort119_eq blk off cap d w hH hblk hsz)
end Go.Proofs
namespace Go.Ep
open Go.RowKit
def RowAt(w:World)(e:TypeId)(k:Nat)(l:List (List DV)):Option (Nat×Nat) → Value → Prop
 | none,v=>l=[] ∧ v=.slice none 0 0
 | some (b,cap),v=>v=.slice (some ⟨b,0,none⟩) l.length cap ∧ ∃ cur:List Value,w.heap[b]?=some (.cells cur.toArray e (0,0)) ∧ l.length ≤ cap ∧ cap ≤ maxLen ∧ cur.length=cap*k ∧ (∀ (i:Nat) (cs:List DV),l[i]?=some cs → cs.length=k) ∧
   ∀ (i:Nat) (cs:List DV) (j:Nat) (x:DV),l[i]?=some cs → cs[j]?=some x → ∃ u,cur[i*k+j]?=some u ∧ x=.v u ∧ u.oneCell'=true
def PlainL(l:List (List DV)):Prop:=∀ cs∈l,∀ x∈cs,∃ u,x=DV.v u
abbrev RowsM:=List (List Int×List (List DV))
def rowsM(R:RowsM):Mp:=R.map fun p=>(p.1,[DV.sl p.2])
def Dt(ctx:Ctx)(mb:Nat)(blk:Nat → Option (Nat×Nat))(b:Nat):Prop:=(ctx.S b ∨ ctx.w0.heap.size ≤ b) ∧ b≠mb ∧ ∀ i c,blk i≠some (b,c)
structure RelT(ctx:Ctx)(ks:List IntKind)(e:TypeId)(k mid n:Nat)(sl:List (Nat×PV))(R:RowsM)(a:Act)(w:World)(g:Ghost)(mb:Nat)(blk:Nat → Option (Nat×Nat))(es:Array MapEntry)(ck:Nat):Prop where
 defers:a.defers=[]
 size:a.tmps.size=n
 slots:∀ i p,(PState.mk n sl []).at i=some p → Rd w g (Dt ctx mb blk) p (a.tmps.getD i undef)
 gm:∃ q,g mid=some (mb,q)
 lt:mb < w.heap.size ∧ (ctx.w0.heap.size ≤ mb ∨ ctx.K mb)
 hh:w.heap[mb]?=some (.map es ck)
 sz:es.size=R.length
 below:∀ b∈es.toList.map (·.born),b < ck
 nodup:(es.toList.map (·.born)).Nodup
 ent:∀ (i:Nat) (ns:List Int) (l:List (List DV)),R[i]?=some (ns,l) → ∃ x,es[i]?=some x ∧ x.key=keyV ks ns ∧ ns.length=ks.length ∧ RowAt w e k l (blk i) x.val
 inj:∀ i j b c c',blk i=some (b,c) → blk j=some (b,c') → i=j
 own:∀ i b c,blk i=some (b,c) → b < w.heap.size ∧ (ctx.w0.heap.size ≤ b ∨ ctx.K b) ∧ b≠mb
 out:∀ i,R.length ≤ i → blk i=none
 os:w.os=ctx.w0.os
 tape:w.tape=ctx.w0.tape
 output:w.output=ctx.w0.output
 grows:ctx.w0.heap.size ≤ w.heap.size
 keep:∀ q,q < ctx.w0.heap.size → ¬ ctx.K q → w.heap[q]?=ctx.w0.heap[q]?
theorem at_mem{n:Nat}{sl:List (Nat×PV)}{o:List (Nat×Ob)}{i:Nat}{p:PV}(h:(PState.mk n sl o).at i=some p):(i,p)∈sl:=getS_mem (at_get h)
theorem rd_row{w:World}{g:Ghost}{S:Nat → Prop}{id n:Nat}{u:Value}(h:Rd w g S (.row id n) u):(∃ b c,g id=some (b,c) ∧ u=.slice (some ⟨b,0,none⟩) n c) ∨ (g id=none ∧ n=0 ∧ u=.slice none 0 0):=by
 cases h with
 | row _ _ b c h=>exact .inl ⟨b,c,h,rfl⟩
 | rowNil _ h=>exact .inr ⟨h,rfl,rfl⟩
section
variable{ctx:Ctx}{ks:List IntKind}{e:TypeId}{k mid n:Nat}{sl:List (Nat×PV)}{a:Act}{w:World}{g:Ghost}
theorem RelT.start{bs0:List Nat}{ck0:Nat}(h:RelG ctx g ⟨n,sl,[(mid,.map ks false [] bs0 ck0)]⟩ a w):∃ mb es ck,RelT ctx ks e k mid n sl [] a w g mb (fun _=>none) es ck:=by
 have hl:look [(mid,Ob.map ks false [] bs0 ck0)] mid=some (.map ks false [] bs0 ck0):=by simp[look]
 cases h.objs mid _ hl with
 | map _ _ _ _ _ blk q es hg hh hm=>
  refine⟨blk,es,ck0,h.defers,h.size,fun i p hp=>?_,⟨q,hg⟩,h.own mid _ blk q hl hg,hh,hm.size,by rw[← hm.stamps];exact hm.below,by rw[← hm.stamps];exact hm.nodup,(fun i ns l hi=>by simp at hi),(fun i j b c c' hi=>by cases hi),(fun i b c hi=>by cases hi),fun _ _=>rfl,h.os,h.tape,h.output,h.grows,h.keep⟩;refine(h.slots i p hp).keep ⟨Nat.le_refl _,fun _ _ _=>rfl⟩ (fun b hb _=>⟨hb.1,fun eb=>?_,fun i c hc=>by cases hc⟩) (fun _ _=>rfl);subst eb;exact hb.2 mid _ q hl hg
theorem cell_cur{b:Nat}{cur:List Value}(hh:w.heap[b]?=some (.cells cur.toArray e (0,0)))(o:Nat):w.cell? ⟨b,o,none⟩=cur[o]?:=cell_of_heap hh o
theorem RelT.done{R:RowsM}{mb:Nat}{blk:Nat → Option (Nat×Nat)}{es:Array MapEntry}{ck:Nat}(hK:∀ b,ctx.K b → ctx.S b)(h:RelT ctx ks e k mid n sl R a w g mb blk es ck):RelG ctx g ⟨n,sl,[(mid,.map ks false (rowsM R) (es.toList.map (·.born)) ck)]⟩ a w:=by
 obtain⟨q,hg⟩:=h.gm;have hlk:∀ id o,look [(mid,Ob.map ks false (rowsM R) (es.toList.map (·.born)) ck)] id=some o → id=mid:=fun id o ho=>by
  simp only[look] at ho
  split at ho
  ·assumption
  ·cases ho
 have hfree:∀ b,(ctx.S b ∨ ctx.w0.heap.size ≤ b) → b≠mb → Free ctx g [(mid,Ob.map ks false (rowsM R) (es.toList.map (·.born)) ck)] b:=fun b h1 h2=>⟨h1,fun id o m ho hgi=>by
  rw[hlk id o ho,hg] at hgi;cases hgi;exact h2 rfl⟩
 refine⟨h.defers,h.size,fun i p hp=>?_,fun id o ho=>?_,fun i j oi oj b m m' hi hj _ _=>by rw[hlk i oi hi,hlk j oj hj],fun id o b m ho hgi=>?_,h.os,h.tape,h.output,h.grows,h.keep⟩
 ·exact(h.slots i p hp).keep ⟨Nat.le_refl _,fun _ _ _=>rfl⟩ (fun b hb _=>hfree b hb.1 hb.2.1) (fun _ _=>rfl)
 ·have hid:=hlk id o ho;subst hid;simp only[look,if_true] at ho
  cases ho
  refine .map ks false _ _ ck mb q es hg h.hh ⟨by simp[rowsM,h.sz],rfl,h.below,h.nodup,fun i ns cs hi=>?_⟩;unfold rowsM at hi;rw[List.getElem?_map] at hi
  cases hR:R[i]? with
  | none=>rw[hR] at hi;cases hi
  | some r=>
   obtain⟨ns',l⟩:=r;rw[hR] at hi;simp only[Option.map_some,Option.some.injEq,Prod.mk.injEq] at hi;obtain⟨rfl,rfl⟩:=hi;obtain⟨x,h1,h2,h3,h4⟩:=h.ent i _ l hR;have hd:DRd w (Free ctx g [(id,Ob.map ks false (rowsM R) (es.toList.map (·.born)) ck)]) (.sl l) x.val:=by
    cases hb:blk i with
    | none=>
     rw[hb] at h4;obtain⟨rfl,hv⟩:=h4;rw[hv];exact .nil none 0 (Nat.zero_le _) (fun _=>rfl)
    | some bc=>
     obtain⟨b,cap⟩:=bc;rw[hb] at h4;obtain⟨hv,cur,hc,hlc,hcap,hcl,hkk,hr⟩:=h4;rw[hv];obtain⟨o1,o2,o3⟩:=h.own i b cap hb;refine .sl l b 0 cap k (fun i j=>cur.getD (i*k+j) undef) hlc hcap (hfree b (o2.elim .inr fun q=>.inl (hK b q)) o3) o1 hkk (fun i' j' hi' hj'=>?_) fun i' cs j' x' hi' hx'=>?_
     ·rw[cell_cur hc,Nat.zero_add];have:i'*k+j' < cur.length:=by rw[hcl];exact idx_lt (by omega) hj'
      simp[List.getD,this]
     ·obtain⟨u,hu,rfl,h1⟩:=hr i' cs j' x' hi' hx';simp only[List.getD,hu,Option.getD_some];exact .v u h1
   refine⟨x,[x.val],h1,h2,rfl,rfl,fun _=>rfl,fun u hu=>by rw[List.mem_singleton] at hu;rw[hu];exact hd.one,h3,fun j y u hy hu=>?_⟩
   cases j with
   | zero=>simp at hy hu;subst hy;subst hu;exact hd
   | succ j=>simp at hy
 ·rw[hlk id o ho,hg] at hgi
  cases hgi
  exact h.lt
def valsT(R:RowsM)(es:Array MapEntry):List (List Int×Value):=List.zipWith (fun r x=>(r.1,x.val)) R es.toList
theorem valsT_len{R:RowsM}{es:Array MapEntry}(h:es.size=R.length):(valsT R es).length=R.length:=by simp[valsT,h]
theorem valsT_fst{R:RowsM}{es:Array MapEntry}(h:es.size=R.length):(valsT R es).map (·.1)=R.map (·.1):=by
 apply List.ext_getElem?;intro i;simp only[valsT,List.getElem?_map,List.getElem?_zipWith]
 cases hR:R[i]? with
 | none=>simp
 | some r=>
  have:i < es.toList.length:=by have:=(List.getElem?_eq_some_iff.1 hR).1;simp;omega
  simp[List.getElem?_eq_getElem this]
theorem valsT_get{R:RowsM}{es:Array MapEntry}{i:Nat}{ns:List Int}{u:Value}(h:(valsT R es)[i]?=some (ns,u)):∃ l x,R[i]?=some (ns,l) ∧ es[i]?=some x ∧ x.val=u:=by
 simp only[valsT,List.getElem?_zipWith] at h
 cases hR:R[i]? with
 | none=>rw[hR] at h;cases h
 | some r=>
  cases hx:es.toList[i]? with
  | none=>rw[hR,hx] at h;cases h
  | some x=>
   rw[hR,hx] at h;simp only[Option.some.injEq,Prod.mk.injEq] at h;exact⟨r.2,x,by rw[← h.1],by simpa using hx,h.2⟩
theorem valsT_of{R:RowsM}{es:Array MapEntry}{i:Nat}{ns:List Int}{l:List (List DV)}{x:MapEntry}(h:R[i]?=some (ns,l))(hx:es[i]?=some x):(valsT R es)[i]?=some (ns,x.val):=by
 have hx':es.toList[i]?=some x:=by simpa using hx
 rw[valsT,List.getElem?_zipWith,h,hx']
def ctxT(ctx:Ctx)(mb:Nat)(blk:Nat → Option (Nat×Nat))(j:Nat)(w:World):Ctx:=⟨w,Dt ctx mb blk,fun b=>b=mb ∨ ∃ c,blk j=some (b,c)⟩
section
variable{R:RowsM}{mb:Nat}{blk:Nat → Option (Nat×Nat)}{es:Array MapEntry}{ck:Nat}
theorem RelT.found(h:RelT ctx ks e k mid n sl R a w g mb blk es ck)(hnm:∀ x∈sl,∀ id,x.2.has id=true → id=mid)(hm:mid≠50){j:Nat}{ns:List Int}{l:List (List DV)}(hj:R[j]?=some (ns,l)) :
  RelG (ctxT ctx mb blk j w) (upd g 50 (blk j)) ⟨n,sl,[(mid,.mapP ks (valsT R es) (some (j,.row 50 l.length)) (es.toList.map (·.born)) ck),(50,.row e k l)]⟩ a w:=by
 obtain⟨q,hg⟩:=h.gm;have hgm:upd g 50 (blk j) mid=some (mb,q):=by rw[upd_ne hm];exact hg
 have hg5:upd g 50 (blk j) 50=blk j:=upd_same _ _ _;have hlk:∀ id o,look [(mid,Ob.mapP ks (valsT R es) (some (j,.row 50 l.length)) (es.toList.map (·.born)) ck),(50,Ob.row e k l)] id=some o → (id=mid ∧ o=.mapP ks (valsT R es) (some (j,.row 50 l.length)) (es.toList.map (·.born)) ck) ∨ (id=50 ∧ o=.row e k l):=fun id o ho=>by
  simp only[look] at ho
  split at ho
  ·cases ho;exact .inl ⟨by assumption,rfl⟩
  ·split at ho
   ·cases ho;exact .inr ⟨by assumption,rfl⟩
   ·cases ho
 have hfree:∀ b,Dt ctx mb blk b → Free (ctxT ctx mb blk j w) (upd g 50 (blk j)) [(mid,Ob.mapP ks (valsT R es) (some (j,.row 50 l.length)) (es.toList.map (·.born)) ck),(50,Ob.row e k l)] b:=fun b hb=>⟨.inl hb,fun id o m ho hgi=>by
  rcases hlk id o ho with⟨rfl,_⟩ | ⟨rfl,_⟩
  ·rw[hgm] at hgi;cases hgi;exact hb.2.1 rfl
  ·rw[hg5] at hgi;exact hb.2.2 j m hgi⟩
 obtain⟨x,h1,h2,h3,h4⟩:=h.ent j ns l hj;refine⟨h.defers,h.size,fun i p hp=>?_,fun id o ho=>?_,fun i i' oi oj b m m' hi hi' hgi hgj=>?_,fun id o b m ho hgi=>?_,rfl,rfl,rfl,Nat.le_refl _,fun _ _ _=>rfl⟩
 ·exact(h.slots i p hp).keep ⟨Nat.le_refl _,fun _ _ _=>rfl⟩ (fun b hb _=>hfree b hb) (fun id hid=>by rw[hnm _ (at_mem hp) id hid,hgm,hg])
 ·rcases hlk id o ho with⟨rfl,rfl⟩ | ⟨rfl,rfl⟩
  ·refine .mapP ks _ _ _ ck mb q es hgm h.hh (by rw[valsT_len h.sz,h.sz]) rfl h.below h.nodup (fun i ns' u hi=>?_) fun j' p hjp=>?_
   ·obtain⟨l',x',r1,r2,r3⟩:=valsT_get hi;obtain⟨x2,s1,s2,s3,s4⟩:=h.ent i ns' l' r1;rw[r2] at s1;cases s1;refine⟨x',r2,s2,s3,?_,fun _=>r3⟩
    cases hb:blk i with
    | none=>rw[hb] at s4;rw[s4.2];rfl
    | some bc=>obtain⟨b,c⟩:=bc;rw[hb] at s4;rw[s4.1];rfl
   ·cases hjp
    refine⟨x,h1,?_⟩
    cases hb:blk j with
    | none=>rw[hb] at h4;obtain⟨rfl,hv⟩:=h4;rw[hv];exact .rowNil 50 (upd_same _ _ _)
    | some bc=>obtain⟨b,c⟩:=bc;rw[hb] at h4;rw[h4.1];exact .row 50 _ b c (upd_same _ _ _)
  ·cases hb:blk j with
   | none=>rw[hb] at h4;obtain⟨rfl,hv⟩:=h4;exact .rowNil e k (upd_same _ _ _)
   | some bc=>
    obtain⟨b,c⟩:=bc;rw[hb] at h4;obtain⟨hv,cur,hc,hlc,hcap,hcl,hkk,hr⟩:=h4;refine .row e k l b c cur (upd_same _ _ _) hc hlc hcap hcl hkk fun i' cs j' x' hi' hx'=>?_
    obtain⟨u,hu,rfl,ho1⟩:=hr i' cs j' x' hi' hx';exact⟨u,hu,.v u ho1⟩
 ·rcases hlk i oi hi with⟨rfl,_⟩ | ⟨rfl,_⟩ <;> rcases hlk i' oj hi' with⟨rfl,_⟩ | ⟨rfl,_⟩
  ·rfl
  ·rw[hgm] at hgi;cases hgi;rw[hg5] at hgj;exact((h.own j _ _ hgj).2.2 rfl).elim
  ·rw[hgm] at hgj;cases hgj;rw[hg5] at hgi;exact((h.own j _ _ hgi).2.2 rfl).elim
  ·rfl
 ·rcases hlk id o ho with⟨rfl,_⟩ | ⟨rfl,_⟩
  ·rw[hgm] at hgi;cases hgi;exact⟨h.lt.1,.inr (.inl rfl)⟩
  ·rw[hg5] at hgi;exact⟨(h.own j _ _ hgi).1,.inr (.inr ⟨_,hgi⟩)⟩
theorem RelT.fresh(h:RelT ctx ks e k mid n sl R a w g mb blk es ck)(j:Nat) :
  RelG (ctxT ctx mb blk j w) g ⟨n,sl,[(mid,.mapP ks (valsT R es) none (es.toList.map (·.born)) ck)]⟩ a w:=by
 obtain⟨q,hg⟩:=h.gm;have hlk:∀ id o,look [(mid,Ob.mapP ks (valsT R es) none (es.toList.map (·.born)) ck)] id=some o → id=mid ∧ o=.mapP ks (valsT R es) none (es.toList.map (·.born)) ck:=fun id o ho=>by
  simp only[look] at ho
  split at ho
  ·cases ho;exact⟨by assumption,rfl⟩
  ·cases ho
 have hfree:∀ b,Dt ctx mb blk b → Free (ctxT ctx mb blk j w) g [(mid,Ob.mapP ks (valsT R es) none (es.toList.map (·.born)) ck)] b:=fun b hb=>⟨.inl hb,fun id o m ho hgi=>by
  rw[(hlk id o ho).1,hg] at hgi;cases hgi;exact hb.2.1 rfl⟩
 refine⟨h.defers,h.size,fun i p hp=>?_,fun id o ho=>?_,fun i i' oi oj b m m' hi hi' hgi hgj=>?_,fun id o b m ho hgi=>?_,rfl,rfl,rfl,Nat.le_refl _,fun _ _ _=>rfl⟩
 ·exact(h.slots i p hp).keep ⟨Nat.le_refl _,fun _ _ _=>rfl⟩ (fun b hb _=>hfree b hb) (fun _ _=>rfl)
 ·obtain⟨rfl,rfl⟩:=hlk id o ho;refine .mapP ks _ _ _ ck mb q es hg h.hh (by rw[valsT_len h.sz,h.sz]) rfl h.below h.nodup (fun i ns' u hi=>?_) fun j' p hjp=>by cases hjp
  obtain⟨l',x',r1,r2,r3⟩:=valsT_get hi;obtain⟨x2,s1,s2,s3,s4⟩:=h.ent i ns' l' r1;rw[r2] at s1;cases s1;refine⟨x',r2,s2,s3,?_,fun _=>r3⟩
  cases hb:blk i with
  | none=>rw[hb] at s4;rw[s4.2];rfl
  | some bc=>obtain⟨b,c⟩:=bc;rw[hb] at s4;rw[s4.1];rfl
 ·rw[(hlk i oi hi).1,(hlk i' oj hi').1]
 ·rw[(hlk id o ho).1,hg] at hgi;cases hgi;exact⟨h.lt.1,.inr (.inl rfl)⟩
theorem RelT.back(h:RelT ctx ks e k mid n sl R a w g mb blk es ck){j q:Nat}{ns:List Int}{l:List (List DV)}{R':RowsM}{vm:List (List Int×Value)}{sl':List (Nat×PV)}{a':Act}{w':World}{g':Ghost}{bs':List Nat}{ck':Nat}(hq:mid≠q)(hle:R.length ≤ R'.length)
  (hvl:vm.length=R'.length) (hj:R'[j]?=some (ns,l)) (hjv:∃ u,vm[j]?=some (ns,u)) (hvm:∀ i ns' l',i≠j → R'[i]?=some (ns',l') → R[i]?=some (ns',l') ∧ ∃ x,es[i]?=some x ∧ vm[i]?=some (ns',x.val)) (hpl:PlainL l)
  (hr:RelG (ctxT ctx mb blk j w) g' ⟨n,sl',[(mid,.mapP ks vm (some (j,.row q l.length)) bs' ck'),(q,.row e k l)]⟩ a' w') :
  ∃ mb' blk' es',RelT ctx ks e k mid n sl' R' a' w' g' mb' blk' es' ck':=by
 have hlm:look [(mid,Ob.mapP ks vm (some (j,.row q l.length)) bs' ck'),(q,Ob.row e k l)] mid=some (.mapP ks vm (some (j,.row q l.length)) bs' ck'):=by simp[look]
 have hlq:look [(mid,Ob.mapP ks vm (some (j,.row q l.length)) bs' ck'),(q,Ob.row e k l)] q=some (.row e k l):=by simp[look,Ne.symm hq]
 cases hr.objs mid _ hlm with
 | mapP _ _ _ _ _ mb' n' es' hgm hh hsz hst hbl hnd hent hov=>
  subst hst;have hgr:w.heap.size ≤ w'.heap.size:=hr.grows;have hbase:ctx.w0.heap.size ≤ w.heap.size:=h.grows;have hown:∀ id o b m,look [(mid,Ob.mapP ks vm (some (j,.row q l.length)) (es'.toList.map (·.born)) ck'),(q,Ob.row e k l)] id=some o → g' id=some (b,m) → b < w'.heap.size ∧ (w.heap.size ≤ b ∨ b=mb ∨ ∃ c,blk j=some (b,c)):=fun id o b m ho hg=>hr.own id o b m ho hg
  have hnew:∀ b,(w.heap.size ≤ b ∨ b=mb ∨ ∃ c,blk j=some (b,c)) → ctx.w0.heap.size ≤ b ∨ ctx.K b:=fun b hb=>by
   rcases hb with hb | hb | ⟨c,hb⟩
   ·exact .inl (by omega)
   ·subst hb;exact h.lt.2
   ·exact(h.own j b c hb).2.1
  have hkeep:∀ i b c,i≠j → blk i=some (b,c) → w'.heap[b]?=w.heap[b]?:=fun i b c hij hb=>hr.keep b (h.own i b c hb).1 fun hk=>by
   rcases hk with hk | ⟨c',hk⟩
   ·exact(h.own i b c hb).2.2 hk
   ·exact hij (h.inj i j b c c' hb hk)
  have hdiff:∀ i b c,i≠j → blk i=some (b,c) → ¬ (w.heap.size ≤ b ∨ b=mb ∨ ∃ c,blk j=some (b,c)):=fun i b c hij hb hk=>by
   rcases hk with hk | hk | ⟨c',hk⟩
   ·have:=(h.own i b c hb).1;omega
   ·exact(h.own i b c hb).2.2 hk
   ·exact hij (h.inj i j b c c' hb hk)
  refine⟨mb',fun i=>if i=j then g' q else blk i,es',hr.defers,hr.size,fun i p hp=>?_,⟨n',hgm⟩,⟨(hown mid _ mb' n' hlm hgm).1,hnew mb' (hown mid _ mb' n' hlm hgm).2⟩,hh,by rw[hsz,hvl],hbl,hnd,fun i ns' l' hi=>?_,fun i i' b c c' hi hi'=>?_,fun i b c hi=>?_,fun i hi=>?_,?_,?_,?_,by omega,fun z hz hzK=>?_⟩
  ·refine(hr.slots i p hp).keep ⟨Nat.le_refl _,fun _ _ _=>rfl⟩ (fun b hb _=>⟨?_,fun eb=>?_,fun i' c hc=>?_⟩) (fun _ _=>rfl)
   ·rcases hb.1 with h1 | h1
    ·exact h1.1
    ·have h1':w.heap.size ≤ b:=h1;exact .inr (by omega)
   ·subst eb;exact hb.2 mid _ n' hlm hgm
   ·simp only at hc
    split at hc
    ·exact hb.2 q _ c hlq hc
    ·rcases hb.1 with h1 | h1
     ·exact h1.2.2 i' c hc
     ·have h1':w.heap.size ≤ b:=h1;have:=(h.own i' b c hc).1;omega
  ·by_cases hij:i=j
   ·subst hij;rw[hj] at hi
    cases hi
    obtain⟨u,hu⟩:=hjv;obtain⟨x,r1,r2,r3,_,_⟩:=hent i _ u hu;obtain⟨x',s1,s2⟩:=hov i _ rfl;rw[r1] at s1
    cases s1
    refine⟨x,r1,r2,r3,?_⟩;simp only[if_true];have h2:=rd_row s2
    generalize hL:l.length=L at h2
    cases hr.objs q _ hlq with
    | rowNil _ _ hgq=>
     rw[hgq];rcases h2 with⟨b,c,hgi,_⟩ | ⟨_,_,hv⟩
     ·rw[hgq] at hgi;cases hgi
     ·exact⟨rfl,hv⟩
    | row _ _ _ b c cur hgq hc hlc hcap hcl hkk hrr=>
     rw[hgq];rcases h2 with⟨b',c',hgi,hv⟩ | ⟨hgi,_,_⟩
     ·rw[hgq] at hgi
      cases hgi
      subst hL;refine⟨hv,cur,hc,hlc,hcap,hcl,hkk,fun i' cs j' y hi' hy=>?_⟩;obtain⟨u',hu',hd⟩:=hrr i' cs j' y hi' hy;obtain⟨u2,rfl⟩:=hpl cs (List.mem_of_getElem? hi') y (List.mem_of_getElem? hy)
      cases hd with
      | v _ h1=>exact⟨_,hu',rfl,h1⟩
     ·rw[hgq] at hgi;cases hgi
   ·obtain⟨r0,x0,e0,r1⟩:=hvm i ns' l' hij hi;obtain⟨x,s1,s2,s3,s4,s5⟩:=hent i _ _ r1;refine⟨x,s1,s2,s3,?_⟩;have hxv:=s5 fun p hp=>by cases hp;exact hij rfl
    simp only[if_neg hij];obtain⟨x',t1,_,_,t4⟩:=h.ent i ns' l' r0;rw[e0] at t1
    cases t1
    rw[hxv]
    cases hb:blk i with
    | none=>rw[hb] at t4;exact t4
    | some bc=>
     obtain⟨b,c⟩:=bc;rw[hb] at t4;obtain⟨hv,cur,hc,rest⟩:=t4;exact⟨hv,cur,by rw[hkeep i b c hij hb];exact hc,rest⟩
  ·have hi0:=hi;have hi0':=hi';clear hi hi';have hi:(if i=j then g' q else blk i)=some (b,c):=hi0;have hi':(if i'=j then g' q else blk i')=some (b,c'):=hi0'
   by_cases h1:i=j <;> by_cases h2:i'=j
   ·rw[h1,h2]
   ·rw[if_pos h1] at hi;rw[if_neg h2] at hi';exact(hdiff i' b c' h2 hi' (hown q _ b c hlq hi).2).elim
   ·rw[if_neg h1] at hi;rw[if_pos h2] at hi';exact(hdiff i b c h1 hi (hown q _ b c' hlq hi').2).elim
   ·rw[if_neg h1] at hi;rw[if_neg h2] at hi';exact h.inj i i' b c c' hi hi'
  ·replace hi:(if i=j then g' q else blk i)=some (b,c):=hi
   by_cases h1:i=j
   ·rw[if_pos h1] at hi;have:=hown q _ b c hlq hi;exact⟨this.1,hnew b this.2,fun eb=>by subst eb;exact hq (hr.inj mid q _ _ b n' c hlm hlq hgm hi)⟩
   ·rw[if_neg h1] at hi;have:=h.own i b c hi;exact⟨by omega,this.2.1,fun eb=>by subst eb;exact hdiff i b c h1 hi (hown mid _ b n' hlm hgm).2⟩
  ·have hjl:=(List.getElem?_eq_some_iff.1 hj).1;simp only[if_neg (show i≠j by omega)];exact h.out i (by omega)
  ·rw[← h.os];exact hr.os
  ·rw[← h.tape];exact hr.tape
  ·rw[← h.output];exact hr.output
  ·rw[← h.keep z hz hzK];refine hr.keep z (Nat.lt_of_lt_of_le hz hbase) fun hk=>?_
   rcases hk with hk | ⟨c,hk⟩
   ·subst hk;rcases h.lt.2 with h1 | h1
    ·omega
    ·exact hzK h1
   ·rcases(h.own j z c hk).2.1 with h1 | h1
    ·omega
    ·exact hzK h1
theorem RelT.back0(h:RelT ctx ks e k mid n sl R a w g mb blk es ck){j:Nat}(hjn:blk j=none){sl':List (Nat×PV)}{a':Act}{w':World}{g':Ghost}{bs':List Nat}{ck':Nat}
  (hr:RelG (ctxT ctx mb blk j w) g' ⟨n,sl',[(mid,.mapP ks (valsT R es) none bs' ck')]⟩ a' w') :
  ∃ mb' es',RelT ctx ks e k mid n sl' R a' w' g' mb' blk es' ck':=by
 have hlm:look [(mid,Ob.mapP ks (valsT R es) none bs' ck')] mid=some (.mapP ks (valsT R es) none bs' ck'):=by simp[look]
 cases hr.objs mid _ hlm with
 | mapP _ _ _ _ _ mb' n' es' hgm hh hsz hst hbl hnd hent hov=>
  subst hst;have hgr:w.heap.size ≤ w'.heap.size:=hr.grows;have hbase:ctx.w0.heap.size ≤ w.heap.size:=h.grows;have hown:mb' < w'.heap.size ∧ (w.heap.size ≤ mb' ∨ mb'=mb ∨ ∃ c,blk j=some (mb',c)):=hr.own mid _ mb' n' hlm hgm;have hown2:w.heap.size ≤ mb' ∨ mb'=mb:=by
   rcases hown.2 with h1 | h1 | ⟨c,h1⟩
   ·exact .inl h1
   ·exact .inr h1
   ·rw[hjn] at h1;cases h1
  have hkeep:∀ i b c,blk i=some (b,c) → w'.heap[b]?=w.heap[b]?:=fun i b c hb=>hr.keep b (h.own i b c hb).1 fun hk=>by
   rcases hk with hk | ⟨c',hk⟩
   ·exact(h.own i b c hb).2.2 hk
   ·rw[hjn] at hk;cases hk
  refine⟨mb',es',hr.defers,hr.size,fun i p hp=>?_,⟨n',hgm⟩,⟨hown.1,?_⟩,hh,by rw[hsz,valsT_len h.sz],hbl,hnd,fun i ns' l' hi=>?_,h.inj,fun i b c hi=>?_,h.out,?_,?_,?_,by omega,fun z hz hzK=>?_⟩
  ·refine(hr.slots i p hp).keep ⟨Nat.le_refl _,fun _ _ _=>rfl⟩ (fun b hb _=>⟨?_,fun eb=>?_,fun i' c hc=>?_⟩) (fun _ _=>rfl)
   ·rcases hb.1 with h1 | h1
    ·exact h1.1
    ·have h1':w.heap.size ≤ b:=h1;exact .inr (by omega)
   ·subst eb;exact hb.2 mid _ n' hlm hgm
   ·rcases hb.1 with h1 | h1
    ·exact h1.2.2 i' c hc
    ·have h1':w.heap.size ≤ b:=h1;have:=(h.own i' b c hc).1;omega
  ·rcases hown2 with h1 | h1
   ·exact .inl (by omega)
   ·rw[h1];exact h.lt.2
  ·obtain⟨x',t1,t2,t3,t4⟩:=h.ent i ns' l' hi;obtain⟨x,s1,s2,s3,s4,s5⟩:=hent i _ _ (valsT_of hi t1);refine⟨x,s1,s2,s3,?_⟩;rw[s5 fun p hp=>by cases hp]
   cases hb:blk i with
   | none=>rw[hb] at t4;exact t4
   | some bc=>
    obtain⟨b,c⟩:=bc;rw[hb] at t4;obtain⟨hv,cur,hc,rest⟩:=t4;exact⟨hv,cur,by rw[hkeep i b c hb];exact hc,rest⟩
  ·have:=h.own i b c hi;refine⟨by omega,this.2.1,fun eb=>?_⟩;rcases hown2 with h1 | h1
   ·omega
   ·exact this.2.2 (by rw[eb,h1])
  ·rw[← h.os];exact hr.os
  ·rw[← h.tape];exact hr.tape
  ·rw[← h.output];exact hr.output
  ·rw[← h.keep z hz hzK];refine hr.keep z (Nat.lt_of_lt_of_le hz hbase) fun hk=>?_
   rcases hk with hk | ⟨c,hk⟩
   ·subst hk;rcases h.lt.2 with h1 | h1
    ·omega
    ·exact hzK h1
   ·rw[hjn] at hk;cases hk
end
end
section
variable{P:Program}{ctx:Ctx}{ks:List IntKind}{e:TypeId}{k mid n:Nat}{Q:PQ}{s:PState}{c:Code}
inductive RoundT (P:Program) (c:Code) (ks:List IntKind) (e:TypeId) (k mid n:Nat) (sl:List (Nat×PV)) (R:RowsM) (sl':List (Nat×PV)) (R':RowsM):Prop
 | found {j nl nl':Nat} {ns:List Int} {l l':List (List DV)} (hl:nl=l.length) (hl':nl'=l'.length) (hj:R[j]?=some (ns,l)) (hR:R'=R.set j (ns,l'))
   (h:∀ (ctx:Ctx) (vm:List (List Int×Value)) (bs:List Nat) (ck:Nat),vm.map (·.1)=R.map (·.1) → PWc P ctx c (fun x t=>x=.normal ∧ Sub ctx t ⟨n,sl',[(mid,.mapP ks vm (some (j,.row 50 nl')) bs ck),(50,.row e k l')]⟩) ⟨n,sl,[(mid,.mapP ks vm (some (j,.row 50 nl)) bs ck),(50,.row e k l)]⟩)
 | fresh {q nl':Nat} {ns:List Int} {l':List (List DV)} (hl':nl'=l'.length) (hq:mid≠q) (hR:R'=R++[(ns,l')])
   (h:∀ (ctx:Ctx) (vm:List (List Int×Value)) (bs:List Nat) (ck:Nat),vm.map (·.1)=R.map (·.1) → PWc P ctx c (fun x t=>x=.normal ∧ Sub ctx t ⟨n,sl',[(mid,.mapP ks (vm++[(ns,undef)]) (some (vm.length,.row q nl')) (bs++[ck]) (ck+1)),(q,.row e k l')]⟩) ⟨n,sl,[(mid,.mapP ks vm none bs ck)]⟩)
 | skip (hR:R'=R) (h:∀ (ctx:Ctx) (vm:List (List Int×Value)) (bs:List Nat) (ck:Nat),PWc P ctx c (fun x t=>x=.normal ∧ Sub ctx t ⟨n,sl',[(mid,.mapP ks vm none bs ck)]⟩) ⟨n,sl,[(mid,.mapP ks vm none bs ck)]⟩)
theorem RoundT.run{sl sl':List (Nat×PV)}{R R':RowsM}(hr:RoundT P c ks e k mid n sl R sl' R')(hm:mid≠50)(hnm:∀ x∈sl,∀ id,x.2.has id=true → id=mid)(hpl:∀ p∈R',PlainL p.2)
  {a:Act} {w:World} {g:Ghost} {mb:Nat} {blk:Nat → Option (Nat×Nat)} {es:Array MapEntry} {ck:Nat} (h:RelT ctx ks e k mid n sl R a w g mb blk es ck) :
  c.wp P (fun x a' w'=>x=.normal ∧ ∃ g' mb' blk' es' ck',RelT ctx ks e k mid n sl' R' a' w' g' mb' blk' es' ck') a w:=by
 cases hr with
 | @found j nl nl' ns l l' hl hl' hj hR hw=>
  subst hl hl';refine wp_mono (hw (ctxT ctx mb blk j w) (valsT R es) (es.toList.map (·.born)) ck (valsT_fst h.sz) a w ⟨_,h.found hnm hm hj⟩) fun x a' w' ⟨t,⟨hx,hs⟩,ht⟩=>⟨hx,?_⟩
  obtain⟨g',hg'⟩:=hs a' w' ht;subst hR;have hjl:=(List.getElem?_eq_some_iff.1 hj).1;obtain⟨x0,e0,_,_,_⟩:=h.ent j ns l hj;have hj':(R.set j (ns,l'))[j]?=some (ns,l'):=by rw[List.getElem?_set_self hjl]
  obtain⟨mb',blk',es',hT⟩:=h.back (R':=R.set j (ns,l')) (vm:=valsT R es) (q:=50) hm (by simp) (by rw[valsT_len h.sz];simp) hj' ⟨x0.val,valsT_of hj e0⟩ (fun i ns' l2 hij hi=>by
   rw[List.getElem?_set_ne (Ne.symm hij)] at hi;obtain⟨x1,e1,_⟩:=h.ent i ns' l2 hi;exact⟨hi,x1,e1,valsT_of hi e1⟩) (hpl _ (List.mem_of_getElem? hj')) hg'
  exact⟨g',mb',blk',es',_,hT⟩
 | @fresh q nl' ns l' hl' hq hR hw=>
  subst hl';refine wp_mono (hw (ctxT ctx mb blk R.length w) (valsT R es) (es.toList.map (·.born)) ck (valsT_fst h.sz) a w ⟨_,h.fresh R.length⟩) fun x a' w' ⟨t,⟨hx,hs⟩,ht⟩=>⟨hx,?_⟩
  obtain⟨g',hg'⟩:=hs a' w' ht;subst hR;have hj':(R++[(ns,l')])[R.length]?=some (ns,l'):=by simp
  rw[valsT_len h.sz] at hg';obtain⟨mb',blk',es',hT⟩:=h.back (R':=R++[(ns,l')]) (j:=R.length) (vm:=valsT R es++[(ns,undef)]) (q:=q) hq (by simp) (by simp[valsT_len h.sz]) hj' ⟨undef,by rw[List.getElem?_append_right (by rw[valsT_len h.sz];exact Nat.le_refl _)];simp[valsT_len h.sz]⟩ (fun i ns' l2 hij hi=>by
   have hil:i < R.length:=by
    have:=(List.getElem?_eq_some_iff.1 hi).1;simp at this;omega
   rw[List.getElem?_append_left hil] at hi;obtain⟨x1,e1,_⟩:=h.ent i ns' l2 hi;exact⟨hi,x1,e1,by rw[List.getElem?_append_left (by rw[valsT_len h.sz];exact hil)];exact valsT_of hi e1⟩) (hpl _ (List.mem_of_getElem? hj')) hg'
  exact⟨g',mb',blk',es',_,hT⟩
 | skip hR hw=>
  refine wp_mono (hw (ctxT ctx mb blk R.length w) (valsT R es) (es.toList.map (·.born)) ck a w ⟨_,h.fresh R.length⟩) fun x a' w' ⟨t,⟨hx,hs⟩,ht⟩=>⟨hx,?_⟩
  obtain⟨g',hg'⟩:=hs a' w' ht;subst hR;obtain⟨mb',es',hT⟩:=h.back0 (h.out _ (Nat.le_refl _)) hg';exact⟨g',mb',blk,es',_,hT⟩
theorem PWc.loopRows{bid N:Nat}(J:Nat → List (Nat×PV))(R:Nat → RowsM)(Jf:List (Nat×PV))(bs0:List Nat)(ck0:Nat)(hK:∀ b,ctx.K b → ctx.S b)(hm:mid≠50)(hJ:∀ i,∀ x∈J i,∀ id,x.2.has id=true → id=mid)
  (h0:R 0=[]) (hpl:∀ i,∀ p∈R i,PlainL p.2) (hs:Sub ctx s ⟨n,J 0,[(mid,.map ks false [] bs0 ck0)]⟩)
  (round:∀ i,i < N → RoundT P c ks e k mid n (J i) (R i) (J (i+1)) (R (i+1)))
  (mf:Mp) (hmf:rowsM (R N)=mf) (last:∀ (ctx:Ctx) (vm:List (List Int×Value)) (bs:List Nat) (ck:Nat),PWc P ctx c (fun x t=>x=.exit bid ∧ Sub ctx t ⟨n,Jf,[(mid,.mapP ks vm none bs ck)]⟩) ⟨n,J N,[(mid,.mapP ks vm none bs ck)]⟩)
  (hQ:∀ bs ck,Q (.exit bid) ⟨n,Jf,[(mid,.map ks false mf bs ck)]⟩):PWc P ctx (.loop c) Q s:=by
 subst hmf;intro a w hr;refine LoopAt.loop ?_;have key:∀ d i,i+d=N → ∀ a w g mb blk es ck,RelT ctx ks e k mid n (J i) (R i) a w g mb blk es ck → LoopAt P c (lift ctx Q) a w:=by
  intro d
  induction d with
  | zero=>
   intro i hi a w g mb blk es ck h;have:i=N:=by omega
   subst this;refine LoopAt.step (wp_mono (last (ctxT ctx mb blk (R i).length w) (valsT (R i) es) (es.toList.map (·.born)) ck a w ⟨_,h.fresh (R i).length⟩) fun x a' w' ⟨t,⟨hx,hsb⟩,ht⟩=>?_);obtain⟨g',hg'⟩:=hsb a' w' ht;obtain⟨mb',es',hT⟩:=h.back0 (h.out _ (Nat.le_refl _)) hg';subst hx;exact⟨_,hQ _ _,g',hT.done hK⟩
  | succ d ih=>
   intro i hi a w g mb blk es ck h;refine LoopAt.step (wp_mono ((round i (by omega)).run hm (hJ i) (hpl (i+1)) h) fun x a' w' ⟨hx,g',mb',blk',es',ck',hT⟩=>?_);subst hx;exact ih (i+1) (by omega) a' w' g' mb' blk' es' ck' hT
 obtain⟨g,hg⟩:=hs a w hr;obtain⟨mb,es,ck,hT⟩:=RelT.start (e:=e) (k:=k) hg;rw[← h0] at hT;exact key N 0 (by omega) a w g mb _ es ck hT
end
section
variable{κ α:Type}{eK:κ → List Int}{enc:α → List DV}
def rowsOf(eK:κ → List Int)(enc:α → List DV)(m:List (κ×List α)):RowsM:=m.map fun x=>(eK x.1,x.2.map enc)
theorem rowsM_of(m:List (κ×List α)):rowsM (rowsOf eK enc m)=encM eK (eL enc) m:=by simp[rowsM,rowsOf,encM,eL]
theorem rowsOf_plain(h:∀ x,∀ d∈enc x,∃ u,d=DV.v u)(m:List (κ×List α)):∀ p∈rowsOf eK enc m,PlainL p.2:=by
 intro p hp cs hcs d hd;simp only[rowsOf,List.mem_map] at hp;obtain⟨x,_,rfl⟩:=hp;obtain⟨y,_,rfl⟩:=List.mem_map.1 hcs;exact h y d hd
variable[DecidableEq κ]
theorem keysP_fst{vm:List (List Int×Value)}{R:RowsM}(h:vm.map (·.1)=R.map (·.1)):keysP vm=R.map fun x=>(x.1,[]):=by
 have e1:keysP vm=(vm.map (·.1)).map fun k=>(k,[]):=by simp[keysP]
 rw[e1,h];simp
theorem pfind_rows(inj:∀ a b,eK a=eK b → a=b)(q:κ):∀ m:List (κ×List α),
  (∃ j l,pfind (eK q) ((rowsOf eK enc m).map fun x=>(x.1,([]:List DV))) 0=some j ∧ (rowsOf eK enc m)[j]?=some (eK q,l.map enc) ∧ AL.getZ m q []=l ∧ ∀ l',rowsOf eK enc (AL.set m q l')=(rowsOf eK enc m).set j (eK q,l'.map enc)) ∨
  (pfind (eK q) ((rowsOf eK enc m).map fun x=>(x.1,([]:List DV))) 0=none ∧ AL.getZ m q []=[] ∧ ∀ l',rowsOf eK enc (AL.set m q l')=rowsOf eK enc m++[(eK q,l'.map enc)])
 | []=>.inr ⟨rfl,rfl,fun _=>rfl⟩
 | (k,v)::r=>by
  by_cases h:k=q
  ·subst h;refine .inl ⟨0,v,?_,rfl,?_,fun l'=>?_⟩
   ·show(if eK k=eK k then _ else _)=_;rw[if_pos rfl]
   ·simp[AL.getZ,AL.get]
   ·simp[rowsOf,AL.set]
  ·have he:¬ eK k=eK q:=fun e=>h (inj _ _ e)
   have hp:pfind (eK q) ((rowsOf eK enc ((k,v)::r)).map fun x=>(x.1,([]:List DV))) 0=(pfind (eK q) ((rowsOf eK enc r).map fun x=>(x.1,([]:List DV))) 0).map (1+·):=by
    show(if eK k=eK q then _ else _)=_;rw[if_neg he,pfind_shift]
    rfl
   have hg:AL.getZ ((k,v)::r) q []=AL.getZ r q []:=by simp[AL.getZ,AL.get,h]
   rcases pfind_rows inj q r with⟨j,l,h1,h2,h3,h4⟩ | ⟨h1,h2,h3⟩
   ·refine .inl ⟨1+j,l,by rw[hp,h1];rfl,?_,by rw[hg,h3],fun l'=>?_⟩
    ·rw[Nat.add_comm];exact h2
    ·rw[Nat.add_comm];have:=h4 l';simp only[AL.set,h,if_false];show _::rowsOf eK enc (AL.set r q l')=_::_;rw[this];rfl
   ·refine .inr ⟨by rw[hp,h1];rfl,by rw[hg,h2],fun l'=>?_⟩;simp only[AL.set,h,if_false];show _::rowsOf eK enc (AL.set r q l')=_::_;rw[h3 l'];rfl
end
namespace AL
variable{κ α β:Type}[DecidableEq κ]
theorem getZ_setT{ν:Type}(m:List (κ×ν))(k q:κ)(v z:ν):getZ (set m k v) q z=if k=q then v else getZ m q z:=by
 induction m with
 | nil=>by_cases h:k=q <;> simp[getZ,set,get,h]
 | cons x r ih=>
  obtain⟨a,u⟩:=x
  by_cases ha:a=k
  ·subst ha
   by_cases h:a=q <;> simp[getZ,set,get,h]
  ·simp only[set,ha,if_false]
   by_cases h:a=q
   ·subst h;have:¬ k=a:=fun e=>ha e.symm
    simp[getZ,get,this]
   ·have e1:getZ ((a,u)::set r k v) q z=getZ (set r k v) q z:=by simp[getZ,get,h]
    have e2:getZ ((a,u)::r) q z=getZ r q z:=by simp[getZ,get,h]
    rw[e1,e2];exact ih
theorem grow_append(m l l':List (κ×List α)):grow m (l++l')=grow (grow m l) l':=by simp[grow]
theorem grow_take{c:List β}{i:Nat}{p:β}(hp:c[i]?=some p)(f:β → Option (κ×List α)):grow ([]:List (κ×List α)) ((c.take (i+1)).filterMap f)=grow (grow [] ((c.take i).filterMap f)) (f p).toList:=by
 rw[List.take_add_one,hp,List.filterMap_append,grow_append]
 cases h:f p <;> simp[h]
theorem grow_len(q:κ)(l:List (κ×List α)):∀ m:List (κ×List α),(getZ (grow m l) q []).length ≤ (getZ m q []).length+(l.map fun x=>x.2.length).sum:=by
 induction l with
 | nil=>intro m;simp[grow]
 | cons x r ih=>
  intro m;have h1:=ih (set m x.1 (getZ m x.1 []++x.2));rw[getZ_setT] at h1;show(getZ (grow (set m x.1 (getZ m x.1 []++x.2)) r) q []).length ≤ _;simp only[List.map_cons,List.sum_cons]
  by_cases h:x.1=q
  ·subst h;rw[if_pos rfl,List.length_append] at h1;omega
  ·rw[if_neg h] at h1;omega
theorem grow_bound{c:List β}{i n bs:Nat}{p:β}{x:κ×List α}{f:β → Option (κ×List α)}(hB:growOK bs n (c.filterMap f))(hp:c[i]?=some p)(hf:f p=some x) :
  ((getZ (grow [] ((c.take i).filterMap f)) x.1 []).length+x.2.length)*bs ≤ 140737488355328:=by
 have h1:=grow_len x.1 ((c.take i).filterMap f) [];have h2:c=c.take i++p::c.drop (i+1):=by
  have hlt:=(List.getElem?_eq_some_iff.1 hp).1;have:c[i]=p:=(List.getElem?_eq_some_iff.1 hp).2;rw[← this,← List.drop_eq_getElem_cons hlt,List.take_append_drop]
 have h3:((c.filterMap f).map fun x=>x.2.length).sum=(((c.take i).filterMap f).map fun x=>x.2.length).sum+(x.2.length+(((c.drop (i+1)).filterMap f).map fun x=>x.2.length).sum):=by
  conv=>lhs;rw[h2]
  simp[List.filterMap_append,List.filterMap_cons,hf]
 have h4:(getZ ([]:List (κ×List α)) x.1 []).length=0:=by simp[getZ,get]
 refine Nat.le_trans (Nat.mul_le_mul_right bs ?_) hB.2;omega
end AL
theorem evSame{s s':PState}(h1:s'.n=s.n)(h2:s'.sl=s.sl){y:Operand}{q:PV}(h:s.ev y=some q):s'.ev y=some q:=by
 cases y with
 | tmp t=>show s'.at t=_;unfold PState.at;rw[h1,h2];exact h
 | const v=>cases v <;> exact h
 | func f=>exact h
 | global g=>exact h
theorem evObjs{s:PState}{objs:List (Nat×Ob)}{y:Operand}{q:PV}(h:s.ev y=some q):({ s with objs:=objs }:PState).ev y=some q:=evSame (s:=s) rfl rfl h
theorem fresh_alone{s:PState}{id:Nat}{e k:Nat}{l:List (List DV)}(h:s.fresh id=true):({ s with objs:=putO id (.row e k l) s.objs }:PState).alone id=true:=by
 unfold PState.fresh at h;unfold PState.alone;rw[Bool.and_eq_true] at h ⊢;refine⟨h.1,List.all_eq_true.2 fun x hx=>?_⟩;obtain⟨xk,xo⟩:=x;rcases putO_mem hx with h3 | h3
 ·cases h3;rfl
 ·have:=List.all_eq_true.1 h.2 _ h3;simp only[Bool.and_eq_true] at this;exact this.2
theorem idxU{α:Type}{l:List α}{i:Int}{x y:α}(h1:0 ≤ i ∧ l[i.toNat]?=some x)(h2:0 ≤ i ∧ l[i.toNat]?=some y):x=y:=by have:=h1.2.symm.trans h2.2;cases this;rfl
theorem wrapNat{i:Nat}(h:i < 9223372036854775807):IntKind.i64.wrap ((i:Int)+1)=((i+1:Nat):Int):=by rw[wrap_i64 (by omega) (by omega)];rfl
end Go.Ep
namespace Go.Ep
open Go.RowKit
theorem perm_lift{α β : Type}(f : α → β){l l' : List β}(h : l'.Perm l) : ∀ Z : List α, Z.map f=l → ∃ Z' : List α, Z'.Perm Z ∧ Z'.map f=l' := by
  induction h with
  | nil => intro Z hZ; exact ⟨[], by have : Z = [] := by simpa using hZ
                                     rw[this], rfl⟩
  | cons x _ ih =>
    intro Z hZ
    cases Z with
    | nil => cases hZ
    | cons z r =>
      simp only[List.map_cons, List.cons.injEq] at hZ;obtain⟨Z', h1, h2⟩ := ih r hZ.2;exact⟨z::Z', h1.cons z, by simp[hZ.1, h2]⟩
  | swap x y _ =>
    intro Z hZ
    match Z, hZ with
    | a::b::r, hZ =>
      simp only[List.map_cons, List.cons.injEq] at hZ;exact⟨b::a::r, List.Perm.swap a b r, by simp[hZ]⟩
    | [a], hZ => simp at hZ
    | [], hZ => cases hZ
  | trans _ _ ih1 ih2 =>
    intro Z hZ;obtain⟨Z1, h1, h2⟩ := ih2 Z hZ;obtain⟨Z2, h3, h4⟩ := ih1 Z1 h2;exact⟨Z2, h3.trans h1, h4⟩
section
variable{P:Program}{ctx:Ctx}{Q:PQ}{s:PState}
variable{dst:Option Tmp}{ty:TypeId}{pos:String}{after:Array Edge}{gd:Option (Nat×Bool)}
theorem raws{α X:Type}{enc:α → List Value}{encD:X → List DV}{R:X → α → Prop}{k:Nat}{w:World}{S:Nat → Prop}{cur:List Value}
  (hraw:∀ (x:X) (us:List Value),us.length=k → (∀ (j:Nat) (d:DV) (u:Value),(encD x)[j]?=some d → us[j]?=some u → DRd w S d u) → ∃ r:α,enc r=us ∧ R x r) (hk:∀ y,(encD y).length=k) :
  ∀ (l:List X) (b:Nat),(∀ (i:Nat) (x:X) (j:Nat) (d:DV),l[i]?=some x → (encD x)[j]?=some d → ∃ u,cur[(b+i)*k+j]?=some u ∧ DRd w S d u) →
   ∃ Z:List (X×α),Z.map (·.1)=l ∧ ∀ i z,Z[i]?=some z → R z.1 z.2 ∧ (∀ (j:Nat) (u:Value),(enc z.2)[j]?=some u → cur[(b+i)*k+j]?=some u) ∧ ∀ (j:Nat) (d:DV) (u:Value),(encD z.1)[j]?=some d → (enc z.2)[j]?=some u → DRd w S d u
 | [],b,_=>⟨[],rfl,fun i z h=>by simp at h⟩
 | x::r,b,h=>by
  obtain⟨Z,h1,h2⟩:=raws hraw hk r (b+1) fun i y j d hi hd=>by
   have:=h (i+1) y j d (by simpa using hi) hd
   rwa [show b+(i+1)=b+1+i by omega] at this
  let us:List Value:=(List.range k).map fun j=>cur.getD (b*k+j) undef
  have hget:∀ j d,(encD x)[j]?=some d → ∃ u,us[j]?=some u ∧ cur[b*k+j]?=some u ∧ DRd w S d u:=fun j d hd=>by
   obtain⟨u,h3,h4⟩:=h 0 x j d rfl hd;rw[Nat.add_zero] at h3;have hj:j < k:=by rw[← hk x];exact(List.getElem?_eq_some_iff.1 hd).1
   exact⟨u,by simp[us,hj,List.getD,h3],h3,h4⟩
  obtain⟨q,h3,h4⟩:=hraw x us (by simp[us]) fun j d u hd hu=>by
   obtain⟨u',h5,_,h6⟩:=hget j d hd;rw[h5] at hu;cases hu;exact h6
  refine⟨(x,q)::Z,by simp[h1],fun i z hz=>?_⟩
  cases i with
  | zero=>
   simp only[List.getElem?_cons_zero,Option.some.injEq] at hz;subst hz;refine⟨h4,fun j u hu=>?_,fun j d u hd hu=>?_⟩
   ·rw[Nat.add_zero];simp only[h3] at hu;have hj:j < k:=by have:=(List.getElem?_eq_some_iff.1 hu).1;simpa[us] using this
    have hj2:j < (encD x).length:=by rw[hk];exact hj
    obtain⟨u',h5,h6,_⟩:=hget j _ (List.getElem?_eq_getElem hj2);rw[h5] at hu;cases hu;exact h6
   ·simp only[h3] at hu;obtain⟨u',h5,_,h6⟩:=hget j d hd;rw[h5] at hu;cases hu;exact h6
  | succ i=>
   have:=h2 i z (by simpa using hz)
   rwa [show b+1+i=b+(i+1) by omega] at this
theorem PWl.sortFnR{α X:Type}{ops:Array Oper}{rest:List Oper}{id n k:Nat}{e:TypeId}{fx x gx:Operand}{ats:Array TypeId}{f g:FuncId}{enc:α → List Value}{encD:X → List DV}{ltR:α → α → Bool}{lt:X → X → Bool}{R:X → α → Prop}{l:List X}(hS:SortLaw P f g k enc ltR)
  (hraw:∀ (w:World) (S:Nat → Prop) (x:X) (us:List Value),us.length=k → (∀ (j:Nat) (d:DV) (u:Value),(encD x)[j]?=some d → us[j]?=some u → DRd w S d u) → ∃ r:α,enc r=us ∧ R x r) (hlt:∀ x y r r',R x r → R y r' → ltR r r'=lt x y) (hk:∀ y,(encD y).length=k) (hk2:∀ y,(enc y).length=k)
  (hfx:s.ev fx=some (.d (.v (.func (.func f) #[] #[])))) (he:∀ args w,(callFunc f args).run P w=.ok (.enter f args) w) (hx:s.ev x=some (.row id n)) (hgx:s.ev gx=some (.d (.v (.func (.func g) #[] #[]))))
  (hl:look s.objs id=some (.row e k (l.map encD))) (hn:l.length=n) (hlen:l.length < 4611686018427387904) (hgd:gd=none)
  (h:∀ l':List X,l'.Perm l → l'.Pairwise (fun x y=>lt y x=false) → PWl P ctx ops Q rest ((s.setO id (.row e k (l'.map encD))).putD dst (.tup []))) :
  PWl P ctx ops Q (⟨dst,.call ⟨.value fx,#[x,gx],ats⟩,ty,pos,after,gd⟩::rest) s:=by
 rintro a w ⟨gh,hg⟩;refine wpList_plain hgd fun K hK=>?_
 have hxv:=hg.ev hx;have hob:=hg.objs id _ hl;unfold Oper.wp;rw[exec_call (o:=⟨dst,.call ⟨.value fx,#[x,gx],ats⟩,ty,pos,after,gd⟩) rfl (ev_v hg hfx) he w]
 generalize hv:a.eval x=v at hxv
 have hargs:(#[x,gx]:Array Operand).map a.eval=#[v,.func (.func g) #[] #[]]:=by simp[hv,ev_v hg hgx]
 rw[hargs]
 generalize hL:l.map encD=L at hob
 cases hob with
 | rowNil _ _ hgn=>
  have hl0:l=[]:=by simpa using hL
  subst hl0
  cases hxv with
  | row _ _ blk cap hgi=>rw[hgn] at hgi;cases hgi
  | rowNil=>
   refine(hS.nil w).mono fun en w' ⟨hen,hb⟩=>?_
   subst hen;have hsub:Sub ctx s (s.setO id (.row e k ([].map encD))):=Sub.drop rfl (fun i p hp=>hp) (fun j o hj=>by
    simp only[PState.setO,look_putO] at hj
    split at hj
    ·rename_i ej;subst ej;cases hj;rw[hl]
    ·exact hj)
   obtain⟨g2,hg2⟩:=hsub a w' ⟨gh,hg.below hb⟩;exact hK _ _ (h [] (List.Perm.refl _) List.Pairwise.nil _ _ ⟨g2,hg2.put dst (.tup [] [] rfl (by simp))⟩)
 | row _ _ _ blk' cap' cur hgi hh hlc hcap hcs hkk hr'=>
  cases hxv with
  | rowNil _ hgn=>rw[hgn] at hgi;cases hgi
  | row _ _ blk cap hgi'=>
   rw[hgi] at hgi'
   cases hgi'
   subst hL;subst hn;obtain⟨Z,hZ1,hZ2⟩:=raws (cur:=cur) (hraw w (Free ctx gh s.objs)) hk l 0 fun i y j d hi hd=>by
    rw[Nat.zero_add];exact hr' i (encD y) j d (by simp[hi]) hd
   have hZl:(Z.map (·.2)).length=l.length:=by rw[← hZ1];simp
   have hcells:∀ (i:Nat) (y:α) (j:Nat) (u:Value),(Z.map (·.2))[i]?=some y → (enc y)[j]?=some u → cur[i*k+j]?=some u:=by
    intro i y j u hi hu;rw[List.getElem?_map] at hi
    cases hz:Z[i]? with
    | none=>rw[hz] at hi;cases hi
    | some z=>
     rw[hz] at hi;simp only[Option.map_some,Option.some.injEq] at hi;subst hi;have:=(hZ2 i z hz).2.1 j u hu
     rwa [Nat.zero_add] at this
   have hrow:=hS.row w blk' cap' (Z.map (·.2)) e cur hh (by rw[hZl];simpa using hlc) hcs (by rw[hZl];exact hlen) hcells;rw[hZl] at hrow;refine hrow.mono fun en w' ⟨hen,l2,cur',hperm,hsort,hh',hcl,hc',hos,htape,hout,hsz,hother⟩=>?_
   subst hen;obtain⟨Z',hP,hZ'⟩:=perm_lift (·.2) hperm Z rfl;have hmem:∀ z∈Z',R z.1 z.2 ∧ ∀ (j:Nat) (d:DV) (u:Value),(encD z.1)[j]?=some d → (enc z.2)[j]?=some u → DRd w (Free ctx gh s.objs) d u:=fun z hz=>by
    obtain⟨i,hi⟩:=List.mem_iff_getElem?.1 (hP.subset hz);exact⟨(hZ2 i z hi).1,(hZ2 i z hi).2.2⟩
   let l':=Z'.map (·.1)
   have hl'p:l'.Perm l:=by rw[← hZ1];exact hP.map _
   have hl's:l'.Pairwise (fun x y=>lt y x=false):=by
    rw[← hZ'] at hsort;rw[List.pairwise_map] at hsort ⊢;refine List.Pairwise.imp_of_mem (fun {p q} hp hq hpq=>?_) hsort;rw[← hlt _ _ _ _ (hmem q hq).1 (hmem p hp).1];exact hpq
   have hown:=hg.own id _ blk' cap' hl hgi;have hst:Stays w w' (Free ctx gh s.objs):=⟨hsz,fun b ⟨_,h2⟩ hlt=>hother b hlt fun eb=>by subst eb;exact h2 id _ cap' hl hgi⟩
   have hpl:l'.length=l.length:=hl'p.length_eq;have hsetF:∀ b,Free ctx gh s.objs b → Free ctx gh s.objs b:=fun _ h=>h
   have hwr:=hg.wrote hl hgi (w':=w') hos htape hout hsz hother hown.2 (ob:=.row e k (l'.map encD)) (.row e k _ blk' cap' cur' hgi hh' (by simpa[hpl] using hlc) hcap (by rw[hcl];exact hcs)
    (fun i cs hi=>by
     rw[List.getElem?_map] at hi
     cases hy:l'[i]? with
     | none=>simp[hy] at hi
     | some y=>simp[hy] at hi;subst hi;exact hk y)
    (fun i cs j d hi hd=>by
     rw[List.getElem?_map] at hi
     cases hy:l'[i]? with
     | none=>simp[hy] at hi
     | some y=>
      simp[hy] at hi;subst hi;simp only[l',List.getElem?_map] at hy
      cases hz:Z'[i]? with
      | none=>rw[hz] at hy;cases hy
      | some z=>
       rw[hz] at hy;simp only[Option.map_some,Option.some.injEq] at hy;subst hy;have hj:j < (enc z.2).length:=by rw[hk2,← hk z.1];exact(List.getElem?_eq_some_iff.1 hd).1
       have hu:(enc z.2)[j]?=some (enc z.2)[j]:=List.getElem?_eq_getElem hj;refine⟨_,hc' i z.2 j _ (by rw[← hZ',List.getElem?_map,hz];rfl) hu,?_⟩;exact((hmem z (List.mem_of_getElem? hz)).2 j d _ hd hu).keep hst (fun b hb _=>free_put hl b hb)))
   exact hK _ _ (h l' hl'p hl's _ _ ⟨gh,hwr.put dst (.tup [] [] rfl (by simp))⟩)
end
end Go.Ep
namespace Go.Ep
open Go.RowKit
section
variable{P:Program}{ctx:Ctx}{Q:PQ}{s:PState}
variable{dst:Option Tmp}{ty:TypeId}{pos:String}{after:Array Edge}{gd:Option (Nat×Bool)}
theorem LR.strIdx{x i:Operand}{t:TypeId}{b:ByteArray}{k:IntKind}{n y:Int}(hu:P.underlying t=some .string)(hx:s.ev x=some (.d (.v (.string b))))(hi:s.ev i=some (.d (.v (.int k n))))(hy:0 ≤ n ∧ (bytesL b)[n.toNat]?=some y) :
  Local P ctx ⟨dst,.index t x i,ty,pos,after,gd⟩ s (s.putD dst (.d (.v (.int .u8 y)))):=
 local_pure (o:=⟨dst,.index t x i,ty,pos,after,gd⟩) fun a w g hg=>by
  obtain⟨h0,h1⟩:=hy;have hlt:n.toNat < b.size:=by
   have:=(List.getElem?_eq_some_iff.1 h1).1;simpa[bytesL] using this
  have hb:0 ≤ n ∧ n < b.size:=⟨h0,by omega⟩
  have hv:((b[n.toNat]'hlt).toNat:Int)=y:=by
   have:=(List.getElem?_eq_some_iff.1 h1).2;simp only[bytesL,List.getElem_map,Array.getElem_toList] at this;exact this
  refine⟨.int .u8 y,?_,.d (.v _ rfl)⟩;simp only[execOp,ev_v hg hx,ev_v hg hi,Sem.run_bind,run_index_string w t b k n hu,dif_pos hb,hv,Result.andThen_ok,Sem.run_pure]
end
end Go.Ep
namespace Go.Ep
open Go.RowKit
section
variable{P:Program}{ctx:Ctx}{s:PState}
variable{dst:Option Tmp}{ty:TypeId}{pos:String}{after:Array Edge}{gd:Option (Nat×Bool)}
end
end Go.Ep
namespace Go.Ep
open Go Go.RowKit
section
variable{P:Program}{ctx:Ctx}{Q:PQ}{s:PState}
variable{dst:Option Tmp}{ty:TypeId}{pos:String}{after:Array Edge}{gd:Option (Nat×Bool)}
theorem LR.pieceRow{x lo:Operand}{id n k:Nat}{t e:TypeId}{kx:IntKind}{i:Int}{l:List (List DV)}(hu:P.underlying t=some (.slice e))(hs:∀ w,(sizeOf e).run P w=.ok k w)
  (hx:s.ev x=some (.row id n)) (hl:look s.objs id=some (.row e k l)) (hn:n ≤ l.length) (hlo:s.ev lo=some (.d (.v (.int kx i)))) (hi:(0:Int) ≤ i ∧ i ≤ (n:Int)) :
  Local P ctx ⟨dst,.slice t x (some lo) none none,ty,pos,after,gd⟩ s (s.putD dst (.pc id i.toNat (n - i.toNat) k)):=
 local_pure (o:=⟨dst,.slice t x (some lo) none none,ty,pos,after,gd⟩) fun a w g hg=>by
  have h:=hg.ev hx;have hob:=hg.objs id _ hl;have hit:i=(i.toNat:Int):=by omega
  have hle:i.toNat ≤ n:=by omega
  generalize hv:a.eval x=v at h
  cases h with
  | row _ _ blk cap hgi=>
   cases hob with
   | rowNil _ _ hgn=>rw[hgn] at hgi;cases hgi
   | row _ _ _ blk' cap' cur h' hh hlc hcap hcs hkk hr=>
    rw[hgi] at h'
    cases h'
    refine⟨.slice (if cap=i.toNat then some ⟨blk,0,none⟩ else some ⟨blk,0+i.toNat*k,none⟩) (n - i.toNat) (cap - i.toNat),?_,?_⟩
    ·by_cases hc:cap=i.toNat <;>
     simp[execOp,hv,ev_int hg hlo,Instr.sliceAt,Instr.slice,Instr.sliceBounds,run_underlying hu,hs,run_sliceBound' (P:=P) hit hle,Addr.add_lit,Result.andThen,hc]
    ·by_cases h0:n - i.toNat=0
     ·rw[h0];exact .pc0 _ _ _ _ _
     ·rw[if_neg (by omega),Nat.zero_add];exact .pc id _ _ k blk cap hgi (by omega)
  | rowNil _ hgn=>
   have h0:i.toNat=0:=by omega
   refine⟨.slice none 0 0,?_,?_⟩
   ·rw[h0] at hit;simp[execOp,hv,ev_int hg hlo,Instr.sliceAt,Instr.slice,Instr.sliceBounds,run_underlying hu,hs,run_sliceBound' (P:=P) hit (show 0 ≤ 0 from Nat.le_refl _),Result.andThen]
   ·rw[Nat.zero_sub];exact .pc0 _ _ _ _ _
theorem LR.lenPc{x:Operand}{id i n k:Nat}{t e:TypeId}(hu:P.underlying t=some (.slice e))(hx:s.ev x=some (.pc id i n k)) :
  Local P ctx ⟨dst,.call ⟨.builtin .len,#[x],#[t]⟩,ty,pos,after,gd⟩ s (s.putD dst (.d (.v (.int .i64 n)))):=
 local_pure (o:=⟨dst,.call ⟨.builtin .len,#[x],#[t]⟩,ty,pos,after,gd⟩) fun a w g hg=>by
  have h:=hg.ev hx;have hE:P.underlying t=some (.slice (P.elem t)):=by simp[Program.elem,hu]
  refine⟨.int .i64 n,?_,.d (.v _ rfl)⟩
  generalize hv:a.eval x=v at h
  cases h <;> simp[execOp,resolve,invoke,builtin,hv,run_len_slice,hE,Result.andThen,goInt]
theorem LR.idxPc{x ix:Operand}{id i m:Nat}{ki:IntKind}{j:Int}{k:Nat}{t e:TypeId}(hu:P.underlying t=some (.slice e))(hs:∀ w,(sizeOf e).run P w=.ok k w)
  (hx:s.ev x=some (.pc id i m k)) (hix:s.ev ix=some (.d (.v (.int ki j)))) (hj:(0:Int) ≤ j ∧ j < (m:Int)) :
  Local P ctx ⟨dst,.indexAddr t x ix,ty,pos,after,gd⟩ s (s.putD dst (.rp id (i+j.toNat) 0 k)):=
 local_pure (o:=⟨dst,.indexAddr t x ix,ty,pos,after,gd⟩) fun a w g hg=>by
  have h:=hg.ev hx
  generalize hv:a.eval x=v at h
  cases h with
  | pc _ _ _ _ blk cap hgi hi=>
   refine⟨.pointer (some ⟨blk,(i+j.toNat)*k+0,none⟩),?_,.rp id _ 0 k blk cap hgi⟩;have:=run_indexAt (P:=P) hu hs blk (i*k) m (cap - i) ki j j.toNat (by omega) (by omega) w;rw[show i*k+j.toNat*k=(i+j.toNat)*k+0 by rw[Nat.add_mul,Nat.add_zero]] at this;simp[execOp,hv,ev_int hg hix,this,Result.andThen]
  | pc0=>omega
theorem LR.clearPc{x:Operand}{id i n k:Nat}{t e:TypeId}{l:List (List DV)}{z:Value}{zs:List Value}(hu:P.underlying t=some (.slice e))(hx:s.ev x=some (.pc id i n k))(hl:look s.objs id=some (.row e k l))
  (hz:∀ w,(zeroValue e).run P w=.ok z w) (hzs:z.cells=zs.toArray) (h1:(zs.all Value.oneCell')=true) (hk:zs.length=k) (hin:i+n ≤ l.length) (hd:dst=none) :
  Local P ctx ⟨dst,.call ⟨.builtin .clear,#[x],#[t]⟩,ty,pos,after,gd⟩ s (s.setO id (.row e k (l.take i++List.replicate n (zs.map zdv)++l.drop (i+n)))):=by
 subst hd;refine local_value (o:=⟨none,.call ⟨.builtin .clear,#[x],#[t]⟩,ty,pos,after,gd⟩) fun a w g hg=>?_
 have h:=hg.ev hx;have hob:=hg.objs id _ hl;have hE:P.underlying t=some (.slice e):=hu
 generalize hv:a.eval x=v at h
 have hnil:n=0 → ∀ g',Rel ctx (s.setO id (.row e k (l.take i++List.replicate n (zs.map zdv)++l.drop (i+n)))) a w ∨ g'=g:=by
  intro h0;subst h0;intro g'
  left
  simp only[List.replicate_zero,List.append_nil,Nat.add_zero,List.take_append_drop];refine⟨g,?_⟩;have hlk:∀ j o,look (s.setO id (.row e k l)).objs j=some o↔look s.objs j=some o:=by
   intro j o;simp only[PState.setO];rw[look_putO]
   by_cases hj:j=id
   ·subst hj;rw[if_pos rfl,hl]
   ·rw[if_neg hj]
  have hF:∀ b,Free ctx g s.objs b → Free ctx g (s.setO id (.row e k l)).objs b:=fun b ⟨h1,h2⟩=>⟨h1,fun j o m hj=>h2 j o m ((hlk j o).1 hj)⟩
  have hst:Stays w w (Free ctx g s.objs):=⟨Nat.le_refl _,fun _ _ _=>rfl⟩
  exact⟨hg.defers,hg.size,fun q p hp=>(hg.slots q p hp).keep hst (fun b hb _=>hF b hb) (fun _ _=>rfl),fun j o hj=>(hg.objs j o ((hlk j o).1 hj)).keep hst (fun b hb _=>hF b hb) (fun _ _ _=>rfl) rfl (fun _ _=>rfl),
   fun p q op oq b n m hp hq=>hg.inj p q op oq b n m ((hlk p op).1 hp) ((hlk q oq).1 hq),fun j o b n hj=>hg.own j o b n ((hlk j o).1 hj),hg.os,hg.tape,hg.output,hg.grows,hg.keep⟩
 cases h with
 | pc0 _ _ _ ao c=>
  rcases hnil rfl (fun _=>none) with hr | hr
  ·refine⟨.tuple #[],w,?_,hr⟩
   cases ao <;> simp[execOp,resolve,invoke,builtin,hv,Builtin.clear_,run_underlying hE,Result.andThen]
  ·rcases hnil rfl (fun _=>some (0,0)) with hr2 | hr2
   ·refine⟨.tuple #[],w,?_,hr2⟩
    cases ao <;> simp[execOp,resolve,invoke,builtin,hv,Builtin.clear_,run_underlying hE,Result.andThen]
   ·have:=congrFun (hr.trans hr2.symm) 0;cases this
 | pc _ _ _ _ blk cap hgi hi=>
  by_cases hn0:n=0
  ·have hr:Rel ctx (s.setO id (.row e k (l.take i++List.replicate n (zs.map zdv)++l.drop (i+n)))) a w:=by
    rcases hnil hn0 (fun _=>none) with hr | hr
    ·exact hr
    ·have:=congrFun hr id;rw[hgi] at this;cases this
   subst hn0;refine⟨.tuple #[],w,?_,hr⟩;simp[execOp,resolve,invoke,builtin,hv,Builtin.clear_,run_underlying hE,Result.andThen]
  cases hob with
  | rowNil _ _ hgn=>rw[hgn] at hgi;cases hgi
  | row _ _ _ blk' cap' cur h' hh hlc hcap hcs hkk hr=>
   rw[hgi] at h'
   cases h'
   have hlen:((Builtin.zeroCells z.cells n).toList).length=n*k:=by rw[zc_len,hzs];simp[hk]
   have hroom:i*k+n*k ≤ cur.length:=by
    rw[hcs,← Nat.add_mul];exact Nat.mul_le_mul_right k hi
   have hz1:∀ u∈(Builtin.zeroCells z.cells n).toList,u.oneCell'=true:=by
    intro u hu;obtain⟨j,hj⟩:=List.getElem?_of_mem hu;have hjl:=(List.getElem?_eq_some_iff.1 hj).1;rw[hlen] at hjl;have hk0:0 < k:=by
     rcases Nat.eq_zero_or_pos k with h | h
     ·subst h;omega
     ·exact h
    rw[hzs] at hj;simp[Builtin.zeroCells,hk,hjl] at hj;have ht:j % k < zs.length:=by rw[hk];exact Nat.mod_lt _ hk0
    rw[List.getElem?_eq_getElem ht] at hj;simp at hj;subst hj;simp at h1;exact h1 _ (List.getElem_mem ht)
   have hrun:=run_storeCells_at P blk (i*k) e (Builtin.zeroCells z.cells n).toList 0 cur.toArray w hh (by simpa[hlen] using hroom) hz1
   let new:List Value:=cur.take (i*k)++(Builtin.zeroCells z.cells n).toList++cur.drop (i*k+n*k)
   have hrun':(storeCells ⟨blk,i*k,none⟩ (Builtin.zeroCells z.cells n).toList).run P w=.ok () (w.setRow blk new.toArray):=by
    simpa[hlen,new] using hrun
   refine⟨.tuple #[],w.setRow blk new.toArray,?_,g,?_⟩
   ·have hn':∃ n',n=n'+1:=⟨n - 1,by omega⟩
    obtain⟨n',rfl⟩:=hn';simp[execOp,resolve,invoke,builtin,hv,Builtin.clear_,run_underlying hE,hz,hrun',Result.andThen]
   ·have hown:=hg.own id _ blk cap hl hgi;have hother:∀ k,k < w.heap.size → k≠blk → (w.setRow blk new.toArray).heap[k]?=w.heap[k]?:=fun k _ hne=>setRow_other w blk k _ hne
    have hst:Stays w (w.setRow blk new.toArray) (Free ctx g s.objs):=⟨by simp,fun b ⟨_,h2⟩ hlt=>hother b hlt fun e=>by subst e;exact h2 id _ cap hl hgi⟩
    refine hg.wrote hl hgi rfl rfl rfl (by simp) hother hown.2 ?_;have hll:(l.take i++List.replicate n (zs.map zdv)++l.drop (i+n)).length=l.length:=by simp;omega
    have hget:∀ t,new[t]?=if t < i*k then cur[t]? else if t < i*k+n*k then (Builtin.zeroCells z.cells n).toList[t - i*k]? else cur[t]?:=by
     intro t;show(cur.take (i*k)++(Builtin.zeroCells z.cells n).toList++cur.drop (i*k+n*k))[t]?=_;rw[List.append_assoc,List.getElem?_append];have l1:(cur.take (i*k)).length=i*k:=by simp;omega
     rw[l1]
     by_cases h3:t < i*k
     ·rw[if_pos h3,if_pos h3];simp[h3]
     ·rw[if_neg h3,if_neg h3,List.getElem?_append,hlen]
      by_cases h4:t - i*k < n*k
      ·rw[if_pos h4,if_pos (by omega)]
      ·rw[if_neg h4,if_neg (by omega),List.getElem?_drop]
       congr 1;omega
    have hlget:∀ q,(l.take i++List.replicate n (zs.map zdv)++l.drop (i+n))[q]?=if q < i then l[q]? else if q < i+n then some (zs.map zdv) else l[q]?:=by
     intro q;rw[List.append_assoc,List.getElem?_append];have l1:(l.take i).length=i:=by simp;omega
     rw[l1]
     by_cases h3:q < i
     ·rw[if_pos h3,if_pos h3];simp[h3]
     ·rw[if_neg h3,if_neg h3,List.getElem?_append];simp only[List.length_replicate]
      by_cases h4:q - i < n
      ·rw[if_pos h4,if_pos (by omega),List.getElem?_replicate,if_pos h4]
      ·rw[if_neg h4,if_neg (by omega),List.getElem?_drop]
       congr 1;omega
    refine .row e k _ blk cap new hgi (heap_setRow_same hh) (by rw[hll];exact hlc) hcap (by show(cur.take (i*k)++(Builtin.zeroCells z.cells n).toList++cur.drop (i*k+n*k)).length=_;rw[List.length_append,List.length_append,hlen,List.length_take,List.length_drop,Nat.min_eq_left (by omega),← hcs];omega) (fun q cs hq=>?_) (fun q cs t x hq hx=>?_)
    ·rw[hlget] at hq
     split at hq
     ·exact hkk q cs hq
     ·split at hq
      ·simp only[Option.some.injEq] at hq;subst hq;simpa using hk
      ·exact hkk q cs hq
    ·have hcsk:cs.length=k:=by
      rw[hlget] at hq
      split at hq
      ·exact hkk q cs hq
      ·split at hq
       ·simp only[Option.some.injEq] at hq;subst hq;simpa using hk
       ·exact hkk q cs hq
     have htk:t < k:=by rw[← hcsk];exact(List.getElem?_eq_some_iff.1 hx).1
     rw[hlget] at hq;rw[hget]
     by_cases h3:q < i
     ·rw[if_pos h3] at hq;have:q*k+t < i*k:=by
       have:=Nat.mul_le_mul_right k (show q+1 ≤ i by omega);rw[Nat.add_mul,Nat.one_mul] at this;omega
      rw[if_pos this];obtain⟨u,h5,h6⟩:=hr q cs t x hq hx;exact⟨u,h5,h6.keep hst (fun b hb _=>free_put hl b hb)⟩
     ·rw[if_neg h3] at hq;have h3':¬ q*k+t < i*k:=by
       have:=Nat.mul_le_mul_right k (show i ≤ q by omega);omega
      rw[if_neg h3']
      by_cases h4:q < i+n
      ·rw[if_pos h4] at hq;have:q*k+t < i*k+n*k:=by
        have:=Nat.mul_le_mul_right k (show q+1 ≤ i+n by omega);rw[Nat.add_mul,Nat.one_mul,Nat.add_mul] at this;omega
       rw[if_pos this];simp only[Option.some.injEq] at hq;subst hq;have htz:t < zs.length:=by rw[hk];exact htk
       rw[List.getElem?_map,List.getElem?_eq_getElem htz] at hx;simp only[Option.map_some,Option.some.injEq] at hx;subst hx;refine⟨zs[t],?_,zdv_rd _ _ _ (by simp at h1;exact h1 _ (List.getElem_mem htz))⟩;have e1:q*k+t - i*k=(q - i)*k+t:=by rw[Nat.sub_mul];have:=Nat.mul_le_mul_right k (show i ≤ q by omega);omega
       have hlt:(q - i)*k+t < n*k:=by rw[← e1];omega
       have e2:((q - i)*k+t) % k=t:=by rw[Nat.mul_comm,Nat.mul_add_mod,Nat.mod_eq_of_lt htk]
       rw[e1,hzs];simp[Builtin.zeroCells,hlt,hk,e2];rw[List.getElem?_eq_getElem htz];rfl
      ·rw[if_neg h4] at hq;have:¬ q*k+t < i*k+n*k:=by
        have:=Nat.mul_le_mul_right k (show i+n ≤ q by omega);rw[Nat.add_mul] at this;omega
       rw[if_neg this];obtain⟨u,h5,h6⟩:=hr q cs t x hq hx;exact⟨u,h5,h6.keep hst (fun b hb _=>free_put hl b hb)⟩
variable{α:Type}{enc:α → List DV}{L:List α}
theorem LR.pieceRowT{x lo:Operand}{id n k:Nat}{t e:TypeId}{kx:IntKind}{i:Int}(hu:P.underlying t=some (.slice e))(hs:∀ w,(sizeOf e).run P w=.ok k w)
  (hx:s.ev x=some (.row id n)) (hm:n=L.length) (hl:look s.objs id=some (.row e k (L.map enc))) (hlo:s.ev lo=some (.d (.v (.int kx i)))) (hi:(0:Int) ≤ i ∧ i ≤ (L.length:Int)) :
  Local P ctx ⟨dst,.slice t x (some lo) none none,ty,pos,after,gd⟩ s (s.putD dst (.pc id i.toNat (L.length - i.toNat) k)):=by
 subst hm;exact LR.pieceRow hu hs hx hl (by simp) hlo hi
theorem LR.clearPcT{x:Operand}{id i n k:Nat}{t e:TypeId}{z:α}{zv:Value}{zs:List Value}(hu:P.underlying t=some (.slice e))(hx:s.ev x=some (.pc id i n k))(hl:look s.objs id=some (.row e k (L.map enc)))
  (hz:∀ w,(zeroValue e).run P w=.ok zv w) (hzs:zv.cells=zs.toArray) (h1:(zs.all Value.oneCell')=true) (hk:zs.length=k) (he:zs.map zdv=enc z) (hin:i+n ≤ L.length) (hd:dst=none) :
  Local P ctx ⟨dst,.call ⟨.builtin .clear,#[x],#[t]⟩,ty,pos,after,gd⟩ s (s.setO id (.row e k ((L.take i++List.replicate n z++L.drop (i+n)).map enc))):=by
 have:=LR.clearPc (P:=P) (ctx:=ctx) (dst:=dst) (ty:=ty) (pos:=pos) (after:=after) (gd:=gd) hu hx hl hz hzs h1 hk (by simpa using hin) hd;rw[he,← List.map_take,← List.map_drop,← List.map_replicate,← List.map_append,← List.map_append] at this;exact this
end
end Go.Ep
namespace Go.Proofs
open Go.Ep
set_option maxHeartbeats 1000000
set_option maxRecDepth 100000
set_option linter.unusedVariables false
set_option linter.unusedSimpArgs false
theorem runs_Norm_ok(l1:List TRun)(r0:List TRun)(h:(runs_Norm l1).wp (·=r0)):PRow Tryz.prog 102 [.d (.sl (List.map TRun.e l1))] 39 2 (List.map TRun.e r0):=by
 refine PRow.intro (sl:=[(0,_)]) Tryz.func102 rfl Tryz.ntmps102 rfl rfl ?_;intro ctx hK;refine wQ<|wR<|wS (aR 39 2 rfl) rfl<|wN<|wQ<|wR<|wS (aR 39 2 rfl) rfl<|wN<|wQ ?_;refine wQ<|wR<|wm ?_;refine wS (lM (enc:=TRun.e) (L:=l1) Tryz.underlying35 rfl) rfl<|wm ?_;refine wN ?_;refine wJ (iBind h) (fun(some2:List TRun) (_:Unit)=>⟨78,[(3,.row 3 (List.length some2))],[(3,.row 39 2 (List.map TRun.e some2))]⟩) (fun h=>?_) ?_
 ·refine wB<|wM (fun(⟨v23,some24⟩:Int×List TRun) (_:Unit)=>⟨78,[(3,.row 3 (List.length some24)),(10,.d (.sl (List.map TRun.e l1))),(11,.d (.v (.int .i64 (List.length l1:Int)))),(12,.d (.v (.int .i64 v23)))],[(3,.row 39 2 (List.map TRun.e some24))]⟩) () h (sP) ?_;rintro N ⟨v23,some24⟩ _ h;refine wQ<|wR<|wS (LR.lss rfl rfl) rfl<|wN<|wQ ?_;refine wC rfl (fun hc25=>?_) (fun hc25=>?_)
  ·replace h:=iT hc25 h;refine wK<|wQ ?_;refine wJ (iBind h) (fun(some26:List TRun) (_:Unit)=>⟨78,[(3,.row 3 (List.length some26)),(10,.d (.sl (List.map TRun.e l1))),(11,.d (.v (.int .i64 (List.length l1:Int)))),(12,.d (.v (.int .i64 v23)))],[(3,.row 39 2 (List.map TRun.e some26))]⟩) (fun h=>?_) ?_
   ·refine wB<|wQ<|wR ?_;replace h:=iIdx h;obtain⟨x27,hy28,h⟩:=h;refine wS (iX (enc:=TRun.e) (L:=l1) (y:=x27) Tryz.underlying35 Tryz.sizeOf39 rfl rfl hy28 (fun _=>rfl)) rfl<|wS (lE (ys:=[_,_]) Tryz.isAgg39 Tryz.sizeOf39 rfl rfl rfl) rfl<|wS (LR.allocZ (cs:=[_,_]) Tryz.zeroValue39 rfl rfl rfl rfl) rfl<|wS (sB (ns:=[_,_]) Tryz.sizeOf39 rfl rfl rfl rfl rfl rfl rfl) rfl<|wN<|wQ ?_;refine wJ (iBind h) (fun(v29:Bool) (_:Unit)=>⟨78,[(3,.row 3 (List.length some24)),(5,.ref 5 0),(10,.d (.sl (List.map TRun.e l1))),(11,.d (.v (.int .i64 (List.length l1:Int)))),(12,.d (.v (.int .i64 v23))),(30,.d (.v (.bool v29)))],[(3,.row 39 2 (List.map TRun.e some24)),(5,.cells 39 [.d (.v (.int .u64 x27.lo)),.d (.v (.int .u64 x27.hi))])]⟩) (fun h=>?_) ?_
    ·refine wR<|wS (fR Tryz.underlying39 rfl Tryz.sizeOf22 (by decide) rfl rfl) rfl<|wS (lD Tryz.isAgg22 rfl rfl rfl) rfl<|wS (LR.gtr rfl rfl) rfl<|wm ?_;refine wL (d:=19) rfl (fun hg30=>?_) (fun hg30=>?_)
     ·replace h:=iT hg30 h;refine wT (fR Tryz.underlying39 rfl Tryz.sizeOf22 (by decide) rfl rfl) rfl rfl rfl<|wT (lD Tryz.isAgg22 rfl rfl rfl) rfl rfl rfl<|wT (fR Tryz.underlying39 rfl Tryz.sizeOf22 (by decide) rfl rfl) rfl rfl rfl<|wT (lD Tryz.isAgg22 rfl rfl rfl) rfl rfl rfl<|wT (LR.leq rfl rfl) rfl rfl rfl<|wS (pT rfl rfl) rfl<|wm ?_;refine wL (d:=26) rfl (fun hg31=>?_) (fun hg31=>?_)
      ·replace h:=iT hg31 h;refine wy (tl:=[(3,_),(5,_),(10,_),(11,_),(12,_),(20,_),(21,_),(22,_),(23,_),(24,_),(26,_)]) (to:=[(3,_),(5,_)]) ?_;refine wT (fR Tryz.underlying39 rfl Tryz.sizeOf22 (by decide) rfl rfl) rfl rfl rfl<|wT (lD Tryz.isAgg22 rfl rfl rfl) rfl rfl rfl<|wT (LR.leq rfl rfl) rfl rfl rfl<|wS (pT rfl rfl) rfl<|wN ?_;exact⟨(decide (x27.hi ≤ 281474976710655)),(),h,sP⟩
      ·replace h:=iF hg31 h;refine wy (tl:=[(3,_),(5,_),(10,_),(11,_),(12,_),(20,_),(21,_),(22,_),(23,_),(24,_),(26,_)]) (to:=[(3,_),(5,_)]) ?_;refine wf<|wf<|wf<|wS (pF rfl rfl) rfl<|wN ?_;exact⟨false,(),h,sP⟩
     ·replace h:=iF hg30 h;refine wf<|wf<|wf<|wf<|wf<|wS (pF rfl rfl) rfl<|wm ?_;refine wf<|wy (tl:=[(3,_),(5,_),(10,_),(11,_),(12,_),(20,_),(21,_),(22,_),(23,_),(24,_),(26,_),(27,_)]) (to:=[(3,_),(5,_)]) ?_;refine wf<|wf<|wS (pF rfl rfl) rfl<|wN ?_;exact⟨false,(),h,sP⟩
    ·rintro v29 _ h;refine wC rfl (fun hc32=>?_) (fun hc32=>?_)
     ·replace h:=iT hc32 h;refine wR<|wm ?_;refine wS (lA (ps:=[_,_]) Tryz.isAgg39 Tryz.sizeOf39 rfl rfl rfl rfl) rfl<|wS (LR.buildSliceD [.tmp 32] elem35 rfl rfl (.cons rfl rfl rfl<|.nil) (by decide) (by decide)) rfl ?_;replace h:=iNeed h;obtain⟨hy33,h⟩:=h;refine wS (LR.appT (enc:=TRun.e) (L:=some24) (R:=[x27]) [3,31] elem35 Tryz.underlying35 rfl rfl rfl (Src.slT (enc:=TRun.e) (R:=[x27]) rfl (fun _=>rfl)) (fun _=>rfl) hy33 rfl rfl) rfl<|wa ?_;refine wN ?_;exact⟨(some24++[x27]),(),h,sP⟩
     ·replace h:=iF hc32 h;refine wK ?_;exact⟨some24,(),h,sP⟩
   ·rintro some26 _ h;refine wR<|wS (LR.addW rfl rfl) rfl<|wm ?_;refine wN ?_;exact⟨((IntKind.i64.wrap (v23+1)),some26),(),h,sP⟩
  ·replace h:=iF hc25 h;refine wZ ?_;exact⟨some24,(),h,sP⟩
 ·rintro some2 _ h;refine wQ<|wR<|wm ?_;replace h:=iNeed h;obtain⟨hy35,h⟩:=h;refine PWl.sortFn (encD:=TRun.e) (enc:=TRun.v) (l:=some2) srt119_120 (fun _=>rfl) TRun.v1 (fun _=>rfl) rfl Tryz.call119 rfl rfl rfl (by simp) hy35 rfl (fun s34 hy36 hy37=>?_);replace h:=iSrt h s34 hy36 hy37;have hy36l:=hy36.length_eq;refine wN<|wQ<|wR<|wS (aR 39 2 rfl) rfl<|wN<|wQ<|wQ<|wR<|wm ?_;refine wS (LR.lenRow Tryz.underlying35 rfl) rfl<|wm ?_;refine wN ?_;refine wJ (iBind h) (fun(out38:List TRun) (_:Unit)=>⟨78,[(6,.row 6 (List.length out38))],[(6,.row 39 2 (List.map TRun.e out38))]⟩) (fun h=>?_) ?_
  ·refine wB ?_;refine wM (fun(⟨v69,out70⟩:Int×List TRun) (_:Unit)=>⟨78,[(6,.row 6 (List.length out70)),(38,.row 3 (List.length some2)),(39,.d (.v (.int .i64 ((List.length some2):Int)))),(40,.d (.v (.int .i64 v69)))],[(3,.row 39 2 (List.map TRun.e s34)),(6,.row 39 2 (List.map TRun.e out70))]⟩) () h (sO rfl (.cons rfl rfl<|.cons rfl (by first | rfl | (simp;done) | (congr 1;first | (simp;done) | (simp;omega) | omega))<|.c2 rfl rfl rfl rfl<|.nil) (.c2 rfl rfl rfl rfl<|.nil)) ?_;rintro N ⟨v69,out70⟩ _ h;refine wQ<|wR<|wS (LR.lss rfl rfl) rfl<|wN<|wQ ?_;refine wC rfl (fun hc71=>?_) (fun hc71=>?_)
   ·replace h:=iT hc71 h;refine wK<|wQ ?_;refine wJ (iBind h) (fun(out72:List TRun) (_:Unit)=>⟨78,[(6,.row 6 (List.length out72)),(38,.row 3 (List.length some2)),(39,.d (.v (.int .i64 ((List.length some2):Int)))),(40,.d (.v (.int .i64 v69)))],[(3,.row 39 2 (List.map TRun.e s34)),(6,.row 39 2 (List.map TRun.e out72))]⟩) (fun h=>?_) ?_
    ·refine wB<|wQ<|wR ?_;replace h:=iIdx h;obtain⟨x73,hy74,h⟩:=h;refine wS (LR.idxRowT (L:=s34) (y:=x73) Tryz.underlying35 Tryz.sizeOf39 rfl (by first | (simp;done) | (simp;omega) | omega) rfl hy74) rfl ?_;refine wS (LR.loadRpT (enc:=TRun.e) (L:=s34) (y:=x73) Tryz.isAgg39 Tryz.sizeOf39 rfl rfl hy74.2) rfl<|wS (LR.allocZ (cs:=[_,_]) Tryz.zeroValue39 rfl rfl rfl rfl) rfl<|wS (sB (ns:=[_,_]) Tryz.sizeOf39 rfl rfl rfl rfl rfl rfl rfl) rfl<|wN<|wQ<|wQ<|wR<|wm ?_;refine wS (LR.lenRow Tryz.underlying35 rfl) rfl<|wS (LR.subW rfl rfl) rfl<|wa ?_;refine wN<|wQ ?_;refine wJ (iBind h) (fun(v75:Bool) (_:Unit)=>⟨78,[(6,.row 6 (List.length out70)),(8,.ref 8 0),(9,.d (.v (.int .i64 ((IntKind.i64.wrap (((List.length out70):Int) - 1)))))),(38,.row 3 (List.length some2)),(39,.d (.v (.int .i64 ((List.length some2):Int)))),(40,.d (.v (.int .i64 v69))),(59,.d (.v (.bool v75)))],[(3,.row 39 2 (List.map TRun.e s34)),(6,.row 39 2 (List.map TRun.e out70)),(8,.cells 39 [.d (.v (.int .u64 x73.lo)),.d (.v (.int .u64 x73.hi))])]⟩) (fun h=>?_) ?_
     ·refine wD (by kernel_rfl) (by kernel_rfl) ?_;refine qS (fun _ he ho=>mV (he rfl rfl)) rfl ?_;refine qS (fun _ he ho=>LR.geq (he rfl rfl) (he rfl rfl)) rfl ?_;refine qS (fun _ he ho=>mV (he rfl rfl)) rfl ?_;refine PQl.split (d:=49) rfl (fun hg76=>?_) (fun hg76=>?_)
      ·replace h:=iT hg76 h;refine qT (fun _ he ho=>fR Tryz.underlying39 rfl Tryz.sizeOf22 (by decide) rfl (he rfl rfl)) rfl rfl rfl ?_;refine qT (fun _ he ho=>lD Tryz.isAgg22 (he rfl rfl) (ho rfl) rfl) rfl rfl rfl ?_;refine qT (fun _ he ho=>mV (he rfl rfl)) rfl rfl rfl ?_;refine qT (fun _ he ho=>mV (he rfl rfl)) rfl rfl rfl ?_;replace h:=iIdx h;obtain⟨x77,hy78,h⟩:=h;refine qT (fun _ he ho=>LR.idxRowT (L:=out70) (y:=x77) Tryz.underlying35 Tryz.sizeOf39 (he rfl rfl) rfl (he rfl rfl) hy78) rfl rfl rfl ?_;refine qT (fun _ he ho=>LR.fieldRp Tryz.underlying39 rfl Tryz.sizeOf22 (by decide) rfl (he rfl rfl)) rfl rfl rfl ?_;refine qT (fun _ he ho=>LR.loadRpF (enc:=TRun.e) (L:=out70) (y:=x77) Tryz.isAgg22 (he rfl rfl) (ho rfl) hy78.2 rfl) rfl rfl rfl ?_;refine qT (fun _ he ho=>LR.addW (he rfl rfl) (he rfl rfl)) rfl rfl rfl ?_;refine qT (fun _ he ho=>LR.leq (he rfl rfl) (he rfl rfl)) rfl rfl rfl ?_;refine qS (fun _ he ho=>pT (he rfl rfl) (he rfl rfl)) rfl<|qN ?_;exact⟨(decide (x73.lo ≤ (IntKind.u64.wrap (x77.hi+1)))),(),h,sO rfl (.c2 rfl rfl rfl rfl<|.cons rfl rfl<|.cons rfl (by first | rfl | (simp;done) | (congr 1;first | (simp;done) | (simp;omega) | omega))<|.c2 rfl rfl rfl rfl<|.cons rfl rfl<|.nil) (.c2 rfl rfl rfl rfl<|.cons rfl rfl<|.nil)⟩
      ·replace h:=iF hg76 h;refine qF rfl rfl rfl (by decide)<|qF rfl rfl rfl (by decide)<|qF rfl rfl rfl (by decide)<|qF rfl rfl rfl (by decide)<|qF rfl rfl rfl (by decide)<|qF rfl rfl rfl (by decide)<|qF rfl rfl rfl (by decide)<|qF rfl rfl rfl (by decide)<|qF rfl rfl rfl (by decide) ?_;refine qS (fun _ he ho=>pF (he rfl rfl) (he rfl rfl)) rfl<|qN ?_;exact⟨false,(),h,sO rfl (.c2 rfl rfl rfl rfl<|.cons rfl rfl<|.cons rfl (by first | rfl | (simp;done) | (congr 1;first | (simp;done) | (simp;omega) | omega))<|.c2 rfl rfl rfl rfl<|.cons rfl rfl<|.nil) (.c2 rfl rfl rfl rfl<|.cons rfl rfl<|.nil)⟩
     ·rintro v75 _ h;refine wC rfl (fun hc79=>?_) (fun hc79=>?_)
      ·replace h:=iT hc79 h;refine wQ<|wz (tl:=[(6,_),(8,_),(9,_),(38,_),(39,_),(40,_)]) (to:=[(3,_),(6,_),(8,_)]) ?_;refine PWc.regionE [⟨[60],[],[],[],[],[6],[],[]⟩,{ws:=[61]},⟨[62],[],[],[],[],[6],[],[]⟩,{ws:=[63]},⟨[64],[],[],[],[],[6],[],[]⟩,⟨[65],[],[],[],[],[6],[],[]⟩,⟨[66],[],[6],[],[],[],[],[]⟩,⟨[67],[],[],[],[],[8],[],[]⟩,⟨[68],[],[8],[],[],[],[],[]⟩,{ws:=[69]},⟨[70],[],[],[],[],[6],[],[]⟩,⟨[71],[],[],[],[],[6],[],[]⟩,⟨[],[6],[6],[],[],[],[],[]⟩] (by kernel_rfl) (by kernel_rfl) rfl ?_;refine PQe.stepP (fun _ he ho=>mV (he rfl rfl)) (.inl rfl) rfl ?_;refine PQe.stepP (fun _ he ho=>mV (he rfl rfl)) (.inl rfl) rfl ?_;refine PQe.stepP (fun _ he ho=>mV (he rfl rfl)) (.inl rfl) rfl ?_;refine PQe.stepP (fun _ he ho=>mV (he rfl rfl)) (.inl rfl) rfl ?_;replace h:=iIdx h;obtain⟨x80,hy81,h⟩:=h;refine PQe.stepP (fun _ he ho=>LR.idxRowT (L:=out70) (y:=x80) Tryz.underlying35 Tryz.sizeOf39 (he rfl rfl) rfl (he rfl rfl) hy81) (.inl rfl) rfl ?_;refine PQe.stepP (fun _ he ho=>LR.fieldRp Tryz.underlying39 rfl Tryz.sizeOf22 (by decide) rfl (he rfl rfl)) (.inl rfl) rfl ?_;refine PQe.stepP (fun _ he ho=>LR.loadRpF (enc:=TRun.e) (L:=out70) (y:=x80) Tryz.isAgg22 (he rfl rfl) (ho rfl rfl) hy81.2 rfl) (.inl rfl) rfl ?_;refine PQe.stepP (fun _ he ho=>fR Tryz.underlying39 rfl Tryz.sizeOf22 (by decide) rfl (he rfl rfl)) (.inl rfl) rfl ?_;refine PQe.stepP (fun _ he ho=>lD Tryz.isAgg22 (he rfl rfl) (ho rfl rfl) rfl) (.inl rfl) rfl ?_;refine PQe.stepP (fun _ he ho=>LR.maxI (he rfl rfl) (he rfl rfl)) (.inl rfl) rfl ?_;replace h:=iIdx h;obtain⟨x82,hy83,h⟩:=h;refine PQe.stepP (fun _ he ho=>LR.idxRowT (L:=out70) (y:=x82) Tryz.underlying35 Tryz.sizeOf39 (he rfl rfl) rfl (he rfl rfl) hy83) (.inl rfl) rfl ?_;refine PQe.stepP (fun _ he ho=>LR.fieldRp Tryz.underlying39 rfl Tryz.sizeOf22 (by decide) rfl (he rfl rfl)) (.inl rfl) rfl ?_;refine PQe.stepS (fun _ he ho=>LR.storeRpT (enc:=TRun.e) (L:=out70) (a:=x82) (b:=(⟨x82.lo,(max x80.hi x73.hi)⟩:TRun)) Tryz.sizeOf22 (he rfl rfl) (he rfl rfl) rfl rfl (ho rfl rfl) hy83.2 rfl rfl) (.inl rfl) rfl<|PQe.nil<|wZ ?_;exact⟨(List.set out70 ((Int.toNat ((IntKind.i64.wrap (((List.length out70):Int) - 1))))) (⟨x82.lo,(max x80.hi x73.hi)⟩:TRun)),(),h,sO rfl (.cons rfl (by first | rfl | (simp;done) | (congr 1;first | (simp;done) | (simp;omega) | omega))<|.cons rfl (by first | rfl | (simp;done) | (congr 1;first | (simp;done) | (simp;omega) | omega))<|.c2 rfl rfl rfl rfl<|.nil) (.c2 rfl rfl rfl rfl<|.nil)⟩
      ·replace h:=iF hc79 h;refine wK<|wR<|wm ?_;refine wS (lA (ps:=[_,_]) Tryz.isAgg39 Tryz.sizeOf39 rfl rfl rfl rfl) rfl<|wS (LR.buildSliceD [.tmp 73] elem35 rfl rfl (.cons rfl rfl rfl<|.nil) (by decide) (by decide)) rfl ?_;replace h:=iNeed h;obtain⟨hy84,h⟩:=h;refine wS (LR.appT (enc:=TRun.e) (L:=out70) (R:=[x73]) [6,72] elem35 Tryz.underlying35 rfl rfl rfl (Src.slT (enc:=TRun.e) (R:=[x73]) rfl (fun _=>rfl)) (fun _=>rfl) hy84 rfl rfl) rfl<|wa ?_;refine wN ?_;exact⟨(out70++[x73]),(),h,sO rfl (.cons rfl rfl<|.cons rfl (by first | rfl | (simp;done) | (congr 1;first | (simp;done) | (simp;omega) | omega))<|.c2 rfl rfl rfl rfl<|.nil) (.c2 rfl rfl rfl rfl<|.nil)⟩
    ·rintro out72 _ h;refine wR<|wS (LR.addW rfl rfl) rfl<|wm ?_;refine wN ?_;exact⟨((IntKind.i64.wrap (v69+1)),out72),(),h,sO rfl (.cons rfl rfl<|.cons rfl (by first | rfl | (simp;done) | (congr 1;first | (simp;done) | (simp;omega) | omega))<|.c2 rfl rfl rfl rfl<|.nil) (.c2 rfl rfl rfl rfl<|.nil)⟩
   ·replace h:=iF hc71 h;refine wZ ?_;exact⟨out70,(),h,sP⟩
  ·rintro out38 _ h;refine wQ<|wR<|wm ?_;refine wa ?_;refine wN<|wX ?_;replace h:_=r0:=h;subst h;exact⟨.inr rfl,2,rfl,.inr ⟨6,_,rfl,(by simp),rfl⟩⟩
theorem cmp_isNaN_uint16_ok(x1:Int)(r0:Bool)(h:(cmp_isNaN_uint16 x1).wp (·=r0)):PFun Tryz.prog 109 [.d (.v (.int .u16 x1))] (.d (.v (.bool r0))):=by
 refine fI (sl:=[(0,_)]) Tryz.func109 rfl Tryz.ntmps109 rfl rfl ?_;intro ctx hK;refine wQ<|wR<|wa ?_;refine wN<|wQ<|wR<|wm ?_;refine wm ?_;refine wS (nQ rfl rfl) rfl<|wa ?_;refine wN<|wX ?_;replace h:_=r0:=h;subst h;exact⟨.inr rfl,_,.cons (.tmp rfl rfl)<|.nil,rfl⟩
theorem cmp_Compare_uint16_ok(x1:Int)(y2:Int)(r0:Int)(h:(cmp_Compare_uint16 x1 y2).wp (·=r0)):PFun Tryz.prog 82 [.d (.v (.int .u16 x1)),.d (.v (.int .u16 y2))] (.d (.v (.int .i64 r0))):=by
 refine fI (sl:=[(0,_),(1,_)]) Tryz.func82 rfl Tryz.ntmps82 rfl rfl ?_;intro ctx hK;refine wQ<|wR<|wa ?_;refine wN<|wQ<|wR<|wm ?_;replace h:=iDet h;obtain⟨v3,hy4,h⟩:=h;refine wS (cN (cmp_isNaN_uint16_ok x1 v3 hy4) rfl Tryz.call109 rfl rfl rfl rfl) rfl<|wa ?_;refine wN<|wQ<|wR<|wm ?_;replace h:=iDet h;obtain⟨v5,hy6,h⟩:=h;refine wS (cN (cmp_isNaN_uint16_ok y2 v5 hy6) rfl Tryz.call109 rfl rfl rfl rfl) rfl<|wa ?_;refine wN<|wQ<|wQ<|wR<|wm ?_;refine wN ?_;refine wC rfl (fun hc7=>?_) (fun hc7=>?_)
 ·replace h:=iT hc7 h;refine wQ<|wQ<|wR<|wm ?_;refine wN ?_;refine wC rfl (fun hc8=>?_) (fun hc8=>?_)
  ·replace h:=iT hc8 h;refine wQ<|wR<|wa ?_;refine wN<|wX ?_;replace h:_=r0:=h;subst h;exact⟨.inr rfl,_,.cons (.tmp rfl rfl)<|.nil,rfl⟩
  ·replace h:=iF hc8 h;refine wK<|wQ<|wR<|wa ?_;refine wN<|wX ?_;replace h:_=r0:=h;subst h;exact⟨.inr rfl,_,.cons (.tmp rfl rfl)<|.nil,rfl⟩
 ·replace h:=iF hc7 h;refine wK<|wQ<|wQ<|wR<|wm ?_;refine wN ?_;refine wC rfl (fun hc9=>?_) (fun hc9=>?_)
  ·replace h:=iT hc9 h;refine wQ<|wR<|wa ?_;refine wN<|wX ?_;replace h:_=r0:=h;subst h;exact⟨.inr rfl,_,.cons (.tmp rfl rfl)<|.nil,rfl⟩
  ·replace h:=iF hc9 h;refine wK<|wQ<|wQ<|wR<|wm ?_;refine wm ?_;refine wS (LR.lss rfl rfl) rfl<|wN ?_;refine wC rfl (fun hc10=>?_) (fun hc10=>?_)
   ·replace h:=iT hc10 h;refine wQ<|wR<|wa ?_;refine wN<|wX ?_;replace h:_=r0:=h;subst h;exact⟨.inr rfl,_,.cons (.tmp rfl rfl)<|.nil,rfl⟩
   ·replace h:=iF hc10 h;refine wK<|wQ<|wQ<|wR<|wm ?_;refine wm ?_;refine wS (LR.gtr rfl rfl) rfl<|wN ?_;refine wC rfl (fun hc11=>?_) (fun hc11=>?_)
    ·replace h:=iT hc11 h;refine wQ<|wR<|wa ?_;refine wN<|wX ?_;replace h:_=r0:=h;subst h;exact⟨.inr rfl,_,.cons (.tmp rfl rfl)<|.nil,rfl⟩
    ·replace h:=iF hc11 h;refine wK<|wQ<|wR<|wa ?_;refine wN<|wX ?_;replace h:_=r0:=h;subst h;exact⟨.inr rfl,_,.cons (.tmp rfl rfl)<|.nil,rfl⟩
theorem ctx_order_ok(m1:List (Int×List TRun))(r0:List TPart)(h:(ctx_order m1).wp (·=r0)):PRow Tryz.prog 71 [.md [.u16] false (encM kI (eL TRun.e) m1)] 37 2 (List.map TPart.e r0):=by
 refine PRow.intro (sl:=[(0,_)]) Tryz.func71 rfl Tryz.ntmps71 rfl rfl ?_;intro ctx hK;refine wQ<|wR<|wS (aR 37 2 rfl) rfl<|wN<|wQ<|wR<|wS (aR 37 2 rfl) rfl<|wN<|wQ ?_;refine wQ<|wR<|wm ?_;refine PWl.rangeD Tryz.underlying80 rfl rfl rfl (fun bs2 ck2 hbl2 hbn2=>?_);refine wN ?_;refine wJ (iBind h) (fun(c3:List TPart) (_:Unit)=>⟨27,[(3,.row 3 (List.length c3))],[(3,.row 37 2 (List.map TPart.e c3))]⟩) (fun h=>?_) ?_
 ·refine wB<|wM (fun(⟨seen28,c29⟩:List Nat×List TPart) (_:Unit)=>⟨27,[(3,.row 3 (List.length c29)),(7,.ref 7 0)],[(3,.row 37 2 (List.map TPart.e c29)),(7,.iterD [.u16] false (encM kI (eL TRun.e) m1) bs2 ck2 seen28)]⟩) () h (sP) ?_;rintro N ⟨seen28,c29⟩ _ h;refine wQ<|wR ?_;replace h:=iNeed h;obtain⟨hy40,h⟩:=h;replace h:=iNxt h;refine PWl.nextD rfl rfl (nxtD hy40) rfl (fun hy31=>?_) (fun j30 hy32 hy33=>?_)
  ·replace h:=h.1 (nxtA hy31);refine wS (LR.extract rfl rfl) rfl<|wN<|wQ<|PWc.condF rfl<|wZ ?_;exact⟨c29,(),h,sP⟩
  ·replace h:=h.2 j30 (nxtB hy32) hy33;refine wS (LR.extract rfl rfl) rfl<|wN<|wQ<|PWc.condT rfl<|wK<|wB<|wQ<|wR ?_;replace h:=iIdx h;obtain⟨kv34,hy35,h⟩:=h;refine wS (LR.entryD rfl rfl (entGet hy35) rfl rfl) rfl<|wS (LR.extract rfl rfl) rfl<|wS (LR.extract rfl rfl) rfl<|wa ?_;refine wa ?_;refine wN<|wQ<|wR<|wm ?_;replace h:=iDet h;obtain⟨v36,hy37,h⟩:=h;refine wS (LR.rowN (runs_Norm_ok kv34.2 v36 hy37) rfl Tryz.call102 rfl rfl rfl rfl) rfl<|wa ?_;refine wN<|wQ<|wR<|wm ?_;refine wS (LR.lenRow Tryz.underlying35 rfl) rfl<|wS (LR.gtr rfl rfl) rfl<|wN ?_;refine wC rfl (fun hc38=>?_) (fun hc38=>?_)
   ·replace h:=iT hc38 h;refine wR<|wm ?_;refine wm ?_;refine wm ?_;refine PWl.frz [5,14,15,20] hK (.cons rfl<|.cons rfl<|.cons rfl<|.cons rfl<|.nil) rfl (by simp) ?_;refine wS (LR.build (ns:=[_,_]) build37 rfl rfl rfl) rfl<|wS (LR.buildSliceD [.tmp 21] elem25 rfl rfl (.cons rfl rfl rfl<|.nil) (by decide) (by decide)) rfl ?_;replace h:=iNeed h;obtain⟨hy39,h⟩:=h;refine wS (LR.appT (enc:=TPart.e) (L:=c29) (R:=[(⟨kv34.1,v36⟩:TPart)]) [3,18] elem25 Tryz.underlying25 rfl rfl rfl (Src.slT (enc:=TPart.e) (R:=[(⟨kv34.1,v36⟩:TPart)]) rfl (fun _=>rfl)) (fun _=>rfl) hy39 rfl rfl) rfl<|wy (tl:=[(7,_),(23,_)]) (to:=[(3,_),(7,_)]) ?_;refine wa ?_;refine wN ?_;exact⟨((seen28++[j30]),(c29++[(⟨kv34.1,v36⟩:TPart)])),(),h,sP⟩
   ·replace h:=iF hc38 h;refine wK ?_;exact⟨((seen28++[j30]),c29),(),h,sP⟩
 ·rintro c3 _ h;refine wQ<|wR<|wm ?_;replace h:=iNeed h;obtain⟨hy42,h⟩:=h;refine PWl.sortFnR (encD:=TPart.e) (enc:=RawTPart.v) (lt:=ltPart) (R:=RawTPart.R) (l:=c3) srt103_104 RawTPart.raw rlt103 (fun _=>rfl) (fun _=>rfl) rfl Tryz.call103 rfl rfl rfl (by simp) hy42 rfl (fun s41 hy43 hy44=>?_);replace h:=iSrt h s41 hy43 hy44;have hy43l:=hy43.length_eq;refine wN<|wQ<|wR<|wm ?_;refine wa ?_;refine wN<|wX ?_;replace h:_=r0:=h;subst h;exact⟨.inr rfl,2,rfl,.inr ⟨3,_,rfl,(by first | (simp;done) | (simp;omega) | omega),rfl⟩⟩
end Go.Proofs
namespace Go.Proofs
open Go.Ep
set_option maxHeartbeats 1000000
set_option maxRecDepth 100000
set_option linter.unusedVariables false
set_option linter.unusedSimpArgs false
theorem slices_Equal_sl_Run_Run_ok(s1_1:List TRun)(s2_2:List TRun)(r0:Bool)(h:(slices_Equal_sl_Run_Run s1_1 s2_2).wp (·=r0)):PFun Tryz.prog 70 [.d (.sl (List.map TRun.e s1_1)),.d (.sl (List.map TRun.e s2_2))] (.d (.v (.bool r0))):=by
 refine fI (sl:=[(0,_),(1,_)]) Tryz.func70 rfl Tryz.ntmps70 rfl rfl ?_;intro ctx hK;refine wQ<|wR<|wa ?_;refine wN<|wQ<|wQ<|wR<|wm ?_;refine wS (lM (enc:=TRun.e) (L:=s1_1) Tryz.underlying35 rfl) rfl<|wm ?_;refine wS (lM (enc:=TRun.e) (L:=s2_2) Tryz.underlying35 rfl) rfl<|wS (nQ rfl rfl) rfl<|wN ?_;refine wC rfl (fun hc3=>?_) (fun hc3=>?_)
 ·replace h:=iT hc3 h;refine wQ<|wR<|wa ?_;refine wN<|wX ?_;replace h:_=r0:=h;subst h;exact⟨.inr rfl,_,.cons (.tmp rfl rfl)<|.nil,rfl⟩
 ·replace h:=iF hc3 h;refine wK<|wQ<|wQ<|wR<|wm ?_;refine wS (lM (enc:=TRun.e) (L:=s1_1) Tryz.underlying35 rfl) rfl<|wm ?_;refine wN ?_;refine PWc.jnX (iBind h) (fun(_:Unit) (_:Unit)=>⟨26,[],[]⟩) (fun h=>?_) ?_
  ·refine wB<|wM (fun(v17:Int) (_:Unit)=>⟨26,[(0,.d (.sl (List.map TRun.e s1_1))),(1,.d (.sl (List.map TRun.e s2_2))),(12,.d (.v (.int .i64 (List.length s1_1:Int)))),(13,.d (.v (.int .i64 v17)))],[]⟩) () h (sP) ?_;rintro N v17 _ h;refine wQ<|wR<|wS (LR.lss rfl rfl) rfl<|wN<|wQ ?_;refine wC rfl (fun hc18=>?_) (fun hc18=>?_)
   ·replace h:=iT hc18 h;refine wK<|wQ<|wB<|wQ<|wR<|wm ?_;refine wa ?_;refine wN<|wQ<|wD (by kernel_rfl) (by kernel_rfl) ?_;refine qS (fun _ he ho=>mV (he rfl rfl)) rfl ?_;refine qS (fun _ he ho=>mV (he rfl rfl)) rfl ?_;replace h:=iIdx h;obtain⟨x19,hy20,h⟩:=h;refine qS (fun _ he ho=>iX (enc:=TRun.e) (L:=s1_1) (y:=x19) Tryz.underlying35 Tryz.sizeOf39 (he rfl rfl) (he rfl rfl) hy20 (fun _=>rfl)) rfl ?_;refine qS (fun _ he ho=>lE (ys:=[_,_]) Tryz.isAgg39 Tryz.sizeOf39 (he rfl rfl) rfl rfl) rfl ?_;refine qS (fun _ he ho=>mV (he rfl rfl)) rfl ?_;refine qS (fun _ he ho=>mV (he rfl rfl)) rfl ?_;replace h:=iIdx h;obtain⟨x21,hy22,h⟩:=h;refine qS (fun _ he ho=>iX (enc:=TRun.e) (L:=s2_2) (y:=x21) Tryz.underlying35 Tryz.sizeOf39 (he rfl rfl) (he rfl rfl) hy22 (fun _=>rfl)) rfl ?_;refine qS (fun _ he ho=>lE (ys:=[_,_]) Tryz.isAgg39 Tryz.sizeOf39 (he rfl rfl) rfl rfl) rfl ?_;refine qS (fun _ he ho=>LR.neqAgg (he rfl rfl) (he rfl rfl) rfl rfl eq39) rfl<|qN ?_;refine wC rfl (fun hc23=>?_) (fun hc23=>?_)
    ·replace h:=iT hc23 h;refine wQ<|wR<|wa ?_;refine wN<|wX ?_;replace h:_=r0:=h;subst h;exact⟨.inr rfl,_,.cons (.tmp rfl rfl)<|.nil,rfl⟩
    ·replace h:=iF hc23 h;refine wK<|wR<|wS (LR.addW rfl rfl) rfl<|wm ?_;refine wN ?_;exact⟨(IntKind.i64.wrap (v17+1)),(),h,sP⟩
   ·replace h:=iF hc18 h;refine wZ ?_;exact⟨(),(),h,sP⟩
  ·rintro _ _ h;refine wQ<|wR<|wa ?_;refine wN<|wX ?_;replace h:_=r0:=h;subst h;exact⟨.inr rfl,_,.cons (.tmp rfl rfl)<|.nil,rfl⟩
theorem ctx_eq_c1_ok(x1:TPart)(y2:TPart)(r0:Bool)(h:(ctx_eq_c1 x1 y2).wp (·=r0)):PFun Tryz.prog 69 [.agg (List.map .d (TPart.e x1)),.agg (List.map .d (TPart.e y2))] (.d (.v (.bool r0))):=by
 refine fI (sl:=[(0,_),(1,_)]) Tryz.func69 rfl Tryz.ntmps69 rfl rfl ?_;intro ctx hK;refine wQ<|wR<|wS (LR.box rfl rfl rfl rfl) rfl<|wS (LR.box rfl rfl rfl rfl) rfl<|wa ?_;refine wN<|wQ ?_;refine wJ (iBind h) (fun(v3:Bool) (_:Unit)=>⟨17,[(4,.d (.v (.bool v3)))],[]⟩) (fun h=>?_) ?_
 ·refine wR<|wS (fR Tryz.underlying37 rfl Tryz.sizeOf23 (by decide) rfl rfl) rfl<|wS (lD Tryz.isAgg23 rfl rfl rfl) rfl<|wS (fR Tryz.underlying37 rfl Tryz.sizeOf23 (by decide) rfl rfl) rfl<|wS (lD Tryz.isAgg23 rfl rfl rfl) rfl<|wS (eQ rfl rfl) rfl<|wm ?_;refine wL (d:=10) rfl (fun hg4=>?_) (fun hg4=>?_)
  ·replace h:=iT hg4 h;refine wT (fR Tryz.underlying37 rfl Tryz.sizeOf35 (by decide) rfl rfl) rfl rfl rfl<|wT (lD Tryz.isAgg35 rfl rfl rfl) rfl rfl rfl<|wT (fR Tryz.underlying37 rfl Tryz.sizeOf35 (by decide) rfl rfl) rfl rfl rfl<|wT (lD Tryz.isAgg35 rfl rfl rfl) rfl rfl rfl ?_;replace h:=iDet h;obtain⟨v5,hy6,h⟩:=h;refine wT (cN (slices_Equal_sl_Run_Run_ok x1.runs y2.runs v5 hy6) rfl Tryz.call70 rfl rfl rfl rfl) rfl rfl rfl<|wS (pT rfl rfl) rfl<|wa ?_;refine wN ?_;exact⟨v5,(),h,sP⟩
  ·replace h:=iF hg4 h;refine wf<|wf<|wf<|wf<|wf<|wS (pF rfl rfl) rfl<|wa ?_;refine wN ?_;exact⟨false,(),h,sP⟩
 ·rintro v3 _ h;refine wX ?_;replace h:_=r0:=h;subst h;exact⟨.inr rfl,_,.cons (.tmp rfl rfl)<|.nil,rfl⟩
theorem slices_EqualFunc_Ctx_Ctx_Part_Part_ctx_eq_c1_ok(s1_1:List TPart)(s2_2:List TPart)(r0:Bool)(h:(slices_EqualFunc_Ctx_Ctx_Part_Part_ctx_eq_c1 s1_1 s2_2).wp (·=r0)):PFun Tryz.prog 68 [.d (.sl (List.map TPart.e s1_1)),.d (.sl (List.map TPart.e s2_2)),.d (.v (.func (.func 69) #[] #[]))] (.d (.v (.bool r0))):=by
 refine fI (sl:=[(0,_),(1,_),(2,_)]) Tryz.func68 rfl Tryz.ntmps68 rfl rfl ?_;intro ctx hK;refine wQ<|wR<|wa ?_;refine wN<|wQ<|wQ<|wR<|wm ?_;refine wS (lM (enc:=TPart.e) (L:=s1_1) Tryz.underlying25 rfl) rfl<|wm ?_;refine wS (lM (enc:=TPart.e) (L:=s2_2) Tryz.underlying25 rfl) rfl<|wS (nQ rfl rfl) rfl<|wN ?_;refine wC rfl (fun hc3=>?_) (fun hc3=>?_)
 ·replace h:=iT hc3 h;refine wQ<|wR<|wa ?_;refine wN<|wX ?_;replace h:_=r0:=h;subst h;exact⟨.inr rfl,_,.cons (.tmp rfl rfl)<|.nil,rfl⟩
 ·replace h:=iF hc3 h;refine wK<|wQ<|wQ<|wR<|wm ?_;refine wS (lM (enc:=TPart.e) (L:=s1_1) Tryz.underlying25 rfl) rfl<|wm ?_;refine wN ?_;refine PWc.jnX (iBind h) (fun(_:Unit) (_:Unit)=>⟨32,[],[]⟩) (fun h=>?_) ?_
  ·refine wB<|wM (fun(v21:Int) (_:Unit)=>⟨32,[(1,.d (.sl (List.map TPart.e s2_2))),(2,.d (.v (.func (.func 69) #[] #[]))),(15,.d (.sl (List.map TPart.e s1_1))),(16,.d (.v (.int .i64 (List.length s1_1:Int)))),(17,.d (.v (.int .i64 v21)))],[]⟩) () h (sP) ?_;rintro N v21 _ h;refine wQ<|wR<|wS (LR.lss rfl rfl) rfl<|wN<|wQ ?_;refine wC rfl (fun hc22=>?_) (fun hc22=>?_)
   ·replace h:=iT hc22 h;refine wK<|wQ<|wB<|wQ<|wR<|wm ?_;replace h:=iIdx h;obtain⟨x23,hy24,h⟩:=h;refine wS (iX (enc:=TPart.e) (L:=s1_1) (y:=x23) Tryz.underlying25 Tryz.sizeOf37 rfl rfl hy24 (fun _=>rfl)) rfl<|wS (lE (ys:=[_,_]) Tryz.isAgg37 Tryz.sizeOf37 rfl rfl rfl) rfl<|wS (LR.allocZ (cs:=[_,_]) Tryz.zeroValue37 rfl rfl rfl rfl) rfl<|wa ?_;refine wS (sB (ns:=[_,_]) Tryz.sizeOf37 rfl rfl rfl rfl rfl rfl rfl) rfl<|wN<|wQ<|wR<|wm ?_;refine wm ?_;replace h:=iIdx h;obtain⟨x25,hy26,h⟩:=h;refine wS (iX (enc:=TPart.e) (L:=s2_2) (y:=x25) Tryz.underlying25 Tryz.sizeOf37 rfl rfl hy26 (fun _=>rfl)) rfl<|wS (lE (ys:=[_,_]) Tryz.isAgg37 Tryz.sizeOf37 rfl rfl rfl) rfl<|wS (LR.allocZ (cs:=[_,_]) Tryz.zeroValue37 rfl rfl rfl rfl) rfl<|wS (sB (ns:=[_,_]) Tryz.sizeOf37 rfl rfl rfl rfl rfl rfl rfl) rfl<|wN<|wQ<|wR<|wm ?_;refine wS (lA (ps:=[_,_]) Tryz.isAgg37 Tryz.sizeOf37 rfl rfl rfl rfl) rfl<|wS (lA (ps:=[_,_]) Tryz.isAgg37 Tryz.sizeOf37 rfl rfl rfl rfl) rfl ?_;replace h:=iDet h;obtain⟨v27,hy28,h⟩:=h;refine wS (cN (ctx_eq_c1_ok x23 x25 v27 hy28) rfl Tryz.call69 rfl rfl rfl rfl) rfl<|wS (LR.not rfl) rfl<|wN ?_;refine wC rfl (fun hc29=>?_) (fun hc29=>?_)
    ·replace h:=iT hc29 h;refine wQ<|wR<|wy (tl:=[]) (to:=[]) ?_;refine wa ?_;refine wN<|wX ?_;replace h:_=r0:=h;subst h;exact⟨.inr rfl,_,.cons (.tmp rfl rfl)<|.nil,rfl⟩
    ·replace h:=iF hc29 h;refine wK<|wR<|wy (tl:=[(1,_),(2,_),(15,_),(16,_),(17,_)]) (to:=[]) ?_;refine wS (LR.addW rfl rfl) rfl<|wm ?_;refine wN ?_;exact⟨(IntKind.i64.wrap (v21+1)),(),h,sP⟩
   ·replace h:=iF hc22 h;refine wZ ?_;exact⟨(),(),h,sP⟩
  ·rintro _ _ h;refine wQ<|wR<|wa ?_;refine wN<|wX ?_;replace h:_=r0:=h;subst h;exact⟨.inr rfl,_,.cons (.tmp rfl rfl)<|.nil,rfl⟩
theorem ctx_eq_ok(a1:List TPart)(b2:List TPart)(r0:Bool)(h:(ctx_eq a1 b2).wp (·=r0)):PFun Tryz.prog 44 [.d (.sl (List.map TPart.e a1)),.d (.sl (List.map TPart.e b2))] (.d (.v (.bool r0))):=by
 refine fI (sl:=[(0,_),(1,_)]) Tryz.func44 rfl Tryz.ntmps44 rfl rfl ?_;intro ctx hK;refine wQ<|wR<|wa ?_;refine wN<|wQ<|wR<|wm ?_;refine wm ?_;replace h:=iDet h;obtain⟨v3,hy4,h⟩:=h;refine wS (cN (slices_EqualFunc_Ctx_Ctx_Part_Part_ctx_eq_c1_ok a1 b2 v3 hy4) rfl Tryz.call68 rfl rfl rfl rfl) rfl<|wa ?_;refine wN<|wX ?_;replace h:_=r0:=h;subst h;exact⟨.inr rfl,_,.cons (.tmp rfl rfl)<|.nil,rfl⟩
end Go.Proofs
namespace Go.Proofs
open Go.Ep
set_option maxHeartbeats 1000000
set_option maxRecDepth 100000
set_option linter.unusedVariables false
set_option linter.unusedSimpArgs false
theorem cmp_isNaN_uint64_ok(x1:Int)(r0:Bool)(h:(cmp_isNaN_uint64 x1).wp (·=r0)):PFun Tryz.prog 110 [.d (.v (.int .u64 x1))] (.d (.v (.bool r0))):=by
 refine fI (sl:=[(0,_)]) Tryz.func110 rfl Tryz.ntmps110 rfl rfl ?_;intro ctx hK;refine wQ<|wR<|wa ?_;refine wN<|wQ<|wR<|wm ?_;refine wm ?_;refine wS (nQ rfl rfl) rfl<|wa ?_;refine wN<|wX ?_;replace h:_=r0:=h;subst h;exact⟨.inr rfl,_,.cons (.tmp rfl rfl)<|.nil,rfl⟩
theorem cmp_Compare_uint64_ok(x1:Int)(y2:Int)(r0:Int)(h:(cmp_Compare_uint64 x1 y2).wp (·=r0)):PFun Tryz.prog 83 [.d (.v (.int .u64 x1)),.d (.v (.int .u64 y2))] (.d (.v (.int .i64 r0))):=by
 refine fI (sl:=[(0,_),(1,_)]) Tryz.func83 rfl Tryz.ntmps83 rfl rfl ?_;intro ctx hK;refine wQ<|wR<|wa ?_;refine wN<|wQ<|wR<|wm ?_;replace h:=iDet h;obtain⟨v3,hy4,h⟩:=h;refine wS (cN (cmp_isNaN_uint64_ok x1 v3 hy4) rfl Tryz.call110 rfl rfl rfl rfl) rfl<|wa ?_;refine wN<|wQ<|wR<|wm ?_;replace h:=iDet h;obtain⟨v5,hy6,h⟩:=h;refine wS (cN (cmp_isNaN_uint64_ok y2 v5 hy6) rfl Tryz.call110 rfl rfl rfl rfl) rfl<|wa ?_;refine wN<|wQ<|wQ<|wR<|wm ?_;refine wN ?_;refine wC rfl (fun hc7=>?_) (fun hc7=>?_)
 ·replace h:=iT hc7 h;refine wQ<|wQ<|wR<|wm ?_;refine wN ?_;refine wC rfl (fun hc8=>?_) (fun hc8=>?_)
  ·replace h:=iT hc8 h;refine wQ<|wR<|wa ?_;refine wN<|wX ?_;replace h:_=r0:=h;subst h;exact⟨.inr rfl,_,.cons (.tmp rfl rfl)<|.nil,rfl⟩
  ·replace h:=iF hc8 h;refine wK<|wQ<|wR<|wa ?_;refine wN<|wX ?_;replace h:_=r0:=h;subst h;exact⟨.inr rfl,_,.cons (.tmp rfl rfl)<|.nil,rfl⟩
 ·replace h:=iF hc7 h;refine wK<|wQ<|wQ<|wR<|wm ?_;refine wN ?_;refine wC rfl (fun hc9=>?_) (fun hc9=>?_)
  ·replace h:=iT hc9 h;refine wQ<|wR<|wa ?_;refine wN<|wX ?_;replace h:_=r0:=h;subst h;exact⟨.inr rfl,_,.cons (.tmp rfl rfl)<|.nil,rfl⟩
  ·replace h:=iF hc9 h;refine wK<|wQ<|wQ<|wR<|wm ?_;refine wm ?_;refine wS (LR.lss rfl rfl) rfl<|wN ?_;refine wC rfl (fun hc10=>?_) (fun hc10=>?_)
   ·replace h:=iT hc10 h;refine wQ<|wR<|wa ?_;refine wN<|wX ?_;replace h:_=r0:=h;subst h;exact⟨.inr rfl,_,.cons (.tmp rfl rfl)<|.nil,rfl⟩
   ·replace h:=iF hc10 h;refine wK<|wQ<|wQ<|wR<|wm ?_;refine wm ?_;refine wS (LR.gtr rfl rfl) rfl<|wN ?_;refine wC rfl (fun hc11=>?_) (fun hc11=>?_)
    ·replace h:=iT hc11 h;refine wQ<|wR<|wa ?_;refine wN<|wX ?_;replace h:_=r0:=h;subst h;exact⟨.inr rfl,_,.cons (.tmp rfl rfl)<|.nil,rfl⟩
    ·replace h:=iF hc11 h;refine wK<|wQ<|wR<|wa ?_;refine wN<|wX ?_;replace h:_=r0:=h;subst h;exact⟨.inr rfl,_,.cons (.tmp rfl rfl)<|.nil,rfl⟩
end Go.Proofs
